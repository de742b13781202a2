/-
  Closed facts of the program's types, in pieces.
-/
import Derived.Test.YtcoigmfhlbngfaaGreatDoorNSxTab
import Derived.Test.YtcoigmfhlbngfaaGreatDoorRows
import Derived.JoinedOf
set_option linter.unusedSimpArgs false
set_option linter.unusedVariables false
namespace Go.Proofs.YtcoigmfhlbngfaaGreatDoor
open Go Go.Sx
set_option maxRecDepth 100000
theorem fbR0 : ((List.range' 0 141).all (rowFine Tryz.prog)) = true := by kernel_rfl
theorem fbR1 : ((List.range' 141 141).all (rowFine Tryz.prog)) = true := by kernel_rfl
theorem fbR2 : ((List.range' 282 141).all (rowFine Tryz.prog)) = true := by kernel_rfl
theorem fbR3 : ((List.range' 423 141).all (rowFine Tryz.prog)) = true := by kernel_rfl
theorem fbR4 : ((List.range' 564 141).all (rowFine Tryz.prog)) = true := by kernel_rfl
theorem fbR5 : ((List.range' 705 141).all (rowFine Tryz.prog)) = true := by kernel_rfl
theorem fbR6 : ((List.range' 846 141).all (rowFine Tryz.prog)) = true := by kernel_rfl
theorem fbR7 : ((List.range' 987 134).all (rowFine Tryz.prog)) = true := by kernel_rfl
theorem fbRA : (List.range Tryz.prog.types.size).all (rowFine Tryz.prog) = true := by
 rw [Tryz.tabSize]
 refine List.all_eq_true.2 fun t ht => ?_
 have ht : t < 1121 := List.mem_range.1 ht
 by_cases h0 : t < 141
 ·exact z0g fbR0 t (by omega) (by omega)
 by_cases h1 : t < 282
 ·exact z0g fbR1 t (by omega) (by omega)
 by_cases h2 : t < 423
 ·exact z0g fbR2 t (by omega) (by omega)
 by_cases h3 : t < 564
 ·exact z0g fbR3 t (by omega) (by omega)
 by_cases h4 : t < 705
 ·exact z0g fbR4 t (by omega) (by omega)
 by_cases h5 : t < 846
 ·exact z0g fbR5 t (by omega) (by omega)
 by_cases h6 : t < 987
 ·exact z0g fbR6 t (by omega) (by omega)
 exact z0g fbR7 t (by omega) (by omega)
theorem fbRB : (Tryz.prog.globals.all fun g => decide (g.type < Tryz.prog.types.size)) = true := by
 rw [Tryz.tabSize]
 kernel_rfl
noncomputable def z5M (k : Nat) : Bool := match Tryz.prog.funcs[k]? with
 | some f => f.params.all fun t => decide (t < 1121)
 | none => true
theorem fbP0 : ((List.range' 0 137).all z5M) = true := by kernel_rfl
theorem fbP1 : ((List.range' 137 137).all z5M) = true := by kernel_rfl
theorem fbP2 : ((List.range' 274 137).all z5M) = true := by kernel_rfl
theorem fbP3 : ((List.range' 411 137).all z5M) = true := by kernel_rfl
theorem fbP4 : ((List.range' 548 137).all z5M) = true := by kernel_rfl
theorem fbP5 : ((List.range' 685 137).all z5M) = true := by kernel_rfl
theorem fbP6 : ((List.range' 822 137).all z5M) = true := by kernel_rfl
theorem fbP7 : ((List.range' 959 136).all z5M) = true := by kernel_rfl
theorem fbFS : Tryz.prog.funcs.size = 1095 := by kernel_rfl
theorem fbFn (t : Nat) (ht : t < 1095) : z5M t = true := by
 by_cases h0 : t < 137
 ·exact z0g fbP0 t (by omega) (by omega)
 by_cases h1 : t < 274
 ·exact z0g fbP1 t (by omega) (by omega)
 by_cases h2 : t < 411
 ·exact z0g fbP2 t (by omega) (by omega)
 by_cases h3 : t < 548
 ·exact z0g fbP3 t (by omega) (by omega)
 by_cases h4 : t < 685
 ·exact z0g fbP4 t (by omega) (by omega)
 by_cases h5 : t < 822
 ·exact z0g fbP5 t (by omega) (by omega)
 by_cases h6 : t < 959
 ·exact z0g fbP6 t (by omega) (by omega)
 exact z0g fbP7 t (by omega) (by omega)
theorem fbRC : (Tryz.prog.funcs.all fun f => f.params.all fun t => decide (t < Tryz.prog.types.size)) = true := by
 rw [Tryz.tabSize]
 refine Array.all_eq_true.2 fun i hi => ?_
 have h := fbFn i (by rw [← fbFS]; exact hi)
 unfold z5M at h
 rw [Array.getElem?_eq_getElem hi] at h
 exact h
theorem fbJ2 : laidOutB Tryz.prog = true := by
 unfold laidOutB
 rw [fbRA, fbRB, fbRC]
 rfl
end Go.Proofs.YtcoigmfhlbngfaaGreatDoor
namespace Go.Proofs.YtcoigmfhlbngfaaGreatDoor
open Go Go.Sx
set_option maxRecDepth 100000
noncomputable def z5W (t : Nat) : Bool := match Tryz.prog.underlying t with | some (.map _ e) => decide (e < 1121) | _ => true
noncomputable def q8z (t : Nat) : Bool := match Tryz.prog.underlying t with
 | some (.map k _) => (match Tryz.prog.underlying k with | some (.array _ _) | some (.struct _) => false | _ => true)
 | _ => true
theorem k2o : ((List.range' 0 187).all z5W) = true := by kernel_rfl
theorem k2p : ((List.range' 187 187).all z5W) = true := by kernel_rfl
theorem k2q : ((List.range' 374 187).all z5W) = true := by kernel_rfl
theorem k2r : ((List.range' 561 187).all z5W) = true := by kernel_rfl
theorem k2s : ((List.range' 748 187).all z5W) = true := by kernel_rfl
theorem k2t : ((List.range' 935 186).all z5W) = true := by kernel_rfl
theorem k2u (t : Nat) (ht : t < 1121) : z5W t = true := by
 by_cases h0 : t < 187
 ·exact z0g k2o t (by omega) (by omega)
 by_cases h1 : t < 374
 ·exact z0g k2p t (by omega) (by omega)
 by_cases h2 : t < 561
 ·exact z0g k2q t (by omega) (by omega)
 by_cases h3 : t < 748
 ·exact z0g k2r t (by omega) (by omega)
 by_cases h4 : t < 935
 ·exact z0g k2s t (by omega) (by omega)
 exact z0g k2t t (by omega) (by omega)
theorem fbJ3 : mapsRowed Tryz.prog = true := by
 unfold mapsRowed
 rw [Tryz.tabSize]
 exact List.all_eq_true.2 fun t ht => k2u t (List.mem_range.1 ht)
theorem fbPK : Tryz.prog.plainKeys = false := by
 cases hh : Tryz.prog.plainKeys
 ·rfl
 ·unfold Program.plainKeys at hh
  rw [Tryz.tabSize] at hh
  have h1 := List.all_eq_true.1 hh 588 (List.mem_range.2 (by omega))
  have h2 : q8z 588 = false := by kernel_rfl
  have h3 : q8z 588 = true := h1
  rw [h2] at h3
  simp at h3
theorem k2v : (Rows.consoleNilRow.plainKeys == Tryz.prog.plainKeys) = true := by
 rw [fbPK]
 kernel_rfl
end Go.Proofs.YtcoigmfhlbngfaaGreatDoor
