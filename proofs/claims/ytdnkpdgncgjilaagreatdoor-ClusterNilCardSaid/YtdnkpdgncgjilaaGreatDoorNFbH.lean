/-
  Closed facts of the program's types, in pieces.
-/
import Derived.Test.YtdnkpdgncgjilaaGreatDoorNSxTab
import Derived.Test.YtdnkpdgncgjilaaGreatDoorRows
import Derived.JoinedOf
set_option linter.unusedSimpArgs false
set_option linter.unusedVariables false
namespace Go.Proofs.YtdnkpdgncgjilaaGreatDoor
open Go Go.Sx
set_option maxRecDepth 100000
theorem fbR0 : ((List.range' 0 117).all (rowFine Tryz.prog)) = true := by kernel_rfl
theorem fbR1 : ((List.range' 117 117).all (rowFine Tryz.prog)) = true := by kernel_rfl
theorem fbR2 : ((List.range' 234 117).all (rowFine Tryz.prog)) = true := by kernel_rfl
theorem fbR3 : ((List.range' 351 117).all (rowFine Tryz.prog)) = true := by kernel_rfl
theorem fbR4 : ((List.range' 468 117).all (rowFine Tryz.prog)) = true := by kernel_rfl
theorem fbR5 : ((List.range' 585 117).all (rowFine Tryz.prog)) = true := by kernel_rfl
theorem fbR6 : ((List.range' 702 117).all (rowFine Tryz.prog)) = true := by kernel_rfl
theorem fbR7 : ((List.range' 819 115).all (rowFine Tryz.prog)) = true := by kernel_rfl
theorem fbRA : (List.range Tryz.prog.types.size).all (rowFine Tryz.prog) = true := by
 rw [Tryz.tabSize]
 refine List.all_eq_true.2 fun t ht => ?_
 have ht : t < 934 := List.mem_range.1 ht
 by_cases h0 : t < 117
 ·exact z0i fbR0 t (by omega) (by omega)
 by_cases h1 : t < 234
 ·exact z0i fbR1 t (by omega) (by omega)
 by_cases h2 : t < 351
 ·exact z0i fbR2 t (by omega) (by omega)
 by_cases h3 : t < 468
 ·exact z0i fbR3 t (by omega) (by omega)
 by_cases h4 : t < 585
 ·exact z0i fbR4 t (by omega) (by omega)
 by_cases h5 : t < 702
 ·exact z0i fbR5 t (by omega) (by omega)
 by_cases h6 : t < 819
 ·exact z0i fbR6 t (by omega) (by omega)
 exact z0i fbR7 t (by omega) (by omega)
theorem fbRB : (Tryz.prog.globals.all fun g => decide (g.type < Tryz.prog.types.size)) = true := by
 rw [Tryz.tabSize]
 kernel_rfl
noncomputable def z5N (k : Nat) : Bool := match Tryz.prog.funcs[k]? with
 | some f => f.params.all fun t => decide (t < 934)
 | none => true
theorem fbP0 : ((List.range' 0 112).all z5N) = true := by kernel_rfl
theorem fbP1 : ((List.range' 112 112).all z5N) = true := by kernel_rfl
theorem fbP2 : ((List.range' 224 112).all z5N) = true := by kernel_rfl
theorem fbP3 : ((List.range' 336 112).all z5N) = true := by kernel_rfl
theorem fbP4 : ((List.range' 448 112).all z5N) = true := by kernel_rfl
theorem fbP5 : ((List.range' 560 112).all z5N) = true := by kernel_rfl
theorem fbP6 : ((List.range' 672 112).all z5N) = true := by kernel_rfl
theorem fbP7 : ((List.range' 784 111).all z5N) = true := by kernel_rfl
theorem fbFS : Tryz.prog.funcs.size = 895 := by kernel_rfl
theorem fbFn (t : Nat) (ht : t < 895) : z5N t = true := by
 by_cases h0 : t < 112
 ·exact z0i fbP0 t (by omega) (by omega)
 by_cases h1 : t < 224
 ·exact z0i fbP1 t (by omega) (by omega)
 by_cases h2 : t < 336
 ·exact z0i fbP2 t (by omega) (by omega)
 by_cases h3 : t < 448
 ·exact z0i fbP3 t (by omega) (by omega)
 by_cases h4 : t < 560
 ·exact z0i fbP4 t (by omega) (by omega)
 by_cases h5 : t < 672
 ·exact z0i fbP5 t (by omega) (by omega)
 by_cases h6 : t < 784
 ·exact z0i fbP6 t (by omega) (by omega)
 exact z0i fbP7 t (by omega) (by omega)
theorem fbRC : (Tryz.prog.funcs.all fun f => f.params.all fun t => decide (t < Tryz.prog.types.size)) = true := by
 rw [Tryz.tabSize]
 refine Array.all_eq_true.2 fun i hi => ?_
 have h := fbFn i (by rw [← fbFS]; exact hi)
 unfold z5N at h
 rw [Array.getElem?_eq_getElem hi] at h
 exact h
theorem fbJ2 : laidOutB Tryz.prog = true := by
 unfold laidOutB
 rw [fbRA, fbRB, fbRC]
 rfl
end Go.Proofs.YtdnkpdgncgjilaaGreatDoor
namespace Go.Proofs.YtdnkpdgncgjilaaGreatDoor
open Go Go.Sx
set_option maxRecDepth 100000
noncomputable def z5Y (t : Nat) : Bool := match Tryz.prog.underlying t with | some (.map _ e) => decide (e < 934) | _ => true
noncomputable def z5Z (t : Nat) : Bool := match Tryz.prog.underlying t with
 | some (.map k _) => (match Tryz.prog.underlying k with | some (.array _ _) | some (.struct _) => false | _ => true)
 | _ => true
theorem w7t : ((List.range' 0 156).all z5Y) = true := by kernel_rfl
theorem w7u : ((List.range' 0 156).all z5Z) = true := by kernel_rfl
theorem w7v : ((List.range' 156 156).all z5Y) = true := by kernel_rfl
theorem w7w : ((List.range' 156 156).all z5Z) = true := by kernel_rfl
theorem w7x : ((List.range' 312 156).all z5Y) = true := by kernel_rfl
theorem w7y : ((List.range' 312 156).all z5Z) = true := by kernel_rfl
theorem w7z : ((List.range' 468 156).all z5Y) = true := by kernel_rfl
theorem w7A : ((List.range' 468 156).all z5Z) = true := by kernel_rfl
theorem w7B : ((List.range' 624 156).all z5Y) = true := by kernel_rfl
theorem w7C : ((List.range' 624 156).all z5Z) = true := by kernel_rfl
theorem w7D : ((List.range' 780 154).all z5Y) = true := by kernel_rfl
theorem w7E : ((List.range' 780 154).all z5Z) = true := by kernel_rfl
theorem w7F (t : Nat) (ht : t < 934) : z5Y t = true := by
 by_cases h0 : t < 156
 ·exact z0i w7t t (by omega) (by omega)
 by_cases h1 : t < 312
 ·exact z0i w7v t (by omega) (by omega)
 by_cases h2 : t < 468
 ·exact z0i w7x t (by omega) (by omega)
 by_cases h3 : t < 624
 ·exact z0i w7z t (by omega) (by omega)
 by_cases h4 : t < 780
 ·exact z0i w7B t (by omega) (by omega)
 exact z0i w7D t (by omega) (by omega)
theorem w7G (t : Nat) (ht : t < 934) : z5Z t = true := by
 by_cases h0 : t < 156
 ·exact z0i w7u t (by omega) (by omega)
 by_cases h1 : t < 312
 ·exact z0i w7w t (by omega) (by omega)
 by_cases h2 : t < 468
 ·exact z0i w7y t (by omega) (by omega)
 by_cases h3 : t < 624
 ·exact z0i w7A t (by omega) (by omega)
 by_cases h4 : t < 780
 ·exact z0i w7C t (by omega) (by omega)
 exact z0i w7E t (by omega) (by omega)
theorem fbJ3 : mapsRowed Tryz.prog = true := by
 unfold mapsRowed
 rw [Tryz.tabSize]
 exact List.all_eq_true.2 fun t ht => w7F t (List.mem_range.1 ht)
theorem fbPK : Tryz.prog.plainKeys = true := by
 unfold Program.plainKeys
 rw [Tryz.tabSize]
 exact List.all_eq_true.2 fun t ht => w7G t (List.mem_range.1 ht)
theorem w7H : (Rows.clusterNilRow.plainKeys == Tryz.prog.plainKeys) = true := by
 rw [fbPK]
 kernel_rfl
end Go.Proofs.YtdnkpdgncgjilaaGreatDoor
