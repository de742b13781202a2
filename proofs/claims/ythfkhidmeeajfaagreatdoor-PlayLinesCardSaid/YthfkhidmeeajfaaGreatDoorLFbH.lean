/-
  Closed facts of the program's types, in pieces.
-/
import Derived.Test.YthfkhidmeeajfaaGreatDoorLSxTab
import Derived.Test.YthfkhidmeeajfaaGreatDoorRows
import Derived.JoinedOf
set_option linter.unusedSimpArgs false
set_option linter.unusedVariables false
namespace Go.Proofs.YthfkhidmeeajfaaGreatDoor
open Go Go.Sx
set_option maxRecDepth 100000
theorem fbR0 : ((List.range' 0 119).all (rowFine Tryz.prog)) = true := by kernel_rfl
theorem fbR1 : ((List.range' 119 119).all (rowFine Tryz.prog)) = true := by kernel_rfl
theorem fbR2 : ((List.range' 238 119).all (rowFine Tryz.prog)) = true := by kernel_rfl
theorem fbR3 : ((List.range' 357 119).all (rowFine Tryz.prog)) = true := by kernel_rfl
theorem fbR4 : ((List.range' 476 119).all (rowFine Tryz.prog)) = true := by kernel_rfl
theorem fbR5 : ((List.range' 595 119).all (rowFine Tryz.prog)) = true := by kernel_rfl
theorem fbR6 : ((List.range' 714 119).all (rowFine Tryz.prog)) = true := by kernel_rfl
theorem fbR7 : ((List.range' 833 119).all (rowFine Tryz.prog)) = true := by kernel_rfl
theorem fbRA : (List.range Tryz.prog.types.size).all (rowFine Tryz.prog) = true := by
 rw [Tryz.tabSize]
 refine List.all_eq_true.2 fun t ht => ?_
 have ht : t < 952 := List.mem_range.1 ht
 by_cases h0 : t < 119
 ·exact z0p fbR0 t (by omega) (by omega)
 by_cases h1 : t < 238
 ·exact z0p fbR1 t (by omega) (by omega)
 by_cases h2 : t < 357
 ·exact z0p fbR2 t (by omega) (by omega)
 by_cases h3 : t < 476
 ·exact z0p fbR3 t (by omega) (by omega)
 by_cases h4 : t < 595
 ·exact z0p fbR4 t (by omega) (by omega)
 by_cases h5 : t < 714
 ·exact z0p fbR5 t (by omega) (by omega)
 by_cases h6 : t < 833
 ·exact z0p fbR6 t (by omega) (by omega)
 exact z0p fbR7 t (by omega) (by omega)
theorem fbRB : (Tryz.prog.globals.all fun g => decide (g.type < Tryz.prog.types.size)) = true := by
 rw [Tryz.tabSize]
 kernel_rfl
noncomputable def z6O (k : Nat) : Bool := match Tryz.prog.funcs[k]? with
 | some f => f.params.all fun t => decide (t < 952)
 | none => true
theorem fbP0 : ((List.range' 0 117).all z6O) = true := by kernel_rfl
theorem fbP1 : ((List.range' 117 117).all z6O) = true := by kernel_rfl
theorem fbP2 : ((List.range' 234 117).all z6O) = true := by kernel_rfl
theorem fbP3 : ((List.range' 351 117).all z6O) = true := by kernel_rfl
theorem fbP4 : ((List.range' 468 117).all z6O) = true := by kernel_rfl
theorem fbP5 : ((List.range' 585 117).all z6O) = true := by kernel_rfl
theorem fbP6 : ((List.range' 702 117).all z6O) = true := by kernel_rfl
theorem fbP7 : ((List.range' 819 112).all z6O) = true := by kernel_rfl
theorem fbFS : Tryz.prog.funcs.size = 931 := by kernel_rfl
theorem fbFn (t : Nat) (ht : t < 931) : z6O t = true := by
 by_cases h0 : t < 117
 ·exact z0p fbP0 t (by omega) (by omega)
 by_cases h1 : t < 234
 ·exact z0p fbP1 t (by omega) (by omega)
 by_cases h2 : t < 351
 ·exact z0p fbP2 t (by omega) (by omega)
 by_cases h3 : t < 468
 ·exact z0p fbP3 t (by omega) (by omega)
 by_cases h4 : t < 585
 ·exact z0p fbP4 t (by omega) (by omega)
 by_cases h5 : t < 702
 ·exact z0p fbP5 t (by omega) (by omega)
 by_cases h6 : t < 819
 ·exact z0p fbP6 t (by omega) (by omega)
 exact z0p fbP7 t (by omega) (by omega)
theorem fbRC : (Tryz.prog.funcs.all fun f => f.params.all fun t => decide (t < Tryz.prog.types.size)) = true := by
 rw [Tryz.tabSize]
 refine Array.all_eq_true.2 fun i hi => ?_
 have h := fbFn i (by rw [← fbFS]; exact hi)
 unfold z6O at h
 rw [Array.getElem?_eq_getElem hi] at h
 exact h
theorem fbJ2 : laidOutB Tryz.prog = true := by
 unfold laidOutB
 rw [fbRA, fbRB, fbRC]
 rfl
end Go.Proofs.YthfkhidmeeajfaaGreatDoor
namespace Go.Proofs.YthfkhidmeeajfaaGreatDoor
open Go Go.Sx
set_option maxRecDepth 100000
noncomputable def z7b (t : Nat) : Bool := match Tryz.prog.underlying t with | some (.map _ e) => decide (e < 952) | _ => true
noncomputable def z7c (t : Nat) : Bool := match Tryz.prog.underlying t with
 | some (.map k _) => (match Tryz.prog.underlying k with | some (.array _ _) | some (.struct _) => false | _ => true)
 | _ => true
theorem k7Y : ((List.range' 0 159).all z7b) = true := by kernel_rfl
theorem k7Z : ((List.range' 0 159).all z7c) = true := by kernel_rfl
theorem k8a : ((List.range' 159 159).all z7b) = true := by kernel_rfl
theorem k8b : ((List.range' 159 159).all z7c) = true := by kernel_rfl
theorem k8c : ((List.range' 318 159).all z7b) = true := by kernel_rfl
theorem k8d : ((List.range' 318 159).all z7c) = true := by kernel_rfl
theorem k8e : ((List.range' 477 159).all z7b) = true := by kernel_rfl
theorem k8f : ((List.range' 477 159).all z7c) = true := by kernel_rfl
theorem k8g : ((List.range' 636 159).all z7b) = true := by kernel_rfl
theorem k8h : ((List.range' 636 159).all z7c) = true := by kernel_rfl
theorem k8i : ((List.range' 795 157).all z7b) = true := by kernel_rfl
theorem k8j : ((List.range' 795 157).all z7c) = true := by kernel_rfl
theorem k8k (t : Nat) (ht : t < 952) : z7b t = true := by
 by_cases h0 : t < 159
 ·exact z0p k7Y t (by omega) (by omega)
 by_cases h1 : t < 318
 ·exact z0p k8a t (by omega) (by omega)
 by_cases h2 : t < 477
 ·exact z0p k8c t (by omega) (by omega)
 by_cases h3 : t < 636
 ·exact z0p k8e t (by omega) (by omega)
 by_cases h4 : t < 795
 ·exact z0p k8g t (by omega) (by omega)
 exact z0p k8i t (by omega) (by omega)
theorem k8l (t : Nat) (ht : t < 952) : z7c t = true := by
 by_cases h0 : t < 159
 ·exact z0p k7Z t (by omega) (by omega)
 by_cases h1 : t < 318
 ·exact z0p k8b t (by omega) (by omega)
 by_cases h2 : t < 477
 ·exact z0p k8d t (by omega) (by omega)
 by_cases h3 : t < 636
 ·exact z0p k8f t (by omega) (by omega)
 by_cases h4 : t < 795
 ·exact z0p k8h t (by omega) (by omega)
 exact z0p k8j t (by omega) (by omega)
theorem fbJ3 : mapsRowed Tryz.prog = true := by
 unfold mapsRowed
 rw [Tryz.tabSize]
 exact List.all_eq_true.2 fun t ht => k8k t (List.mem_range.1 ht)
theorem fbPK : Tryz.prog.plainKeys = true := by
 unfold Program.plainKeys
 rw [Tryz.tabSize]
 exact List.all_eq_true.2 fun t ht => k8l t (List.mem_range.1 ht)
theorem k8m : (Rows.playLinesRow.plainKeys == Tryz.prog.plainKeys) = true := by
 rw [fbPK]
 kernel_rfl
end Go.Proofs.YthfkhidmeeajfaaGreatDoor
