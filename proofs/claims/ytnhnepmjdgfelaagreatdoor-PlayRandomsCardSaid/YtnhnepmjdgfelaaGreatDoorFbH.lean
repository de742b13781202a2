/-
  Closed facts of the program's types, in pieces.
-/
import Derived.Test.YtnhnepmjdgfelaaGreatDoorSxTab
import Derived.Test.YtnhnepmjdgfelaaGreatDoorRows
import Derived.JoinedOf
set_option linter.unusedSimpArgs false
set_option linter.unusedVariables false
namespace Go.Proofs.YtnhnepmjdgfelaaGreatDoor
open Go Go.Sx
set_option maxRecDepth 100000
theorem fbR0 : ((List.range' 0 121).all (rowFine Tryz.prog)) = true := by kernel_rfl
theorem fbR1 : ((List.range' 121 121).all (rowFine Tryz.prog)) = true := by kernel_rfl
theorem fbR2 : ((List.range' 242 121).all (rowFine Tryz.prog)) = true := by kernel_rfl
theorem fbR3 : ((List.range' 363 121).all (rowFine Tryz.prog)) = true := by kernel_rfl
theorem fbR4 : ((List.range' 484 121).all (rowFine Tryz.prog)) = true := by kernel_rfl
theorem fbR5 : ((List.range' 605 121).all (rowFine Tryz.prog)) = true := by kernel_rfl
theorem fbR6 : ((List.range' 726 121).all (rowFine Tryz.prog)) = true := by kernel_rfl
theorem fbR7 : ((List.range' 847 120).all (rowFine Tryz.prog)) = true := by kernel_rfl
theorem fbRA : (List.range Tryz.prog.types.size).all (rowFine Tryz.prog) = true := by
 rw [Tryz.tabSize]
 refine List.all_eq_true.2 fun t ht => ?_
 have ht : t < 967 := List.mem_range.1 ht
 by_cases h0 : t < 121
 ·exact range_all fbR0 t (by omega) (by omega)
 by_cases h1 : t < 242
 ·exact range_all fbR1 t (by omega) (by omega)
 by_cases h2 : t < 363
 ·exact range_all fbR2 t (by omega) (by omega)
 by_cases h3 : t < 484
 ·exact range_all fbR3 t (by omega) (by omega)
 by_cases h4 : t < 605
 ·exact range_all fbR4 t (by omega) (by omega)
 by_cases h5 : t < 726
 ·exact range_all fbR5 t (by omega) (by omega)
 by_cases h6 : t < 847
 ·exact range_all fbR6 t (by omega) (by omega)
 exact range_all fbR7 t (by omega) (by omega)
theorem fbRB : (Tryz.prog.globals.all fun g => decide (g.type < Tryz.prog.types.size)) = true := by
 rw [Tryz.tabSize]
 kernel_rfl
noncomputable def fnFine (k : Nat) : Bool := match Tryz.prog.funcs[k]? with
 | some f => f.params.all fun t => decide (t < 967)
 | none => true
theorem fbP0 : ((List.range' 0 116).all fnFine) = true := by kernel_rfl
theorem fbP1 : ((List.range' 116 116).all fnFine) = true := by kernel_rfl
theorem fbP2 : ((List.range' 232 116).all fnFine) = true := by kernel_rfl
theorem fbP3 : ((List.range' 348 116).all fnFine) = true := by kernel_rfl
theorem fbP4 : ((List.range' 464 116).all fnFine) = true := by kernel_rfl
theorem fbP5 : ((List.range' 580 116).all fnFine) = true := by kernel_rfl
theorem fbP6 : ((List.range' 696 116).all fnFine) = true := by kernel_rfl
theorem fbP7 : ((List.range' 812 113).all fnFine) = true := by kernel_rfl
theorem fbFS : Tryz.prog.funcs.size = 925 := by kernel_rfl
theorem fbFn (t : Nat) (ht : t < 925) : fnFine t = true := by
 by_cases h0 : t < 116
 ·exact range_all fbP0 t (by omega) (by omega)
 by_cases h1 : t < 232
 ·exact range_all fbP1 t (by omega) (by omega)
 by_cases h2 : t < 348
 ·exact range_all fbP2 t (by omega) (by omega)
 by_cases h3 : t < 464
 ·exact range_all fbP3 t (by omega) (by omega)
 by_cases h4 : t < 580
 ·exact range_all fbP4 t (by omega) (by omega)
 by_cases h5 : t < 696
 ·exact range_all fbP5 t (by omega) (by omega)
 by_cases h6 : t < 812
 ·exact range_all fbP6 t (by omega) (by omega)
 exact range_all fbP7 t (by omega) (by omega)
theorem fbRC : (Tryz.prog.funcs.all fun f => f.params.all fun t => decide (t < Tryz.prog.types.size)) = true := by
 rw [Tryz.tabSize]
 refine Array.all_eq_true.2 fun i hi => ?_
 have h := fbFn i (by rw [← fbFS]; exact hi)
 unfold fnFine at h
 rw [Array.getElem?_eq_getElem hi] at h
 exact h
theorem fbJ2 : laidOutB Tryz.prog = true := by
 unfold laidOutB
 rw [fbRA, fbRB, fbRC]
 rfl
end Go.Proofs.YtnhnepmjdgfelaaGreatDoor
namespace Go.Proofs.YtnhnepmjdgfelaaGreatDoor
open Go Go.Sx
set_option maxRecDepth 100000
noncomputable def mapFine (t : Nat) : Bool := match Tryz.prog.underlying t with | some (.map _ e) => decide (e < 967) | _ => true
noncomputable def keyFine (t : Nat) : Bool := match Tryz.prog.underlying t with
 | some (.map k _) => (match Tryz.prog.underlying k with | some (.array _ _) | some (.struct _) => false | _ => true)
 | _ => true
theorem fbMa0 : ((List.range' 0 162).all mapFine) = true := by kernel_rfl
theorem fbKe0 : ((List.range' 0 162).all keyFine) = true := by kernel_rfl
theorem fbMa1 : ((List.range' 162 162).all mapFine) = true := by kernel_rfl
theorem fbKe1 : ((List.range' 162 162).all keyFine) = true := by kernel_rfl
theorem fbMa2 : ((List.range' 324 162).all mapFine) = true := by kernel_rfl
theorem fbKe2 : ((List.range' 324 162).all keyFine) = true := by kernel_rfl
theorem fbMa3 : ((List.range' 486 162).all mapFine) = true := by kernel_rfl
theorem fbKe3 : ((List.range' 486 162).all keyFine) = true := by kernel_rfl
theorem fbMa4 : ((List.range' 648 162).all mapFine) = true := by kernel_rfl
theorem fbKe4 : ((List.range' 648 162).all keyFine) = true := by kernel_rfl
theorem fbMa5 : ((List.range' 810 157).all mapFine) = true := by kernel_rfl
theorem fbKe5 : ((List.range' 810 157).all keyFine) = true := by kernel_rfl
theorem fbMaA (t : Nat) (ht : t < 967) : mapFine t = true := by
 by_cases h0 : t < 162
 ·exact range_all fbMa0 t (by omega) (by omega)
 by_cases h1 : t < 324
 ·exact range_all fbMa1 t (by omega) (by omega)
 by_cases h2 : t < 486
 ·exact range_all fbMa2 t (by omega) (by omega)
 by_cases h3 : t < 648
 ·exact range_all fbMa3 t (by omega) (by omega)
 by_cases h4 : t < 810
 ·exact range_all fbMa4 t (by omega) (by omega)
 exact range_all fbMa5 t (by omega) (by omega)
theorem fbKeA (t : Nat) (ht : t < 967) : keyFine t = true := by
 by_cases h0 : t < 162
 ·exact range_all fbKe0 t (by omega) (by omega)
 by_cases h1 : t < 324
 ·exact range_all fbKe1 t (by omega) (by omega)
 by_cases h2 : t < 486
 ·exact range_all fbKe2 t (by omega) (by omega)
 by_cases h3 : t < 648
 ·exact range_all fbKe3 t (by omega) (by omega)
 by_cases h4 : t < 810
 ·exact range_all fbKe4 t (by omega) (by omega)
 exact range_all fbKe5 t (by omega) (by omega)
theorem fbJ3 : mapsRowed Tryz.prog = true := by
 unfold mapsRowed
 rw [Tryz.tabSize]
 exact List.all_eq_true.2 fun t ht => fbMaA t (List.mem_range.1 ht)
theorem fbPK : Tryz.prog.plainKeys = true := by
 unfold Program.plainKeys
 rw [Tryz.tabSize]
 exact List.all_eq_true.2 fun t ht => fbKeA t (List.mem_range.1 ht)
theorem fbJ23 : (Rows.playRandomsRow.plainKeys == Tryz.prog.plainKeys) = true := by
 rw [fbPK]
 kernel_rfl
end Go.Proofs.YtnhnepmjdgfelaaGreatDoor
