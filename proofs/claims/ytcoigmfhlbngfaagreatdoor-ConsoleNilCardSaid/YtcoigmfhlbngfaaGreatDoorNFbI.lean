/-
  A closed fact of the row.
-/
import Derived.Test.YtcoigmfhlbngfaaGreatDoorRows
import Derived.KernelRfl
import Derived.JoinedOf
set_option linter.unusedSimpArgs false
set_option linter.unusedVariables false
namespace Go.Proofs.YtcoigmfhlbngfaaGreatDoor
open Go
set_option maxRecDepth 100000
def q8A (fn : Func) : Bool := fn.body.isSome || (!fn.norace || (Stop.rowOf fn).isNone)
theorem j2w {fn : Func} (h : q8A fn = true) : ((Stop.rowOf fn).isNone || !fn.norace) = true := by
 unfold q8A at h
 rcases (Bool.or_eq_true _ _).mp h with h | h
 ·have : (Stop.rowOf fn).isNone = true := by
   unfold Stop.rowOf
   cases hb : fn.body with
   | none => rw [hb] at h; simp at h
   | some b => rfl
  rw [this]; rfl
 ·rcases (Bool.or_eq_true _ _).mp h with h | h
  ·rw [h, Bool.or_true]
  ·rw [h]; rfl
theorem j5N : Tryz.prog.funcs.toList.all q8A = true := by kernel_rfl
theorem k2w : Tryz.prog.stopsHeard = true := by
 unfold Program.stopsHeard
 rw [← Array.all_toList, List.all_eq_true]
 intro fn hm
 exact j2w (List.all_eq_true.1 j5N fn hm)
end Go.Proofs.YtcoigmfhlbngfaaGreatDoor
