/-
  A closed fact of the row.
-/
import Derived.Test.YtcoigmfhlbngfaaGreatDoorRows
import Derived.KernelRfl
import Derived.JoinedOf
set_option linter.unusedSimpArgs false
set_option linter.unusedVariables false
namespace Go.Proofs.YtcoigmfhlbngfaaGreatDoor
open Go
set_option maxRecDepth 100000
def j5O (fn : Func) : Bool := fn.body.isNone && (opensWith (nameBytes "runtime.SetFinalizer") (nameBytes fn.name) || opensWith (nameBytes "runtime.AddCleanup") (nameBytes fn.name) || opensWith (nameBytes "runtime.AddCleanup") (nameBytes fn.origin))
theorem z5p : ∀ l : List UInt8, opensWith l l = true
 | [] => rfl
 | a :: l => by show (a.toNat == a.toNat && opensWith l l) = true; rw [z5p l]; simp
theorem j5P : Tryz.prog.funcs.toList.any j5O = false := by kernel_rfl
theorem j9g : Tryz.prog.laysLater = false := by
 cases hh : Tryz.prog.laysLater
 ·rfl
 ·exfalso
  obtain ⟨fn, hm, hp⟩ := Array.any_eq_true'.1 hh
  have : Tryz.prog.funcs.toList.any j5O = true := by
   refine List.any_eq_true.2 ⟨fn, Array.mem_toList_iff.2 hm, ?_⟩
   rw [Bool.and_eq_true] at hp
   unfold j5O
   rw [hp.1, Bool.true_and]
   rcases (Bool.or_eq_true _ _).mp hp.2 with h | h
   ·rcases (Bool.or_eq_true _ _).mp h with h | h
    ·rw [show fn.name = _ from by simpa using h, z5p]; rfl
    ·rw [show fn.name = _ from by simpa using h, z5p, Bool.or_true]; rfl
   ·rw [show fn.origin = _ from by simpa using h, z5p, Bool.or_true]
  rw [j5P] at this
  simp at this
theorem k2x : Tryz.prog.mayEnter = true := by
 unfold Program.mayEnter
 rw [j9g]
 kernel_rfl
end Go.Proofs.YtcoigmfhlbngfaaGreatDoor
