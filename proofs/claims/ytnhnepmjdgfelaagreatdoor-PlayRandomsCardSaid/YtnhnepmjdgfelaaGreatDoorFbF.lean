/-
  Functions by their names, in pieces; what the door leaves, its data and its functions apart.
-/
import Derived.Test.YtnhnepmjdgfelaaGreatDoorProg
import GoSem.Claims
import Derived.KernelRfl
import Derived.LaidOnce
import Derived.LaidHandle
set_option linter.unusedSimpArgs false
set_option linter.unusedVariables false
namespace Go.Proofs
open Go
set_option maxRecDepth 100000
theorem named_mk {P : Program} {n : String} {N i : Nat} (hs : P.funcs.size = N) (h : (List.range' 0 N).filter (fun i => (P.funcs[i]?).any (·.name == n)) = [i]) : P.funcNamed n = some i := by
 unfold Program.funcNamed
 rw [hs, List.range_eq_range', h]
theorem filt_cut (p : Nat → Bool) (a b c : Nat) : (List.range' a (b + c)).filter p = (List.range' a b).filter p ++ (List.range' (a + b) c).filter p := by
 rw [← List.filter_append, List.range'_append_1]
theorem fbNS : Tryz.prog.funcs.size = 925 := by kernel_rfl
noncomputable def nmFVars (i : Nat) : Bool := (Tryz.prog.funcs[i]?).any (·.name == "gosem.cut.vars")
theorem nmVars0 : (List.range' 0 116).filter nmFVars = [] := by kernel_rfl
theorem nmVars1 : (List.range' 116 116).filter nmFVars = [] := by kernel_rfl
theorem nmVars2 : (List.range' 232 116).filter nmFVars = [] := by kernel_rfl
theorem nmVars3 : (List.range' 348 116).filter nmFVars = [] := by kernel_rfl
theorem nmVars4 : (List.range' 464 116).filter nmFVars = [] := by kernel_rfl
theorem nmVars5 : (List.range' 580 116).filter nmFVars = [] := by kernel_rfl
theorem nmVars6 : (List.range' 696 116).filter nmFVars = [] := by kernel_rfl
theorem nmVars7 : (List.range' 812 113).filter nmFVars = [924] := by kernel_rfl
theorem fbNVars : Tryz.prog.funcNamed "gosem.cut.vars" = some 924 := by
 refine named_mk fbNS ?_
 show (List.range' 0 925).filter nmFVars = _
 rw [show (925 : Nat) = 116 + 809 from rfl, filt_cut nmFVars 0 116 809, nmVars0]
 rw [show 0 + 116 = (116 : Nat) from rfl, show (809 : Nat) = 116 + 693 from rfl, filt_cut nmFVars 116 116 693, nmVars1]
 rw [show 116 + 116 = (232 : Nat) from rfl, show (693 : Nat) = 116 + 577 from rfl, filt_cut nmFVars 232 116 577, nmVars2]
 rw [show 232 + 116 = (348 : Nat) from rfl, show (577 : Nat) = 116 + 461 from rfl, filt_cut nmFVars 348 116 461, nmVars3]
 rw [show 348 + 116 = (464 : Nat) from rfl, show (461 : Nat) = 116 + 345 from rfl, filt_cut nmFVars 464 116 345, nmVars4]
 rw [show 464 + 116 = (580 : Nat) from rfl, show (345 : Nat) = 116 + 229 from rfl, filt_cut nmFVars 580 116 229, nmVars5]
 rw [show 580 + 116 = (696 : Nat) from rfl, show (229 : Nat) = 116 + 113 from rfl, filt_cut nmFVars 696 116 113, nmVars6]
 rw [show 696 + 116 = (812 : Nat) from rfl, nmVars7]
 rfl
end Go.Proofs
namespace Go.Proofs
open Go
set_option maxRecDepth 100000
noncomputable def nmFForw (i : Nat) : Bool := (Tryz.prog.funcs[i]?).any (·.name == "(skald/saga.Saga).forward")
theorem nmForw0 : (List.range' 0 116).filter nmFForw = [] := by kernel_rfl
theorem nmForw1 : (List.range' 116 116).filter nmFForw = [] := by kernel_rfl
theorem nmForw2 : (List.range' 232 116).filter nmFForw = [] := by kernel_rfl
theorem nmForw3 : (List.range' 348 116).filter nmFForw = [] := by kernel_rfl
theorem nmForw4 : (List.range' 464 116).filter nmFForw = [] := by kernel_rfl
theorem nmForw5 : (List.range' 580 116).filter nmFForw = [] := by kernel_rfl
theorem nmForw6 : (List.range' 696 116).filter nmFForw = [] := by kernel_rfl
theorem nmForw7 : (List.range' 812 113).filter nmFForw = [901] := by kernel_rfl
theorem fbNForw : Tryz.prog.funcNamed "(skald/saga.Saga).forward" = some 901 := by
 refine named_mk fbNS ?_
 show (List.range' 0 925).filter nmFForw = _
 rw [show (925 : Nat) = 116 + 809 from rfl, filt_cut nmFForw 0 116 809, nmForw0]
 rw [show 0 + 116 = (116 : Nat) from rfl, show (809 : Nat) = 116 + 693 from rfl, filt_cut nmFForw 116 116 693, nmForw1]
 rw [show 116 + 116 = (232 : Nat) from rfl, show (693 : Nat) = 116 + 577 from rfl, filt_cut nmFForw 232 116 577, nmForw2]
 rw [show 232 + 116 = (348 : Nat) from rfl, show (577 : Nat) = 116 + 461 from rfl, filt_cut nmFForw 348 116 461, nmForw3]
 rw [show 348 + 116 = (464 : Nat) from rfl, show (461 : Nat) = 116 + 345 from rfl, filt_cut nmFForw 464 116 345, nmForw4]
 rw [show 464 + 116 = (580 : Nat) from rfl, show (345 : Nat) = 116 + 229 from rfl, filt_cut nmFForw 580 116 229, nmForw5]
 rw [show 580 + 116 = (696 : Nat) from rfl, show (229 : Nat) = 116 + 113 from rfl, filt_cut nmFForw 696 116 113, nmForw6]
 rw [show 696 + 116 = (812 : Nat) from rfl, nmForw7]
 rfl
noncomputable def nmFFree (i : Nat) : Bool := (Tryz.prog.funcs[i]?).any (·.name == "(skald/saga.Saga).free")
theorem nmFree0 : (List.range' 0 116).filter nmFFree = [] := by kernel_rfl
theorem nmFree1 : (List.range' 116 116).filter nmFFree = [] := by kernel_rfl
theorem nmFree2 : (List.range' 232 116).filter nmFFree = [] := by kernel_rfl
theorem nmFree3 : (List.range' 348 116).filter nmFFree = [] := by kernel_rfl
theorem nmFree4 : (List.range' 464 116).filter nmFFree = [] := by kernel_rfl
theorem nmFree5 : (List.range' 580 116).filter nmFFree = [] := by kernel_rfl
theorem nmFree6 : (List.range' 696 116).filter nmFFree = [] := by kernel_rfl
theorem nmFree7 : (List.range' 812 113).filter nmFFree = [902] := by kernel_rfl
theorem fbNFree : Tryz.prog.funcNamed "(skald/saga.Saga).free" = some 902 := by
 refine named_mk fbNS ?_
 show (List.range' 0 925).filter nmFFree = _
 rw [show (925 : Nat) = 116 + 809 from rfl, filt_cut nmFFree 0 116 809, nmFree0]
 rw [show 0 + 116 = (116 : Nat) from rfl, show (809 : Nat) = 116 + 693 from rfl, filt_cut nmFFree 116 116 693, nmFree1]
 rw [show 116 + 116 = (232 : Nat) from rfl, show (693 : Nat) = 116 + 577 from rfl, filt_cut nmFFree 232 116 577, nmFree2]
 rw [show 232 + 116 = (348 : Nat) from rfl, show (577 : Nat) = 116 + 461 from rfl, filt_cut nmFFree 348 116 461, nmFree3]
 rw [show 348 + 116 = (464 : Nat) from rfl, show (461 : Nat) = 116 + 345 from rfl, filt_cut nmFFree 464 116 345, nmFree4]
 rw [show 464 + 116 = (580 : Nat) from rfl, show (345 : Nat) = 116 + 229 from rfl, filt_cut nmFFree 580 116 229, nmFree5]
 rw [show 580 + 116 = (696 : Nat) from rfl, show (229 : Nat) = 116 + 113 from rfl, filt_cut nmFFree 696 116 113, nmFree6]
 rw [show 696 + 116 = (812 : Nat) from rfl, nmFree7]
 rfl
end Go.Proofs
namespace Go.Proofs
open Go
set_option maxRecDepth 100000
noncomputable def nmFUndo (i : Nat) : Bool := (Tryz.prog.funcs[i]?).any (·.name == "(skald/saga.Saga).undo")
theorem nmUndo0 : (List.range' 0 116).filter nmFUndo = [] := by kernel_rfl
theorem nmUndo1 : (List.range' 116 116).filter nmFUndo = [] := by kernel_rfl
theorem nmUndo2 : (List.range' 232 116).filter nmFUndo = [] := by kernel_rfl
theorem nmUndo3 : (List.range' 348 116).filter nmFUndo = [] := by kernel_rfl
theorem nmUndo4 : (List.range' 464 116).filter nmFUndo = [] := by kernel_rfl
theorem nmUndo5 : (List.range' 580 116).filter nmFUndo = [] := by kernel_rfl
theorem nmUndo6 : (List.range' 696 116).filter nmFUndo = [] := by kernel_rfl
theorem nmUndo7 : (List.range' 812 113).filter nmFUndo = [903] := by kernel_rfl
theorem fbNUndo : Tryz.prog.funcNamed "(skald/saga.Saga).undo" = some 903 := by
 refine named_mk fbNS ?_
 show (List.range' 0 925).filter nmFUndo = _
 rw [show (925 : Nat) = 116 + 809 from rfl, filt_cut nmFUndo 0 116 809, nmUndo0]
 rw [show 0 + 116 = (116 : Nat) from rfl, show (809 : Nat) = 116 + 693 from rfl, filt_cut nmFUndo 116 116 693, nmUndo1]
 rw [show 116 + 116 = (232 : Nat) from rfl, show (693 : Nat) = 116 + 577 from rfl, filt_cut nmFUndo 232 116 577, nmUndo2]
 rw [show 232 + 116 = (348 : Nat) from rfl, show (577 : Nat) = 116 + 461 from rfl, filt_cut nmFUndo 348 116 461, nmUndo3]
 rw [show 348 + 116 = (464 : Nat) from rfl, show (461 : Nat) = 116 + 345 from rfl, filt_cut nmFUndo 464 116 345, nmUndo4]
 rw [show 464 + 116 = (580 : Nat) from rfl, show (345 : Nat) = 116 + 229 from rfl, filt_cut nmFUndo 580 116 229, nmUndo5]
 rw [show 580 + 116 = (696 : Nat) from rfl, show (229 : Nat) = 116 + 113 from rfl, filt_cut nmFUndo 696 116 113, nmUndo6]
 rw [show 696 + 116 = (812 : Nat) from rfl, nmUndo7]
 rfl
noncomputable def nmFLaw (i : Nat) : Bool := (Tryz.prog.funcs[i]?).any (·.name == "skald/skaldlaw42.PlayRandoms")
theorem nmLaw0 : (List.range' 0 116).filter nmFLaw = [3] := by kernel_rfl
theorem nmLaw1 : (List.range' 116 116).filter nmFLaw = [] := by kernel_rfl
theorem nmLaw2 : (List.range' 232 116).filter nmFLaw = [] := by kernel_rfl
theorem nmLaw3 : (List.range' 348 116).filter nmFLaw = [] := by kernel_rfl
theorem nmLaw4 : (List.range' 464 116).filter nmFLaw = [] := by kernel_rfl
theorem nmLaw5 : (List.range' 580 116).filter nmFLaw = [] := by kernel_rfl
theorem nmLaw6 : (List.range' 696 116).filter nmFLaw = [] := by kernel_rfl
theorem nmLaw7 : (List.range' 812 113).filter nmFLaw = [] := by kernel_rfl
theorem fbNLaw : Tryz.prog.funcNamed "skald/skaldlaw42.PlayRandoms" = some 3 := by
 refine named_mk fbNS ?_
 show (List.range' 0 925).filter nmFLaw = _
 rw [show (925 : Nat) = 116 + 809 from rfl, filt_cut nmFLaw 0 116 809, nmLaw0]
 rw [show 0 + 116 = (116 : Nat) from rfl, show (809 : Nat) = 116 + 693 from rfl, filt_cut nmFLaw 116 116 693, nmLaw1]
 rw [show 116 + 116 = (232 : Nat) from rfl, show (693 : Nat) = 116 + 577 from rfl, filt_cut nmFLaw 232 116 577, nmLaw2]
 rw [show 232 + 116 = (348 : Nat) from rfl, show (577 : Nat) = 116 + 461 from rfl, filt_cut nmFLaw 348 116 461, nmLaw3]
 rw [show 348 + 116 = (464 : Nat) from rfl, show (461 : Nat) = 116 + 345 from rfl, filt_cut nmFLaw 464 116 345, nmLaw4]
 rw [show 464 + 116 = (580 : Nat) from rfl, show (345 : Nat) = 116 + 229 from rfl, filt_cut nmFLaw 580 116 229, nmLaw5]
 rw [show 580 + 116 = (696 : Nat) from rfl, show (229 : Nat) = 116 + 113 from rfl, filt_cut nmFLaw 696 116 113, nmLaw6]
 rw [show 696 + 116 = (812 : Nat) from rfl, nmLaw7]
 rfl
end Go.Proofs
namespace Go.Proofs
open Go
set_option maxRecDepth 100000
theorem token_mk {P : Program} {f : Nat} {fn : Func} {n : String} {bs : List UInt8} (t : TypeId) (h1 : P.funcs[f]? = some fn) (h2 : fn.name = n) (h3 : P.funcNamed n = some f) (h4 : n.toUTF8.data.toList = bs) : funcToken P (t, .func (.func f) #[] #[]) = bs := by
 unfold funcToken
 simp only [h1, h2, h3]
 simpa using h4
theorem varsId_mk {P : Program} {f : Nat} (h : P.funcNamed "gosem.cut.vars" = some f) : varsId P = f := by
 unfold varsId
 rw [h]; rfl
theorem fbVar : varsId Tryz.prog = 924 := varsId_mk fbNVars
theorem fbNmForw : Tryz.f901.name = "(skald/saga.Saga).forward" := by kernel_rfl
theorem fbByForw : "(skald/saga.Saga).forward".toUTF8.data.toList = [40, 115, 107, 97, 108, 100, 47, 115, 97, 103, 97, 46, 83, 97, 103, 97, 41, 46, 102, 111, 114, 119, 97, 114, 100] := by kernel_rfl
theorem fbTokForw (t : TypeId) : funcToken Tryz.prog (t, .func (.func 901) #[] #[]) = [40, 115, 107, 97, 108, 100, 47, 115, 97, 103, 97, 46, 83, 97, 103, 97, 41, 46, 102, 111, 114, 119, 97, 114, 100] := token_mk t Tryz.func901 fbNmForw fbNForw fbByForw
theorem fbNmFree : Tryz.f902.name = "(skald/saga.Saga).free" := by kernel_rfl
theorem fbByFree : "(skald/saga.Saga).free".toUTF8.data.toList = [40, 115, 107, 97, 108, 100, 47, 115, 97, 103, 97, 46, 83, 97, 103, 97, 41, 46, 102, 114, 101, 101] := by kernel_rfl
theorem fbTokFree (t : TypeId) : funcToken Tryz.prog (t, .func (.func 902) #[] #[]) = [40, 115, 107, 97, 108, 100, 47, 115, 97, 103, 97, 46, 83, 97, 103, 97, 41, 46, 102, 114, 101, 101] := token_mk t Tryz.func902 fbNmFree fbNFree fbByFree
theorem fbNmUndo : Tryz.f903.name = "(skald/saga.Saga).undo" := by kernel_rfl
theorem fbByUndo : "(skald/saga.Saga).undo".toUTF8.data.toList = [40, 115, 107, 97, 108, 100, 47, 115, 97, 103, 97, 46, 83, 97, 103, 97, 41, 46, 117, 110, 100, 111] := by kernel_rfl
theorem fbTokUndo (t : TypeId) : funcToken Tryz.prog (t, .func (.func 903) #[] #[]) = [40, 115, 107, 97, 108, 100, 47, 115, 97, 103, 97, 46, 83, 97, 103, 97, 41, 46, 117, 110, 100, 111] := token_mk t Tryz.func903 fbNmUndo fbNUndo fbByUndo
def funcsRunE (enc : TypeId × Value → List UInt8) (P : Program) (w : World) (fuel : Nat) : List String → Option (List (DataW (List UInt8)))
 | [] => some []
 | n :: ns =>
  match P.globalNamed n with
  | some g =>
   match (P.globals[g]?).map (·.type), w.var? P n with
   | some t, some cs =>
    match DataW.trod enc P w 0 (fun _ => true) true fuel t cs.toList, funcsRunE enc P w fuel ns with
    | some x, some y => some (x.1 :: y)
    | _, _ => none
   | _, _ => none
  | none => none
theorem funcsRunE_eq (P : Program) (w : World) (fuel : Nat) : ∀ l, funcsRun P w fuel l = funcsRunE (funcToken P) P w fuel l
 | [] => rfl
 | n :: ns => by
  unfold funcsRun funcsRunE
  rw [funcsRunE_eq P w fuel ns]
  cases P.globalNamed n with
  | none => rfl
  | some g =>
   simp only
   cases (P.globals[g]?).map (·.type) with
   | none => rfl
   | some t =>
    cases w.var? P n with
    | none => rfl
    | some cs =>
     simp only
     cases DataW.trod (funcToken P) P w 0 (fun _ => true) true fuel t cs.toList with
     | none => rfl
     | some x => cases funcsRunE (funcToken P) P w fuel ns <;> rfl
noncomputable def doorThen {α : Type} (P : Program) (n : Nat) (os : Os) (tape : Tape) (g : FuncId) (k : World → Option α) : Option α :=
 match runN P n (Machine.entering P (World.unlaid P os) tape g ⟨#[], #[], []⟩) with
 | .ended (.done _) w => k w
 | _ => none
noncomputable def doorData (P : Program) (fuel M : Nat) (laid : List (String × DataW Unit)) (w : World) : Option (List (String × DataW Unit)) :=
 (DataW.laidRun P w.memory fuel ((laid.filter fun x => x.2.handleName?.isNone).map (·.1))).bind fun x =>
  if nodupBits M x.2 0 && laidRowsB P w.memory x.2 && (laid.filter fun x => x.2.handleName?.isSome && x.2.funcsIn?.isNone).all (handleAtB P w.memory) then some x.1 else none
noncomputable def doorFuncs (enc : TypeId × Value → List UInt8) (P : Program) (fuel : Nat) (laid : List (String × DataW Unit)) (w : World) : Option (List (DataW (List UInt8))) := funcsRunE enc P w.memory fuel ((funcsListed laid).map (·.1))
theorem doorLeaves_mk {P : Program} {n fuel M : Nat} {laid : List (String × DataW Unit)} {os : Os} {tape : Tape} {g : FuncId} {A : List (String × DataW Unit)} {B : List (DataW (List UInt8))} (hg : varsId P = g)
  (h1 : doorThen P n os tape g (doorData P fuel M laid) = some A) (h2 : doorThen P n os tape g (doorFuncs (funcToken P) P fuel laid) = some B) : doorLeaves P n fuel M laid os tape = some (A, B) := by
 unfold doorLeaves
 unfold doorThen at h1 h2
 rw [hg]
 split at h1
 ·rename_i v w hr
  rw [hr] at h2 ⊢
  unfold doorData at h1
  unfold doorFuncs at h2
  simp only at h1 h2 ⊢
  cases hx : DataW.laidRun P w.memory fuel ((laid.filter fun x => x.2.handleName?.isNone).map (·.1)) with
  | none => rw [hx] at h1; simp at h1
  | some x =>
   rw [hx] at h1
   simp only [Option.bind_some] at h1 ⊢
   split at h1
   ·rename_i hc
    rw [if_pos hc, funcsRunE_eq, h2]
    simp only [Option.some.injEq] at h1
    rw [h1]; rfl
   ·simp at h1
 ·simp at h1
end Go.Proofs
