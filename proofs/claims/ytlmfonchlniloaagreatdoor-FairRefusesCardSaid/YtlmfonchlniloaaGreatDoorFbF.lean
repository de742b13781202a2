/-
  Functions by their names, in pieces; what the door leaves, its data and its functions apart.
-/
import Derived.Test.YtlmfonchlniloaaGreatDoorProg
import GoSem.Claims
import Derived.KernelRfl
import Derived.LaidOnce
import Derived.LaidHandle
set_option linter.unusedSimpArgs false
set_option linter.unusedVariables false
namespace Go.Proofs
open Go
set_option maxRecDepth 100000
theorem named_mk {P : Program} {n : String} {N i : Nat} (hs : P.funcs.size = N) (h : (List.range' 0 N).filter (fun i => (P.funcs[i]?).any (·.name == n)) = [i]) : P.funcNamed n = some i := by
  unfold Program.funcNamed
  rw [hs, List.range_eq_range', h]
theorem filt_cut (p : Nat → Bool) (a b c : Nat) : (List.range' a (b + c)).filter p = (List.range' a b).filter p ++ (List.range' (a + b) c).filter p := by
  rw [← List.filter_append, List.range'_append_1]
theorem fbNS : Tryz.prog.funcs.size = 910 := by kernel_rfl
noncomputable def nmFVars (i : Nat) : Bool := (Tryz.prog.funcs[i]?).any (·.name == "gosem.cut.vars")
theorem nmVars0 : (List.range' 0 114).filter nmFVars = [] := by kernel_rfl
theorem nmVars1 : (List.range' 114 114).filter nmFVars = [] := by kernel_rfl
theorem nmVars2 : (List.range' 228 114).filter nmFVars = [] := by kernel_rfl
theorem nmVars3 : (List.range' 342 114).filter nmFVars = [] := by kernel_rfl
theorem nmVars4 : (List.range' 456 114).filter nmFVars = [] := by kernel_rfl
theorem nmVars5 : (List.range' 570 114).filter nmFVars = [] := by kernel_rfl
theorem nmVars6 : (List.range' 684 114).filter nmFVars = [] := by kernel_rfl
theorem nmVars7 : (List.range' 798 112).filter nmFVars = [909] := by kernel_rfl
theorem fbNVars : Tryz.prog.funcNamed "gosem.cut.vars" = some 909 := by
  refine named_mk fbNS ?_
  show (List.range' 0 910).filter nmFVars = _
  rw [show (910 : Nat) = 114 + 796 from rfl, filt_cut nmFVars 0 114 796, nmVars0]
  rw [show 0 + 114 = (114 : Nat) from rfl, show (796 : Nat) = 114 + 682 from rfl, filt_cut nmFVars 114 114 682, nmVars1]
  rw [show 114 + 114 = (228 : Nat) from rfl, show (682 : Nat) = 114 + 568 from rfl, filt_cut nmFVars 228 114 568, nmVars2]
  rw [show 228 + 114 = (342 : Nat) from rfl, show (568 : Nat) = 114 + 454 from rfl, filt_cut nmFVars 342 114 454, nmVars3]
  rw [show 342 + 114 = (456 : Nat) from rfl, show (454 : Nat) = 114 + 340 from rfl, filt_cut nmFVars 456 114 340, nmVars4]
  rw [show 456 + 114 = (570 : Nat) from rfl, show (340 : Nat) = 114 + 226 from rfl, filt_cut nmFVars 570 114 226, nmVars5]
  rw [show 570 + 114 = (684 : Nat) from rfl, show (226 : Nat) = 114 + 112 from rfl, filt_cut nmFVars 684 114 112, nmVars6]
  rw [show 684 + 114 = (798 : Nat) from rfl, nmVars7]
  rfl
end Go.Proofs

namespace Go.Proofs
open Go
set_option maxRecDepth 100000
noncomputable def nmFForw (i : Nat) : Bool := (Tryz.prog.funcs[i]?).any (·.name == "(skald/saga.Saga).forward")
theorem nmForw0 : (List.range' 0 114).filter nmFForw = [] := by kernel_rfl
theorem nmForw1 : (List.range' 114 114).filter nmFForw = [] := by kernel_rfl
theorem nmForw2 : (List.range' 228 114).filter nmFForw = [] := by kernel_rfl
theorem nmForw3 : (List.range' 342 114).filter nmFForw = [] := by kernel_rfl
theorem nmForw4 : (List.range' 456 114).filter nmFForw = [] := by kernel_rfl
theorem nmForw5 : (List.range' 570 114).filter nmFForw = [] := by kernel_rfl
theorem nmForw6 : (List.range' 684 114).filter nmFForw = [] := by kernel_rfl
theorem nmForw7 : (List.range' 798 112).filter nmFForw = [886] := by kernel_rfl
theorem fbNForw : Tryz.prog.funcNamed "(skald/saga.Saga).forward" = some 886 := by
  refine named_mk fbNS ?_
  show (List.range' 0 910).filter nmFForw = _
  rw [show (910 : Nat) = 114 + 796 from rfl, filt_cut nmFForw 0 114 796, nmForw0]
  rw [show 0 + 114 = (114 : Nat) from rfl, show (796 : Nat) = 114 + 682 from rfl, filt_cut nmFForw 114 114 682, nmForw1]
  rw [show 114 + 114 = (228 : Nat) from rfl, show (682 : Nat) = 114 + 568 from rfl, filt_cut nmFForw 228 114 568, nmForw2]
  rw [show 228 + 114 = (342 : Nat) from rfl, show (568 : Nat) = 114 + 454 from rfl, filt_cut nmFForw 342 114 454, nmForw3]
  rw [show 342 + 114 = (456 : Nat) from rfl, show (454 : Nat) = 114 + 340 from rfl, filt_cut nmFForw 456 114 340, nmForw4]
  rw [show 456 + 114 = (570 : Nat) from rfl, show (340 : Nat) = 114 + 226 from rfl, filt_cut nmFForw 570 114 226, nmForw5]
  rw [show 570 + 114 = (684 : Nat) from rfl, show (226 : Nat) = 114 + 112 from rfl, filt_cut nmFForw 684 114 112, nmForw6]
  rw [show 684 + 114 = (798 : Nat) from rfl, nmForw7]
  rfl
noncomputable def nmFFree (i : Nat) : Bool := (Tryz.prog.funcs[i]?).any (·.name == "(skald/saga.Saga).free")
theorem nmFree0 : (List.range' 0 114).filter nmFFree = [] := by kernel_rfl
theorem nmFree1 : (List.range' 114 114).filter nmFFree = [] := by kernel_rfl
theorem nmFree2 : (List.range' 228 114).filter nmFFree = [] := by kernel_rfl
theorem nmFree3 : (List.range' 342 114).filter nmFFree = [] := by kernel_rfl
theorem nmFree4 : (List.range' 456 114).filter nmFFree = [] := by kernel_rfl
theorem nmFree5 : (List.range' 570 114).filter nmFFree = [] := by kernel_rfl
theorem nmFree6 : (List.range' 684 114).filter nmFFree = [] := by kernel_rfl
theorem nmFree7 : (List.range' 798 112).filter nmFFree = [887] := by kernel_rfl
theorem fbNFree : Tryz.prog.funcNamed "(skald/saga.Saga).free" = some 887 := by
  refine named_mk fbNS ?_
  show (List.range' 0 910).filter nmFFree = _
  rw [show (910 : Nat) = 114 + 796 from rfl, filt_cut nmFFree 0 114 796, nmFree0]
  rw [show 0 + 114 = (114 : Nat) from rfl, show (796 : Nat) = 114 + 682 from rfl, filt_cut nmFFree 114 114 682, nmFree1]
  rw [show 114 + 114 = (228 : Nat) from rfl, show (682 : Nat) = 114 + 568 from rfl, filt_cut nmFFree 228 114 568, nmFree2]
  rw [show 228 + 114 = (342 : Nat) from rfl, show (568 : Nat) = 114 + 454 from rfl, filt_cut nmFFree 342 114 454, nmFree3]
  rw [show 342 + 114 = (456 : Nat) from rfl, show (454 : Nat) = 114 + 340 from rfl, filt_cut nmFFree 456 114 340, nmFree4]
  rw [show 456 + 114 = (570 : Nat) from rfl, show (340 : Nat) = 114 + 226 from rfl, filt_cut nmFFree 570 114 226, nmFree5]
  rw [show 570 + 114 = (684 : Nat) from rfl, show (226 : Nat) = 114 + 112 from rfl, filt_cut nmFFree 684 114 112, nmFree6]
  rw [show 684 + 114 = (798 : Nat) from rfl, nmFree7]
  rfl
end Go.Proofs

namespace Go.Proofs
open Go
set_option maxRecDepth 100000
noncomputable def nmFUndo (i : Nat) : Bool := (Tryz.prog.funcs[i]?).any (·.name == "(skald/saga.Saga).undo")
theorem nmUndo0 : (List.range' 0 114).filter nmFUndo = [] := by kernel_rfl
theorem nmUndo1 : (List.range' 114 114).filter nmFUndo = [] := by kernel_rfl
theorem nmUndo2 : (List.range' 228 114).filter nmFUndo = [] := by kernel_rfl
theorem nmUndo3 : (List.range' 342 114).filter nmFUndo = [] := by kernel_rfl
theorem nmUndo4 : (List.range' 456 114).filter nmFUndo = [] := by kernel_rfl
theorem nmUndo5 : (List.range' 570 114).filter nmFUndo = [] := by kernel_rfl
theorem nmUndo6 : (List.range' 684 114).filter nmFUndo = [] := by kernel_rfl
theorem nmUndo7 : (List.range' 798 112).filter nmFUndo = [888] := by kernel_rfl
theorem fbNUndo : Tryz.prog.funcNamed "(skald/saga.Saga).undo" = some 888 := by
  refine named_mk fbNS ?_
  show (List.range' 0 910).filter nmFUndo = _
  rw [show (910 : Nat) = 114 + 796 from rfl, filt_cut nmFUndo 0 114 796, nmUndo0]
  rw [show 0 + 114 = (114 : Nat) from rfl, show (796 : Nat) = 114 + 682 from rfl, filt_cut nmFUndo 114 114 682, nmUndo1]
  rw [show 114 + 114 = (228 : Nat) from rfl, show (682 : Nat) = 114 + 568 from rfl, filt_cut nmFUndo 228 114 568, nmUndo2]
  rw [show 228 + 114 = (342 : Nat) from rfl, show (568 : Nat) = 114 + 454 from rfl, filt_cut nmFUndo 342 114 454, nmUndo3]
  rw [show 342 + 114 = (456 : Nat) from rfl, show (454 : Nat) = 114 + 340 from rfl, filt_cut nmFUndo 456 114 340, nmUndo4]
  rw [show 456 + 114 = (570 : Nat) from rfl, show (340 : Nat) = 114 + 226 from rfl, filt_cut nmFUndo 570 114 226, nmUndo5]
  rw [show 570 + 114 = (684 : Nat) from rfl, show (226 : Nat) = 114 + 112 from rfl, filt_cut nmFUndo 684 114 112, nmUndo6]
  rw [show 684 + 114 = (798 : Nat) from rfl, nmUndo7]
  rfl
noncomputable def nmFLaw (i : Nat) : Bool := (Tryz.prog.funcs[i]?).any (·.name == "skald/skaldlaw45.FairRefuses")
theorem nmLaw0 : (List.range' 0 114).filter nmFLaw = [3] := by kernel_rfl
theorem nmLaw1 : (List.range' 114 114).filter nmFLaw = [] := by kernel_rfl
theorem nmLaw2 : (List.range' 228 114).filter nmFLaw = [] := by kernel_rfl
theorem nmLaw3 : (List.range' 342 114).filter nmFLaw = [] := by kernel_rfl
theorem nmLaw4 : (List.range' 456 114).filter nmFLaw = [] := by kernel_rfl
theorem nmLaw5 : (List.range' 570 114).filter nmFLaw = [] := by kernel_rfl
theorem nmLaw6 : (List.range' 684 114).filter nmFLaw = [] := by kernel_rfl
theorem nmLaw7 : (List.range' 798 112).filter nmFLaw = [] := by kernel_rfl
theorem fbNLaw : Tryz.prog.funcNamed "skald/skaldlaw45.FairRefuses" = some 3 := by
  refine named_mk fbNS ?_
  show (List.range' 0 910).filter nmFLaw = _
  rw [show (910 : Nat) = 114 + 796 from rfl, filt_cut nmFLaw 0 114 796, nmLaw0]
  rw [show 0 + 114 = (114 : Nat) from rfl, show (796 : Nat) = 114 + 682 from rfl, filt_cut nmFLaw 114 114 682, nmLaw1]
  rw [show 114 + 114 = (228 : Nat) from rfl, show (682 : Nat) = 114 + 568 from rfl, filt_cut nmFLaw 228 114 568, nmLaw2]
  rw [show 228 + 114 = (342 : Nat) from rfl, show (568 : Nat) = 114 + 454 from rfl, filt_cut nmFLaw 342 114 454, nmLaw3]
  rw [show 342 + 114 = (456 : Nat) from rfl, show (454 : Nat) = 114 + 340 from rfl, filt_cut nmFLaw 456 114 340, nmLaw4]
  rw [show 456 + 114 = (570 : Nat) from rfl, show (340 : Nat) = 114 + 226 from rfl, filt_cut nmFLaw 570 114 226, nmLaw5]
  rw [show 570 + 114 = (684 : Nat) from rfl, show (226 : Nat) = 114 + 112 from rfl, filt_cut nmFLaw 684 114 112, nmLaw6]
  rw [show 684 + 114 = (798 : Nat) from rfl, nmLaw7]
  rfl
end Go.Proofs

namespace Go.Proofs
open Go
set_option maxRecDepth 100000
theorem token_mk {P : Program} {f : Nat} {fn : Func} {n : String} {bs : List UInt8} (t : TypeId) (h1 : P.funcs[f]? = some fn) (h2 : fn.name = n) (h3 : P.funcNamed n = some f) (h4 : n.toUTF8.data.toList = bs) : funcToken P (t, .func (.func f) #[] #[]) = bs := by
  unfold funcToken
  simp only [h1, h2, h3]
  simpa using h4
theorem varsId_mk {P : Program} {f : Nat} (h : P.funcNamed "gosem.cut.vars" = some f) : varsId P = f := by
  unfold varsId
  rw [h]; rfl
theorem fbVar : varsId Tryz.prog = 909 := varsId_mk fbNVars
theorem fbNmForw : Tryz.f886.name = "(skald/saga.Saga).forward" := by kernel_rfl
theorem fbByForw : "(skald/saga.Saga).forward".toUTF8.data.toList = [40, 115, 107, 97, 108, 100, 47, 115, 97, 103, 97, 46, 83, 97, 103, 97, 41, 46, 102, 111, 114, 119, 97, 114, 100] := by kernel_rfl
theorem fbTokForw (t : TypeId) : funcToken Tryz.prog (t, .func (.func 886) #[] #[]) = [40, 115, 107, 97, 108, 100, 47, 115, 97, 103, 97, 46, 83, 97, 103, 97, 41, 46, 102, 111, 114, 119, 97, 114, 100] := token_mk t Tryz.func886 fbNmForw fbNForw fbByForw
theorem fbNmFree : Tryz.f887.name = "(skald/saga.Saga).free" := by kernel_rfl
theorem fbByFree : "(skald/saga.Saga).free".toUTF8.data.toList = [40, 115, 107, 97, 108, 100, 47, 115, 97, 103, 97, 46, 83, 97, 103, 97, 41, 46, 102, 114, 101, 101] := by kernel_rfl
theorem fbTokFree (t : TypeId) : funcToken Tryz.prog (t, .func (.func 887) #[] #[]) = [40, 115, 107, 97, 108, 100, 47, 115, 97, 103, 97, 46, 83, 97, 103, 97, 41, 46, 102, 114, 101, 101] := token_mk t Tryz.func887 fbNmFree fbNFree fbByFree
theorem fbNmUndo : Tryz.f888.name = "(skald/saga.Saga).undo" := by kernel_rfl
theorem fbByUndo : "(skald/saga.Saga).undo".toUTF8.data.toList = [40, 115, 107, 97, 108, 100, 47, 115, 97, 103, 97, 46, 83, 97, 103, 97, 41, 46, 117, 110, 100, 111] := by kernel_rfl
theorem fbTokUndo (t : TypeId) : funcToken Tryz.prog (t, .func (.func 888) #[] #[]) = [40, 115, 107, 97, 108, 100, 47, 115, 97, 103, 97, 46, 83, 97, 103, 97, 41, 46, 117, 110, 100, 111] := token_mk t Tryz.func888 fbNmUndo fbNUndo fbByUndo
/-- the reading of variables that hold functions, with any reading of a function -/
def funcsRunE (enc : TypeId × Value → List UInt8) (P : Program) (w : World) (fuel : Nat) : List String → Option (List (DataW (List UInt8)))
  | [] => some []
  | n :: ns =>
    match P.globalNamed n with
    | some g =>
      match (P.globals[g]?).map (·.type), w.var? P n with
      | some t, some cs =>
        match DataW.trod enc P w 0 (fun _ => true) true fuel t cs.toList, funcsRunE enc P w fuel ns with
        | some x, some y => some (x.1 :: y)
        | _, _ => none
      | _, _ => none
    | none => none
theorem funcsRunE_eq (P : Program) (w : World) (fuel : Nat) : ∀ l, funcsRun P w fuel l = funcsRunE (funcToken P) P w fuel l
  | [] => rfl
  | n :: ns => by
    unfold funcsRun funcsRunE
    rw [funcsRunE_eq P w fuel ns]
    cases P.globalNamed n with
    | none => rfl
    | some g =>
      simp only
      cases (P.globals[g]?).map (·.type) with
      | none => rfl
      | some t =>
        cases w.var? P n with
        | none => rfl
        | some cs =>
          simp only
          cases DataW.trod (funcToken P) P w 0 (fun _ => true) true fuel t cs.toList with
          | none => rfl
          | some x => cases funcsRunE (funcToken P) P w fuel ns <;> rfl
/-- what is asked of the world that the door leaves -/
noncomputable def doorThen {α : Type} (P : Program) (n : Nat) (os : Os) (tape : Tape) (g : FuncId) (k : World → Option α) : Option α :=
  match runN P n (Machine.entering P (World.unlaid P os) tape g ⟨#[], #[], []⟩) with
  | .ended (.done _) w => k w
  | _ => none
noncomputable def doorData (P : Program) (fuel M : Nat) (laid : List (String × DataW Unit)) (w : World) : Option (List (String × DataW Unit)) :=
  (DataW.laidRun P w.memory fuel ((laid.filter fun x => x.2.handleName?.isNone).map (·.1))).bind fun x =>
    if nodupBits M x.2 0 && laidRowsB P w.memory x.2 && (laid.filter fun x => x.2.handleName?.isSome && x.2.funcsIn?.isNone).all (handleAtB P w.memory) then some x.1 else none
noncomputable def doorFuncs (enc : TypeId × Value → List UInt8) (P : Program) (fuel : Nat) (laid : List (String × DataW Unit)) (w : World) : Option (List (DataW (List UInt8))) := funcsRunE enc P w.memory fuel ((funcsListed laid).map (·.1))
theorem doorLeaves_mk {P : Program} {n fuel M : Nat} {laid : List (String × DataW Unit)} {os : Os} {tape : Tape} {g : FuncId} {A : List (String × DataW Unit)} {B : List (DataW (List UInt8))} (hg : varsId P = g)
    (h1 : doorThen P n os tape g (doorData P fuel M laid) = some A) (h2 : doorThen P n os tape g (doorFuncs (funcToken P) P fuel laid) = some B) : doorLeaves P n fuel M laid os tape = some (A, B) := by
  unfold doorLeaves
  unfold doorThen at h1 h2
  rw [hg]
  split at h1
  · rename_i v w hr
    rw [hr] at h2 ⊢
    unfold doorData at h1
    unfold doorFuncs at h2
    simp only at h1 h2 ⊢
    cases hx : DataW.laidRun P w.memory fuel ((laid.filter fun x => x.2.handleName?.isNone).map (·.1)) with
    | none => rw [hx] at h1; simp at h1
    | some x =>
      rw [hx] at h1
      simp only [Option.bind_some] at h1 ⊢
      split at h1
      · rename_i hc
        rw [if_pos hc, funcsRunE_eq, h2]
        simp only [Option.some.injEq] at h1
        rw [h1]; rfl
      · simp at h1
  · simp at h1
end Go.Proofs
