/-
  Functions by their names, in pieces; what the door leaves, its data and its functions apart.
-/
import Derived.Test.YthfkhidmeeajfaaGreatDoorProg
import GoSem.Claims
import Derived.KernelRfl
import Derived.LaidOnce
import Derived.LaidHandle
set_option linter.unusedSimpArgs false
set_option linter.unusedVariables false
namespace Go.Proofs
open Go
set_option maxRecDepth 100000
theorem z8e {P : Program} {n : String} {N i : Nat} (hs : P.funcs.size = N) (h : (List.range' 0 N).filter (fun i => (P.funcs[i]?).any (·.name == n)) = [i]) : P.funcNamed n = some i := by
 unfold Program.funcNamed
 rw [hs, List.range_eq_range', h]
theorem z0Q (p : Nat → Bool) (a b c : Nat) : (List.range' a (b + c)).filter p = (List.range' a b).filter p ++ (List.range' (a + b) c).filter p := by
 rw [← List.filter_append, List.range'_append_1]
theorem fbNS : Tryz.prog.funcs.size = 931 := by kernel_rfl
noncomputable def z2S (i : Nat) : Bool := (Tryz.prog.funcs[i]?).any (·.name == "gosem.cut.vars")
theorem k1i : (List.range' 0 117).filter z2S = [] := by kernel_rfl
theorem k1j : (List.range' 117 117).filter z2S = [] := by kernel_rfl
theorem k1k : (List.range' 234 117).filter z2S = [] := by kernel_rfl
theorem k1l : (List.range' 351 117).filter z2S = [] := by kernel_rfl
theorem k1m : (List.range' 468 117).filter z2S = [] := by kernel_rfl
theorem k1n : (List.range' 585 117).filter z2S = [] := by kernel_rfl
theorem k1o : (List.range' 702 117).filter z2S = [] := by kernel_rfl
theorem k1p : (List.range' 819 112).filter z2S = [930] := by kernel_rfl
theorem j2r : Tryz.prog.funcNamed "gosem.cut.vars" = some 930 := by
 refine z8e fbNS ?_
 show (List.range' 0 931).filter z2S = _
 rw [show (931 : Nat) = 117 + 814 from rfl, z0Q z2S 0 117 814, k1i]
 rw [show 0 + 117 = (117 : Nat) from rfl, show (814 : Nat) = 117 + 697 from rfl, z0Q z2S 117 117 697, k1j]
 rw [show 117 + 117 = (234 : Nat) from rfl, show (697 : Nat) = 117 + 580 from rfl, z0Q z2S 234 117 580, k1k]
 rw [show 234 + 117 = (351 : Nat) from rfl, show (580 : Nat) = 117 + 463 from rfl, z0Q z2S 351 117 463, k1l]
 rw [show 351 + 117 = (468 : Nat) from rfl, show (463 : Nat) = 117 + 346 from rfl, z0Q z2S 468 117 346, k1m]
 rw [show 468 + 117 = (585 : Nat) from rfl, show (346 : Nat) = 117 + 229 from rfl, z0Q z2S 585 117 229, k1n]
 rw [show 585 + 117 = (702 : Nat) from rfl, show (229 : Nat) = 117 + 112 from rfl, z0Q z2S 702 117 112, k1o]
 rw [show 702 + 117 = (819 : Nat) from rfl, k1p]
 rfl
end Go.Proofs
namespace Go.Proofs
open Go
set_option maxRecDepth 100000
noncomputable def z2T (i : Nat) : Bool := (Tryz.prog.funcs[i]?).any (·.name == "(skald/saga.Saga).forward")
theorem k1q : (List.range' 0 117).filter z2T = [] := by kernel_rfl
theorem k1r : (List.range' 117 117).filter z2T = [] := by kernel_rfl
theorem k1s : (List.range' 234 117).filter z2T = [] := by kernel_rfl
theorem k1t : (List.range' 351 117).filter z2T = [] := by kernel_rfl
theorem k1u : (List.range' 468 117).filter z2T = [] := by kernel_rfl
theorem k1v : (List.range' 585 117).filter z2T = [] := by kernel_rfl
theorem k1w : (List.range' 702 117).filter z2T = [] := by kernel_rfl
theorem k1x : (List.range' 819 112).filter z2T = [907] := by kernel_rfl
theorem k1y : Tryz.prog.funcNamed "(skald/saga.Saga).forward" = some 907 := by
 refine z8e fbNS ?_
 show (List.range' 0 931).filter z2T = _
 rw [show (931 : Nat) = 117 + 814 from rfl, z0Q z2T 0 117 814, k1q]
 rw [show 0 + 117 = (117 : Nat) from rfl, show (814 : Nat) = 117 + 697 from rfl, z0Q z2T 117 117 697, k1r]
 rw [show 117 + 117 = (234 : Nat) from rfl, show (697 : Nat) = 117 + 580 from rfl, z0Q z2T 234 117 580, k1s]
 rw [show 234 + 117 = (351 : Nat) from rfl, show (580 : Nat) = 117 + 463 from rfl, z0Q z2T 351 117 463, k1t]
 rw [show 351 + 117 = (468 : Nat) from rfl, show (463 : Nat) = 117 + 346 from rfl, z0Q z2T 468 117 346, k1u]
 rw [show 468 + 117 = (585 : Nat) from rfl, show (346 : Nat) = 117 + 229 from rfl, z0Q z2T 585 117 229, k1v]
 rw [show 585 + 117 = (702 : Nat) from rfl, show (229 : Nat) = 117 + 112 from rfl, z0Q z2T 702 117 112, k1w]
 rw [show 702 + 117 = (819 : Nat) from rfl, k1x]
 rfl
noncomputable def z2U (i : Nat) : Bool := (Tryz.prog.funcs[i]?).any (·.name == "(skald/saga.Saga).free")
theorem k1z : (List.range' 0 117).filter z2U = [] := by kernel_rfl
theorem k1A : (List.range' 117 117).filter z2U = [] := by kernel_rfl
theorem k1B : (List.range' 234 117).filter z2U = [] := by kernel_rfl
theorem k1C : (List.range' 351 117).filter z2U = [] := by kernel_rfl
theorem k1D : (List.range' 468 117).filter z2U = [] := by kernel_rfl
theorem k1E : (List.range' 585 117).filter z2U = [] := by kernel_rfl
theorem k1F : (List.range' 702 117).filter z2U = [] := by kernel_rfl
theorem k1G : (List.range' 819 112).filter z2U = [908] := by kernel_rfl
theorem k1H : Tryz.prog.funcNamed "(skald/saga.Saga).free" = some 908 := by
 refine z8e fbNS ?_
 show (List.range' 0 931).filter z2U = _
 rw [show (931 : Nat) = 117 + 814 from rfl, z0Q z2U 0 117 814, k1z]
 rw [show 0 + 117 = (117 : Nat) from rfl, show (814 : Nat) = 117 + 697 from rfl, z0Q z2U 117 117 697, k1A]
 rw [show 117 + 117 = (234 : Nat) from rfl, show (697 : Nat) = 117 + 580 from rfl, z0Q z2U 234 117 580, k1B]
 rw [show 234 + 117 = (351 : Nat) from rfl, show (580 : Nat) = 117 + 463 from rfl, z0Q z2U 351 117 463, k1C]
 rw [show 351 + 117 = (468 : Nat) from rfl, show (463 : Nat) = 117 + 346 from rfl, z0Q z2U 468 117 346, k1D]
 rw [show 468 + 117 = (585 : Nat) from rfl, show (346 : Nat) = 117 + 229 from rfl, z0Q z2U 585 117 229, k1E]
 rw [show 585 + 117 = (702 : Nat) from rfl, show (229 : Nat) = 117 + 112 from rfl, z0Q z2U 702 117 112, k1F]
 rw [show 702 + 117 = (819 : Nat) from rfl, k1G]
 rfl
end Go.Proofs
namespace Go.Proofs
open Go
set_option maxRecDepth 100000
noncomputable def z2V (i : Nat) : Bool := (Tryz.prog.funcs[i]?).any (·.name == "(skald/saga.Saga).undo")
theorem k1I : (List.range' 0 117).filter z2V = [] := by kernel_rfl
theorem k1J : (List.range' 117 117).filter z2V = [] := by kernel_rfl
theorem k1K : (List.range' 234 117).filter z2V = [] := by kernel_rfl
theorem k1L : (List.range' 351 117).filter z2V = [] := by kernel_rfl
theorem k1M : (List.range' 468 117).filter z2V = [] := by kernel_rfl
theorem k1N : (List.range' 585 117).filter z2V = [] := by kernel_rfl
theorem k1O : (List.range' 702 117).filter z2V = [] := by kernel_rfl
theorem k1P : (List.range' 819 112).filter z2V = [909] := by kernel_rfl
theorem k1Q : Tryz.prog.funcNamed "(skald/saga.Saga).undo" = some 909 := by
 refine z8e fbNS ?_
 show (List.range' 0 931).filter z2V = _
 rw [show (931 : Nat) = 117 + 814 from rfl, z0Q z2V 0 117 814, k1I]
 rw [show 0 + 117 = (117 : Nat) from rfl, show (814 : Nat) = 117 + 697 from rfl, z0Q z2V 117 117 697, k1J]
 rw [show 117 + 117 = (234 : Nat) from rfl, show (697 : Nat) = 117 + 580 from rfl, z0Q z2V 234 117 580, k1K]
 rw [show 234 + 117 = (351 : Nat) from rfl, show (580 : Nat) = 117 + 463 from rfl, z0Q z2V 351 117 463, k1L]
 rw [show 351 + 117 = (468 : Nat) from rfl, show (463 : Nat) = 117 + 346 from rfl, z0Q z2V 468 117 346, k1M]
 rw [show 468 + 117 = (585 : Nat) from rfl, show (346 : Nat) = 117 + 229 from rfl, z0Q z2V 585 117 229, k1N]
 rw [show 585 + 117 = (702 : Nat) from rfl, show (229 : Nat) = 117 + 112 from rfl, z0Q z2V 702 117 112, k1O]
 rw [show 702 + 117 = (819 : Nat) from rfl, k1P]
 rfl
noncomputable def z4i (i : Nat) : Bool := (Tryz.prog.funcs[i]?).any (·.name == "skald/skaldlaw42.PlayTexts")
theorem k4X : (List.range' 0 117).filter z4i = [3] := by kernel_rfl
theorem k4Y : (List.range' 117 117).filter z4i = [] := by kernel_rfl
theorem k4Z : (List.range' 234 117).filter z4i = [] := by kernel_rfl
theorem k5a : (List.range' 351 117).filter z4i = [] := by kernel_rfl
theorem k5b : (List.range' 468 117).filter z4i = [] := by kernel_rfl
theorem k5c : (List.range' 585 117).filter z4i = [] := by kernel_rfl
theorem k5d : (List.range' 702 117).filter z4i = [] := by kernel_rfl
theorem k5e : (List.range' 819 112).filter z4i = [] := by kernel_rfl
theorem fbNLaw : Tryz.prog.funcNamed "skald/skaldlaw42.PlayTexts" = some 3 := by
 refine z8e fbNS ?_
 show (List.range' 0 931).filter z4i = _
 rw [show (931 : Nat) = 117 + 814 from rfl, z0Q z4i 0 117 814, k4X]
 rw [show 0 + 117 = (117 : Nat) from rfl, show (814 : Nat) = 117 + 697 from rfl, z0Q z4i 117 117 697, k4Y]
 rw [show 117 + 117 = (234 : Nat) from rfl, show (697 : Nat) = 117 + 580 from rfl, z0Q z4i 234 117 580, k4Z]
 rw [show 234 + 117 = (351 : Nat) from rfl, show (580 : Nat) = 117 + 463 from rfl, z0Q z4i 351 117 463, k5a]
 rw [show 351 + 117 = (468 : Nat) from rfl, show (463 : Nat) = 117 + 346 from rfl, z0Q z4i 468 117 346, k5b]
 rw [show 468 + 117 = (585 : Nat) from rfl, show (346 : Nat) = 117 + 229 from rfl, z0Q z4i 585 117 229, k5c]
 rw [show 585 + 117 = (702 : Nat) from rfl, show (229 : Nat) = 117 + 112 from rfl, z0Q z4i 702 117 112, k5d]
 rw [show 702 + 117 = (819 : Nat) from rfl, k5e]
 rfl
end Go.Proofs
namespace Go.Proofs
open Go
set_option maxRecDepth 100000
theorem q3t {P : Program} {f : Nat} {fn : Func} {n : String} {bs : List UInt8} (t : TypeId) (h1 : P.funcs[f]? = some fn) (h2 : fn.name = n) (h3 : P.funcNamed n = some f) (h4 : n.toUTF8.data.toList = bs) : funcToken P (t, .func (.func f) #[] #[]) = bs := by
 unfold funcToken
 simp only [h1, h2, h3]
 simpa using h4
theorem j2s {P : Program} {f : Nat} (h : P.funcNamed "gosem.cut.vars" = some f) : varsId P = f := by
 unfold varsId
 rw [h]; rfl
theorem k5f : varsId Tryz.prog = 930 := j2s j2r
theorem j7h : Tryz.f907.name = "(skald/saga.Saga).forward" := by kernel_rfl
theorem j7i : "(skald/saga.Saga).forward".toUTF8.data.toList = [40, 115, 107, 97, 108, 100, 47, 115, 97, 103, 97, 46, 83, 97, 103, 97, 41, 46, 102, 111, 114, 119, 97, 114, 100] := by kernel_rfl
theorem q5b (t : TypeId) : funcToken Tryz.prog (t, .func (.func 907) #[] #[]) = [40, 115, 107, 97, 108, 100, 47, 115, 97, 103, 97, 46, 83, 97, 103, 97, 41, 46, 102, 111, 114, 119, 97, 114, 100] := q3t t Tryz.func907 j7h k1y j7i
theorem j7j : Tryz.f908.name = "(skald/saga.Saga).free" := by kernel_rfl
theorem j7k : "(skald/saga.Saga).free".toUTF8.data.toList = [40, 115, 107, 97, 108, 100, 47, 115, 97, 103, 97, 46, 83, 97, 103, 97, 41, 46, 102, 114, 101, 101] := by kernel_rfl
theorem q5c (t : TypeId) : funcToken Tryz.prog (t, .func (.func 908) #[] #[]) = [40, 115, 107, 97, 108, 100, 47, 115, 97, 103, 97, 46, 83, 97, 103, 97, 41, 46, 102, 114, 101, 101] := q3t t Tryz.func908 j7j k1H j7k
theorem j7l : Tryz.f909.name = "(skald/saga.Saga).undo" := by kernel_rfl
theorem j7m : "(skald/saga.Saga).undo".toUTF8.data.toList = [40, 115, 107, 97, 108, 100, 47, 115, 97, 103, 97, 46, 83, 97, 103, 97, 41, 46, 117, 110, 100, 111] := by kernel_rfl
theorem q5d (t : TypeId) : funcToken Tryz.prog (t, .func (.func 909) #[] #[]) = [40, 115, 107, 97, 108, 100, 47, 115, 97, 103, 97, 46, 83, 97, 103, 97, 41, 46, 117, 110, 100, 111] := q3t t Tryz.func909 j7l k1Q j7m
def z5i (enc : TypeId × Value → List UInt8) (P : Program) (w : World) (fuel : Nat) : List String → Option (List (DataW (List UInt8)))
 | [] => some []
 | n :: ns =>
  match P.globalNamed n with
  | some g =>
   match (P.globals[g]?).map (·.type), w.var? P n with
   | some t, some cs =>
    match DataW.trod enc P w 0 (fun _ => true) true fuel t cs.toList, z5i enc P w fuel ns with
    | some x, some y => some (x.1 :: y)
    | _, _ => none
   | _, _ => none
  | none => none
theorem z6o (P : Program) (w : World) (fuel : Nat) : ∀ l, funcsRun P w fuel l = z5i (funcToken P) P w fuel l
 | [] => rfl
 | n :: ns => by
  unfold funcsRun z5i
  rw [z6o P w fuel ns]
  cases P.globalNamed n with
  | none => rfl
  | some g =>
   simp only
   cases (P.globals[g]?).map (·.type) with
   | none => rfl
   | some t =>
    cases w.var? P n with
    | none => rfl
    | some cs =>
     simp only
     cases DataW.trod (funcToken P) P w 0 (fun _ => true) true fuel t cs.toList with
     | none => rfl
     | some x => cases z5i (funcToken P) P w fuel ns <;> rfl
noncomputable def z8f {α : Type} (P : Program) (n : Nat) (os : Os) (tape : Tape) (g : FuncId) (k : World → Option α) : Option α :=
 match runN P n (Machine.entering P (World.unlaid P os) tape g ⟨#[], #[], []⟩) with
 | .ended (.done _) w => k w
 | _ => none
noncomputable def q3u (P : Program) (fuel M : Nat) (laid : List (String × DataW Unit)) (w : World) : Option (List (String × DataW Unit)) :=
 (DataW.laidRun P w.memory fuel ((laid.filter fun x => x.2.handleName?.isNone).map (·.1))).bind fun x =>
  if nodupBits M x.2 0 && laidRowsB P w.memory x.2 && (laid.filter fun x => x.2.handleName?.isSome && x.2.funcsIn?.isNone).all (handleAtB P w.memory) then some x.1 else none
noncomputable def q0u (enc : TypeId × Value → List UInt8) (P : Program) (fuel : Nat) (laid : List (String × DataW Unit)) (w : World) : Option (List (DataW (List UInt8))) := z5i enc P w.memory fuel ((funcsListed laid).map (·.1))
theorem q3v {P : Program} {n fuel M : Nat} {laid : List (String × DataW Unit)} {os : Os} {tape : Tape} {g : FuncId} {A : List (String × DataW Unit)} {B : List (DataW (List UInt8))} (hg : varsId P = g)
  (h1 : z8f P n os tape g (q3u P fuel M laid) = some A) (h2 : z8f P n os tape g (q0u (funcToken P) P fuel laid) = some B) : doorLeaves P n fuel M laid os tape = some (A, B) := by
 unfold doorLeaves
 unfold z8f at h1 h2
 rw [hg]
 split at h1
 ·rename_i v w hr
  rw [hr] at h2 ⊢
  unfold q3u at h1
  unfold q0u at h2
  simp only at h1 h2 ⊢
  cases hx : DataW.laidRun P w.memory fuel ((laid.filter fun x => x.2.handleName?.isNone).map (·.1)) with
  | none => rw [hx] at h1; simp at h1
  | some x =>
   rw [hx] at h1
   simp only [Option.bind_some] at h1 ⊢
   split at h1
   ·rename_i hc
    rw [if_pos hc, z6o, h2]
    simp only [Option.some.injEq] at h1
    rw [h1]; rfl
   ·simp at h1
 ·simp at h1
end Go.Proofs
