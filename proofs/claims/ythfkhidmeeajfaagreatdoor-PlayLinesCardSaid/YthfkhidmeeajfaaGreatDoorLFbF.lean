/-
  Functions by their names, in pieces; what the door leaves, its data and its functions apart.
-/
import Derived.Test.YthfkhidmeeajfaaGreatDoorProg
import GoSem.Claims
import Derived.KernelRfl
import Derived.LaidOnce
import Derived.LaidHandle
set_option linter.unusedSimpArgs false
set_option linter.unusedVariables false
namespace Go.Proofs
open Go
set_option maxRecDepth 100000
theorem z7r {P : Program} {n : String} {N i : Nat} (hs : P.funcs.size = N) (h : (List.range' 0 N).filter (fun i => (P.funcs[i]?).any (·.name == n)) = [i]) : P.funcNamed n = some i := by
 unfold Program.funcNamed
 rw [hs, List.range_eq_range', h]
theorem z0G (p : Nat → Bool) (a b c : Nat) : (List.range' a (b + c)).filter p = (List.range' a b).filter p ++ (List.range' (a + b) c).filter p := by
 rw [← List.filter_append, List.range'_append_1]
theorem fbNS : Tryz.prog.funcs.size = 931 := by kernel_rfl
noncomputable def z2y (i : Nat) : Bool := (Tryz.prog.funcs[i]?).any (·.name == "gosem.cut.vars")
theorem j9U : (List.range' 0 117).filter z2y = [] := by kernel_rfl
theorem j9V : (List.range' 117 117).filter z2y = [] := by kernel_rfl
theorem j9W : (List.range' 234 117).filter z2y = [] := by kernel_rfl
theorem j9X : (List.range' 351 117).filter z2y = [] := by kernel_rfl
theorem j9Y : (List.range' 468 117).filter z2y = [] := by kernel_rfl
theorem j9Z : (List.range' 585 117).filter z2y = [] := by kernel_rfl
theorem k0a : (List.range' 702 117).filter z2y = [] := by kernel_rfl
theorem k0b : (List.range' 819 112).filter z2y = [930] := by kernel_rfl
theorem j1q : Tryz.prog.funcNamed "gosem.cut.vars" = some 930 := by
 refine z7r fbNS ?_
 show (List.range' 0 931).filter z2y = _
 rw [show (931 : Nat) = 117 + 814 from rfl, z0G z2y 0 117 814, j9U]
 rw [show 0 + 117 = (117 : Nat) from rfl, show (814 : Nat) = 117 + 697 from rfl, z0G z2y 117 117 697, j9V]
 rw [show 117 + 117 = (234 : Nat) from rfl, show (697 : Nat) = 117 + 580 from rfl, z0G z2y 234 117 580, j9W]
 rw [show 234 + 117 = (351 : Nat) from rfl, show (580 : Nat) = 117 + 463 from rfl, z0G z2y 351 117 463, j9X]
 rw [show 351 + 117 = (468 : Nat) from rfl, show (463 : Nat) = 117 + 346 from rfl, z0G z2y 468 117 346, j9Y]
 rw [show 468 + 117 = (585 : Nat) from rfl, show (346 : Nat) = 117 + 229 from rfl, z0G z2y 585 117 229, j9Z]
 rw [show 585 + 117 = (702 : Nat) from rfl, show (229 : Nat) = 117 + 112 from rfl, z0G z2y 702 117 112, k0a]
 rw [show 702 + 117 = (819 : Nat) from rfl, k0b]
 rfl
end Go.Proofs
namespace Go.Proofs
open Go
set_option maxRecDepth 100000
noncomputable def z2z (i : Nat) : Bool := (Tryz.prog.funcs[i]?).any (·.name == "(skald/saga.Saga).forward")
theorem k0c : (List.range' 0 117).filter z2z = [] := by kernel_rfl
theorem k0d : (List.range' 117 117).filter z2z = [] := by kernel_rfl
theorem k0e : (List.range' 234 117).filter z2z = [] := by kernel_rfl
theorem k0f : (List.range' 351 117).filter z2z = [] := by kernel_rfl
theorem k0g : (List.range' 468 117).filter z2z = [] := by kernel_rfl
theorem k0h : (List.range' 585 117).filter z2z = [] := by kernel_rfl
theorem k0i : (List.range' 702 117).filter z2z = [] := by kernel_rfl
theorem k0j : (List.range' 819 112).filter z2z = [907] := by kernel_rfl
theorem k0k : Tryz.prog.funcNamed "(skald/saga.Saga).forward" = some 907 := by
 refine z7r fbNS ?_
 show (List.range' 0 931).filter z2z = _
 rw [show (931 : Nat) = 117 + 814 from rfl, z0G z2z 0 117 814, k0c]
 rw [show 0 + 117 = (117 : Nat) from rfl, show (814 : Nat) = 117 + 697 from rfl, z0G z2z 117 117 697, k0d]
 rw [show 117 + 117 = (234 : Nat) from rfl, show (697 : Nat) = 117 + 580 from rfl, z0G z2z 234 117 580, k0e]
 rw [show 234 + 117 = (351 : Nat) from rfl, show (580 : Nat) = 117 + 463 from rfl, z0G z2z 351 117 463, k0f]
 rw [show 351 + 117 = (468 : Nat) from rfl, show (463 : Nat) = 117 + 346 from rfl, z0G z2z 468 117 346, k0g]
 rw [show 468 + 117 = (585 : Nat) from rfl, show (346 : Nat) = 117 + 229 from rfl, z0G z2z 585 117 229, k0h]
 rw [show 585 + 117 = (702 : Nat) from rfl, show (229 : Nat) = 117 + 112 from rfl, z0G z2z 702 117 112, k0i]
 rw [show 702 + 117 = (819 : Nat) from rfl, k0j]
 rfl
noncomputable def z2A (i : Nat) : Bool := (Tryz.prog.funcs[i]?).any (·.name == "(skald/saga.Saga).free")
theorem k0l : (List.range' 0 117).filter z2A = [] := by kernel_rfl
theorem k0m : (List.range' 117 117).filter z2A = [] := by kernel_rfl
theorem k0n : (List.range' 234 117).filter z2A = [] := by kernel_rfl
theorem k0o : (List.range' 351 117).filter z2A = [] := by kernel_rfl
theorem k0p : (List.range' 468 117).filter z2A = [] := by kernel_rfl
theorem k0q : (List.range' 585 117).filter z2A = [] := by kernel_rfl
theorem k0r : (List.range' 702 117).filter z2A = [] := by kernel_rfl
theorem k0s : (List.range' 819 112).filter z2A = [908] := by kernel_rfl
theorem k0t : Tryz.prog.funcNamed "(skald/saga.Saga).free" = some 908 := by
 refine z7r fbNS ?_
 show (List.range' 0 931).filter z2A = _
 rw [show (931 : Nat) = 117 + 814 from rfl, z0G z2A 0 117 814, k0l]
 rw [show 0 + 117 = (117 : Nat) from rfl, show (814 : Nat) = 117 + 697 from rfl, z0G z2A 117 117 697, k0m]
 rw [show 117 + 117 = (234 : Nat) from rfl, show (697 : Nat) = 117 + 580 from rfl, z0G z2A 234 117 580, k0n]
 rw [show 234 + 117 = (351 : Nat) from rfl, show (580 : Nat) = 117 + 463 from rfl, z0G z2A 351 117 463, k0o]
 rw [show 351 + 117 = (468 : Nat) from rfl, show (463 : Nat) = 117 + 346 from rfl, z0G z2A 468 117 346, k0p]
 rw [show 468 + 117 = (585 : Nat) from rfl, show (346 : Nat) = 117 + 229 from rfl, z0G z2A 585 117 229, k0q]
 rw [show 585 + 117 = (702 : Nat) from rfl, show (229 : Nat) = 117 + 112 from rfl, z0G z2A 702 117 112, k0r]
 rw [show 702 + 117 = (819 : Nat) from rfl, k0s]
 rfl
end Go.Proofs
namespace Go.Proofs
open Go
set_option maxRecDepth 100000
noncomputable def z2B (i : Nat) : Bool := (Tryz.prog.funcs[i]?).any (·.name == "(skald/saga.Saga).undo")
theorem k0u : (List.range' 0 117).filter z2B = [] := by kernel_rfl
theorem k0v : (List.range' 117 117).filter z2B = [] := by kernel_rfl
theorem k0w : (List.range' 234 117).filter z2B = [] := by kernel_rfl
theorem k0x : (List.range' 351 117).filter z2B = [] := by kernel_rfl
theorem k0y : (List.range' 468 117).filter z2B = [] := by kernel_rfl
theorem k0z : (List.range' 585 117).filter z2B = [] := by kernel_rfl
theorem k0A : (List.range' 702 117).filter z2B = [] := by kernel_rfl
theorem k0B : (List.range' 819 112).filter z2B = [909] := by kernel_rfl
theorem k0C : Tryz.prog.funcNamed "(skald/saga.Saga).undo" = some 909 := by
 refine z7r fbNS ?_
 show (List.range' 0 931).filter z2B = _
 rw [show (931 : Nat) = 117 + 814 from rfl, z0G z2B 0 117 814, k0u]
 rw [show 0 + 117 = (117 : Nat) from rfl, show (814 : Nat) = 117 + 697 from rfl, z0G z2B 117 117 697, k0v]
 rw [show 117 + 117 = (234 : Nat) from rfl, show (697 : Nat) = 117 + 580 from rfl, z0G z2B 234 117 580, k0w]
 rw [show 234 + 117 = (351 : Nat) from rfl, show (580 : Nat) = 117 + 463 from rfl, z0G z2B 351 117 463, k0x]
 rw [show 351 + 117 = (468 : Nat) from rfl, show (463 : Nat) = 117 + 346 from rfl, z0G z2B 468 117 346, k0y]
 rw [show 468 + 117 = (585 : Nat) from rfl, show (346 : Nat) = 117 + 229 from rfl, z0G z2B 585 117 229, k0z]
 rw [show 585 + 117 = (702 : Nat) from rfl, show (229 : Nat) = 117 + 112 from rfl, z0G z2B 702 117 112, k0A]
 rw [show 702 + 117 = (819 : Nat) from rfl, k0B]
 rfl
noncomputable def z3M (i : Nat) : Bool := (Tryz.prog.funcs[i]?).any (·.name == "skald/skaldlaw42.PlayLines")
theorem k3z : (List.range' 0 117).filter z3M = [4] := by kernel_rfl
theorem k3A : (List.range' 117 117).filter z3M = [] := by kernel_rfl
theorem k3B : (List.range' 234 117).filter z3M = [] := by kernel_rfl
theorem k3C : (List.range' 351 117).filter z3M = [] := by kernel_rfl
theorem k3D : (List.range' 468 117).filter z3M = [] := by kernel_rfl
theorem k3E : (List.range' 585 117).filter z3M = [] := by kernel_rfl
theorem k3F : (List.range' 702 117).filter z3M = [] := by kernel_rfl
theorem k3G : (List.range' 819 112).filter z3M = [] := by kernel_rfl
theorem fbNLaw : Tryz.prog.funcNamed "skald/skaldlaw42.PlayLines" = some 4 := by
 refine z7r fbNS ?_
 show (List.range' 0 931).filter z3M = _
 rw [show (931 : Nat) = 117 + 814 from rfl, z0G z3M 0 117 814, k3z]
 rw [show 0 + 117 = (117 : Nat) from rfl, show (814 : Nat) = 117 + 697 from rfl, z0G z3M 117 117 697, k3A]
 rw [show 117 + 117 = (234 : Nat) from rfl, show (697 : Nat) = 117 + 580 from rfl, z0G z3M 234 117 580, k3B]
 rw [show 234 + 117 = (351 : Nat) from rfl, show (580 : Nat) = 117 + 463 from rfl, z0G z3M 351 117 463, k3C]
 rw [show 351 + 117 = (468 : Nat) from rfl, show (463 : Nat) = 117 + 346 from rfl, z0G z3M 468 117 346, k3D]
 rw [show 468 + 117 = (585 : Nat) from rfl, show (346 : Nat) = 117 + 229 from rfl, z0G z3M 585 117 229, k3E]
 rw [show 585 + 117 = (702 : Nat) from rfl, show (229 : Nat) = 117 + 112 from rfl, z0G z3M 702 117 112, k3F]
 rw [show 702 + 117 = (819 : Nat) from rfl, k3G]
 rfl
end Go.Proofs
namespace Go.Proofs
open Go
set_option maxRecDepth 100000
theorem q2r {P : Program} {f : Nat} {fn : Func} {n : String} {bs : List UInt8} (t : TypeId) (h1 : P.funcs[f]? = some fn) (h2 : fn.name = n) (h3 : P.funcNamed n = some f) (h4 : n.toUTF8.data.toList = bs) : funcToken P (t, .func (.func f) #[] #[]) = bs := by
 unfold funcToken
 simp only [h1, h2, h3]
 simpa using h4
theorem j1r {P : Program} {f : Nat} (h : P.funcNamed "gosem.cut.vars" = some f) : varsId P = f := by
 unfold varsId
 rw [h]; rfl
theorem k3H : varsId Tryz.prog = 930 := j1r j1q
theorem j6l : Tryz.f907.name = "(skald/saga.Saga).forward" := by kernel_rfl
theorem j6m : "(skald/saga.Saga).forward".toUTF8.data.toList = [40, 115, 107, 97, 108, 100, 47, 115, 97, 103, 97, 46, 83, 97, 103, 97, 41, 46, 102, 111, 114, 119, 97, 114, 100] := by kernel_rfl
theorem q4b (t : TypeId) : funcToken Tryz.prog (t, .func (.func 907) #[] #[]) = [40, 115, 107, 97, 108, 100, 47, 115, 97, 103, 97, 46, 83, 97, 103, 97, 41, 46, 102, 111, 114, 119, 97, 114, 100] := q2r t Tryz.func907 j6l k0k j6m
theorem j6n : Tryz.f908.name = "(skald/saga.Saga).free" := by kernel_rfl
theorem j6o : "(skald/saga.Saga).free".toUTF8.data.toList = [40, 115, 107, 97, 108, 100, 47, 115, 97, 103, 97, 46, 83, 97, 103, 97, 41, 46, 102, 114, 101, 101] := by kernel_rfl
theorem q4c (t : TypeId) : funcToken Tryz.prog (t, .func (.func 908) #[] #[]) = [40, 115, 107, 97, 108, 100, 47, 115, 97, 103, 97, 46, 83, 97, 103, 97, 41, 46, 102, 114, 101, 101] := q2r t Tryz.func908 j6n k0t j6o
theorem j6p : Tryz.f909.name = "(skald/saga.Saga).undo" := by kernel_rfl
theorem j6q : "(skald/saga.Saga).undo".toUTF8.data.toList = [40, 115, 107, 97, 108, 100, 47, 115, 97, 103, 97, 46, 83, 97, 103, 97, 41, 46, 117, 110, 100, 111] := by kernel_rfl
theorem q4d (t : TypeId) : funcToken Tryz.prog (t, .func (.func 909) #[] #[]) = [40, 115, 107, 97, 108, 100, 47, 115, 97, 103, 97, 46, 83, 97, 103, 97, 41, 46, 117, 110, 100, 111] := q2r t Tryz.func909 j6p k0C j6q
def z4Q (enc : TypeId × Value → List UInt8) (P : Program) (w : World) (fuel : Nat) : List String → Option (List (DataW (List UInt8)))
 | [] => some []
 | n :: ns =>
  match P.globalNamed n with
  | some g =>
   match (P.globals[g]?).map (·.type), w.var? P n with
   | some t, some cs =>
    match DataW.trod enc P w 0 (fun _ => true) true fuel t cs.toList, z4Q enc P w fuel ns with
    | some x, some y => some (x.1 :: y)
    | _, _ => none
   | _, _ => none
  | none => none
theorem z5R (P : Program) (w : World) (fuel : Nat) : ∀ l, funcsRun P w fuel l = z4Q (funcToken P) P w fuel l
 | [] => rfl
 | n :: ns => by
  unfold funcsRun z4Q
  rw [z5R P w fuel ns]
  cases P.globalNamed n with
  | none => rfl
  | some g =>
   simp only
   cases (P.globals[g]?).map (·.type) with
   | none => rfl
   | some t =>
    cases w.var? P n with
    | none => rfl
    | some cs =>
     simp only
     cases DataW.trod (funcToken P) P w 0 (fun _ => true) true fuel t cs.toList with
     | none => rfl
     | some x => cases z4Q (funcToken P) P w fuel ns <;> rfl
noncomputable def z7s {α : Type} (P : Program) (n : Nat) (os : Os) (tape : Tape) (g : FuncId) (k : World → Option α) : Option α :=
 match runN P n (Machine.entering P (World.unlaid P os) tape g ⟨#[], #[], []⟩) with
 | .ended (.done _) w => k w
 | _ => none
noncomputable def q2s (P : Program) (fuel M : Nat) (laid : List (String × DataW Unit)) (w : World) : Option (List (String × DataW Unit)) :=
 (DataW.laidRun P w.memory fuel ((laid.filter fun x => x.2.handleName?.isNone).map (·.1))).bind fun x =>
  if nodupBits M x.2 0 && laidRowsB P w.memory x.2 && (laid.filter fun x => x.2.handleName?.isSome && x.2.funcsIn?.isNone).all (handleAtB P w.memory) then some x.1 else none
noncomputable def z9w (enc : TypeId × Value → List UInt8) (P : Program) (fuel : Nat) (laid : List (String × DataW Unit)) (w : World) : Option (List (DataW (List UInt8))) := z4Q enc P w.memory fuel ((funcsListed laid).map (·.1))
theorem q2t {P : Program} {n fuel M : Nat} {laid : List (String × DataW Unit)} {os : Os} {tape : Tape} {g : FuncId} {A : List (String × DataW Unit)} {B : List (DataW (List UInt8))} (hg : varsId P = g)
  (h1 : z7s P n os tape g (q2s P fuel M laid) = some A) (h2 : z7s P n os tape g (z9w (funcToken P) P fuel laid) = some B) : doorLeaves P n fuel M laid os tape = some (A, B) := by
 unfold doorLeaves
 unfold z7s at h1 h2
 rw [hg]
 split at h1
 ·rename_i v w hr
  rw [hr] at h2 ⊢
  unfold q2s at h1
  unfold z9w at h2
  simp only at h1 h2 ⊢
  cases hx : DataW.laidRun P w.memory fuel ((laid.filter fun x => x.2.handleName?.isNone).map (·.1)) with
  | none => rw [hx] at h1; simp at h1
  | some x =>
   rw [hx] at h1
   simp only [Option.bind_some] at h1 ⊢
   split at h1
   ·rename_i hc
    rw [if_pos hc, z5R, h2]
    simp only [Option.some.injEq] at h1
    rw [h1]; rfl
   ·simp at h1
 ·simp at h1
end Go.Proofs
