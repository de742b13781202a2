/-
  Functions by their names, in pieces; what the door leaves, its data and its functions apart.
-/
import Derived.Test.YtcoigmfhlbngfaaGreatDoorProg
import GoSem.Claims
import Derived.KernelRfl
import Derived.LaidOnce
import Derived.LaidHandle
set_option linter.unusedSimpArgs false
set_option linter.unusedVariables false
namespace Go.Proofs
open Go
set_option maxRecDepth 100000
theorem z6i {P : Program} {n : String} {N i : Nat} (hs : P.funcs.size = N) (h : (List.range' 0 N).filter (fun i => (P.funcs[i]?).any (·.name == n)) = [i]) : P.funcNamed n = some i := by
 unfold Program.funcNamed
 rw [hs, List.range_eq_range', h]
theorem z0r (p : Nat → Bool) (a b c : Nat) : (List.range' a (b + c)).filter p = (List.range' a b).filter p ++ (List.range' (a + b) c).filter p := by
 rw [← List.filter_append, List.range'_append_1]
theorem fbNS : Tryz.prog.funcs.size = 1095 := by kernel_rfl
noncomputable def z1T (i : Nat) : Bool := (Tryz.prog.funcs[i]?).any (·.name == "gosem.cut.vars")
theorem j5e : (List.range' 0 137).filter z1T = [] := by kernel_rfl
theorem j5f : (List.range' 137 137).filter z1T = [] := by kernel_rfl
theorem j5g : (List.range' 274 137).filter z1T = [] := by kernel_rfl
theorem j5h : (List.range' 411 137).filter z1T = [] := by kernel_rfl
theorem j5i : (List.range' 548 137).filter z1T = [] := by kernel_rfl
theorem j5j : (List.range' 685 137).filter z1T = [] := by kernel_rfl
theorem j5k : (List.range' 822 137).filter z1T = [] := by kernel_rfl
theorem j5l : (List.range' 959 136).filter z1T = [1094] := by kernel_rfl
theorem q4k : Tryz.prog.funcNamed "gosem.cut.vars" = some 1094 := by
 refine z6i fbNS ?_
 show (List.range' 0 1095).filter z1T = _
 rw [show (1095 : Nat) = 137 + 958 from rfl, z0r z1T 0 137 958, j5e]
 rw [show 0 + 137 = (137 : Nat) from rfl, show (958 : Nat) = 137 + 821 from rfl, z0r z1T 137 137 821, j5f]
 rw [show 137 + 137 = (274 : Nat) from rfl, show (821 : Nat) = 137 + 684 from rfl, z0r z1T 274 137 684, j5g]
 rw [show 274 + 137 = (411 : Nat) from rfl, show (684 : Nat) = 137 + 547 from rfl, z0r z1T 411 137 547, j5h]
 rw [show 411 + 137 = (548 : Nat) from rfl, show (547 : Nat) = 137 + 410 from rfl, z0r z1T 548 137 410, j5i]
 rw [show 548 + 137 = (685 : Nat) from rfl, show (410 : Nat) = 137 + 273 from rfl, z0r z1T 685 137 273, j5j]
 rw [show 685 + 137 = (822 : Nat) from rfl, show (273 : Nat) = 137 + 136 from rfl, z0r z1T 822 137 136, j5k]
 rw [show 822 + 137 = (959 : Nat) from rfl, j5l]
 rfl
end Go.Proofs
namespace Go.Proofs
open Go
set_option maxRecDepth 100000
noncomputable def z1U (i : Nat) : Bool := (Tryz.prog.funcs[i]?).any (·.name == "(skald/saga.Saga).forward")
theorem j5m : (List.range' 0 137).filter z1U = [] := by kernel_rfl
theorem j5n : (List.range' 137 137).filter z1U = [] := by kernel_rfl
theorem j5o : (List.range' 274 137).filter z1U = [] := by kernel_rfl
theorem j5p : (List.range' 411 137).filter z1U = [] := by kernel_rfl
theorem j5q : (List.range' 548 137).filter z1U = [] := by kernel_rfl
theorem j5r : (List.range' 685 137).filter z1U = [] := by kernel_rfl
theorem j5s : (List.range' 822 137).filter z1U = [] := by kernel_rfl
theorem j5t : (List.range' 959 136).filter z1U = [1066] := by kernel_rfl
theorem j5u : Tryz.prog.funcNamed "(skald/saga.Saga).forward" = some 1066 := by
 refine z6i fbNS ?_
 show (List.range' 0 1095).filter z1U = _
 rw [show (1095 : Nat) = 137 + 958 from rfl, z0r z1U 0 137 958, j5m]
 rw [show 0 + 137 = (137 : Nat) from rfl, show (958 : Nat) = 137 + 821 from rfl, z0r z1U 137 137 821, j5n]
 rw [show 137 + 137 = (274 : Nat) from rfl, show (821 : Nat) = 137 + 684 from rfl, z0r z1U 274 137 684, j5o]
 rw [show 274 + 137 = (411 : Nat) from rfl, show (684 : Nat) = 137 + 547 from rfl, z0r z1U 411 137 547, j5p]
 rw [show 411 + 137 = (548 : Nat) from rfl, show (547 : Nat) = 137 + 410 from rfl, z0r z1U 548 137 410, j5q]
 rw [show 548 + 137 = (685 : Nat) from rfl, show (410 : Nat) = 137 + 273 from rfl, z0r z1U 685 137 273, j5r]
 rw [show 685 + 137 = (822 : Nat) from rfl, show (273 : Nat) = 137 + 136 from rfl, z0r z1U 822 137 136, j5s]
 rw [show 822 + 137 = (959 : Nat) from rfl, j5t]
 rfl
noncomputable def z1V (i : Nat) : Bool := (Tryz.prog.funcs[i]?).any (·.name == "(skald/saga.Saga).free")
theorem j5v : (List.range' 0 137).filter z1V = [] := by kernel_rfl
theorem j5w : (List.range' 137 137).filter z1V = [] := by kernel_rfl
theorem j5x : (List.range' 274 137).filter z1V = [] := by kernel_rfl
theorem j5y : (List.range' 411 137).filter z1V = [] := by kernel_rfl
theorem j5z : (List.range' 548 137).filter z1V = [] := by kernel_rfl
theorem j5A : (List.range' 685 137).filter z1V = [] := by kernel_rfl
theorem j5B : (List.range' 822 137).filter z1V = [] := by kernel_rfl
theorem j5C : (List.range' 959 136).filter z1V = [1067] := by kernel_rfl
theorem j5D : Tryz.prog.funcNamed "(skald/saga.Saga).free" = some 1067 := by
 refine z6i fbNS ?_
 show (List.range' 0 1095).filter z1V = _
 rw [show (1095 : Nat) = 137 + 958 from rfl, z0r z1V 0 137 958, j5v]
 rw [show 0 + 137 = (137 : Nat) from rfl, show (958 : Nat) = 137 + 821 from rfl, z0r z1V 137 137 821, j5w]
 rw [show 137 + 137 = (274 : Nat) from rfl, show (821 : Nat) = 137 + 684 from rfl, z0r z1V 274 137 684, j5x]
 rw [show 274 + 137 = (411 : Nat) from rfl, show (684 : Nat) = 137 + 547 from rfl, z0r z1V 411 137 547, j5y]
 rw [show 411 + 137 = (548 : Nat) from rfl, show (547 : Nat) = 137 + 410 from rfl, z0r z1V 548 137 410, j5z]
 rw [show 548 + 137 = (685 : Nat) from rfl, show (410 : Nat) = 137 + 273 from rfl, z0r z1V 685 137 273, j5A]
 rw [show 685 + 137 = (822 : Nat) from rfl, show (273 : Nat) = 137 + 136 from rfl, z0r z1V 822 137 136, j5B]
 rw [show 822 + 137 = (959 : Nat) from rfl, j5C]
 rfl
end Go.Proofs
namespace Go.Proofs
open Go
set_option maxRecDepth 100000
noncomputable def z1W (i : Nat) : Bool := (Tryz.prog.funcs[i]?).any (·.name == "(skald/saga.Saga).undo")
theorem j5E : (List.range' 0 137).filter z1W = [] := by kernel_rfl
theorem j5F : (List.range' 137 137).filter z1W = [] := by kernel_rfl
theorem j5G : (List.range' 274 137).filter z1W = [] := by kernel_rfl
theorem j5H : (List.range' 411 137).filter z1W = [] := by kernel_rfl
theorem j5I : (List.range' 548 137).filter z1W = [] := by kernel_rfl
theorem j5J : (List.range' 685 137).filter z1W = [] := by kernel_rfl
theorem j5K : (List.range' 822 137).filter z1W = [] := by kernel_rfl
theorem j5L : (List.range' 959 136).filter z1W = [1068] := by kernel_rfl
theorem j5M : Tryz.prog.funcNamed "(skald/saga.Saga).undo" = some 1068 := by
 refine z6i fbNS ?_
 show (List.range' 0 1095).filter z1W = _
 rw [show (1095 : Nat) = 137 + 958 from rfl, z0r z1W 0 137 958, j5E]
 rw [show 0 + 137 = (137 : Nat) from rfl, show (958 : Nat) = 137 + 821 from rfl, z0r z1W 137 137 821, j5F]
 rw [show 137 + 137 = (274 : Nat) from rfl, show (821 : Nat) = 137 + 684 from rfl, z0r z1W 274 137 684, j5G]
 rw [show 274 + 137 = (411 : Nat) from rfl, show (684 : Nat) = 137 + 547 from rfl, z0r z1W 411 137 547, j5H]
 rw [show 411 + 137 = (548 : Nat) from rfl, show (547 : Nat) = 137 + 410 from rfl, z0r z1W 548 137 410, j5I]
 rw [show 548 + 137 = (685 : Nat) from rfl, show (410 : Nat) = 137 + 273 from rfl, z0r z1W 685 137 273, j5J]
 rw [show 685 + 137 = (822 : Nat) from rfl, show (273 : Nat) = 137 + 136 from rfl, z0r z1W 822 137 136, j5K]
 rw [show 822 + 137 = (959 : Nat) from rfl, j5L]
 rfl
noncomputable def z3a (i : Nat) : Bool := (Tryz.prog.funcs[i]?).any (·.name == "skald/skaldlaw47.ConsoleNil")
theorem j8X : (List.range' 0 137).filter z3a = [3] := by kernel_rfl
theorem j8Y : (List.range' 137 137).filter z3a = [] := by kernel_rfl
theorem j8Z : (List.range' 274 137).filter z3a = [] := by kernel_rfl
theorem j9a : (List.range' 411 137).filter z3a = [] := by kernel_rfl
theorem j9b : (List.range' 548 137).filter z3a = [] := by kernel_rfl
theorem j9c : (List.range' 685 137).filter z3a = [] := by kernel_rfl
theorem j9d : (List.range' 822 137).filter z3a = [] := by kernel_rfl
theorem j9e : (List.range' 959 136).filter z3a = [] := by kernel_rfl
theorem fbNLaw : Tryz.prog.funcNamed "skald/skaldlaw47.ConsoleNil" = some 3 := by
 refine z6i fbNS ?_
 show (List.range' 0 1095).filter z3a = _
 rw [show (1095 : Nat) = 137 + 958 from rfl, z0r z3a 0 137 958, j8X]
 rw [show 0 + 137 = (137 : Nat) from rfl, show (958 : Nat) = 137 + 821 from rfl, z0r z3a 137 137 821, j8Y]
 rw [show 137 + 137 = (274 : Nat) from rfl, show (821 : Nat) = 137 + 684 from rfl, z0r z3a 274 137 684, j8Z]
 rw [show 274 + 137 = (411 : Nat) from rfl, show (684 : Nat) = 137 + 547 from rfl, z0r z3a 411 137 547, j9a]
 rw [show 411 + 137 = (548 : Nat) from rfl, show (547 : Nat) = 137 + 410 from rfl, z0r z3a 548 137 410, j9b]
 rw [show 548 + 137 = (685 : Nat) from rfl, show (410 : Nat) = 137 + 273 from rfl, z0r z3a 685 137 273, j9c]
 rw [show 685 + 137 = (822 : Nat) from rfl, show (273 : Nat) = 137 + 136 from rfl, z0r z3a 822 137 136, j9d]
 rw [show 822 + 137 = (959 : Nat) from rfl, j9e]
 rfl
end Go.Proofs
namespace Go.Proofs
open Go
set_option maxRecDepth 100000
theorem q0W {P : Program} {f : Nat} {fn : Func} {n : String} {bs : List UInt8} (t : TypeId) (h1 : P.funcs[f]? = some fn) (h2 : fn.name = n) (h3 : P.funcNamed n = some f) (h4 : n.toUTF8.data.toList = bs) : funcToken P (t, .func (.func f) #[] #[]) = bs := by
 unfold funcToken
 simp only [h1, h2, h3]
 simpa using h4
theorem q8y {P : Program} {f : Nat} (h : P.funcNamed "gosem.cut.vars" = some f) : varsId P = f := by
 unfold varsId
 rw [h]; rfl
theorem j9f : varsId Tryz.prog = 1094 := q8y q4k
theorem j2q : Tryz.f1066.name = "(skald/saga.Saga).forward" := by kernel_rfl
theorem j2r : "(skald/saga.Saga).forward".toUTF8.data.toList = [40, 115, 107, 97, 108, 100, 47, 115, 97, 103, 97, 46, 83, 97, 103, 97, 41, 46, 102, 111, 114, 119, 97, 114, 100] := by kernel_rfl
theorem q2x (t : TypeId) : funcToken Tryz.prog (t, .func (.func 1066) #[] #[]) = [40, 115, 107, 97, 108, 100, 47, 115, 97, 103, 97, 46, 83, 97, 103, 97, 41, 46, 102, 111, 114, 119, 97, 114, 100] := q0W t Tryz.func1066 j2q j5u j2r
theorem j2s : Tryz.f1067.name = "(skald/saga.Saga).free" := by kernel_rfl
theorem j2t : "(skald/saga.Saga).free".toUTF8.data.toList = [40, 115, 107, 97, 108, 100, 47, 115, 97, 103, 97, 46, 83, 97, 103, 97, 41, 46, 102, 114, 101, 101] := by kernel_rfl
theorem q2y (t : TypeId) : funcToken Tryz.prog (t, .func (.func 1067) #[] #[]) = [40, 115, 107, 97, 108, 100, 47, 115, 97, 103, 97, 46, 83, 97, 103, 97, 41, 46, 102, 114, 101, 101] := q0W t Tryz.func1067 j2s j5D j2t
theorem j2u : Tryz.f1068.name = "(skald/saga.Saga).undo" := by kernel_rfl
theorem j2v : "(skald/saga.Saga).undo".toUTF8.data.toList = [40, 115, 107, 97, 108, 100, 47, 115, 97, 103, 97, 46, 83, 97, 103, 97, 41, 46, 117, 110, 100, 111] := by kernel_rfl
theorem q2z (t : TypeId) : funcToken Tryz.prog (t, .func (.func 1068) #[] #[]) = [40, 115, 107, 97, 108, 100, 47, 115, 97, 103, 97, 46, 83, 97, 103, 97, 41, 46, 117, 110, 100, 111] := q0W t Tryz.func1068 j2u j5M j2v
def z3U (enc : TypeId × Value → List UInt8) (P : Program) (w : World) (fuel : Nat) : List String → Option (List (DataW (List UInt8)))
 | [] => some []
 | n :: ns =>
  match P.globalNamed n with
  | some g =>
   match (P.globals[g]?).map (·.type), w.var? P n with
   | some t, some cs =>
    match DataW.trod enc P w 0 (fun _ => true) true fuel t cs.toList, z3U enc P w fuel ns with
    | some x, some y => some (x.1 :: y)
    | _, _ => none
   | _, _ => none
  | none => none
theorem z4M (P : Program) (w : World) (fuel : Nat) : ∀ l, funcsRun P w fuel l = z3U (funcToken P) P w fuel l
 | [] => rfl
 | n :: ns => by
  unfold funcsRun z3U
  rw [z4M P w fuel ns]
  cases P.globalNamed n with
  | none => rfl
  | some g =>
   simp only
   cases (P.globals[g]?).map (·.type) with
   | none => rfl
   | some t =>
    cases w.var? P n with
    | none => rfl
    | some cs =>
     simp only
     cases DataW.trod (funcToken P) P w 0 (fun _ => true) true fuel t cs.toList with
     | none => rfl
     | some x => cases z3U (funcToken P) P w fuel ns <;> rfl
noncomputable def z6j {α : Type} (P : Program) (n : Nat) (os : Os) (tape : Tape) (g : FuncId) (k : World → Option α) : Option α :=
 match runN P n (Machine.entering P (World.unlaid P os) tape g ⟨#[], #[], []⟩) with
 | .ended (.done _) w => k w
 | _ => none
noncomputable def q0X (P : Program) (fuel M : Nat) (laid : List (String × DataW Unit)) (w : World) : Option (List (String × DataW Unit)) :=
 (DataW.laidRun P w.memory fuel ((laid.filter fun x => x.2.handleName?.isNone).map (·.1))).bind fun x =>
  if nodupBits M x.2 0 && laidRowsB P w.memory x.2 && (laid.filter fun x => x.2.handleName?.isSome && x.2.funcsIn?.isNone).all (handleAtB P w.memory) then some x.1 else none
noncomputable def z8o (enc : TypeId × Value → List UInt8) (P : Program) (fuel : Nat) (laid : List (String × DataW Unit)) (w : World) : Option (List (DataW (List UInt8))) := z3U enc P w.memory fuel ((funcsListed laid).map (·.1))
theorem q0Y {P : Program} {n fuel M : Nat} {laid : List (String × DataW Unit)} {os : Os} {tape : Tape} {g : FuncId} {A : List (String × DataW Unit)} {B : List (DataW (List UInt8))} (hg : varsId P = g)
  (h1 : z6j P n os tape g (q0X P fuel M laid) = some A) (h2 : z6j P n os tape g (z8o (funcToken P) P fuel laid) = some B) : doorLeaves P n fuel M laid os tape = some (A, B) := by
 unfold doorLeaves
 unfold z6j at h1 h2
 rw [hg]
 split at h1
 ·rename_i v w hr
  rw [hr] at h2 ⊢
  unfold q0X at h1
  unfold z8o at h2
  simp only at h1 h2 ⊢
  cases hx : DataW.laidRun P w.memory fuel ((laid.filter fun x => x.2.handleName?.isNone).map (·.1)) with
  | none => rw [hx] at h1; simp at h1
  | some x =>
   rw [hx] at h1
   simp only [Option.bind_some] at h1 ⊢
   split at h1
   ·rename_i hc
    rw [if_pos hc, z4M, h2]
    simp only [Option.some.injEq] at h1
    rw [h1]; rfl
   ·simp at h1
 ·simp at h1
end Go.Proofs
