/-
  Functions by their names, in pieces; what the door leaves, its data and its functions apart.
-/
import Derived.Test.YtdnkpdgncgjilaaGreatDoorProg
import GoSem.Claims
import Derived.KernelRfl
import Derived.LaidOnce
import Derived.LaidHandle
set_option linter.unusedSimpArgs false
set_option linter.unusedVariables false
namespace Go.Proofs
open Go
set_option maxRecDepth 100000
theorem z6o {P : Program} {n : String} {N i : Nat} (hs : P.funcs.size = N) (h : (List.range' 0 N).filter (fun i => (P.funcs[i]?).any (·.name == n)) = [i]) : P.funcNamed n = some i := by
 unfold Program.funcNamed
 rw [hs, List.range_eq_range', h]
theorem z0r (p : Nat → Bool) (a b c : Nat) : (List.range' a (b + c)).filter p = (List.range' a b).filter p ++ (List.range' (a + b) c).filter p := by
 rw [← List.filter_append, List.range'_append_1]
theorem fbNS : Tryz.prog.funcs.size = 895 := by kernel_rfl
noncomputable def z1W (i : Nat) : Bool := (Tryz.prog.funcs[i]?).any (·.name == "gosem.cut.vars")
theorem j7R : (List.range' 0 112).filter z1W = [] := by kernel_rfl
theorem j7S : (List.range' 112 112).filter z1W = [] := by kernel_rfl
theorem j7T : (List.range' 224 112).filter z1W = [] := by kernel_rfl
theorem j7U : (List.range' 336 112).filter z1W = [] := by kernel_rfl
theorem j7V : (List.range' 448 112).filter z1W = [] := by kernel_rfl
theorem j7W : (List.range' 560 112).filter z1W = [] := by kernel_rfl
theorem j7X : (List.range' 672 112).filter z1W = [] := by kernel_rfl
theorem j7Y : (List.range' 784 111).filter z1W = [894] := by kernel_rfl
theorem q9q : Tryz.prog.funcNamed "gosem.cut.vars" = some 894 := by
 refine z6o fbNS ?_
 show (List.range' 0 895).filter z1W = _
 rw [show (895 : Nat) = 112 + 783 from rfl, z0r z1W 0 112 783, j7R]
 rw [show 0 + 112 = (112 : Nat) from rfl, show (783 : Nat) = 112 + 671 from rfl, z0r z1W 112 112 671, j7S]
 rw [show 112 + 112 = (224 : Nat) from rfl, show (671 : Nat) = 112 + 559 from rfl, z0r z1W 224 112 559, j7T]
 rw [show 224 + 112 = (336 : Nat) from rfl, show (559 : Nat) = 112 + 447 from rfl, z0r z1W 336 112 447, j7U]
 rw [show 336 + 112 = (448 : Nat) from rfl, show (447 : Nat) = 112 + 335 from rfl, z0r z1W 448 112 335, j7V]
 rw [show 448 + 112 = (560 : Nat) from rfl, show (335 : Nat) = 112 + 223 from rfl, z0r z1W 560 112 223, j7W]
 rw [show 560 + 112 = (672 : Nat) from rfl, show (223 : Nat) = 112 + 111 from rfl, z0r z1W 672 112 111, j7X]
 rw [show 672 + 112 = (784 : Nat) from rfl, j7Y]
 rfl
end Go.Proofs
namespace Go.Proofs
open Go
set_option maxRecDepth 100000
noncomputable def z1X (i : Nat) : Bool := (Tryz.prog.funcs[i]?).any (·.name == "(skald/saga.Saga).forward")
theorem j7Z : (List.range' 0 112).filter z1X = [] := by kernel_rfl
theorem j8a : (List.range' 112 112).filter z1X = [] := by kernel_rfl
theorem j8b : (List.range' 224 112).filter z1X = [] := by kernel_rfl
theorem j8c : (List.range' 336 112).filter z1X = [] := by kernel_rfl
theorem j8d : (List.range' 448 112).filter z1X = [] := by kernel_rfl
theorem j8e : (List.range' 560 112).filter z1X = [] := by kernel_rfl
theorem j8f : (List.range' 672 112).filter z1X = [] := by kernel_rfl
theorem j8g : (List.range' 784 111).filter z1X = [871] := by kernel_rfl
theorem j8h : Tryz.prog.funcNamed "(skald/saga.Saga).forward" = some 871 := by
 refine z6o fbNS ?_
 show (List.range' 0 895).filter z1X = _
 rw [show (895 : Nat) = 112 + 783 from rfl, z0r z1X 0 112 783, j7Z]
 rw [show 0 + 112 = (112 : Nat) from rfl, show (783 : Nat) = 112 + 671 from rfl, z0r z1X 112 112 671, j8a]
 rw [show 112 + 112 = (224 : Nat) from rfl, show (671 : Nat) = 112 + 559 from rfl, z0r z1X 224 112 559, j8b]
 rw [show 224 + 112 = (336 : Nat) from rfl, show (559 : Nat) = 112 + 447 from rfl, z0r z1X 336 112 447, j8c]
 rw [show 336 + 112 = (448 : Nat) from rfl, show (447 : Nat) = 112 + 335 from rfl, z0r z1X 448 112 335, j8d]
 rw [show 448 + 112 = (560 : Nat) from rfl, show (335 : Nat) = 112 + 223 from rfl, z0r z1X 560 112 223, j8e]
 rw [show 560 + 112 = (672 : Nat) from rfl, show (223 : Nat) = 112 + 111 from rfl, z0r z1X 672 112 111, j8f]
 rw [show 672 + 112 = (784 : Nat) from rfl, j8g]
 rfl
noncomputable def z1Y (i : Nat) : Bool := (Tryz.prog.funcs[i]?).any (·.name == "(skald/saga.Saga).free")
theorem j8i : (List.range' 0 112).filter z1Y = [] := by kernel_rfl
theorem j8j : (List.range' 112 112).filter z1Y = [] := by kernel_rfl
theorem j8k : (List.range' 224 112).filter z1Y = [] := by kernel_rfl
theorem j8l : (List.range' 336 112).filter z1Y = [] := by kernel_rfl
theorem j8m : (List.range' 448 112).filter z1Y = [] := by kernel_rfl
theorem j8n : (List.range' 560 112).filter z1Y = [] := by kernel_rfl
theorem j8o : (List.range' 672 112).filter z1Y = [] := by kernel_rfl
theorem j8p : (List.range' 784 111).filter z1Y = [872] := by kernel_rfl
theorem j8q : Tryz.prog.funcNamed "(skald/saga.Saga).free" = some 872 := by
 refine z6o fbNS ?_
 show (List.range' 0 895).filter z1Y = _
 rw [show (895 : Nat) = 112 + 783 from rfl, z0r z1Y 0 112 783, j8i]
 rw [show 0 + 112 = (112 : Nat) from rfl, show (783 : Nat) = 112 + 671 from rfl, z0r z1Y 112 112 671, j8j]
 rw [show 112 + 112 = (224 : Nat) from rfl, show (671 : Nat) = 112 + 559 from rfl, z0r z1Y 224 112 559, j8k]
 rw [show 224 + 112 = (336 : Nat) from rfl, show (559 : Nat) = 112 + 447 from rfl, z0r z1Y 336 112 447, j8l]
 rw [show 336 + 112 = (448 : Nat) from rfl, show (447 : Nat) = 112 + 335 from rfl, z0r z1Y 448 112 335, j8m]
 rw [show 448 + 112 = (560 : Nat) from rfl, show (335 : Nat) = 112 + 223 from rfl, z0r z1Y 560 112 223, j8n]
 rw [show 560 + 112 = (672 : Nat) from rfl, show (223 : Nat) = 112 + 111 from rfl, z0r z1Y 672 112 111, j8o]
 rw [show 672 + 112 = (784 : Nat) from rfl, j8p]
 rfl
end Go.Proofs
namespace Go.Proofs
open Go
set_option maxRecDepth 100000
noncomputable def z1Z (i : Nat) : Bool := (Tryz.prog.funcs[i]?).any (·.name == "(skald/saga.Saga).undo")
theorem j8r : (List.range' 0 112).filter z1Z = [] := by kernel_rfl
theorem j8s : (List.range' 112 112).filter z1Z = [] := by kernel_rfl
theorem j8t : (List.range' 224 112).filter z1Z = [] := by kernel_rfl
theorem j8u : (List.range' 336 112).filter z1Z = [] := by kernel_rfl
theorem j8v : (List.range' 448 112).filter z1Z = [] := by kernel_rfl
theorem j8w : (List.range' 560 112).filter z1Z = [] := by kernel_rfl
theorem j8x : (List.range' 672 112).filter z1Z = [] := by kernel_rfl
theorem j8y : (List.range' 784 111).filter z1Z = [873] := by kernel_rfl
theorem j8z : Tryz.prog.funcNamed "(skald/saga.Saga).undo" = some 873 := by
 refine z6o fbNS ?_
 show (List.range' 0 895).filter z1Z = _
 rw [show (895 : Nat) = 112 + 783 from rfl, z0r z1Z 0 112 783, j8r]
 rw [show 0 + 112 = (112 : Nat) from rfl, show (783 : Nat) = 112 + 671 from rfl, z0r z1Z 112 112 671, j8s]
 rw [show 112 + 112 = (224 : Nat) from rfl, show (671 : Nat) = 112 + 559 from rfl, z0r z1Z 224 112 559, j8t]
 rw [show 224 + 112 = (336 : Nat) from rfl, show (559 : Nat) = 112 + 447 from rfl, z0r z1Z 336 112 447, j8u]
 rw [show 336 + 112 = (448 : Nat) from rfl, show (447 : Nat) = 112 + 335 from rfl, z0r z1Z 448 112 335, j8v]
 rw [show 448 + 112 = (560 : Nat) from rfl, show (335 : Nat) = 112 + 223 from rfl, z0r z1Z 560 112 223, j8w]
 rw [show 560 + 112 = (672 : Nat) from rfl, show (223 : Nat) = 112 + 111 from rfl, z0r z1Z 672 112 111, j8x]
 rw [show 672 + 112 = (784 : Nat) from rfl, j8y]
 rfl
noncomputable def z3j (i : Nat) : Bool := (Tryz.prog.funcs[i]?).any (·.name == "skald/skaldlaw40.ClusterNil")
theorem k3s : (List.range' 0 112).filter z3j = [3] := by kernel_rfl
theorem k3t : (List.range' 112 112).filter z3j = [] := by kernel_rfl
theorem k3u : (List.range' 224 112).filter z3j = [] := by kernel_rfl
theorem k3v : (List.range' 336 112).filter z3j = [] := by kernel_rfl
theorem k3w : (List.range' 448 112).filter z3j = [] := by kernel_rfl
theorem k3x : (List.range' 560 112).filter z3j = [] := by kernel_rfl
theorem k3y : (List.range' 672 112).filter z3j = [] := by kernel_rfl
theorem k3z : (List.range' 784 111).filter z3j = [] := by kernel_rfl
theorem fbNLaw : Tryz.prog.funcNamed "skald/skaldlaw40.ClusterNil" = some 3 := by
 refine z6o fbNS ?_
 show (List.range' 0 895).filter z3j = _
 rw [show (895 : Nat) = 112 + 783 from rfl, z0r z3j 0 112 783, k3s]
 rw [show 0 + 112 = (112 : Nat) from rfl, show (783 : Nat) = 112 + 671 from rfl, z0r z3j 112 112 671, k3t]
 rw [show 112 + 112 = (224 : Nat) from rfl, show (671 : Nat) = 112 + 559 from rfl, z0r z3j 224 112 559, k3u]
 rw [show 224 + 112 = (336 : Nat) from rfl, show (559 : Nat) = 112 + 447 from rfl, z0r z3j 336 112 447, k3v]
 rw [show 336 + 112 = (448 : Nat) from rfl, show (447 : Nat) = 112 + 335 from rfl, z0r z3j 448 112 335, k3w]
 rw [show 448 + 112 = (560 : Nat) from rfl, show (335 : Nat) = 112 + 223 from rfl, z0r z3j 560 112 223, k3x]
 rw [show 560 + 112 = (672 : Nat) from rfl, show (223 : Nat) = 112 + 111 from rfl, z0r z3j 672 112 111, k3y]
 rw [show 672 + 112 = (784 : Nat) from rfl, k3z]
 rfl
end Go.Proofs
namespace Go.Proofs
open Go
set_option maxRecDepth 100000
theorem q1c {P : Program} {f : Nat} {fn : Func} {n : String} {bs : List UInt8} (t : TypeId) (h1 : P.funcs[f]? = some fn) (h2 : fn.name = n) (h3 : P.funcNamed n = some f) (h4 : n.toUTF8.data.toList = bs) : funcToken P (t, .func (.func f) #[] #[]) = bs := by
 unfold funcToken
 simp only [h1, h2, h3]
 simpa using h4
theorem q9r {P : Program} {f : Nat} (h : P.funcNamed "gosem.cut.vars" = some f) : varsId P = f := by
 unfold varsId
 rw [h]; rfl
theorem k3A : varsId Tryz.prog = 894 := q9r q9q
theorem j3U : Tryz.f871.name = "(skald/saga.Saga).forward" := by kernel_rfl
theorem j3V : "(skald/saga.Saga).forward".toUTF8.data.toList = [40, 115, 107, 97, 108, 100, 47, 115, 97, 103, 97, 46, 83, 97, 103, 97, 41, 46, 102, 111, 114, 119, 97, 114, 100] := by kernel_rfl
theorem q2X (t : TypeId) : funcToken Tryz.prog (t, .func (.func 871) #[] #[]) = [40, 115, 107, 97, 108, 100, 47, 115, 97, 103, 97, 46, 83, 97, 103, 97, 41, 46, 102, 111, 114, 119, 97, 114, 100] := q1c t Tryz.func871 j3U j8h j3V
theorem j3W : Tryz.f872.name = "(skald/saga.Saga).free" := by kernel_rfl
theorem j3X : "(skald/saga.Saga).free".toUTF8.data.toList = [40, 115, 107, 97, 108, 100, 47, 115, 97, 103, 97, 46, 83, 97, 103, 97, 41, 46, 102, 114, 101, 101] := by kernel_rfl
theorem q2Y (t : TypeId) : funcToken Tryz.prog (t, .func (.func 872) #[] #[]) = [40, 115, 107, 97, 108, 100, 47, 115, 97, 103, 97, 46, 83, 97, 103, 97, 41, 46, 102, 114, 101, 101] := q1c t Tryz.func872 j3W j8q j3X
theorem j3Y : Tryz.f873.name = "(skald/saga.Saga).undo" := by kernel_rfl
theorem j3Z : "(skald/saga.Saga).undo".toUTF8.data.toList = [40, 115, 107, 97, 108, 100, 47, 115, 97, 103, 97, 46, 83, 97, 103, 97, 41, 46, 117, 110, 100, 111] := by kernel_rfl
theorem q2Z (t : TypeId) : funcToken Tryz.prog (t, .func (.func 873) #[] #[]) = [40, 115, 107, 97, 108, 100, 47, 115, 97, 103, 97, 46, 83, 97, 103, 97, 41, 46, 117, 110, 100, 111] := q1c t Tryz.func873 j3Y j8z j3Z
def z4c (enc : TypeId × Value → List UInt8) (P : Program) (w : World) (fuel : Nat) : List String → Option (List (DataW (List UInt8)))
 | [] => some []
 | n :: ns =>
  match P.globalNamed n with
  | some g =>
   match (P.globals[g]?).map (·.type), w.var? P n with
   | some t, some cs =>
    match DataW.trod enc P w 0 (fun _ => true) true fuel t cs.toList, z4c enc P w fuel ns with
    | some x, some y => some (x.1 :: y)
    | _, _ => none
   | _, _ => none
  | none => none
theorem z4X (P : Program) (w : World) (fuel : Nat) : ∀ l, funcsRun P w fuel l = z4c (funcToken P) P w fuel l
 | [] => rfl
 | n :: ns => by
  unfold funcsRun z4c
  rw [z4X P w fuel ns]
  cases P.globalNamed n with
  | none => rfl
  | some g =>
   simp only
   cases (P.globals[g]?).map (·.type) with
   | none => rfl
   | some t =>
    cases w.var? P n with
    | none => rfl
    | some cs =>
     simp only
     cases DataW.trod (funcToken P) P w 0 (fun _ => true) true fuel t cs.toList with
     | none => rfl
     | some x => cases z4c (funcToken P) P w fuel ns <;> rfl
noncomputable def z6p {α : Type} (P : Program) (n : Nat) (os : Os) (tape : Tape) (g : FuncId) (k : World → Option α) : Option α :=
 match runN P n (Machine.entering P (World.unlaid P os) tape g ⟨#[], #[], []⟩) with
 | .ended (.done _) w => k w
 | _ => none
noncomputable def q1d (P : Program) (fuel M : Nat) (laid : List (String × DataW Unit)) (w : World) : Option (List (String × DataW Unit)) :=
 (DataW.laidRun P w.memory fuel ((laid.filter fun x => x.2.handleName?.isNone).map (·.1))).bind fun x =>
  if nodupBits M x.2 0 && laidRowsB P w.memory x.2 && (laid.filter fun x => x.2.handleName?.isSome && x.2.funcsIn?.isNone).all (handleAtB P w.memory) then some x.1 else none
noncomputable def z8q (enc : TypeId × Value → List UInt8) (P : Program) (fuel : Nat) (laid : List (String × DataW Unit)) (w : World) : Option (List (DataW (List UInt8))) := z4c enc P w.memory fuel ((funcsListed laid).map (·.1))
theorem q1e {P : Program} {n fuel M : Nat} {laid : List (String × DataW Unit)} {os : Os} {tape : Tape} {g : FuncId} {A : List (String × DataW Unit)} {B : List (DataW (List UInt8))} (hg : varsId P = g)
  (h1 : z6p P n os tape g (q1d P fuel M laid) = some A) (h2 : z6p P n os tape g (z8q (funcToken P) P fuel laid) = some B) : doorLeaves P n fuel M laid os tape = some (A, B) := by
 unfold doorLeaves
 unfold z6p at h1 h2
 rw [hg]
 split at h1
 ·rename_i v w hr
  rw [hr] at h2 ⊢
  unfold q1d at h1
  unfold z8q at h2
  simp only at h1 h2 ⊢
  cases hx : DataW.laidRun P w.memory fuel ((laid.filter fun x => x.2.handleName?.isNone).map (·.1)) with
  | none => rw [hx] at h1; simp at h1
  | some x =>
   rw [hx] at h1
   simp only [Option.bind_some] at h1 ⊢
   split at h1
   ·rename_i hc
    rw [if_pos hc, z4X, h2]
    simp only [Option.some.injEq] at h1
    rw [h1]; rfl
   ·simp at h1
 ·simp at h1
end Go.Proofs
