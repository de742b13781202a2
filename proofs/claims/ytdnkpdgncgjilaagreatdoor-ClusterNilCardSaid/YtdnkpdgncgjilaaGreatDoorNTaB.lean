/-
  What a replica without entries tells.
-/
import Derived.Test.YtdnkpdgncgjilaaGreatDoorNNtA
import Derived.Test.YtdnkpdgncgjilaaGreatDoorNSxH
set_option linter.unusedSimpArgs false
set_option linter.unusedVariables false
namespace Go.Proofs
open Go.Sx
set_option maxRecDepth 100000
theorem w6D (n : Int) : z3L Tryz.tab 143 (.int .i64 n) = some (3, 9) := by kernel_rfl
theorem w6E (n : Int) : z3L Tryz.tab 314 (.int .i64 n) = some (3, 319) := by kernel_rfl
def ent0 : List AV := [.int .i64 0, .int .i64 0, .int .i64 0, .str []]
theorem j6Q {H : Heap} {m c : Nat} (h : H.blks.get m = some (.map [] c)) (n : Int) : z4C Tryz.tab H 143 true (.map m) (.int .i64 n) = some (.tuple [.str [], .bool false]) := by
 unfold z4C
 rw [w6D]
 show z0b (z0b (z4V (H.blks.get m)) _) _ = _
 rw [h]; kernel_rfl
theorem j6R {H : Heap} {m c : Nat} (h : H.blks.get m = some (.map [] c)) (n : Int) : z4C Tryz.tab H 314 true (.map m) (.int .i64 n) = some (.tuple [.agg [.int .i64 0, .int .i64 0, .int .i64 0, .str []], .bool false]) := by
 unfold z4C
 rw [w6E]
 show z0b (z0b (z4V (H.blks.get m)) _) _ = _
 rw [h]; kernel_rfl
theorem lNe (c : Bool) (b : Nat) : binA Tryz.tab .neq 206 c (.ptr b 0) .nilptr = some (.bool true) := by cases c <;> kernel_rfl
theorem aNe (c : Bool) (b : Nat) : binA Tryz.tab .neq 205 c (.ptr b 0) .nilptr = some (.bool true) := by cases c <;> kernel_rfl
theorem mNe (c : Bool) (b : Nat) : binA Tryz.tab .neq 143 c (.map b) .nilmap = some (.bool true) := by cases c <;> kernel_rfl
theorem k2Z (lg ml : Nat) (H : Heap) (hN : Neat H) (h0 : z0H (H.blks.get lg) 0 = some (.map ml)) : CallTo Tryz.prog Tryz.tab 173 [.ptr lg 0] H [(.bool true, H)] := by
 refine z0Q Tryz.tabOk Tryz.func173 rfl rfl ?_
 show Gets Tryz.prog Tryz.tab ⟨none, 12⟩ _ _ _
 repeat refine Gets.seq ?_
 refine g0_ ?_
 refine Gets.l0 Tryz.tabOk (s' := ?sn1) ?hn1 ?kn1; (case hn1 => (simp -implicitDefEqProofs (disch := first | exact d_ | fail) only [sxM, Nat.reduceAdd, reduceCtorEq, Int.reduceToNat, Nat.reduceEqDiff, Int.reduceEq, Int.reduceLT, z3J, lNe, q9z, z0D k3H, h0, mNe] <;> rfl)); (try (change Gets _ _ _ _ _ _; repeat refine Gets.seq ?_))
 refine Gets.ret Tryz.tabOk ?_
 exact z1S rfl (sr_ Tryz.f173.eq_1) (.refl _) hN trivial
theorem w6F (lg ml c : Nat) (n : Int) (H : Heap) (hN : Neat H) (h0 : z0H (H.blks.get lg) 0 = some (.map ml)) (h1 : H.blks.get ml = some (.map [] c)) : CallTo Tryz.prog Tryz.tab 266 [.ptr lg 0, .int .i64 n] H [(.tuple [.str [], .bool false], H)] := by
 refine z0Q Tryz.tabOk Tryz.func266 rfl rfl ?_
 show Gets Tryz.prog Tryz.tab ⟨none, 22⟩ _ _ _
 repeat refine Gets.seq ?_
 have q := k2Z lg ml H hN h0
 refine g0_ ?_
 refine o1_ (z1x z0T q) @z1I ?_
 refine cFs_ ?_
 refine Gets.l0 Tryz.tabOk (s' := ?sn2) ?hn2 ?kn2; (case hn2 => (simp -implicitDefEqProofs (disch := first | exact d_ | fail) only [sxM, Nat.reduceAdd, reduceCtorEq, Int.reduceToNat, Nat.reduceEqDiff, Int.reduceEq, Int.reduceLT, z3J, q9z, z0D k3H, h0, j6Q h1] <;> rfl)); (try (change Gets _ _ _ _ _ _; repeat refine Gets.seq ?_))
 refine g0_ ?_
 refine Gets.ret Tryz.tabOk ?_
 exact z6Q rfl (sr_ Tryz.f266.eq_1) (.refl _) hN ⟨trivial, trivial, trivial⟩
theorem j3E (ac : Nat) (n : Int) (hn : 0 < n) (H : Heap) (hN : Neat H) (h0 : z0H (H.blks.get ac) 0 = some (.int .i64 n)) : CallTo Tryz.prog Tryz.tab 171 [.ptr ac 0] H [(.bool true, H)] := by
 refine z0Q Tryz.tabOk Tryz.func171 rfl rfl ?_
 show Gets Tryz.prog Tryz.tab ⟨none, 12⟩ _ _ _
 repeat refine Gets.seq ?_
 refine g0_ ?_
 refine Gets.l0 Tryz.tabOk (s' := ?sn3) ?hn3 ?kn3; (case hn3 => (simp -implicitDefEqProofs (disch := first | exact d_ | fail) only [sxM, Nat.reduceAdd, reduceCtorEq, Int.reduceToNat, Nat.reduceEqDiff, Int.reduceEq, Int.reduceLT, z3J, aNe, j8E, z0D ia3, h0, hn] <;> rfl)); (try (change Gets _ _ _ _ _ _; repeat refine Gets.seq ?_))
 refine Gets.ret Tryz.tabOk ?_
 exact z1S rfl (sr_ Tryz.f171.eq_1) (.refl _) hN trivial
theorem q6B : Tryz.tab.zero 319 = some (.agg [.int .i64 0, .int .i64 0, .int .i64 0, .str []]) := by kernel_rfl
theorem j3F (e : TypeId) (x : Bool) (a b c d : AV) : Sx.cellsIn (some (.cells e x [a, b, c, d])) 0 4 = some [a, b, c, d] := rfl
theorem q6C (ac ma c : Nat) (k n : Int) (hn : 0 < n) (H : Heap) (hN : Neat H) (h0 : z0H (H.blks.get ac) 0 = some (.int .i64 n)) (h1 : z0H (H.blks.get ac) 3 = some (.map ma)) (h2 : H.blks.get ma = some (.map [] c)) :
  CallTo Tryz.prog Tryz.tab 500 [.ptr ac 0, .int .i64 k] H [(.tuple [.agg [.int .i64 0, .int .i64 0, .int .i64 0, .str []], .bool false], H)] := by
 refine z0Q Tryz.tabOk Tryz.func500 rfl rfl ?_
 show Gets Tryz.prog Tryz.tab ⟨none, 23⟩ _ _ _
 repeat refine Gets.seq ?_
 have gp := Grows.push H (.cells 319 true [.int .i64 0, .int .i64 0, .int .i64 0, .str []])
 have nP : Neat (H.push (.cells 319 true [.int .i64 0, .int .i64 0, .int .i64 0, .str []])) := hN.push _
 have hb : (H.push (.cells 319 true [.int .i64 0, .int .i64 0, .int .i64 0, .str []])).blks.get H.next = _ := z0F H _
 have hnx := z0x H (.cells 319 true [.int .i64 0, .int .i64 0, .int .i64 0, .str []])
 have hac : ac < H.next := by
  cases ho : H.blks.get ac with
  | none => rw [ho] at h0; simp [z0H] at h0
  | some o => exact hN _ _ ho
 have hma := hN _ _ h2
 refine g1_ q6B ?_
 generalize H.push (.cells 319 true [.int .i64 0, .int .i64 0, .int .i64 0, .str []]) = K at gp nP hb hnx ⊢
 have k0 : z0H (K.blks.get ac) 0 = some (.int .i64 n) := by rw [gp.get ac hac]; exact h0
 have k1 : z0H (K.blks.get ac) 3 = some (.map ma) := by rw [gp.get ac hac]; exact h1
 have k2 : K.blks.get ma = some (.map [] c) := by rw [gp.get ma hma]; exact h2
 have q := j3E ac n hn K nP k0
 refine o1_ (z1x z0T q) @z1I ?_
 refine cFs_ ?_
 refine g1_ (y7_ @j8H (z0D w8q) k1 (j6R k2) q6B @stL @q9A) ?_
 refine Gets.ofS (fun tm h => tm.get 4 = some (.ptr H.next 0) ∧ tm.get 6 = some (.ptr K.next 0) ∧ tm.get 7 = some (.bool false) ∧ h.blks.get H.next = some (.cells 319 true [.int .i64 0, .int .i64 0, .int .i64 0, .str []]) ∧ h.blks.get K.next = some (.cells 319 true [.int .i64 0, .int .i64 0, .int .i64 0, .str []]) ∧ Grows K h)
  ⟨sx0_, sx0_, sx0_, by ((try simp (disch := first | assumption | omega | (try simp only [z1l, z0h]) <;> omega | fail) only [foL]); (try rfl)); exact hb, fo_, ⟨fl_, fun b hb => fo_⟩⟩ ?_
 rintro tm h ⟨i4, i6, i7, b4, b6, g6⟩
 have hs : z2i Tryz.tab h 319 (.ptr H.next 0) (.agg [.int .i64 0, .int .i64 0, .int .i64 0, .str []]) = some (z0y h H.next (some (.cells 319 true [.int .i64 0, .int .i64 0, .int .i64 0, .str []]))) := q0U b4 q9A rfl rfl (by simp)
 refine g1_ (y7_ i4 i6 i7 b6 (z3G k3I q9A) j3F hs) ?_
 refine Gets.ret Tryz.tabOk ?_
 have hc : Sx.cellsIn ((z0y h H.next (some (.cells 319 true [.int .i64 0, .int .i64 0, .int .i64 0, .str []]))).blks.get H.next) 0 4 = some [.int .i64 0, .int .i64 0, .int .i64 0, .str []] := by rw [z4y]; exact j3F ..
 have gh : Grows H h := gp.trans g6
 exact z6Q rfl (by simp -implicitDefEqProofs (disch := first | exact d_ | fail) only [sxM, Nat.reduceAdd, reduceCtorEq, Int.reduceToNat, Nat.reduceEqDiff, Int.reduceEq, Int.reduceLT, Tryz.f500, i4, z8P, z3G k3I q9A, j3F, hc]) ⟨by rw [z0h]; exact gh.next, fun x hx => by rw [z1D _ _ _ (by omega)]; exact gh.get x hx⟩ hN ⟨⟨trivial, trivial, trivial, trivial, trivial⟩, trivial, trivial⟩
end Go.Proofs
namespace Go.Proofs
open Go.Sx
set_option maxRecDepth 100000
theorem w5R (l : Array Operand) (ts : Array TypeId) (tm : T AV) (H : Heap) : opN (.call ⟨.builtin .max, l, ts⟩) Tryz.tab tm H = z0U H (z0b (aevs Tryz.tab tm l.toList) (q3r q4V)) := rfl
theorem mxF : q3r q4V [.int .i64 0, .int .i64 0] = some (.int .i64 0) := by kernel_rfl
theorem j6S (r ac lg ma ml ca cl : Nat) (a b n : Int) (hn : 0 < n) (H : Heap) (hN : Neat H) (h1 : z0H (H.blks.get r) 2 = some (.ptr ac 0)) (h2 : z0H (H.blks.get r) 3 = some (.ptr lg 0))
  (h3 : z0H (H.blks.get ac) 0 = some (.int .i64 n)) (h4 : z0H (H.blks.get ac) 3 = some (.map ma)) (h5 : z0H (H.blks.get lg) 0 = some (.map ml)) (h6 : H.blks.get ma = some (.map [] ca)) (h7 : H.blks.get ml = some (.map [] cl)) :
  CallTo Tryz.prog Tryz.tab 414 [.ptr r 0, .agg [.int .i64 a, .int .i64 b], .int .i64 0] H [(.nilslice, H)] := by
 have inH : ∀ {x i : Nat} {v : AV}, z0H (H.blks.get x) i = some v → x < H.next := fun {x i v} h => by
  cases ho : H.blks.get x with
  | none => rw [ho] at h; simp [z0H] at h
  | some o => exact hN _ _ ho
 refine z0Q Tryz.tabOk Tryz.func414 rfl rfl ?_
 show Gets Tryz.prog Tryz.tab ⟨none, 51⟩ _ _ _
 repeat refine Gets.seq ?_
 refine g0_ ?_
 refine Gets.ofH (fun h => Grows H h ∧ Neat h) ⟨.push _ _, hN.push _⟩ ?_
 rintro h ⟨ag, aN⟩
 refine g0_ ?_
 refine g1_ (y2_ @w5R mxF) ?_
 refine Gets.uptoH 4096 (fun i tm h => tm.get 0 = some (.ptr r 0) ∧ tm.get 7 = some .nilslice ∧ tm.get 8 = some (.int .i64 (i : Int)) ∧ Grows H h ∧ Neat h)
  ⟨sx0_, sx0_, sx0_, ag, aN⟩ ?_
 clear ag aN
 rintro i tm h hi ⟨i0, i7, i8, ag, aN⟩
 have e1 : z0H (h.blks.get r) 2 = some (.ptr ac 0) := by rw [ag.get r (inH h1)]; exact h1
 have e2 : z0H (h.blks.get r) 3 = some (.ptr lg 0) := by rw [ag.get r (inH h1)]; exact h2
 have e3 : z0H (h.blks.get ac) 0 = some (.int .i64 n) := by rw [ag.get ac (inH h3)]; exact h3
 have e4 : z0H (h.blks.get ac) 3 = some (.map ma) := by rw [ag.get ac (inH h3)]; exact h4
 have e5 : z0H (h.blks.get lg) 0 = some (.map ml) := by rw [ag.get lg (inH h5)]; exact h5
 have e6 : h.blks.get ma = some (.map [] ca) := by rw [ag.get ma (hN _ _ h6)]; exact h6
 have e7 : h.blks.get ml = some (.map [] cl) := by rw [ag.get ml (hN _ _ h7)]; exact h7
 repeat refine Gets.seq ?_
 by_cases hlt : i < 4096
 ·have hlt' : (i : Int) < 4096 := by omega
  have v8 : z4Y .i64 ((i : Int) + 1) = (i : Int) + 1 := j2r (by omega) (by omega)
  refine g1_ (y2_ i8 hlt') ?_
  refine cTb_ ?_
  have q1 := w6F lg ml cl (i : Int) h aN e5 e7
  refine o1_ (z1x z0T q1) (y6_ @z1I i0 i8 @j8F e2 (z0D w8o)) ?_
  refine g0_ ?_
  refine cF_ ?_
  have q2 := q6C ac ma ca (i : Int) n hn h aN e3 e4 e6
  refine o1_ (z1x z0T q2) (y8_ @z1I i0 i8 @j8G e1 (z0D w8p) @q6B (y2_ @stL @q9A)) ?_
  refine Gets.ofS (fun tm h' => tm.get 0 = some (.ptr r 0) ∧ tm.get 7 = some .nilslice ∧ tm.get 8 = some (.int .i64 (i : Int)) ∧ tm.get 12 = some (.bool false) ∧ Grows h h' ∧ Neat h')
   ⟨sx1_ i0, sx1_ i7, sx1_ i8, sx0_, ⟨fl_, fun b hb => fo_⟩, (by repeat' (first | exact hN | exact aN | exact bN | (refine Neat.push ?_ _) | (refine Neat.put ?_ (by ((try dsimp only); (try simp only [z0x, z0h]); omega)) _)))⟩ ?_
  clear i0 i7 i8
  clear tm
  rintro tm h' ⟨i0, i7, i8, i12, ag', aN'⟩
  refine g1_ i12 ?_
  refine cFk_ ?_
  refine g1_ (y2_ i8 v8) ?_
  exact ⟨_, _, rfl, by omega, sx1_ i0, sx1_ i7, sx1_ @q6b, ag.trans ag', aN'⟩
 ·have h9 : i = 4096 := by omega
  subst h9
  refine g1_ i8 ?_
  refine cFx_ ?_
  refine g1_ i7 ?_
  refine Gets.ret Tryz.tabOk ?_
  exact z1S rfl (sr_ Tryz.f414.eq_1) ag hN trivial
noncomputable def j7M (H : Heap) (r : Nat) : Bool :=
 match z0H (H.blks.get r) 2, z0H (H.blks.get r) 3 with
 | some (.ptr ac 0), some (.ptr lg 0) => (match z0H (H.blks.get ac) 0, z0H (H.blks.get ac) 3, z0H (H.blks.get lg) 0 with
  | some (.int .i64 (.ofNat (_ + 1))), some (.map ma), some (.map ml) => (match H.blks.get ma, H.blks.get ml with
   | some (.map [] _), some (.map [] _) => true
   | _, _ => false)
  | _, _, _ => false)
 | _, _ => false
noncomputable def z1a : Ov := fun f args H =>
 bif Nat.beq f 414 then (match args with
  | [.ptr r 0, .agg [.int .i64 _, .int .i64 _], .int .i64 (.ofNat 0)] => bif j7M H r then (bif j6z H then some [(.nilslice, H)] else none) else none
  | _ => none) else none
theorem z0s : OvOk Tryz.prog Tryz.tab z1a := by
 intro f args H outs h
 unfold z1a at h
 obtain ⟨h1, h⟩ := z0c h
 have h1 := z0C h1
 subst h1
 split at h
 ·obtain ⟨h1, h⟩ := z0c h
  obtain ⟨h2, h⟩ := z0c h
  obtain ⟨h3, h⟩ := z0c h
  have h : some [(AV.nilslice, H)] = some outs := h
  cases h
  unfold j7M at h2
  split at h2
  ·rename_i c1 c2
   split at h2
   ·rename_i c3 c4 c5
    split at h2
    ·rename_i c6 c7
     exact j6S _ _ _ _ _ _ _ _ _ _ (by simp) H (z5K h3) c1 c2 c3 c4 c5 c6 c7
    ·simp at h2
   ·simp at h2
  ·simp at h2
 ·simp at h
end Go.Proofs
