/-
  The document's check and text of a command, and of events.
-/
import Derived.Test.YthfkhidmeeajfaaGreatDoorNtA
import Derived.Test.YthfkhidmeeajfaaGreatDoorTaD
import Derived.Test.YthfkhidmeeajfaaGreatDoorTaC
set_option linter.unusedSimpArgs false
set_option linter.unusedVariables false
namespace Go.Proofs
open Go.Sx
set_option maxRecDepth 100000
set_option maxHeartbeats 1000000
theorem w4F {H : Heap} {p : Nat} {u : CmdN} (x : EffN) (h : H.blks.get p = some (z0p u)) : z0E Tryz.tab H 26 (.ptr p 3) (.agg [vi x.s, vi x.t, vi x.p]) = some (z0n H p (some (z0p { u with e := x }))) := z0O h sz26 rfl rfl (by simp [AV.cells]) rfl
theorem j6I {H : Heap} {p : Nat} {u : CmdN} (x : z0L) (h : H.blks.get p = some (z0p u)) : z0E Tryz.tab H 9 (.ptr p 6) (.str x) = some (z0n H p (some (z0p { u with key := x }))) := z0O h sz9 rfl rfl (by simp [AV.cells]) rfl
theorem j6J {H : Heap} {p : Nat} {u : CmdN} (x : Int) (h : H.blks.get p = some (z0p u)) : z0E Tryz.tab H 2 (.ptr p 7) (vi x) = some (z0n H p (some (z0p { u with delta := x }))) := z0O h sz2 rfl rfl (by simp [AV.cells]) rfl
theorem z8V {H : Heap} {p : Nat} {u : CmdN} (x : Int) (h : H.blks.get p = some (z0p u)) : z0E Tryz.tab H 3 (.ptr p 1) (vi x) = some (z0n H p (some (z0p { u with call := x }))) := z0O h sz3 rfl rfl (by simp [AV.cells]) rfl
theorem q5a {H : Heap} {p : Nat} {u : CmdN} (x : Int) (h : H.blks.get p = some (z0p u)) : z0E Tryz.tab H 3 (.ptr p 2) (vi x) = some (z0n H p (some (z0p { u with saga := x }))) := z0O h sz3 rfl rfl (by simp [AV.cells]) rfl
theorem j0n {H : Heap} {p : Nat} {u : CmdN} (x : Int) (h : H.blks.get p = some (z0p u)) : z0E Tryz.tab H 3 (.ptr p 8) (vi x) = some (z0n H p (some (z0p { u with move := x }))) := z0O h sz3 rfl rfl (by simp [AV.cells]) rfl
theorem q2a {H : Heap} {p : Nat} {u : CmdN} (x y : z0L) (h : H.blks.get p = some (z0p u)) : z0E Tryz.tab H 28 (.ptr p 9) (.agg [.str x, .str y]) = some (z0n H p (some (z0p { u with fr := x, to := y }))) := z0O h sz28 rfl rfl (by simp [AV.cells]) rfl
theorem j6K {H : Heap} {p : Nat} {u : CmdN} (x : Int) (h : H.blks.get p = some (z0p u)) : z0E Tryz.tab H 3 (.ptr p 11) (vi x) = some (z0n H p (some (z0p { u with group := x }))) := z0O h sz3 rfl rfl (by simp [AV.cells]) rfl
theorem w4G {H : Heap} {p : Nat} {u : CmdN} (x : DefN) (h1 : z0P x.st = true) (h : H.blks.get p = some (z0p u)) : z0E Tryz.tab H 31 (.ptr p 12) (.agg (dfL x)) = some (z0n H p (some (z0p { u with d := x }))) := z0O h sz31 rfl (by unfold dfL; simp only [AV.cells]; simp (disch := decide) only [sxL, h1]) (by simp [AV.cells]) rfl
theorem k8L {H : Heap} {p : Nat} {u : CmdN} (x : ItemN) (h : H.blks.get p = some (z0p u)) : z0E Tryz.tab H 33 (.ptr p 16) (.agg (itL x)) = some (z0n H p (some (z0p { u with it := x }))) := z0O h sz33 rfl rfl (by simp [AV.cells]) rfl
theorem k4l {H : Heap} {p : Nat} {u : CmdN} (x : Int) (h : H.blks.get p = some (z0p u)) : z0E Tryz.tab H 34 (.ptr p 22) (vi x) = some (z0n H p (some (z0p { u with res := x }))) := z0O h sz34 rfl rfl (by simp [AV.cells]) rfl
theorem j0o {H : Heap} {p : Nat} {u : CmdN} (x : z0L) (h : H.blks.get p = some (z0p u)) : z0E Tryz.tab H 9 (.ptr p 23) (.str x) = some (z0n H p (some (z0p { u with data := x }))) := z0O h sz9 rfl rfl (by simp [AV.cells]) rfl
structure UseAt (H k : Heap) (c u : CmdN) : Prop where
 a : k.blks.get H.next = some (z0p c)
 z : k.blks.get (H.next + 1) = some (.cells 36 true cmd0)
 u : k.blks.get (H.next + 2) = some (z0p u)
 g : Grows H k
 n : Neat k
theorem UseAt.set {H k : Heap} {c u u' : CmdN} (h : UseAt H k c u) : UseAt H (z0n k (H.next + 2) (some (z0p u'))) c u' :=
 ⟨by rw [z0k _ _ _ (by omega)]; exact h.a, by rw [z0k _ _ _ (by omega)]; exact h.z, z0K _ _ _, ⟨by rw [z0h]; exact h.g.next, fun b hb => by rw [z0k _ _ _ (by omega)]; exact h.g.get b hb⟩, Neat.put h.n (h.n _ _ h.u) _⟩
theorem j0p {H : Heap} (hN : Neat H) {d : DefN} (hd : z1n H d) : ltV H.next d.st := by
 rcases hd with ⟨h, _⟩ | ⟨b, c, h1, _, h2⟩
 ·exact h.lt _
 ·rw [h1]; exact hN _ _ h2
def uC0 (_ : CmdN) : CmdN := cmdZ 0
noncomputable def uB0 (_ : CmdN) : Bool := true
def uC1 (c : CmdN) : CmdN := { cmdZ 1 with e := c.e, key := c.key, delta := c.delta }
noncomputable def uB1 (c : CmdN) : Bool := effB c.e && z1S c.key && !decide (c.delta = 0) && !decide (c.delta < -1152921504606846976) && !decide (1152921504606846976 < c.delta)
def uC2 (c : CmdN) : CmdN := { cmdZ 2 with call := c.call, key := c.key }
noncomputable def uB2 (c : CmdN) : Bool := z0x c.call 0 2147483648 && z1S c.key
def uC3 (c : CmdN) : CmdN := { cmdZ 3 with move := c.move, fr := c.fr, to := c.to }
noncomputable def uB3 (c : CmdN) : Bool := z0x c.move 1 64 && z1Y c.fr c.to
def uC4 (c : CmdN) : CmdN := { cmdZ 4 with move := c.move, fr := c.fr, to := c.to, data := c.data }
noncomputable def uB4 (c : CmdN) : Bool := z0x c.move 1 64 && z1Y c.fr c.to && decide (c.data.length ≤ 65536)
def uC11 (c : CmdN) : CmdN := { cmdZ 11 with call := c.call, saga := c.saga, d := c.d }
noncomputable def uB11 (c : CmdN) : Bool := z0x c.call 0 2147483648 && z0x c.saga 1 9999 && defB c.d
def uC12 (c : CmdN) : CmdN := { cmdZ 12 with call := c.call, saga := c.saga }
noncomputable def uB12 (c : CmdN) : Bool := z0x c.call 0 2147483648 && z0x c.saga 1 9999
def uC13 (c : CmdN) : CmdN := { cmdZ 13 with call := c.call, saga := c.saga }
noncomputable def uB13 (c : CmdN) : Bool := z0x c.call 0 2147483648 && z0x c.saga 1 9999
def uC14 (c : CmdN) : CmdN := { cmdZ 14 with call := c.call, fr := c.fr, to := c.to, group := c.group }
noncomputable def uB14 (c : CmdN) : Bool := z0x c.call 0 2147483648 && z1Y c.fr c.to && !decide (c.group < 1) && decide (c.group < 8)
def uC15 (c : CmdN) : CmdN := { cmdZ 15 with it := c.it, res := c.res, data := c.data }
noncomputable def uB15 (c : CmdN) : Bool := z4a c.it && !decide (c.res < 0) && !decide (18 < c.res) && decide (c.data.length ≤ 65536)
def uC (c : CmdN) : CmdN := if c.kind = 0 then uC0 c else if c.kind = 1 then uC1 c else if c.kind = 2 then uC2 c else if c.kind = 3 then uC3 c else if c.kind = 4 then uC4 c else if c.kind = 11 then uC11 c else if c.kind = 12 then uC12 c else if c.kind = 13 then uC13 c else if c.kind = 14 then uC14 c else if c.kind = 15 then uC15 c else  cmdZ c.kind
noncomputable def uB (c : CmdN) : Bool := if c.kind = 0 then uB0 c else if c.kind = 1 then uB1 c else if c.kind = 2 then uB2 c else if c.kind = 3 then uB3 c else if c.kind = 4 then uB4 c else if c.kind = 11 then uB11 c else if c.kind = 12 then uB12 c else if c.kind = 13 then uB13 c else if c.kind = 14 then uB14 c else if c.kind = 15 then uB15 c else  false
def k4m : Code → Option Code
 | .block i x => some (.block i x)
 | .seq a b => match k4m a with
  | some y => some y
  | none => k4m b
 | _ => none
def k8M (o : Option Code) : Code := match o with
 | none => .skip
 | some x => (k4m x).getD .skip
theorem z3R (c u : CmdN) (kd : Int) (b : Bool) (hk : c.kind = kd) (H : Heap) (hN : Neat H) (hd : z1n H c.d) (huo : z0P u.d.st = true) (hul : ltV H.next u.d.st)
  (h : ∀ (tm : T AV) (k0 : Heap), tm.get 1 = some (.ptr H.next 0) → tm.get 2 = some (.ptr (H.next + 1) 0) → tm.get 4 = some (.ptr (H.next + 2) 0) → tm.get 5 = some (.bool true) → tm.get 10 = some (vi kd) → UseAt H k0 c (cmdZ kd) →
   Gets Tryz.prog Tryz.tab ⟨none, 210⟩ (k8M Tryz.f190.body) ⟨tm, k0, []⟩ fun e s' => e = .normal ∧ ∃ tm k, s' = ⟨tm, k, []⟩ ∧ tm.get 2 = some (.ptr (H.next + 1) 0) ∧ tm.get 4 = some (.ptr (H.next + 2) 0) ∧ tm.get 5 = some (.bool b) ∧ UseAt H k c u) :
  CallTo Tryz.prog Tryz.tab 190 [.agg c.cells] H [(.tuple [.agg u.cells, .bool b], H)] := by
 refine z0A Tryz.tabOk Tryz.func190 rfl rfl ?_
 show Gets Tryz.prog Tryz.tab ⟨none, 210⟩ _ _ _
 repeat refine Gets.seq ?_
 have o1 := z2u hd.one
 refine g1_ (y2_ o1 @q3p) ?_
 refine Gets.ofS (fun tm k => tm.get 1 = some (.ptr H.next 0) ∧ tm.get 2 = some (.ptr (H.next + 1) 0) ∧ k.blks.get H.next = some (z0p c) ∧ k.blks.get (H.next + 1) = some (.cells 36 true cmd0) ∧ k.next = H.next + 2 ∧ Grows H k ∧ Neat k)
  ⟨sx0_, sf1_ @z0i, fo_, fo_, by simp only [z0i], (Grows.push _ _).trans (.push _ _), (hN.push _).push _⟩ ?_
 rintro tm k0 ⟨i1, i2, a0, z0, kx, kg0, kN0⟩
 have hst := j2f (c := cmdZ c.kind) (x := true) (z0w k0 (.cells 36 true cmd0)) (z2u rfl)
 refine g1_ (y8_ i1 a0 @ccL @z6s (z0b ia3) @q8G @q3p hst) ?_
 refine g0_ ?_
 have hp1 : H.next < k0.next := by omega
 refine g1_ (y5_ i1 a0 @ccL @z6s (z0b ia3)) ?_
 refine Gets.ofS (fun tm k => tm.get 1 = some (.ptr H.next 0) ∧ tm.get 2 = some (.ptr (H.next + 1) 0) ∧ tm.get 4 = some (.ptr (H.next + 2) 0) ∧ tm.get 5 = some (.bool true) ∧ tm.get 10 = some (vi kd) ∧ UseAt H k c (cmdZ kd))
  ⟨sx1_ i1, sx1_ i2, sx1_ kx, sx0_, sx1_ hk, ⟨by rw [z0k _ _ _ (by omega), z0u _ _ (by omega)]; exact a0, by rw [z0k _ _ _ (by omega), z0u _ _ (by omega)]; exact z0, by rw [← kx, z0K, hk], ⟨by rw [z0h, z0i]; omega, fun b hb => by rw [z0k _ _ _ (by omega), z0u _ _ (by omega)]; exact kg0.get b hb⟩, Neat.put (kN0.push _) (by rw [z0i]; omega) _⟩⟩ ?_
 clear i1 i2 hst a0 z0 kg0 kN0 kx hp1
 clear tm k0
 rintro tm k0 ⟨i1, i2, i4, i5, i10, hu⟩
 refine Gets.midH (I := fun tm k => tm.get 2 = some (.ptr (H.next + 1) 0) ∧ tm.get 4 = some (.ptr (H.next + 2) 0) ∧ tm.get 5 = some (.bool b) ∧ UseAt H k c u) (h tm k0 i1 i2 i4 i5 i10 hu) ?_
 clear i1 i2 i4 i5 i10 hu
 clear tm k0
 rintro tm k ⟨j2, j4, j5, hu⟩
 change Gets _ _ _ _ _ _
 repeat refine Gets.seq ?_
 have o2 : z1c u.cells = true := z2u huo
 have hst2 := j2f hu.z o2
 have uu := hu.u
 have lt2 := hu.g.next
 have ult : ltV H.next (.agg u.cells) := by
  unfold CmdN.cells
  simp only [ltV, ltL, true_and, and_true]
  exact hul
 refine g1_ (y7_ j2 j4 j5 uu @ccL (z0f ia36 sz36) hst2) ?_
 refine Gets.ret Tryz.tabOk ?_
 refine z1e rfl (sq1_ (y5_ Tryz.f190.eq_1 j2 (z0f ia36 sz36) @z0K @ccL)) ⟨by rw [z0h]; exact lt2, fun b hb => by rw [z0k _ _ _ (by omega)]; exact hu.g.get b hb⟩ hN ⟨?_, trivial, trivial⟩
 exact ult
theorem k8N (c : CmdN) (hk : c.kind = 0) (H : Heap) (hN : Neat H) (hd : z1n H c.d) (hs : CmdSm c) : CallTo Tryz.prog Tryz.tab 190 [.agg c.cells] H [(.tuple [.agg (uC0 c).cells, .bool (uB0 c)], H)] := by
 refine z3R c (uC0 c) 0 (uB0 c) hk H hN hd (rfl) (trivial) fun tm k0 i1 i2 i4 i5 i10 hu => ?_
 refine Gets.blk ?_
 change Gets _ _ _ _ _ _
 repeat refine Gets.seq ?_
 refine g1_ i10 ?_
 refine Gets.condT sx0_ (Gets.skip Tryz.tabOk ?_)
 exact z0l ⟨rfl, _, _, rfl, sx1_ i2, sx1_ i4, (by simp (disch := decide) only [sxL, i5]; rfl), hu⟩
set_option linter.defProp false
def z2F := y8_ @z0y @z3Z @ccL @z9A @z6p @z6t @z9B (y8_ @z7v @z8h @z6q @z9C @z8g @z6u @z4Y (y8_ @z4u (z0b ia34) (z0b ia2) (z0b ia3) (z0b ia9) (z0f ia31 sz31) (z0f ia26 sz26) (y5_ (z0f ia33 sz33) (z0f ia28 sz28) @z2m @z2p @z0N)))
theorem k8O (c : CmdN) (hk : c.kind = 1) (H : Heap) (hN : Neat H) (hd : z1n H c.d) (hs : CmdSm c) : CallTo Tryz.prog Tryz.tab 190 [.agg c.cells] H [(.tuple [.agg (uC1 c).cells, .bool (uB1 c)], H)] := by
 have hky : c.key.length < 1000000000 := by have := hs.key; omega
 refine z3R c (uC1 c) 1 (uB1 c) hk H hN hd (rfl) (trivial) fun tm k0 i1 i2 i4 i5 i10 hu => ?_
 refine Gets.blk ?_
 change Gets _ _ _ _ _ _
 repeat refine Gets.seq ?_
 refine g1_ i10 ?_
 refine cF_ ?_
 refine g1_ i10 ?_
 refine cT_ ?_
 have st1 := w4F c.e (p := H.next + 2) hu.u
 have a1 := hu.a
 refine g1_ (y7_ i1 i4 a1 @ccL @z9A (z0f ia26 sz26) st1) ?_
 refine Gets.ofS (fun tm k => tm.get 1 = some (.ptr H.next 0) ∧ tm.get 2 = some (.ptr (H.next + 1) 0) ∧ tm.get 4 = some (.ptr (H.next + 2) 0) ∧ tm.get 5 = some (.bool true) ∧ UseAt H k c { cmdZ 1 with e := c.e }) ⟨sx1_ i1, sx1_ i2, sx1_ i4, sx1_ i5, hu.set⟩ ?_
 clear i1 i2 i4 i5 i10 a1 st1
 clear tm
 rintro tm k1 ⟨i1, i2, i4, i5, hu1⟩
 have st2 := j6I c.key (p := H.next + 2) hu1.u
 have a2 := hu1.a
 refine g1_ (y7_ i1 i4 a2 @ccL @z6p (z0b ia9) st2) ?_
 refine Gets.ofS (fun tm k => tm.get 1 = some (.ptr H.next 0) ∧ tm.get 2 = some (.ptr (H.next + 1) 0) ∧ tm.get 4 = some (.ptr (H.next + 2) 0) ∧ tm.get 5 = some (.bool true) ∧ UseAt H k c { cmdZ 1 with e := c.e, key := c.key }) ⟨sx1_ i1, sx1_ i2, sx1_ i4, sx1_ i5, hu1.set⟩ ?_
 clear i1 i2 i4 i5 a2 st2
 clear tm
 rintro tm k2 ⟨i1, i2, i4, i5, hu2⟩
 have st3 := j6J c.delta (p := H.next + 2) hu2.u
 have a3 := hu2.a
 refine g1_ (y7_ i1 i4 a3 @ccL @z6t (z0b ia2) st3) ?_
 refine Gets.ofS (fun tm k => tm.get 1 = some (.ptr H.next 0) ∧ tm.get 2 = some (.ptr (H.next + 1) 0) ∧ tm.get 4 = some (.ptr (H.next + 2) 0) ∧ tm.get 5 = some (.bool true) ∧ UseAt H k c { cmdZ 1 with e := c.e, key := c.key, delta := c.delta }) ⟨sx1_ i1, sx1_ i2, sx1_ i4, sx1_ i5, hu2.set⟩ ?_
 clear i1 i2 i4 i5 a3 st3
 clear tm
 rintro tm k3 ⟨i1, i2, i4, i5, hu3⟩
 obtain ⟨k, hk9⟩ : ∃ k, k = k3 := ⟨_, rfl⟩
 rw [← hk9]
 rw [← hk9] at hu3
 have kN := hu3.n
 have kg := hu3.g
 have ak := hu3.a
 have q1 := z9w c.e k kN
 cases x1 : effB c.e with
 | false =>
  rw [x1] at q1
  refine o1_ (z0e z0c q1) (y4_ z2F i1 i4 ak) ?_
  exact z0l ⟨rfl, _, _, rfl, sx1_ i2, sx1_ i4, (by unfold uB1; simp (disch := decide) only [sxL, x1]), hu3⟩
 | true =>
  rw [x1] at q1
  have q2 := z8L c.key hky k kN
  cases x2 : z1S c.key with
  | false =>
   rw [x2] at q2
   refine o1_ ((z0e (z0e z0c q1) q2)) (y5_ z2F i1 i4 ak x1) ?_
   exact z0l ⟨rfl, _, _, rfl, sx1_ i2, sx1_ i4, (by unfold uB1; simp (disch := decide) only [sxL, x1, x2]), hu3⟩
  | true =>
   rw [x2] at q2
   by_cases x3 : c.delta = 0
   ·refine o1_ ((z0e (z0e z0c q1) q2)) (y7_ z2F i1 i4 ak x1 x2 x3) ?_
    exact z0l ⟨rfl, _, _, rfl, sx1_ i2, sx1_ i4, (by unfold uB1; simp (disch := decide) only [sxL, x1, x2, x3]), hu3⟩
   by_cases x4 : c.delta < -1152921504606846976
   ·refine o1_ ((z0e (z0e z0c q1) q2)) (y8_ z2F i1 i4 ak x1 x2 x3 x4) ?_
    exact z0l ⟨rfl, _, _, rfl, sx1_ i2, sx1_ i4, (by unfold uB1; simp (disch := decide) only [sxL, x1, x2, x3, x4]), hu3⟩
   by_cases x5 : 1152921504606846976 < c.delta
   ·refine o1_ ((z0e (z0e z0c q1) q2)) (y8_ z2F i1 i4 ak x1 x2 x3 (y2_ x4 x5)) ?_
    exact z0l ⟨rfl, _, _, rfl, sx1_ i2, sx1_ i4, (by unfold uB1; simp (disch := decide) only [sxL, x1, x2, x3, x4, x5]), hu3⟩
   refine o1_ ((z0e (z0e z0c q1) q2)) (y8_ z2F i1 i4 ak x1 x2 x3 (y2_ x4 x5)) ?_
   exact z0l ⟨rfl, _, _, rfl, sx1_ i2, sx1_ i4, (by unfold uB1; simp (disch := decide) only [sxL, x1, x2, x3, x4, x5]), hu3⟩
def j6L := y3_ @ccL @z9B (z0b ia3)
theorem k8P (c : CmdN) (hk : c.kind = 2) (H : Heap) (hN : Neat H) (hd : z1n H c.d) (hs : CmdSm c) : CallTo Tryz.prog Tryz.tab 190 [.agg c.cells] H [(.tuple [.agg (uC2 c).cells, .bool (uB2 c)], H)] := by
 have hky : c.key.length < 1000000000 := by have := hs.key; omega
 refine z3R c (uC2 c) 2 (uB2 c) hk H hN hd (rfl) (trivial) fun tm k0 i1 i2 i4 i5 i10 hu => ?_
 refine Gets.blk ?_
 change Gets _ _ _ _ _ _
 repeat refine Gets.seq ?_
 refine g1_ i10 ?_
 refine cF_ ?_
 refine g1_ i10 ?_
 refine cF_ ?_
 refine g1_ i10 ?_
 refine cT_ ?_
 have st1 := z8V c.call (p := H.next + 2) hu.u
 have a1 := hu.a
 refine g1_ (y5_ i1 i4 a1 j6L st1) ?_
 refine Gets.ofS (fun tm k => tm.get 1 = some (.ptr H.next 0) ∧ tm.get 2 = some (.ptr (H.next + 1) 0) ∧ tm.get 4 = some (.ptr (H.next + 2) 0) ∧ tm.get 5 = some (.bool true) ∧ UseAt H k c { cmdZ 2 with call := c.call }) ⟨sx1_ i1, sx1_ i2, sx1_ i4, sx1_ i5, hu.set⟩ ?_
 clear i1 i2 i4 i5 i10 a1 st1
 clear tm
 rintro tm k1 ⟨i1, i2, i4, i5, hu1⟩
 have st2 := j6I c.key (p := H.next + 2) hu1.u
 have a2 := hu1.a
 refine g1_ (y7_ i1 i4 a2 @ccL @z6p (z0b ia9) st2) ?_
 refine Gets.ofS (fun tm k => tm.get 1 = some (.ptr H.next 0) ∧ tm.get 2 = some (.ptr (H.next + 1) 0) ∧ tm.get 4 = some (.ptr (H.next + 2) 0) ∧ tm.get 5 = some (.bool true) ∧ UseAt H k c { cmdZ 2 with call := c.call, key := c.key }) ⟨sx1_ i1, sx1_ i2, sx1_ i4, sx1_ i5, hu1.set⟩ ?_
 clear i1 i2 i4 i5 a2 st2
 clear tm
 rintro tm k2 ⟨i1, i2, i4, i5, hu2⟩
 obtain ⟨k, hk9⟩ : ∃ k, k = k2 := ⟨_, rfl⟩
 rw [← hk9]
 rw [← hk9] at hu2
 have kN := hu2.n
 have kg := hu2.g
 have ak := hu2.a
 have q1 := z8T c.call k kN
 cases x1 : z0x c.call 0 2147483648 with
 | false =>
  rw [x1] at q1
  refine o1_ (z0e z0c q1) (y4_ z2F i1 i4 ak) ?_
  exact z0l ⟨rfl, _, _, rfl, sx1_ i2, sx1_ i4, (by unfold uB2; simp (disch := decide) only [sxL, x1]), hu2⟩
 | true =>
  rw [x1] at q1
  have q2 := z8L c.key hky k kN
  cases x2 : z1S c.key with
  | false =>
   rw [x2] at q2
   refine o1_ ((z0e (z0e z0c q1) q2)) (y5_ z2F i1 i4 ak x1) ?_
   exact z0l ⟨rfl, _, _, rfl, sx1_ i2, sx1_ i4, (by unfold uB2; simp (disch := decide) only [sxL, x1, x2]), hu2⟩
  | true =>
   rw [x2] at q2
   refine o1_ ((z0e (z0e z0c q1) q2)) (y6_ z2F i1 i4 ak x1 x2) ?_
   exact z0l ⟨rfl, _, _, rfl, sx1_ i2, sx1_ i4, (by unfold uB2; simp (disch := decide) only [sxL, x1, x2]), hu2⟩
def k4n := y3_ @ccL @z6q (z0f ia28 sz28)
theorem k8Q (c : CmdN) (hk : c.kind = 3) (H : Heap) (hN : Neat H) (hd : z1n H c.d) (hs : CmdSm c) : CallTo Tryz.prog Tryz.tab 190 [.agg c.cells] H [(.tuple [.agg (uC3 c).cells, .bool (uB3 c)], H)] := by
 have hfr : c.fr.length < 1000000000 := by have := hs.fr; omega
 have hto : c.to.length < 1000000000 := by have := hs.to; omega
 refine z3R c (uC3 c) 3 (uB3 c) hk H hN hd (rfl) (trivial) fun tm k0 i1 i2 i4 i5 i10 hu => ?_
 refine Gets.blk ?_
 change Gets _ _ _ _ _ _
 repeat refine Gets.seq ?_
 refine g1_ i10 ?_
 refine cF_ ?_
 refine g1_ i10 ?_
 refine cF_ ?_
 refine g1_ i10 ?_
 refine cF_ ?_
 refine g1_ i10 ?_
 refine cT_ ?_
 have st1 := j0n c.move (p := H.next + 2) hu.u
 have a1 := hu.a
 refine g1_ (y7_ i1 i4 a1 @ccL @z8h (z0b ia3) st1) ?_
 refine Gets.ofS (fun tm k => tm.get 1 = some (.ptr H.next 0) ∧ tm.get 2 = some (.ptr (H.next + 1) 0) ∧ tm.get 4 = some (.ptr (H.next + 2) 0) ∧ tm.get 5 = some (.bool true) ∧ UseAt H k c { cmdZ 3 with move := c.move }) ⟨sx1_ i1, sx1_ i2, sx1_ i4, sx1_ i5, hu.set⟩ ?_
 clear i1 i2 i4 i5 i10 a1 st1
 clear tm
 rintro tm k1 ⟨i1, i2, i4, i5, hu1⟩
 have st2 := q2a c.fr c.to (p := H.next + 2) hu1.u
 have a2 := hu1.a
 refine g1_ (y5_ i1 i4 a2 k4n st2) ?_
 refine Gets.ofS (fun tm k => tm.get 1 = some (.ptr H.next 0) ∧ tm.get 2 = some (.ptr (H.next + 1) 0) ∧ tm.get 4 = some (.ptr (H.next + 2) 0) ∧ tm.get 5 = some (.bool true) ∧ UseAt H k c { cmdZ 3 with move := c.move, fr := c.fr, to := c.to }) ⟨sx1_ i1, sx1_ i2, sx1_ i4, sx1_ i5, hu1.set⟩ ?_
 clear i1 i2 i4 i5 a2 st2
 clear tm
 rintro tm k2 ⟨i1, i2, i4, i5, hu2⟩
 obtain ⟨k, hk9⟩ : ∃ k, k = k2 := ⟨_, rfl⟩
 rw [← hk9]
 rw [← hk9] at hu2
 have kN := hu2.n
 have kg := hu2.g
 have ak := hu2.a
 have q1 := j0k c.move k kN
 cases x1 : z0x c.move 1 64 with
 | false =>
  rw [x1] at q1
  refine o1_ (z0e z0c q1) (y4_ z2F i1 i4 ak) ?_
  exact z0l ⟨rfl, _, _, rfl, sx1_ i2, sx1_ i4, (by unfold uB3; simp (disch := decide) only [sxL, x1]), hu2⟩
 | true =>
  rw [x1] at q1
  have q2 := z7l c.fr c.to hfr hto k kN
  cases x2 : z1Y c.fr c.to with
  | false =>
   rw [x2] at q2
   refine o1_ ((z0e (z0e z0c q1) q2)) (y5_ z2F i1 i4 ak x1) ?_
   exact z0l ⟨rfl, _, _, rfl, sx1_ i2, sx1_ i4, (by unfold uB3; simp (disch := decide) only [sxL, x1, x2]), hu2⟩
  | true =>
   rw [x2] at q2
   refine o1_ ((z0e (z0e z0c q1) q2)) (y6_ z2F i1 i4 ak x1 x2) ?_
   exact z0l ⟨rfl, _, _, rfl, sx1_ i2, sx1_ i4, (by unfold uB3; simp (disch := decide) only [sxL, x1, x2]), hu2⟩
theorem k8R (c : CmdN) (hk : c.kind = 4) (H : Heap) (hN : Neat H) (hd : z1n H c.d) (hs : CmdSm c) : CallTo Tryz.prog Tryz.tab 190 [.agg c.cells] H [(.tuple [.agg (uC4 c).cells, .bool (uB4 c)], H)] := by
 have hfr : c.fr.length < 1000000000 := by have := hs.fr; omega
 have hto : c.to.length < 1000000000 := by have := hs.to; omega
 have hda : c.data.length < 1000000000 := by have := hs.data; omega
 refine z3R c (uC4 c) 4 (uB4 c) hk H hN hd (rfl) (trivial) fun tm k0 i1 i2 i4 i5 i10 hu => ?_
 refine Gets.blk ?_
 change Gets _ _ _ _ _ _
 repeat refine Gets.seq ?_
 refine g1_ i10 ?_
 refine cF_ ?_
 refine g1_ i10 ?_
 refine cF_ ?_
 refine g1_ i10 ?_
 refine cF_ ?_
 refine g1_ i10 ?_
 refine cF_ ?_
 refine g1_ i10 ?_
 refine cT_ ?_
 have st1 := j0n c.move (p := H.next + 2) hu.u
 have a1 := hu.a
 refine g1_ (y7_ i1 i4 a1 @ccL @z8h (z0b ia3) st1) ?_
 refine Gets.ofS (fun tm k => tm.get 1 = some (.ptr H.next 0) ∧ tm.get 2 = some (.ptr (H.next + 1) 0) ∧ tm.get 4 = some (.ptr (H.next + 2) 0) ∧ tm.get 5 = some (.bool true) ∧ UseAt H k c { cmdZ 4 with move := c.move }) ⟨sx1_ i1, sx1_ i2, sx1_ i4, sx1_ i5, hu.set⟩ ?_
 clear i1 i2 i4 i5 i10 a1 st1
 clear tm
 rintro tm k1 ⟨i1, i2, i4, i5, hu1⟩
 have st2 := q2a c.fr c.to (p := H.next + 2) hu1.u
 have a2 := hu1.a
 refine g1_ (y5_ i1 i4 a2 k4n st2) ?_
 refine Gets.ofS (fun tm k => tm.get 1 = some (.ptr H.next 0) ∧ tm.get 2 = some (.ptr (H.next + 1) 0) ∧ tm.get 4 = some (.ptr (H.next + 2) 0) ∧ tm.get 5 = some (.bool true) ∧ UseAt H k c { cmdZ 4 with move := c.move, fr := c.fr, to := c.to }) ⟨sx1_ i1, sx1_ i2, sx1_ i4, sx1_ i5, hu1.set⟩ ?_
 clear i1 i2 i4 i5 a2 st2
 clear tm
 rintro tm k2 ⟨i1, i2, i4, i5, hu2⟩
 have st3 := j0o c.data (p := H.next + 2) hu2.u
 have a3 := hu2.a
 refine g1_ (y7_ i1 i4 a3 @ccL @z4u (z0b ia9) st3) ?_
 refine Gets.ofS (fun tm k => tm.get 1 = some (.ptr H.next 0) ∧ tm.get 2 = some (.ptr (H.next + 1) 0) ∧ tm.get 4 = some (.ptr (H.next + 2) 0) ∧ tm.get 5 = some (.bool true) ∧ UseAt H k c { cmdZ 4 with move := c.move, fr := c.fr, to := c.to, data := c.data }) ⟨sx1_ i1, sx1_ i2, sx1_ i4, sx1_ i5, hu2.set⟩ ?_
 clear i1 i2 i4 i5 a3 st3
 clear tm
 rintro tm k3 ⟨i1, i2, i4, i5, hu3⟩
 obtain ⟨k, hk9⟩ : ∃ k, k = k3 := ⟨_, rfl⟩
 rw [← hk9]
 rw [← hk9] at hu3
 have kN := hu3.n
 have kg := hu3.g
 have ak := hu3.a
 have q1 := j0k c.move k kN
 cases x1 : z0x c.move 1 64 with
 | false =>
  rw [x1] at q1
  refine o1_ (z0e z0c q1) (y4_ z2F i1 i4 ak) ?_
  exact z0l ⟨rfl, _, _, rfl, sx1_ i2, sx1_ i4, (by unfold uB4; simp (disch := decide) only [sxL, x1]), hu3⟩
 | true =>
  rw [x1] at q1
  have q2 := z7l c.fr c.to hfr hto k kN
  cases x2 : z1Y c.fr c.to with
  | false =>
   rw [x2] at q2
   refine o1_ ((z0e (z0e z0c q1) q2)) (y5_ z2F i1 i4 ak x1) ?_
   exact z0l ⟨rfl, _, _, rfl, sx1_ i2, sx1_ i4, (by unfold uB4; simp (disch := decide) only [sxL, x1, x2]), hu3⟩
  | true =>
   rw [x2] at q2
   have q3 := j0l c.data hda k kN
   cases x3 : decide (c.data.length ≤ 65536) with
   | false =>
    rw [x3] at q3
    refine o1_ ((z0e (z0e (z0e z0c q1) q2) q3)) (y6_ z2F i1 i4 ak x1 x2) ?_
    exact z0l ⟨rfl, _, _, rfl, sx1_ i2, sx1_ i4, (by unfold uB4; simp (disch := decide) only [sxL, x1, x2, x3]), hu3⟩
   | true =>
    rw [x3] at q3
    refine o1_ ((z0e (z0e (z0e z0c q1) q2) q3)) (y7_ z2F i1 i4 ak x1 x2 x3) ?_
    exact z0l ⟨rfl, _, _, rfl, sx1_ i2, sx1_ i4, (by unfold uB4; simp (disch := decide) only [sxL, x1, x2, x3]), hu3⟩
theorem k4o (c : CmdN) (hk : c.kind = 11) (H : Heap) (hN : Neat H) (hd : z1n H c.d) (hs : CmdSm c) : CallTo Tryz.prog Tryz.tab 190 [.agg c.cells] H [(.tuple [.agg (uC11 c).cells, .bool (uB11 c)], H)] := by
 have hdn : c.d.name.length < 1000000 := by have := hs.dn; omega
 have hdk : ∀ s ∈ c.d.ss, s.key.length < 1000000 := fun s h => by have := hs.dk s h; omega
 have hdl : c.d.ss.length < 1000000 := by have := hs.dl; omega
 refine z3R c (uC11 c) 11 (uB11 c) hk H hN hd (hd.one) (j0p hN hd) fun tm k0 i1 i2 i4 i5 i10 hu => ?_
 refine Gets.blk ?_
 change Gets _ _ _ _ _ _
 repeat refine Gets.seq ?_
 refine g1_ i10 ?_
 refine cF_ ?_
 refine g1_ i10 ?_
 refine cF_ ?_
 refine g1_ i10 ?_
 refine cF_ ?_
 refine g1_ i10 ?_
 refine cF_ ?_
 refine g1_ i10 ?_
 refine cF_ ?_
 refine g1_ i10 ?_
 refine cT_ ?_
 have st1 := z8V c.call (p := H.next + 2) hu.u
 have a1 := hu.a
 refine g1_ (y5_ i1 i4 a1 j6L st1) ?_
 refine Gets.ofS (fun tm k => tm.get 1 = some (.ptr H.next 0) ∧ tm.get 2 = some (.ptr (H.next + 1) 0) ∧ tm.get 4 = some (.ptr (H.next + 2) 0) ∧ tm.get 5 = some (.bool true) ∧ UseAt H k c { cmdZ 11 with call := c.call }) ⟨sx1_ i1, sx1_ i2, sx1_ i4, sx1_ i5, hu.set⟩ ?_
 clear i1 i2 i4 i5 i10 a1 st1
 clear tm
 rintro tm k1 ⟨i1, i2, i4, i5, hu1⟩
 have st2 := q5a c.saga (p := H.next + 2) hu1.u
 have a2 := hu1.a
 refine g1_ (y7_ i1 i4 a2 @ccL @z7v (z0b ia3) st2) ?_
 refine Gets.ofS (fun tm k => tm.get 1 = some (.ptr H.next 0) ∧ tm.get 2 = some (.ptr (H.next + 1) 0) ∧ tm.get 4 = some (.ptr (H.next + 2) 0) ∧ tm.get 5 = some (.bool true) ∧ UseAt H k c { cmdZ 11 with call := c.call, saga := c.saga }) ⟨sx1_ i1, sx1_ i2, sx1_ i4, sx1_ i5, hu1.set⟩ ?_
 clear i1 i2 i4 i5 a2 st2
 clear tm
 rintro tm k2 ⟨i1, i2, i4, i5, hu2⟩
 have st3 := w4G c.d hd.one (p := H.next + 2) hu2.u
 have a3 := hu2.a
 refine g1_ (y7_ i1 i4 a3 @ccL @z8g (z0f ia31 sz31) st3) ?_
 refine Gets.ofS (fun tm k => tm.get 1 = some (.ptr H.next 0) ∧ tm.get 2 = some (.ptr (H.next + 1) 0) ∧ tm.get 4 = some (.ptr (H.next + 2) 0) ∧ tm.get 5 = some (.bool true) ∧ UseAt H k c { cmdZ 11 with call := c.call, saga := c.saga, d := c.d }) ⟨sx1_ i1, sx1_ i2, sx1_ i4, sx1_ i5, hu2.set⟩ ?_
 clear i1 i2 i4 i5 a3 st3
 clear tm
 rintro tm k3 ⟨i1, i2, i4, i5, hu3⟩
 obtain ⟨k, hk9⟩ : ∃ k, k = k3 := ⟨_, rfl⟩
 rw [← hk9]
 rw [← hk9] at hu3
 have kN := hu3.n
 have kg := hu3.g
 have ak := hu3.a
 have q1 := z8T c.call k kN
 cases x1 : z0x c.call 0 2147483648 with
 | false =>
  rw [x1] at q1
  refine o1_ (z0e z0c q1) (y4_ z2F i1 i4 ak) ?_
  exact z0l ⟨rfl, _, _, rfl, sx1_ i2, sx1_ i4, (by unfold uB11; simp (disch := decide) only [sxL, x1]), hu3⟩
 | true =>
  rw [x1] at q1
  have q2 := q4Z c.saga k kN
  cases x2 : z0x c.saga 1 9999 with
  | false =>
   rw [x2] at q2
   refine o1_ ((z0e (z0e z0c q1) q2)) (y5_ z2F i1 i4 ak x1) ?_
   exact z0l ⟨rfl, _, _, rfl, sx1_ i2, sx1_ i4, (by unfold uB11; simp (disch := decide) only [sxL, x1, x2]), hu3⟩
  | true =>
   rw [x2] at q2
   have q3 := q3r c.d k kN (hd.grow hN kg) hdn hdk hdl
   cases x3 : defB c.d with
   | false =>
    rw [x3] at q3
    refine o1_ ((z0e (z0e (z0e z0c q1) q2) q3)) (y6_ z2F i1 i4 ak x1 x2) ?_
    exact z0l ⟨rfl, _, _, rfl, sx1_ i2, sx1_ i4, (by unfold uB11; simp (disch := decide) only [sxL, x1, x2, x3]), hu3⟩
   | true =>
    rw [x3] at q3
    refine o1_ ((z0e (z0e (z0e z0c q1) q2) q3)) (y7_ z2F i1 i4 ak x1 x2 x3) ?_
    exact z0l ⟨rfl, _, _, rfl, sx1_ i2, sx1_ i4, (by unfold uB11; simp (disch := decide) only [sxL, x1, x2, x3]), hu3⟩
theorem k4p (c : CmdN) (hk : c.kind = 12) (H : Heap) (hN : Neat H) (hd : z1n H c.d) (hs : CmdSm c) : CallTo Tryz.prog Tryz.tab 190 [.agg c.cells] H [(.tuple [.agg (uC12 c).cells, .bool (uB12 c)], H)] := by
 refine z3R c (uC12 c) 12 (uB12 c) hk H hN hd (rfl) (trivial) fun tm k0 i1 i2 i4 i5 i10 hu => ?_
 refine Gets.blk ?_
 change Gets _ _ _ _ _ _
 repeat refine Gets.seq ?_
 refine g1_ i10 ?_
 refine cF_ ?_
 refine g1_ i10 ?_
 refine cF_ ?_
 refine g1_ i10 ?_
 refine cF_ ?_
 refine g1_ i10 ?_
 refine cF_ ?_
 refine g1_ i10 ?_
 refine cF_ ?_
 refine g1_ i10 ?_
 refine cF_ ?_
 refine g1_ i10 ?_
 refine Gets.condT sx0_ (Gets.skip Tryz.tabOk ?_)
 change Gets _ _ _ _ _ _
 repeat refine Gets.seq ?_
 refine cT_ ?_
 have st1 := z8V c.call (p := H.next + 2) hu.u
 have a1 := hu.a
 refine g1_ (y5_ i1 i4 a1 j6L st1) ?_
 refine Gets.ofS (fun tm k => tm.get 1 = some (.ptr H.next 0) ∧ tm.get 2 = some (.ptr (H.next + 1) 0) ∧ tm.get 4 = some (.ptr (H.next + 2) 0) ∧ tm.get 5 = some (.bool true) ∧ UseAt H k c { cmdZ 12 with call := c.call }) ⟨sx1_ i1, sx1_ i2, sx1_ i4, sx1_ i5, hu.set⟩ ?_
 clear i1 i2 i4 i5 i10 a1 st1
 clear tm
 rintro tm k1 ⟨i1, i2, i4, i5, hu1⟩
 have st2 := q5a c.saga (p := H.next + 2) hu1.u
 have a2 := hu1.a
 refine g1_ (y7_ i1 i4 a2 @ccL @z7v (z0b ia3) st2) ?_
 refine Gets.ofS (fun tm k => tm.get 1 = some (.ptr H.next 0) ∧ tm.get 2 = some (.ptr (H.next + 1) 0) ∧ tm.get 4 = some (.ptr (H.next + 2) 0) ∧ tm.get 5 = some (.bool true) ∧ UseAt H k c { cmdZ 12 with call := c.call, saga := c.saga }) ⟨sx1_ i1, sx1_ i2, sx1_ i4, sx1_ i5, hu1.set⟩ ?_
 clear i1 i2 i4 i5 a2 st2
 clear tm
 rintro tm k2 ⟨i1, i2, i4, i5, hu2⟩
 obtain ⟨k, hk9⟩ : ∃ k, k = k2 := ⟨_, rfl⟩
 rw [← hk9]
 rw [← hk9] at hu2
 have kN := hu2.n
 have kg := hu2.g
 have ak := hu2.a
 have q1 := z8T c.call k kN
 cases x1 : z0x c.call 0 2147483648 with
 | false =>
  rw [x1] at q1
  refine o1_ (z0e z0c q1) (y4_ z2F i1 i4 ak) ?_
  exact z0l ⟨rfl, _, _, rfl, sx1_ i2, sx1_ i4, (by unfold uB12; simp (disch := decide) only [sxL, x1]), hu2⟩
 | true =>
  rw [x1] at q1
  have q2 := q4Z c.saga k kN
  cases x2 : z0x c.saga 1 9999 with
  | false =>
   rw [x2] at q2
   refine o1_ ((z0e (z0e z0c q1) q2)) (y5_ z2F i1 i4 ak x1) ?_
   exact z0l ⟨rfl, _, _, rfl, sx1_ i2, sx1_ i4, (by unfold uB12; simp (disch := decide) only [sxL, x1, x2]), hu2⟩
  | true =>
   rw [x2] at q2
   refine o1_ ((z0e (z0e z0c q1) q2)) (y6_ z2F i1 i4 ak x1 x2) ?_
   exact z0l ⟨rfl, _, _, rfl, sx1_ i2, sx1_ i4, (by unfold uB12; simp (disch := decide) only [sxL, x1, x2]), hu2⟩
theorem k4q (c : CmdN) (hk : c.kind = 13) (H : Heap) (hN : Neat H) (hd : z1n H c.d) (hs : CmdSm c) : CallTo Tryz.prog Tryz.tab 190 [.agg c.cells] H [(.tuple [.agg (uC13 c).cells, .bool (uB13 c)], H)] := by
 refine z3R c (uC13 c) 13 (uB13 c) hk H hN hd (rfl) (trivial) fun tm k0 i1 i2 i4 i5 i10 hu => ?_
 refine Gets.blk ?_
 change Gets _ _ _ _ _ _
 repeat refine Gets.seq ?_
 refine g1_ i10 ?_
 refine cF_ ?_
 refine g1_ i10 ?_
 refine cF_ ?_
 refine g1_ i10 ?_
 refine cF_ ?_
 refine g1_ i10 ?_
 refine cF_ ?_
 refine g1_ i10 ?_
 refine cF_ ?_
 refine g1_ i10 ?_
 refine cF_ ?_
 refine g1_ i10 ?_
 refine cF_ ?_
 refine g1_ i10 ?_
 refine cT_ ?_
 have st1 := z8V c.call (p := H.next + 2) hu.u
 have a1 := hu.a
 refine g1_ (y5_ i1 i4 a1 j6L st1) ?_
 refine Gets.ofS (fun tm k => tm.get 1 = some (.ptr H.next 0) ∧ tm.get 2 = some (.ptr (H.next + 1) 0) ∧ tm.get 4 = some (.ptr (H.next + 2) 0) ∧ tm.get 5 = some (.bool true) ∧ UseAt H k c { cmdZ 13 with call := c.call }) ⟨sx1_ i1, sx1_ i2, sx1_ i4, sx1_ i5, hu.set⟩ ?_
 clear i1 i2 i4 i5 i10 a1 st1
 clear tm
 rintro tm k1 ⟨i1, i2, i4, i5, hu1⟩
 have st2 := q5a c.saga (p := H.next + 2) hu1.u
 have a2 := hu1.a
 refine g1_ (y7_ i1 i4 a2 @ccL @z7v (z0b ia3) st2) ?_
 refine Gets.ofS (fun tm k => tm.get 1 = some (.ptr H.next 0) ∧ tm.get 2 = some (.ptr (H.next + 1) 0) ∧ tm.get 4 = some (.ptr (H.next + 2) 0) ∧ tm.get 5 = some (.bool true) ∧ UseAt H k c { cmdZ 13 with call := c.call, saga := c.saga }) ⟨sx1_ i1, sx1_ i2, sx1_ i4, sx1_ i5, hu1.set⟩ ?_
 clear i1 i2 i4 i5 a2 st2
 clear tm
 rintro tm k2 ⟨i1, i2, i4, i5, hu2⟩
 obtain ⟨k, hk9⟩ : ∃ k, k = k2 := ⟨_, rfl⟩
 rw [← hk9]
 rw [← hk9] at hu2
 have kN := hu2.n
 have kg := hu2.g
 have ak := hu2.a
 have q1 := z8T c.call k kN
 cases x1 : z0x c.call 0 2147483648 with
 | false =>
  rw [x1] at q1
  refine o1_ (z0e z0c q1) (y4_ z2F i1 i4 ak) ?_
  exact z0l ⟨rfl, _, _, rfl, sx1_ i2, sx1_ i4, (by unfold uB13; simp (disch := decide) only [sxL, x1]), hu2⟩
 | true =>
  rw [x1] at q1
  have q2 := q4Z c.saga k kN
  cases x2 : z0x c.saga 1 9999 with
  | false =>
   rw [x2] at q2
   refine o1_ ((z0e (z0e z0c q1) q2)) (y5_ z2F i1 i4 ak x1) ?_
   exact z0l ⟨rfl, _, _, rfl, sx1_ i2, sx1_ i4, (by unfold uB13; simp (disch := decide) only [sxL, x1, x2]), hu2⟩
  | true =>
   rw [x2] at q2
   refine o1_ ((z0e (z0e z0c q1) q2)) (y6_ z2F i1 i4 ak x1 x2) ?_
   exact z0l ⟨rfl, _, _, rfl, sx1_ i2, sx1_ i4, (by unfold uB13; simp (disch := decide) only [sxL, x1, x2]), hu2⟩
theorem k4r (c : CmdN) (hk : c.kind = 14) (H : Heap) (hN : Neat H) (hd : z1n H c.d) (hs : CmdSm c) : CallTo Tryz.prog Tryz.tab 190 [.agg c.cells] H [(.tuple [.agg (uC14 c).cells, .bool (uB14 c)], H)] := by
 have hfr : c.fr.length < 1000000000 := by have := hs.fr; omega
 have hto : c.to.length < 1000000000 := by have := hs.to; omega
 refine z3R c (uC14 c) 14 (uB14 c) hk H hN hd (rfl) (trivial) fun tm k0 i1 i2 i4 i5 i10 hu => ?_
 refine Gets.blk ?_
 change Gets _ _ _ _ _ _
 repeat refine Gets.seq ?_
 refine g1_ i10 ?_
 refine cF_ ?_
 refine g1_ i10 ?_
 refine cF_ ?_
 refine g1_ i10 ?_
 refine cF_ ?_
 refine g1_ i10 ?_
 refine cF_ ?_
 refine g1_ i10 ?_
 refine cF_ ?_
 refine g1_ i10 ?_
 refine cF_ ?_
 refine g1_ i10 ?_
 refine cF_ ?_
 refine g1_ i10 ?_
 refine cF_ ?_
 refine g1_ i10 ?_
 refine cT_ ?_
 have st1 := z8V c.call (p := H.next + 2) hu.u
 have a1 := hu.a
 refine g1_ (y5_ i1 i4 a1 j6L st1) ?_
 refine Gets.ofS (fun tm k => tm.get 1 = some (.ptr H.next 0) ∧ tm.get 2 = some (.ptr (H.next + 1) 0) ∧ tm.get 4 = some (.ptr (H.next + 2) 0) ∧ tm.get 5 = some (.bool true) ∧ UseAt H k c { cmdZ 14 with call := c.call }) ⟨sx1_ i1, sx1_ i2, sx1_ i4, sx1_ i5, hu.set⟩ ?_
 clear i1 i2 i4 i5 i10 a1 st1
 clear tm
 rintro tm k1 ⟨i1, i2, i4, i5, hu1⟩
 have st2 := q2a c.fr c.to (p := H.next + 2) hu1.u
 have a2 := hu1.a
 refine g1_ (y5_ i1 i4 a2 k4n st2) ?_
 refine Gets.ofS (fun tm k => tm.get 1 = some (.ptr H.next 0) ∧ tm.get 2 = some (.ptr (H.next + 1) 0) ∧ tm.get 4 = some (.ptr (H.next + 2) 0) ∧ tm.get 5 = some (.bool true) ∧ UseAt H k c { cmdZ 14 with call := c.call, fr := c.fr, to := c.to }) ⟨sx1_ i1, sx1_ i2, sx1_ i4, sx1_ i5, hu1.set⟩ ?_
 clear i1 i2 i4 i5 a2 st2
 clear tm
 rintro tm k2 ⟨i1, i2, i4, i5, hu2⟩
 have st3 := j6K c.group (p := H.next + 2) hu2.u
 have a3 := hu2.a
 refine g1_ (y7_ i1 i4 a3 @ccL @z9C (z0b ia3) st3) ?_
 refine Gets.ofS (fun tm k => tm.get 1 = some (.ptr H.next 0) ∧ tm.get 2 = some (.ptr (H.next + 1) 0) ∧ tm.get 4 = some (.ptr (H.next + 2) 0) ∧ tm.get 5 = some (.bool true) ∧ UseAt H k c { cmdZ 14 with call := c.call, fr := c.fr, to := c.to, group := c.group }) ⟨sx1_ i1, sx1_ i2, sx1_ i4, sx1_ i5, hu2.set⟩ ?_
 clear i1 i2 i4 i5 a3 st3
 clear tm
 rintro tm k3 ⟨i1, i2, i4, i5, hu3⟩
 obtain ⟨k, hk9⟩ : ∃ k, k = k3 := ⟨_, rfl⟩
 rw [← hk9]
 rw [← hk9] at hu3
 have kN := hu3.n
 have kg := hu3.g
 have ak := hu3.a
 have q1 := z8T c.call k kN
 cases x1 : z0x c.call 0 2147483648 with
 | false =>
  rw [x1] at q1
  refine o1_ (z0e z0c q1) (y4_ z2F i1 i4 ak) ?_
  exact z0l ⟨rfl, _, _, rfl, sx1_ i2, sx1_ i4, (by unfold uB14; simp (disch := decide) only [sxL, x1]), hu3⟩
 | true =>
  rw [x1] at q1
  have q2 := z7l c.fr c.to hfr hto k kN
  cases x2 : z1Y c.fr c.to with
  | false =>
   rw [x2] at q2
   refine o1_ ((z0e (z0e z0c q1) q2)) (y5_ z2F i1 i4 ak x1) ?_
   exact z0l ⟨rfl, _, _, rfl, sx1_ i2, sx1_ i4, (by unfold uB14; simp (disch := decide) only [sxL, x1, x2]), hu3⟩
  | true =>
   rw [x2] at q2
   by_cases x3 : c.group < 1
   ·refine o1_ ((z0e (z0e z0c q1) q2)) (y7_ z2F i1 i4 ak x1 x2 x3) ?_
    exact z0l ⟨rfl, _, _, rfl, sx1_ i2, sx1_ i4, (by unfold uB14; simp (disch := decide) only [sxL, x1, x2, x3]), hu3⟩
   by_cases x4 : c.group < 8
   rotate_left
   ·refine o1_ ((z0e (z0e z0c q1) q2)) (y8_ z2F i1 i4 ak x1 x2 x3 x4) ?_
    exact z0l ⟨rfl, _, _, rfl, sx1_ i2, sx1_ i4, (by unfold uB14; simp (disch := decide) only [sxL, x1, x2, x3, x4]), hu3⟩
   refine o1_ ((z0e (z0e z0c q1) q2)) (y8_ z2F i1 i4 ak x1 x2 x3 x4) ?_
   exact z0l ⟨rfl, _, _, rfl, sx1_ i2, sx1_ i4, (by unfold uB14; simp (disch := decide) only [sxL, x1, x2, x3, x4]), hu3⟩
theorem k4s (c : CmdN) (hk : c.kind = 15) (H : Heap) (hN : Neat H) (hd : z1n H c.d) (hs : CmdSm c) : CallTo Tryz.prog Tryz.tab 190 [.agg c.cells] H [(.tuple [.agg (uC15 c).cells, .bool (uB15 c)], H)] := by
 have hda : c.data.length < 1000000000 := by have := hs.data; omega
 refine z3R c (uC15 c) 15 (uB15 c) hk H hN hd (rfl) (trivial) fun tm k0 i1 i2 i4 i5 i10 hu => ?_
 refine Gets.blk ?_
 change Gets _ _ _ _ _ _
 repeat refine Gets.seq ?_
 refine g1_ i10 ?_
 refine cF_ ?_
 refine g1_ i10 ?_
 refine cF_ ?_
 refine g1_ i10 ?_
 refine cF_ ?_
 refine g1_ i10 ?_
 refine cF_ ?_
 refine g1_ i10 ?_
 refine cF_ ?_
 refine g1_ i10 ?_
 refine cF_ ?_
 refine g1_ i10 ?_
 refine cF_ ?_
 refine g1_ i10 ?_
 refine cF_ ?_
 refine g1_ i10 ?_
 refine cF_ ?_
 refine g1_ i10 ?_
 refine cT_ ?_
 have st1 := k8L c.it (p := H.next + 2) hu.u
 have a1 := hu.a
 refine g1_ (y7_ i1 i4 a1 @ccL @z6u (z0f ia33 sz33) st1) ?_
 refine Gets.ofS (fun tm k => tm.get 1 = some (.ptr H.next 0) ∧ tm.get 2 = some (.ptr (H.next + 1) 0) ∧ tm.get 4 = some (.ptr (H.next + 2) 0) ∧ tm.get 5 = some (.bool true) ∧ UseAt H k c { cmdZ 15 with it := c.it }) ⟨sx1_ i1, sx1_ i2, sx1_ i4, sx1_ i5, hu.set⟩ ?_
 clear i1 i2 i4 i5 i10 a1 st1
 clear tm
 rintro tm k1 ⟨i1, i2, i4, i5, hu1⟩
 have st2 := k4l c.res (p := H.next + 2) hu1.u
 have a2 := hu1.a
 refine g1_ (y7_ i1 i4 a2 @ccL @z4Y (z0b ia34) st2) ?_
 refine Gets.ofS (fun tm k => tm.get 1 = some (.ptr H.next 0) ∧ tm.get 2 = some (.ptr (H.next + 1) 0) ∧ tm.get 4 = some (.ptr (H.next + 2) 0) ∧ tm.get 5 = some (.bool true) ∧ UseAt H k c { cmdZ 15 with it := c.it, res := c.res }) ⟨sx1_ i1, sx1_ i2, sx1_ i4, sx1_ i5, hu1.set⟩ ?_
 clear i1 i2 i4 i5 a2 st2
 clear tm
 rintro tm k2 ⟨i1, i2, i4, i5, hu2⟩
 have st3 := j0o c.data (p := H.next + 2) hu2.u
 have a3 := hu2.a
 refine g1_ (y7_ i1 i4 a3 @ccL @z4u (z0b ia9) st3) ?_
 refine Gets.ofS (fun tm k => tm.get 1 = some (.ptr H.next 0) ∧ tm.get 2 = some (.ptr (H.next + 1) 0) ∧ tm.get 4 = some (.ptr (H.next + 2) 0) ∧ tm.get 5 = some (.bool true) ∧ UseAt H k c { cmdZ 15 with it := c.it, res := c.res, data := c.data }) ⟨sx1_ i1, sx1_ i2, sx1_ i4, sx1_ i5, hu2.set⟩ ?_
 clear i1 i2 i4 i5 a3 st3
 clear tm
 rintro tm k3 ⟨i1, i2, i4, i5, hu3⟩
 obtain ⟨k, hk9⟩ : ∃ k, k = k3 := ⟨_, rfl⟩
 rw [← hk9]
 rw [← hk9] at hu3
 have kN := hu3.n
 have kg := hu3.g
 have ak := hu3.a
 have q1 := q1Y c.it k kN
 cases x1 : z4a c.it with
 | false =>
  rw [x1] at q1
  refine o1_ (z0e z0c q1) (y4_ z2F i1 i4 ak) ?_
  exact z0l ⟨rfl, _, _, rfl, sx1_ i2, sx1_ i4, (by unfold uB15; simp (disch := decide) only [sxL, x1]), hu3⟩
 | true =>
  rw [x1] at q1
  by_cases x2 : c.res < 0
  ·refine o1_ (z0e z0c q1) (y6_ z2F i1 i4 ak x1 x2) ?_
   exact z0l ⟨rfl, _, _, rfl, sx1_ i2, sx1_ i4, (by unfold uB15; simp (disch := decide) only [sxL, x1, x2]), hu3⟩
  by_cases x3 : 18 < c.res
  ·refine o1_ (z0e z0c q1) (y7_ z2F i1 i4 ak x1 x2 x3) ?_
   exact z0l ⟨rfl, _, _, rfl, sx1_ i2, sx1_ i4, (by unfold uB15; simp (disch := decide) only [sxL, x1, x2, x3]), hu3⟩
  have q4 := j0l c.data hda k kN
  cases x4 : decide (c.data.length ≤ 65536) with
  | false =>
   rw [x4] at q4
   refine o1_ ((z0e (z0e z0c q1) q4)) (y7_ z2F i1 i4 ak x1 x2 x3) ?_
   exact z0l ⟨rfl, _, _, rfl, sx1_ i2, sx1_ i4, (by unfold uB15; simp (disch := decide) only [sxL, x1, x2, x3, x4]), hu3⟩
  | true =>
   rw [x4] at q4
   refine o1_ ((z0e (z0e z0c q1) q4)) (y8_ z2F i1 i4 ak x1 x2 x3 x4) ?_
   exact z0l ⟨rfl, _, _, rfl, sx1_ i2, sx1_ i4, (by unfold uB15; simp (disch := decide) only [sxL, x1, x2, x3, x4]), hu3⟩
end Go.Proofs
namespace Go.Proofs
open Go.Sx
set_option maxRecDepth 100000
set_option maxHeartbeats 1000000
theorem k4t (c : CmdN) (hk : z5g c.kind = none) (H : Heap) (hN : Neat H) (hd : z1n H c.d) (hs : CmdSm c) : CallTo Tryz.prog Tryz.tab 190 [.agg c.cells] H [(.tuple [.agg (cmdZ c.kind).cells, .bool (false)], H)] := by
 refine z0A Tryz.tabOk Tryz.func190 rfl rfl ?_
 show Gets Tryz.prog Tryz.tab ⟨none, 210⟩ _ _ _
 repeat refine Gets.seq ?_
 have hky : c.key.length < 1000000000 := by have := hs.key; omega
 have hfr : c.fr.length < 1000000000 := by have := hs.fr; omega
 have hto : c.to.length < 1000000000 := by have := hs.to; omega
 have hda : c.data.length < 1000000000 := by have := hs.data; omega
 have hdn : c.d.name.length < 1000000 := by have := hs.dn; omega
 have hdk : ∀ s ∈ c.d.ss, s.key.length < 1000000 := fun s h => by have := hs.dk s h; omega
 have hdl : c.d.ss.length < 1000000 := by have := hs.dl; omega
 have hdo := hd.one
 have o1 := z2u hdo
 have dlt := j0p hN hd
 refine g1_ (y2_ o1 @q3p) ?_
 refine Gets.ofS (fun tm k => tm.get 1 = some (.ptr H.next 0) ∧ tm.get 2 = some (.ptr (H.next + 1) 0) ∧ k.blks.get H.next = some (z0p c) ∧ k.blks.get (H.next + 1) = some (.cells 36 true cmd0) ∧ k.next = H.next + 2 ∧ Grows H k ∧ Neat k)
  ⟨sx0_, sf1_ @z0i, fo_, fo_, by simp only [z0i], (Grows.push _ _).trans (.push _ _), (hN.push _).push _⟩ ?_
 rintro tm k0 ⟨i1, i2, a0, z0, kx, kg0, kN0⟩
 have hst := j2f (c := cmdZ c.kind) (x := true) (z0w k0 (.cells 36 true cmd0)) (z2u rfl)
 refine g1_ (y8_ i1 a0 @ccL @z6s (z0b ia3) @q8G @q3p hst) ?_
 refine g0_ ?_
 have hp1 : H.next < k0.next := by omega
 refine g1_ (y5_ i1 a0 @ccL @z6s (z0b ia3)) ?_
 refine Gets.ofS (fun tm k => tm.get 1 = some (.ptr H.next 0) ∧ tm.get 2 = some (.ptr (H.next + 1) 0) ∧ tm.get 4 = some (.ptr (H.next + 2) 0) ∧ tm.get 5 = some (.bool true) ∧ tm.get 10 = some (vi c.kind) ∧ UseAt H k c (cmdZ c.kind))
  ⟨sx1_ i1, sx1_ i2, sx1_ kx, sx0_, sx0_, ⟨by rw [z0k _ _ _ (by omega), z0u _ _ (by omega)]; exact a0, by rw [z0k _ _ _ (by omega), z0u _ _ (by omega)]; exact z0, by rw [← kx, z0K], ⟨by rw [z0h, z0i]; omega, fun b hb => by rw [z0k _ _ _ (by omega), z0u _ _ (by omega)]; exact kg0.get b hb⟩, Neat.put (kN0.push _) (by rw [z0i]; omega) _⟩⟩ ?_
 clear i1 i2 hst a0 z0 kg0 kN0 kx hp1
 clear tm k0
 rintro tm k0 ⟨i1, i2, i4, i5, i10, hu⟩
 refine Gets.midH (I := fun tm k => tm.get 2 = some (.ptr (H.next + 1) 0) ∧ tm.get 4 = some (.ptr (H.next + 2) 0) ∧ tm.get 5 = some (.bool (false)) ∧ UseAt H k c (cmdZ c.kind)) ?_ ?_
 rotate_left
 ·rintro tm k ⟨j2, j4, j5, hu⟩
  change Gets _ _ _ _ _ _
  repeat refine Gets.seq ?_
  have o2 : z1c (cmdZ c.kind).cells = true := z2u (by first | exact hdo | rfl)
  have hst2 := j2f hu.z o2
  have uu := hu.u
  have lt2 := hu.g.next
  have ult : ltV H.next (.agg (cmdZ c.kind).cells) := by
   unfold CmdN.cells
   simp only [ltV, ltL, true_and, and_true]
   first | exact dlt | trivial
  generalize cmdZ c.kind = u at uu o2 hst2 hu ult ⊢
  refine g1_ (y7_ j2 j4 j5 uu @ccL (z0f ia36 sz36) hst2) ?_
  refine Gets.ret Tryz.tabOk ?_
  refine z1e rfl (sq1_ (y5_ Tryz.f190.eq_1 j2 (z0f ia36 sz36) @z0K @ccL)) ⟨by rw [z0h]; exact lt2, fun b hb => by rw [z0k _ _ _ (by omega)]; exact hu.g.get b hb⟩ hN ⟨?_, trivial, trivial⟩
  exact ult
 have e : ¬ c.kind = 0 ∧ ¬ c.kind = 1 ∧ ¬ c.kind = 2 ∧ ¬ c.kind = 3 ∧ ¬ c.kind = 4 ∧ ¬ c.kind = 11 ∧ ¬ c.kind = 12 ∧ ¬ c.kind = 13 ∧ ¬ c.kind = 14 ∧ ¬ c.kind = 15 := by
  refine ⟨?_, ?_, ?_, ?_, ?_, ?_, ?_, ?_, ?_, ?_⟩ <;> (intro h; rw [h] at hk; simp [z5g] at hk)
 obtain ⟨e0, e1, e2, e3, e4, e11, e12, e13, e14, e15⟩ := e
 refine Gets.blk ?_
 change Gets _ _ _ _ _ _
 repeat refine Gets.seq ?_
 refine g1_ (y2_ i10 e0) ?_
 refine cF_ ?_
 refine g1_ (y2_ i10 e1) ?_
 refine cF_ ?_
 refine g1_ (y2_ i10 e2) ?_
 refine cF_ ?_
 refine g1_ (y2_ i10 e3) ?_
 refine cF_ ?_
 refine g1_ (y2_ i10 e4) ?_
 refine cF_ ?_
 refine g1_ (y2_ i10 e11) ?_
 refine cF_ ?_
 refine g1_ (y2_ i10 e12) ?_
 refine cF_ ?_
 refine g1_ (y2_ i10 e13) ?_
 refine cF_ ?_
 refine g1_ (y2_ i10 e14) ?_
 refine cF_ ?_
 refine g1_ (y2_ i10 e15) ?_
 refine cF_ ?_
 refine g0_ ?_
 exact z0l ⟨rfl, _, _, rfl, sx1_ i2, sx1_ i4, sx0_, hu⟩
theorem j9V (c : CmdN) (H : Heap) (hN : Neat H) (hd : z1n H c.d) (hs : CmdSm c) : CallTo Tryz.prog Tryz.tab 190 [.agg c.cells] H [(.tuple [.agg (uC c).cells, .bool (uB c)], H)] := by
 unfold uC uB
 by_cases h0 : c.kind = 0
 ·simp only [h0, Int.reduceEq, if_false, if_true]; exact k8N c h0 H hN hd hs
 by_cases h1 : c.kind = 1
 ·simp only [h1, Int.reduceEq, if_false, if_true]; exact k8O c h1 H hN hd hs
 by_cases h2 : c.kind = 2
 ·simp only [h2, Int.reduceEq, if_false, if_true]; exact k8P c h2 H hN hd hs
 by_cases h3 : c.kind = 3
 ·simp only [h3, Int.reduceEq, if_false, if_true]; exact k8Q c h3 H hN hd hs
 by_cases h4 : c.kind = 4
 ·simp only [h4, Int.reduceEq, if_false, if_true]; exact k8R c h4 H hN hd hs
 by_cases h11 : c.kind = 11
 ·simp only [h11, Int.reduceEq, if_false, if_true]; exact k4o c h11 H hN hd hs
 by_cases h12 : c.kind = 12
 ·simp only [h12, Int.reduceEq, if_false, if_true]; exact k4p c h12 H hN hd hs
 by_cases h13 : c.kind = 13
 ·simp only [h13, Int.reduceEq, if_false, if_true]; exact k4q c h13 H hN hd hs
 by_cases h14 : c.kind = 14
 ·simp only [h14, Int.reduceEq, if_false, if_true]; exact k4r c h14 H hN hd hs
 by_cases h15 : c.kind = 15
 ·simp only [h15, Int.reduceEq, if_false, if_true]; exact k4s c h15 H hN hd hs
 simp only [h0, h1, h2, h3, h4, h11, h12, h13, h14, h15, if_false]
 exact k4t c (by unfold z5g; simp only [h0, h1, h2, h3, h4, h11, h12, h13, h14, h15, if_false]) H hN hd hs
theorem lapC {α : Type} (a : α) (l m : List α) : List.append (a :: l) m = a :: List.append l m := rfl
theorem lapN {α : Type} (m : List α) : List.append [] m = m := rfl
noncomputable def q3s (a b : CmdN) : Bool := decide (a.kind = b.kind) && decide (a.call = b.call) && decide (a.saga = b.saga) && decide (a.e = b.e) && decide (a.key = b.key) && decide (a.delta = b.delta) && decide (a.move = b.move) && (decide (a.fr = b.fr) && decide (a.to = b.to)) && decide (a.group = b.group) && q0e a.d b.d && decide (a.it = b.it) && decide (a.res = b.res) && decide (a.data = b.data)
theorem j6M (a b : CmdN) : q3s a b = z1B a b := by
 unfold q3s z1B
 ac_rfl
set_option linter.defProp false
def z8W := y8_ k5Q Tryz.f191.eq_1 @z6s @z9B @z7v @z9A @z6p (y8_ @z6t @z8h @z6q @z9C @z8g @z6u @z4Y (y8_ @z4u @ccL (z0f ia31 sz31) (z0f ia26 sz26) (z0f ia28 sz28) (z0f ia33 sz33) (z0b ia3) (y8_ (z0b ia2) (z0b ia9) (z0b ia34) @nq26 @nq28 @nq33 @z0N (y2_ @lapC @lapN))))
theorem j6N (a b : CmdN) (H : Heap) (hN : Neat H) (ha : z1n H a.d) (hb : z1n H b.d) (h1 : a.d.ss.length < 1000000) (h2 : b.d.ss.length < 1000000) :
  CallTo Tryz.prog Tryz.tab 191 [.agg a.cells, .agg b.cells] H [(.bool (q3s a b), H)] := by
 have o1 := z2u ha.one
 have o2 := z2u hb.one
 have gg : Grows H ((H.push (z0p a)).push (z0p b)) := (Grows.push _ _).trans (.push _ _)
 have hN2 := (hN.push (z0p a)).push (z0p b)
 have q := j2n a.d b.d _ hN2 (ha.grow hN gg) (hb.grow hN gg) h1 h2
 have e3 := k8s a.e b.e
 have e7 := j5O a.fr a.to b.fr b.to
 have e10 := k0P a.it b.it
 have d4 := z3f a.key b.key
 have d12 := z3f a.data b.data
 refine z0j (n := 20) Tryz.tabOk (ov := ptO noOv 63 [.agg (dfL a.d), .agg (dfL b.d)] ((H.push (z0p a)).push (z0p b)) [(.bool (q0e a.d b.d), (H.push (z0p a)).push (z0p b))]) (z0e z0c q)
  (H' := (H.push (z0p a)).push (z0p b)) ?_ gg hN trivial
 clear hN hN2 gg q ha hb h1 h2
 unfold q3s
 cases x0 : decide (a.kind = b.kind)
 ·simp only [Bool.true_and, Bool.false_and, Bool.and_false, Bool.and_true]
  exact coe_ z8W
 cases x1 : decide (a.call = b.call)
 ·simp only [Bool.true_and, Bool.false_and, Bool.and_false, Bool.and_true]
  exact coe_ z8W
 cases x2 : decide (a.saga = b.saga)
 ·simp only [Bool.true_and, Bool.false_and, Bool.and_false, Bool.and_true]
  exact coe_ z8W
 cases x3 : decide (a.e = b.e)
 ·rw [x3] at e3
  simp only [Bool.true_and, Bool.false_and, Bool.and_false, Bool.and_true]
  exact coe_ z8W
 rw [x3] at e3
 cases x4 : decide (a.key = b.key)
 ·simp only [Bool.true_and, Bool.false_and, Bool.and_false, Bool.and_true]
  exact coe_ z8W
 cases x5 : decide (a.delta = b.delta)
 ·simp only [Bool.true_and, Bool.false_and, Bool.and_false, Bool.and_true]
  exact coe_ z8W
 cases x6 : decide (a.move = b.move)
 ·simp only [Bool.true_and, Bool.false_and, Bool.and_false, Bool.and_true]
  exact coe_ z8W
 cases x7 : (decide (a.fr = b.fr) && decide (a.to = b.to))
 ·rw [x7] at e7
  simp only [Bool.true_and, Bool.false_and, Bool.and_false, Bool.and_true]
  exact coe_ z8W
 rw [x7] at e7
 cases x8 : decide (a.group = b.group)
 ·simp only [Bool.true_and, Bool.false_and, Bool.and_false, Bool.and_true]
  exact coe_ z8W
 cases x9 : q0e a.d b.d
 ·simp only [Bool.true_and, Bool.false_and, Bool.and_false, Bool.and_true]
  exact coe_ z8W
 cases x10 : decide (a.it = b.it)
 ·rw [x10] at e10
  simp only [Bool.true_and, Bool.false_and, Bool.and_false, Bool.and_true]
  exact coe_ z8W
 rw [x10] at e10
 cases x11 : decide (a.res = b.res)
 ·simp only [Bool.true_and, Bool.false_and, Bool.and_false, Bool.and_true]
  exact coe_ z8W
 cases x12 : decide (a.data = b.data)
 ·simp only [Bool.true_and, Bool.false_and, Bool.and_false, Bool.and_true]
  exact coe_ z8W
 simp only [Bool.true_and, Bool.false_and, Bool.and_false, Bool.and_true]
 exact coe_ z8W
end Go.Proofs
namespace Go.Proofs
open Go.Sx
set_option maxRecDepth 100000
set_option maxHeartbeats 1000000
theorem k8S (c : CmdN) : (uC c).d = c.d ∨ (uC c).d = ⟨[], 0, 0, .nilslice, []⟩ := by
 unfold uC
 repeat' split
 all_goals first | exact .inl rfl | exact .inr rfl
theorem z1f (a b : CmdN) : z1B a b = true ↔ ((a.d.name = b.d.name ∧ a.d.r = b.d.r ∧ a.d.d = b.d.d ∧ a.d.ss = b.d.ss) ∧ a.e = b.e ∧ (a.fr = b.fr ∧ a.to = b.to) ∧ a.it = b.it ∧ a.kind = b.kind ∧ a.call = b.call ∧ a.saga = b.saga ∧ a.key = b.key ∧ a.delta = b.delta ∧ a.move = b.move ∧ a.group = b.group ∧ a.res = b.res ∧ a.data = b.data) := by
 unfold z1B q0e
 simp only [Bool.and_eq_true, decide_eq_true_eq, and_assoc]
theorem z2x (a b : CmdN) : z1B a b = z1B b a := by
 rw [Bool.eq_iff_iff, z1f, z1f]
 constructor <;> (rintro ⟨⟨h1, h2, h3, h4⟩, h5, ⟨h6, h7⟩, h8, h9, ha, hb, hc, hd, he, hf, hg, hh⟩; exact ⟨⟨h1.symm, h2.symm, h3.symm, h4.symm⟩, h5.symm, ⟨h6.symm, h7.symm⟩, h8.symm, h9.symm, ha.symm, hb.symm, hc.symm, hd.symm, he.symm, hf.symm, hg.symm, hh.symm⟩)
theorem k4u (c : CmdN) (hk : c.kind = 0) : cmdB c = (uB0 c && z1B (uC0 c) c) := by
 have e0 : cmdB c = (([].all fun f : Fld => f.ok c) && z1B (z0D [] c) (cmdZ 0)) := by unfold cmdB; rw [hk]; rfl
 have e2 : z1B (z0D [] c) (cmdZ 0) = z1B (uC0 c) c := by
  clear e0
  rw [z2x (uC0 c) c, Bool.eq_iff_iff, z1f, z1f]
  simp only [z0D, List.foldl, fEff, fKey, fDelta, fCall, fSaga, fMove, fRange, fData, fDef, fGroup, fItem, fRes, uC0, cmdZ, hk, eq_self, true_and, and_true, and_assoc]
 have e1 : ([].all fun f : Fld => f.ok c) = uB0 c := by
  unfold uB0
  simp only [List.all_cons, List.all_nil, Bool.and_true, fEff, fKey, fDelta, fCall, fSaga, fMove, fRange, fData, fDef, fGroup, fItem, fRes, numB, nle, ne_eq, decide_not, z0x, Bool.and_assoc]
  try rfl
 rw [e0, e1, e2]
theorem k4v (c : CmdN) (hk : c.kind = 1) : cmdB c = (uB1 c && z1B (uC1 c) c) := by
 have e0 : cmdB c = (([fEff, fKey, fDelta].all fun f : Fld => f.ok c) && z1B (z0D [fEff, fKey, fDelta] c) (cmdZ 1)) := by unfold cmdB; rw [hk]; rfl
 have e2 : z1B (z0D [fEff, fKey, fDelta] c) (cmdZ 1) = z1B (uC1 c) c := by
  clear e0
  rw [z2x (uC1 c) c, Bool.eq_iff_iff, z1f, z1f]
  simp only [z0D, List.foldl, fEff, fKey, fDelta, fCall, fSaga, fMove, fRange, fData, fDef, fGroup, fItem, fRes, uC1, cmdZ, hk, eq_self, true_and, and_true, and_assoc]
 have e1 : ([fEff, fKey, fDelta].all fun f : Fld => f.ok c) = uB1 c := by
  unfold uB1
  simp only [List.all_cons, List.all_nil, Bool.and_true, fEff, fKey, fDelta, fCall, fSaga, fMove, fRange, fData, fDef, fGroup, fItem, fRes, numB, nle, ne_eq, decide_not, z0x, Bool.and_assoc]
  try rfl
 rw [e0, e1, e2]
theorem k4w (c : CmdN) (hk : c.kind = 2) : cmdB c = (uB2 c && z1B (uC2 c) c) := by
 have e0 : cmdB c = (([fCall, fKey].all fun f : Fld => f.ok c) && z1B (z0D [fCall, fKey] c) (cmdZ 2)) := by unfold cmdB; rw [hk]; rfl
 have e2 : z1B (z0D [fCall, fKey] c) (cmdZ 2) = z1B (uC2 c) c := by
  clear e0
  rw [z2x (uC2 c) c, Bool.eq_iff_iff, z1f, z1f]
  simp only [z0D, List.foldl, fEff, fKey, fDelta, fCall, fSaga, fMove, fRange, fData, fDef, fGroup, fItem, fRes, uC2, cmdZ, hk, eq_self, true_and, and_true, and_assoc]
 have e1 : ([fCall, fKey].all fun f : Fld => f.ok c) = uB2 c := by
  unfold uB2
  simp only [List.all_cons, List.all_nil, Bool.and_true, fEff, fKey, fDelta, fCall, fSaga, fMove, fRange, fData, fDef, fGroup, fItem, fRes, numB, nle, ne_eq, decide_not, z0x, Bool.and_assoc]
  try rfl
 rw [e0, e1, e2]
theorem k4x (c : CmdN) (hk : c.kind = 3) : cmdB c = (uB3 c && z1B (uC3 c) c) := by
 have e0 : cmdB c = (([fMove, fRange].all fun f : Fld => f.ok c) && z1B (z0D [fMove, fRange] c) (cmdZ 3)) := by unfold cmdB; rw [hk]; rfl
 have e2 : z1B (z0D [fMove, fRange] c) (cmdZ 3) = z1B (uC3 c) c := by
  clear e0
  rw [z2x (uC3 c) c, Bool.eq_iff_iff, z1f, z1f]
  simp only [z0D, List.foldl, fEff, fKey, fDelta, fCall, fSaga, fMove, fRange, fData, fDef, fGroup, fItem, fRes, uC3, cmdZ, hk, eq_self, true_and, and_true, and_assoc]
 have e1 : ([fMove, fRange].all fun f : Fld => f.ok c) = uB3 c := by
  unfold uB3
  simp only [List.all_cons, List.all_nil, Bool.and_true, fEff, fKey, fDelta, fCall, fSaga, fMove, fRange, fData, fDef, fGroup, fItem, fRes, numB, nle, ne_eq, decide_not, z0x, Bool.and_assoc]
  try rfl
 rw [e0, e1, e2]
theorem k4y (c : CmdN) (hk : c.kind = 4) : cmdB c = (uB4 c && z1B (uC4 c) c) := by
 have e0 : cmdB c = (([fMove, fRange, fData].all fun f : Fld => f.ok c) && z1B (z0D [fMove, fRange, fData] c) (cmdZ 4)) := by unfold cmdB; rw [hk]; rfl
 have e2 : z1B (z0D [fMove, fRange, fData] c) (cmdZ 4) = z1B (uC4 c) c := by
  clear e0
  rw [z2x (uC4 c) c, Bool.eq_iff_iff, z1f, z1f]
  simp only [z0D, List.foldl, fEff, fKey, fDelta, fCall, fSaga, fMove, fRange, fData, fDef, fGroup, fItem, fRes, uC4, cmdZ, hk, eq_self, true_and, and_true, and_assoc]
 have e1 : ([fMove, fRange, fData].all fun f : Fld => f.ok c) = uB4 c := by
  unfold uB4
  simp only [List.all_cons, List.all_nil, Bool.and_true, fEff, fKey, fDelta, fCall, fSaga, fMove, fRange, fData, fDef, fGroup, fItem, fRes, numB, nle, ne_eq, decide_not, z0x, Bool.and_assoc]
  try rfl
 rw [e0, e1, e2]
theorem j9W (c : CmdN) (hk : c.kind = 11) : cmdB c = (uB11 c && z1B (uC11 c) c) := by
 have e0 : cmdB c = (([fCall, fSaga, fDef].all fun f : Fld => f.ok c) && z1B (z0D [fCall, fSaga, fDef] c) (cmdZ 11)) := by unfold cmdB; rw [hk]; rfl
 have e2 : z1B (z0D [fCall, fSaga, fDef] c) (cmdZ 11) = z1B (uC11 c) c := by
  clear e0
  rw [z2x (uC11 c) c, Bool.eq_iff_iff, z1f, z1f]
  simp only [z0D, List.foldl, fEff, fKey, fDelta, fCall, fSaga, fMove, fRange, fData, fDef, fGroup, fItem, fRes, uC11, cmdZ, hk, eq_self, true_and, and_true, and_assoc]
 have e1 : ([fCall, fSaga, fDef].all fun f : Fld => f.ok c) = uB11 c := by
  unfold uB11
  simp only [List.all_cons, List.all_nil, Bool.and_true, fEff, fKey, fDelta, fCall, fSaga, fMove, fRange, fData, fDef, fGroup, fItem, fRes, numB, nle, ne_eq, decide_not, z0x, Bool.and_assoc]
  try rfl
 rw [e0, e1, e2]
theorem j9X (c : CmdN) (hk : c.kind = 12) : cmdB c = (uB12 c && z1B (uC12 c) c) := by
 have e0 : cmdB c = (([fCall, fSaga].all fun f : Fld => f.ok c) && z1B (z0D [fCall, fSaga] c) (cmdZ 12)) := by unfold cmdB; rw [hk]; rfl
 have e2 : z1B (z0D [fCall, fSaga] c) (cmdZ 12) = z1B (uC12 c) c := by
  clear e0
  rw [z2x (uC12 c) c, Bool.eq_iff_iff, z1f, z1f]
  simp only [z0D, List.foldl, fEff, fKey, fDelta, fCall, fSaga, fMove, fRange, fData, fDef, fGroup, fItem, fRes, uC12, cmdZ, hk, eq_self, true_and, and_true, and_assoc]
 have e1 : ([fCall, fSaga].all fun f : Fld => f.ok c) = uB12 c := by
  unfold uB12
  simp only [List.all_cons, List.all_nil, Bool.and_true, fEff, fKey, fDelta, fCall, fSaga, fMove, fRange, fData, fDef, fGroup, fItem, fRes, numB, nle, ne_eq, decide_not, z0x, Bool.and_assoc]
  try rfl
 rw [e0, e1, e2]
theorem j9Y (c : CmdN) (hk : c.kind = 13) : cmdB c = (uB13 c && z1B (uC13 c) c) := by
 have e0 : cmdB c = (([fCall, fSaga].all fun f : Fld => f.ok c) && z1B (z0D [fCall, fSaga] c) (cmdZ 13)) := by unfold cmdB; rw [hk]; rfl
 have e2 : z1B (z0D [fCall, fSaga] c) (cmdZ 13) = z1B (uC13 c) c := by
  clear e0
  rw [z2x (uC13 c) c, Bool.eq_iff_iff, z1f, z1f]
  simp only [z0D, List.foldl, fEff, fKey, fDelta, fCall, fSaga, fMove, fRange, fData, fDef, fGroup, fItem, fRes, uC13, cmdZ, hk, eq_self, true_and, and_true, and_assoc]
 have e1 : ([fCall, fSaga].all fun f : Fld => f.ok c) = uB13 c := by
  unfold uB13
  simp only [List.all_cons, List.all_nil, Bool.and_true, fEff, fKey, fDelta, fCall, fSaga, fMove, fRange, fData, fDef, fGroup, fItem, fRes, numB, nle, ne_eq, decide_not, z0x, Bool.and_assoc]
  try rfl
 rw [e0, e1, e2]
theorem j9Z (c : CmdN) (hk : c.kind = 14) : cmdB c = (uB14 c && z1B (uC14 c) c) := by
 have e0 : cmdB c = (([fCall, fRange, fGroup].all fun f : Fld => f.ok c) && z1B (z0D [fCall, fRange, fGroup] c) (cmdZ 14)) := by unfold cmdB; rw [hk]; rfl
 have e2 : z1B (z0D [fCall, fRange, fGroup] c) (cmdZ 14) = z1B (uC14 c) c := by
  clear e0
  rw [z2x (uC14 c) c, Bool.eq_iff_iff, z1f, z1f]
  simp only [z0D, List.foldl, fEff, fKey, fDelta, fCall, fSaga, fMove, fRange, fData, fDef, fGroup, fItem, fRes, uC14, cmdZ, hk, eq_self, true_and, and_true, and_assoc]
 have e1 : ([fCall, fRange, fGroup].all fun f : Fld => f.ok c) = uB14 c := by
  unfold uB14
  simp only [List.all_cons, List.all_nil, Bool.and_true, fEff, fKey, fDelta, fCall, fSaga, fMove, fRange, fData, fDef, fGroup, fItem, fRes, numB, nle, ne_eq, decide_not, z0x, Bool.and_assoc]
  rw [show (!decide (7 < c.group)) = decide (c.group < 8) by rw [← decide_not]; exact decide_eq_decide.2 (by omega)]
 rw [e0, e1, e2]
theorem k0a (c : CmdN) (hk : c.kind = 15) : cmdB c = (uB15 c && z1B (uC15 c) c) := by
 have e0 : cmdB c = (([fItem, fRes, fData].all fun f : Fld => f.ok c) && z1B (z0D [fItem, fRes, fData] c) (cmdZ 15)) := by unfold cmdB; rw [hk]; rfl
 have e2 : z1B (z0D [fItem, fRes, fData] c) (cmdZ 15) = z1B (uC15 c) c := by
  clear e0
  rw [z2x (uC15 c) c, Bool.eq_iff_iff, z1f, z1f]
  simp only [z0D, List.foldl, fEff, fKey, fDelta, fCall, fSaga, fMove, fRange, fData, fDef, fGroup, fItem, fRes, uC15, cmdZ, hk, eq_self, true_and, and_true, and_assoc]
 have e1 : ([fItem, fRes, fData].all fun f : Fld => f.ok c) = uB15 c := by
  unfold uB15
  simp only [List.all_cons, List.all_nil, Bool.and_true, fEff, fKey, fDelta, fCall, fSaga, fMove, fRange, fData, fDef, fGroup, fItem, fRes, numB, nle, ne_eq, decide_not, z0x, Bool.and_assoc]
  try rfl
 rw [e0, e1, e2]
theorem k4z (c : CmdN) : cmdB c = (uB c && q3s (uC c) c) := by
 rw [j6M]
 unfold uB uC
 by_cases h0 : c.kind = 0
 ·simp only [h0, Int.reduceEq, if_false, if_true]; exact k4u c h0
 by_cases h1 : c.kind = 1
 ·simp only [h1, Int.reduceEq, if_false, if_true]; exact k4v c h1
 by_cases h2 : c.kind = 2
 ·simp only [h2, Int.reduceEq, if_false, if_true]; exact k4w c h2
 by_cases h3 : c.kind = 3
 ·simp only [h3, Int.reduceEq, if_false, if_true]; exact k4x c h3
 by_cases h4 : c.kind = 4
 ·simp only [h4, Int.reduceEq, if_false, if_true]; exact k4y c h4
 by_cases h11 : c.kind = 11
 ·simp only [h11, Int.reduceEq, if_false, if_true]; exact j9W c h11
 by_cases h12 : c.kind = 12
 ·simp only [h12, Int.reduceEq, if_false, if_true]; exact j9X c h12
 by_cases h13 : c.kind = 13
 ·simp only [h13, Int.reduceEq, if_false, if_true]; exact j9Y c h13
 by_cases h14 : c.kind = 14
 ·simp only [h14, Int.reduceEq, if_false, if_true]; exact j9Z c h14
 by_cases h15 : c.kind = 15
 ·simp only [h15, Int.reduceEq, if_false, if_true]; exact k0a c h15
 simp only [h0, h1, h2, h3, h4, h11, h12, h13, h14, h15, if_false]
 unfold cmdB
 rw [show z5g c.kind = none by unfold z5g; simp only [h0, h1, h2, h3, h4, h11, h12, h13, h14, h15, if_false]]
 rfl
theorem q2b (c : CmdN) (H : Heap) (hN : Neat H) (hd : z1n H c.d) (hs : CmdSm c) : CallTo Tryz.prog Tryz.tab 83 [.agg c.cells] H [(vi (code (cmdB c) 2), H)] := by
 refine z0A Tryz.tabOk Tryz.func83 rfl rfl ?_
 show Gets Tryz.prog Tryz.tab ⟨none, 18⟩ _ _ _
 repeat refine Gets.seq ?_
 have o1 := z2u hd.one
 have hu : z1n H (uC c).d ∧ z0P (uC c).d.st = true ∧ (uC c).d.ss.length < 1000000 := by
  rcases k8S c with e | e
  ·rw [e]; exact ⟨hd, hd.one, by have := hs.dl; omega⟩
  ·rw [e]; exact ⟨.inl ⟨.inl rfl, rfl⟩, rfl, by show (0 : Nat) < 1000000; decide⟩
 rw [k4z]
 refine g1_ o1 ?_
 refine Gets.ofH (fun h => h.blks.get H.next = some (z0p c) ∧ Grows H h ∧ Neat h) ⟨fo_, .push _ _, hN.push _⟩ ?_
 rintro h ⟨a0, ag, aN⟩
 have q := j9V c h aN (hd.grow hN ag) hs
 have hst := j2f (c := uC c) (x := true) (z0w h (.cells 36 true cmd0)) (z2u hu.2.1)
 refine o1_ (z0e z0c q) (y6_ @z0y a0 @ccL (z0f ia36 sz36) @q3p hst) ?_
 refine Gets.ofS (fun tm k => tm.get 1 = some (.ptr H.next 0) ∧ tm.get 3 = some (.ptr h.next 0) ∧ tm.get 4 = some (.bool (uB c)) ∧ k.blks.get h.next = some (z0p (uC c)) ∧ Grows h k ∧ Neat k)
  ⟨sx0_, sx0_, sx0_, fo_, ⟨fl_, fun x hx => fo_⟩, Neat.put (aN.push _) (fl_) _⟩ ?_
 clear hst
 rintro tm k ⟨i1, i3, i4, ak, kg, kN⟩
 have a0k : k.blks.get H.next = some (z0p c) := kg.some_ aN a0
 have gk := ag.trans kg
 have q2 := j6N (uC c) c k kN (hu.1.grow hN gk) (hd.grow hN gk) hu.2.2 (by have := hs.dl; omega)
 cases hb : uB c with
 | false =>
  rw [hb] at i4
  rw [Bool.false_and]
  refine g1_ (y2_ i4 @z0N) ?_
  refine cT_ ?_
  refine g0_ ?_
  refine Gets.ret Tryz.tabOk ?_
  exact z0v rfl (sf1_ (y2_ Tryz.f83.eq_1 @z2p)) gk hN trivial
 | true =>
  rw [hb] at i4
  rw [Bool.true_and]
  generalize q3s (uC c) c = eb at q2 ⊢
  refine o1_ (z0e z0c q2) (y8_ @z0y i1 i3 i4 ak a0k @ccL (z0f ia36 sz36)) ?_
  cases eb
  ·refine cT_ ?_
   refine g0_ ?_
   refine Gets.ret Tryz.tabOk ?_
   exact z0v rfl (sf1_ (y2_ Tryz.f83.eq_1 @z2p)) gk hN trivial
  ·refine cFs_ ?_
   refine g0_ ?_
   refine Gets.ret Tryz.tabOk ?_
   exact z0v rfl (sf1_ (y2_ Tryz.f83.eq_1 @z2m)) gk hN trivial
end Go.Proofs
namespace Go.Proofs
open Go.Sx
set_option maxRecDepth 100000
set_option maxHeartbeats 1000000
theorem z3y (c : CmdN) (kd : Int) (hk : c.kind = kd) (hB : cmdB c = true) (w : z0L) (H : Heap) (hN : Neat H) (hd : z1n H c.d) (hs : CmdSm c)
  (hh : ∀ (tm : T AV) (h' : Heap), Neat h' → Grows H h' → h'.blks.get H.next = some (z0p c) → tm.get 1 = some (.ptr H.next 0) → tm.get 4 = some (.str (if z1Y c.fr c.to then z2v c.fr c.to else [])) → tm.get 22 = some (vi kd) →
   Gets Tryz.prog Tryz.tab ⟨none, 153⟩ (k8M Tryz.f44.body) ⟨tm, h', []⟩ fun e s' => e = .ret ∧ s'.df = [] ∧ s'.h = h' ∧ z1q Tryz.tab s'.tm s'.h Tryz.f44.results.toList = some [.str w, vi 0]) :
  CallTo Tryz.prog Tryz.tab 44 [.agg c.cells] H [(.tuple [.str w, vi 0], H)] := by
 refine z0A Tryz.tabOk Tryz.func44 rfl rfl ?_
 show Gets Tryz.prog Tryz.tab ⟨none, 153⟩ _ _ _
 repeat refine Gets.seq ?_
 have o1 := z2u hd.one
 refine g1_ o1 ?_
 refine Gets.ofH (fun h => h.blks.get H.next = some (z0p c) ∧ Grows H h ∧ Neat h) ⟨fo_, .push _ _, hN.push _⟩ ?_
 rintro h ⟨a0, ag, aN⟩
 have hdh := hd.grow hN ag
 have q := q2b c h aN hdh hs
 rw [hB] at q
 have qr := q6S c.fr c.to (by have := hs.fr; omega) (by have := hs.to; omega) h aN
 refine o1_ (z0e z0c q) (y5_ @z0y a0 @ccL (z0f ia36 sz36) @z2m) ?_
 refine cFs_ ?_
 refine o1_ (z0e z0c qr) (y5_ @z0y a0 @z6q @ccL (z0f ia28 sz28)) ?_
 refine g1_ (y5_ a0 @z6s @ccL (z0b ia3) hk) ?_
 refine Gets.ofS (fun tm k => k = h ∧ tm.get 1 = some (.ptr H.next 0) ∧ tm.get 4 = some (.str (if z1Y c.fr c.to then z2v c.fr c.to else [])) ∧ tm.get 22 = some (vi kd)) ⟨rfl, sx0_, sx0_, sx0_⟩ ?_
 rintro tm h' ⟨rfl, i1, i4, i22⟩
 refine (hh tm h' aN ag a0 i1 i4 i22).mono fun e s' q9 => ?_
 obtain ⟨rfl, q1, q2, q3⟩ := q9
 exact z1e q1 q3 (by rw [q2]; exact ag) hN ⟨trivial, trivial, trivial⟩
theorem k4A (c : CmdN) (hk : c.kind = 0) (hB : cmdB c = true) (H : Heap) (hN : Neat H) (hd : z1n H c.d) (hs : CmdSm c) : CallTo Tryz.prog Tryz.tab 44 [.agg c.cells] H [(.tuple [.str (cmdT c), vi 0], H)] := by
 have hB' := hB
 unfold cmdB at hB'
 rw [hk] at hB'
 obtain ⟨hall, -⟩ := Bool.and_eq_true_iff.1 hB'
 refine z0A Tryz.tabOk Tryz.func44 rfl rfl ?_
 show Gets Tryz.prog Tryz.tab ⟨none, 153⟩ _ _ _
 repeat refine Gets.seq ?_
 have o1 := z2u hd.one
 refine g1_ o1 ?_
 refine Gets.ofH (fun h => h.blks.get H.next = some (z0p c) ∧ Grows H h ∧ Neat h) ⟨fo_, .push _ _, hN.push _⟩ ?_
 rintro h ⟨a0, ag, aN⟩
 have hdh := hd.grow hN ag
 have q := q2b c h aN hdh hs
 rw [hB] at q
 have qr := q6S c.fr c.to (by have := hs.fr; omega) (by have := hs.to; omega) h aN
 refine o1_ (z0e z0c q) (y5_ @z0y a0 @ccL (z0f ia36 sz36) @z2m) ?_
 refine cFs_ ?_
 refine o1_ (z0e z0c qr) (y5_ @z0y a0 @z6q @ccL (z0f ia28 sz28)) ?_
 refine g1_ (y5_ a0 @z6s @ccL (z0b ia3) hk) ?_
 refine Gets.ofS (fun tm k => k = h ∧ tm.get 1 = some (.ptr H.next 0) ∧ tm.get 4 = some (.str (if z1Y c.fr c.to then z2v c.fr c.to else [])) ∧ tm.get 22 = some (vi 0)) ⟨rfl, sx0_, sx0_, sx0_⟩ ?_
 rintro tm h' ⟨rfl, i1, i4, i22⟩
 have hT : cmdT c = [110, 111, 111, 112] := by
  unfold cmdT
  rw [hk]
  rfl
 rw [hT]
 refine Gets.midH (I := fun tm k => k = h' ∧ tm.get 1 = some (.ptr H.next 0)) ?_ ?_
 ·refine Gets.blk ?_
  change Gets _ _ _ _ _ _
  repeat refine Gets.seq ?_
  refine g1_ i22 ?_
  refine cF_ ?_
  refine g1_ i22 ?_
  refine cF_ ?_
  refine g1_ i22 ?_
  refine cF_ ?_
  refine g1_ i22 ?_
  refine cF_ ?_
  refine g1_ i22 ?_
  refine cF_ ?_
  refine g1_ i22 ?_
  refine cF_ ?_
  refine g1_ i22 ?_
  refine cF_ ?_
  refine g1_ i22 ?_
  refine cF_ ?_
  refine g1_ i22 ?_
  refine Gets.condF sx0_ ?_
  refine Gets.skip Tryz.tabOk ?_
  exact z0l ⟨rfl, _, _, rfl, rfl, sx1_ i1⟩
 rintro tm k ⟨rfl, i1⟩
 change Gets _ _ _ _ _ _
 repeat refine Gets.seq ?_
 refine g0_ ?_
 refine Gets.ret Tryz.tabOk ?_
 exact z1e rfl (sr_ Tryz.f44.eq_1) ag hN ⟨trivial, trivial, trivial⟩
theorem k4B (c : CmdN) (hk : c.kind = 1) (hB : cmdB c = true) (H : Heap) (hN : Neat H) (hd : z1n H c.d) (hs : CmdSm c) : CallTo Tryz.prog Tryz.tab 44 [.agg c.cells] H [(.tuple [.str (cmdT c), vi 0], H)] := by
 have hB' := hB
 unfold cmdB at hB'
 rw [hk] at hB'
 obtain ⟨hall, -⟩ := Bool.and_eq_true_iff.1 hB'
 simp only [List.all_cons, List.all_nil, Bool.and_true, Bool.and_eq_true] at hall
 obtain ⟨b0, b1, b2⟩ := hall
 refine z3y c 1 hk hB (cmdT c) H hN hd hs fun tm h' aN ag a0 i1 i4 i22 => ?_
 have l0 := q0s b0
 have qe := q6T c.e h' aN
 rw [show effB c.e = true from b0, if_pos rfl] at qe
 have l1 := hs.key
 have hdl : c.delta ≠ 0 ∧ numB c.delta = true := by
  have h9 : (decide (c.delta ≠ 0) && numB c.delta) = true := b2
  simpa using h9
 have qs := j2m c.delta hdl.1 hdl.2 h' aN
 have l2 : (z7q c.delta).length ≤ 1000 := q6M c hs b2
 have c0 := cat_ ([101, 102, 102, 101, 99, 116, 32]) (effT c.e)
 have c1 := cat_ ([101, 102, 102, 101, 99, 116, 32] ++ effT c.e) [32]
 have c2 := cat_ ([101, 102, 102, 101, 99, 116, 32] ++ effT c.e ++ [32]) (c.key)
 have c3 := cat_ ([101, 102, 102, 101, 99, 116, 32] ++ effT c.e ++ [32] ++ c.key) [32]
 have c4 := cat_ ([101, 102, 102, 101, 99, 116, 32] ++ effT c.e ++ [32] ++ c.key ++ [32]) (z7q c.delta)
 have hT : cmdT c = [101, 102, 102, 101, 99, 116, 32] ++ effT c.e ++ [32] ++ c.key ++ [32] ++ z7q c.delta := by
  unfold cmdT
  rw [hk]
  show z1P ([101, 102, 102, 101, 99, 116] :: [fEff, fKey, fDelta].map fun f : Fld => f.tx c) = _
  simp [z1P, Lib.join_cons, Lib.joinTail, fDelta, fEff, fKey]
 rw [hT]
 refine Gets.blk ?_
 change Gets _ _ _ _ _ _
 repeat refine Gets.seq ?_
 refine g1_ i22 ?_
 refine cT_ ?_
 refine o1_ (z0e z0c qe) (y6_ @z0y i1 a0 @z9A @ccL (z0f ia26 sz26)) ?_
 refine gk_ (ov := ptO noOv 86 [vi c.delta] h' [(.str (z7q c.delta), h')]) (z0e z0c qs) [.rd 0, .rd 1, .rd 2, .rd 3, .rd 4, .rd 5, .rd 6, .rd 7, .rd 8, .sm 9, .rd 10, .rd 11, .rd 12] (aN) (y8_ a0 @ccL i1 i4 @z3w c0 c1 (y8_ c2 c3 c4 @z0y @z9B @z7v @z6p (y8_ @z6t @z8h @z9C @z4Y @z4u (z0b ia3) (z0b ia2) (y2_ (z0b ia9) (z0b ia34))))) ?_
 refine Gets.ret Tryz.tabOk ?_
 exact z3c ⟨rfl, rfl, rfl, sr_ Tryz.f44.eq_1⟩
set_option linter.defProp false
def j2o := y8_ @ccL @z3w @z9B @z7v @z6p @z6t @z8h (y7_ @z9C @z4Y @z4u (z0b ia3) (z0b ia2) (z0b ia9) (z0b ia34))
theorem k4C (c : CmdN) (hk : c.kind = 2) (hB : cmdB c = true) (H : Heap) (hN : Neat H) (hd : z1n H c.d) (hs : CmdSm c) : CallTo Tryz.prog Tryz.tab 44 [.agg c.cells] H [(.tuple [.str (cmdT c), vi 0], H)] := by
 have hB' := hB
 unfold cmdB at hB'
 rw [hk] at hB'
 obtain ⟨hall, -⟩ := Bool.and_eq_true_iff.1 hB'
 simp only [List.all_cons, List.all_nil, Bool.and_true, Bool.and_eq_true] at hall
 obtain ⟨b0, b1⟩ := hall
 refine z3y c 2 hk hB (cmdT c) H hN hd hs fun tm h' aN ag a0 i1 i4 i22 => ?_
 have w0 : 0 ≤ c.call ∧ c.call ≤ 9223372036854775807 := by
  have h9 : z0x c.call _ _ = true := b0
  simp only [z0x, Bool.and_eq_true, decide_eq_true_eq] at h9
  omega
 have d0 := z1a (h := h') (n := c.call) w0.1 w0.2
 have l0 := z0r (n := c.call) ⟨by omega, by omega⟩
 have l1 := hs.key
 have c0 := cat_ ([114, 101, 97, 100, 32]) (z0o c.call)
 have c1 := cat_ ([114, 101, 97, 100, 32] ++ z0o c.call) [32]
 have c2 := cat_ ([114, 101, 97, 100, 32] ++ z0o c.call ++ [32]) (c.key)
 have hT : cmdT c = [114, 101, 97, 100, 32] ++ z0o c.call ++ [32] ++ c.key := by
  unfold cmdT
  rw [hk]
  show z1P ([114, 101, 97, 100] :: [fCall, fKey].map fun f : Fld => f.tx c) = _
  simp [z1P, Lib.join_cons, Lib.joinTail, fCall, fKey]
 rw [hT]
 refine Gets.blk ?_
 change Gets _ _ _ _ _ _
 repeat refine Gets.seq ?_
 refine g1_ i22 ?_
 refine cF_ ?_
 refine g1_ i22 ?_
 refine cT_ ?_
 refine gk_ (ov := z1O noOv 87 (z2X h')) (z0I z0c (z1I aN)) [.rd 0, .rd 1, .rd 5, .rd 6, .sm 2, .rd 3, .rd 4, .rd 7, .rd 8, .rd 9] (aN) (y8_ a0 j2o i1 i4 d0 c0 c1 c2) ?_
 refine Gets.ret Tryz.tabOk ?_
 exact z3c ⟨rfl, rfl, rfl, sr_ Tryz.f44.eq_1⟩
theorem k4D (c : CmdN) (hk : c.kind = 3) (hB : cmdB c = true) (H : Heap) (hN : Neat H) (hd : z1n H c.d) (hs : CmdSm c) : CallTo Tryz.prog Tryz.tab 44 [.agg c.cells] H [(.tuple [.str (cmdT c), vi 0], H)] := by
 have hB' := hB
 unfold cmdB at hB'
 rw [hk] at hB'
 obtain ⟨hall, -⟩ := Bool.and_eq_true_iff.1 hB'
 simp only [List.all_cons, List.all_nil, Bool.and_true, Bool.and_eq_true] at hall
 obtain ⟨b0, b1⟩ := hall
 refine z3y c 3 hk hB (cmdT c) H hN hd hs fun tm h' aN ag a0 i1 i4 i22 => ?_
 have w0 : 0 ≤ c.move ∧ c.move ≤ 9223372036854775807 := by
  have h9 : z0x c.move _ _ = true := b0
  simp only [z0x, Bool.and_eq_true, decide_eq_true_eq] at h9
  omega
 have d0 := z1a (h := h') (n := c.move) w0.1 w0.2
 have l0 := z0r (n := c.move) ⟨by omega, by omega⟩
 have l1 := z8S c hs b1
 have l1 : (z2v c.fr c.to).length ≤ 1000 := l1
 rw [if_pos (show z1Y c.fr c.to = true from b1)] at i4
 have c0 := cat_ ([111, 117, 116, 32]) (z0o c.move)
 have c1 := cat_ ([111, 117, 116, 32] ++ z0o c.move) [32]
 have c2 := cat_ ([111, 117, 116, 32] ++ z0o c.move ++ [32]) (z2v c.fr c.to)
 have hT : cmdT c = [111, 117, 116, 32] ++ z0o c.move ++ [32] ++ z2v c.fr c.to := by
  unfold cmdT
  rw [hk]
  show z1P ([111, 117, 116] :: [fMove, fRange].map fun f : Fld => f.tx c) = _
  simp [z1P, Lib.join_cons, Lib.joinTail, fMove, fRange]
 rw [hT]
 refine Gets.blk ?_
 change Gets _ _ _ _ _ _
 repeat refine Gets.seq ?_
 refine g1_ i22 ?_
 refine cF_ ?_
 refine g1_ i22 ?_
 refine cF_ ?_
 refine g1_ i22 ?_
 refine cT_ ?_
 refine o1_ (ov := z1O noOv 87 (z2X h')) (z0I z0c (z1I aN)) (y8_ a0 j2o i1 i4 d0 c0 c1 c2) ?_
 refine Gets.ret Tryz.tabOk ?_
 exact z3c ⟨rfl, rfl, rfl, sr_ Tryz.f44.eq_1⟩
def k8T := y8_ @ccL @z3w (z0S ud9) @z9B @z7v @z6p @z6t (y8_ @z8h @z9C @z4Y @z4u (z0b ia3) (z0b ia2) (z0b ia9) (z0b ia34))
theorem k4E (c : CmdN) (hk : c.kind = 4) (hB : cmdB c = true) (H : Heap) (hN : Neat H) (hd : z1n H c.d) (hs : CmdSm c) : CallTo Tryz.prog Tryz.tab 44 [.agg c.cells] H [(.tuple [.str (cmdT c), vi 0], H)] := by
 have hB' := hB
 unfold cmdB at hB'
 rw [hk] at hB'
 obtain ⟨hall, -⟩ := Bool.and_eq_true_iff.1 hB'
 simp only [List.all_cons, List.all_nil, Bool.and_true, Bool.and_eq_true] at hall
 obtain ⟨b0, b1, b2⟩ := hall
 refine z3y c 4 hk hB (cmdT c) H hN hd hs fun tm h' aN ag a0 i1 i4 i22 => ?_
 have w0 : 0 ≤ c.move ∧ c.move ≤ 9223372036854775807 := by
  have h9 : z0x c.move _ _ = true := b0
  simp only [z0x, Bool.and_eq_true, decide_eq_true_eq] at h9
  omega
 have d0 := z1a (h := h') (n := c.move) w0.1 w0.2
 have l0 := z0r (n := c.move) ⟨by omega, by omega⟩
 have l1 := z8S c hs b1
 have l1 : (z2v c.fr c.to).length ≤ 1000 := l1
 rw [if_pos (show z1Y c.fr c.to = true from b1)] at i4
 have d2 := z1a (h := h') (n := (c.data.length : Int)) (by omega) (by have := hs.data; omega)
 have l2 := z0r (n := (c.data.length : Int)) (by have := hs.data; exact ⟨by omega, by omega⟩)
 have c0 := cat_ ([105, 110, 32]) (z0o c.move)
 have c1 := cat_ ([105, 110, 32] ++ z0o c.move) [32]
 have c2 := cat_ ([105, 110, 32] ++ z0o c.move ++ [32]) (z2v c.fr c.to)
 have c3 := cat_ ([105, 110, 32] ++ z0o c.move ++ [32] ++ z2v c.fr c.to) [32]
 have c4 := cat_ ([105, 110, 32] ++ z0o c.move ++ [32] ++ z2v c.fr c.to ++ [32]) (z0o c.data.length)
 have hT : cmdT c = [105, 110, 32] ++ z0o c.move ++ [32] ++ z2v c.fr c.to ++ [32] ++ z0o c.data.length := by
  unfold cmdT
  rw [hk]
  show z1P ([105, 110] :: [fMove, fRange, fData].map fun f : Fld => f.tx c) = _
  simp [z1P, Lib.join_cons, Lib.joinTail, fData, fMove, fRange]
 rw [hT]
 refine Gets.blk ?_
 change Gets _ _ _ _ _ _
 repeat refine Gets.seq ?_
 refine g1_ i22 ?_
 refine cF_ ?_
 refine g1_ i22 ?_
 refine cF_ ?_
 refine g1_ i22 ?_
 refine cF_ ?_
 refine g1_ i22 ?_
 refine cT_ ?_
 refine gk_ (ov := z1O noOv 87 (z2X h')) (z0I z0c (z1I aN)) [.rd 0, .rd 1, .rd 5, .rd 8, .rd 9, .rd 10, .sm 2, .rd 3, .rd 4, .rd 6, .rd 7, .sm 11, .rd 12, .rd 13, .rd 14] (aN) (y8_ a0 k8T i1 i4 d0 d2 c0 (y4_ c1 c2 c3 c4)) ?_
 refine Gets.ret Tryz.tabOk ?_
 exact z3c ⟨rfl, rfl, rfl, sr_ Tryz.f44.eq_1⟩
theorem k0b (c : CmdN) (hk : c.kind = 11) (hB : cmdB c = true) (H : Heap) (hN : Neat H) (hd : z1n H c.d) (hs : CmdSm c) : CallTo Tryz.prog Tryz.tab 44 [.agg c.cells] H [(.tuple [.str (cmdT c), vi 0], H)] := by
 have hB' := hB
 unfold cmdB at hB'
 rw [hk] at hB'
 obtain ⟨hall, -⟩ := Bool.and_eq_true_iff.1 hB'
 simp only [List.all_cons, List.all_nil, Bool.and_true, Bool.and_eq_true] at hall
 obtain ⟨b0, b1, b2⟩ := hall
 refine z3y c 11 hk hB (cmdT c) H hN hd hs fun tm h' aN ag a0 i1 i4 i22 => ?_
 have hdh := hd.grow hN ag
 have w0 : 0 ≤ c.call ∧ c.call ≤ 9223372036854775807 := by
  have h9 : z0x c.call _ _ = true := b0
  simp only [z0x, Bool.and_eq_true, decide_eq_true_eq] at h9
  omega
 have d0 := z1a (h := h') (n := c.call) w0.1 w0.2
 have l0 := z0r (n := c.call) ⟨by omega, by omega⟩
 have w1 : 0 ≤ c.saga ∧ c.saga ≤ 9223372036854775807 := by
  have h9 : z0x c.saga _ _ = true := b1
  simp only [z0x, Bool.and_eq_true, decide_eq_true_eq] at h9
  omega
 have d1 := z1a (h := h') (n := c.saga) w1.1 w1.2
 have l1 := z0r (n := c.saga) ⟨by omega, by omega⟩
 have qd := j6H c.d b2 h' aN hdh (by have := hs.dn; omega) (fun s hh => by have := hs.dk s hh; omega) (by have := hs.dl; omega)
 have l2 := j0j b2
 have c0 := cat_ ([115, 116, 97, 114, 116, 32]) (z0o c.call)
 have c1 := cat_ ([115, 116, 97, 114, 116, 32] ++ z0o c.call) [32]
 have c2 := cat_ ([115, 116, 97, 114, 116, 32] ++ z0o c.call ++ [32]) (z0o c.saga)
 have c3 := cat_ ([115, 116, 97, 114, 116, 32] ++ z0o c.call ++ [32] ++ z0o c.saga) [32]
 have c4 := cat_ ([115, 116, 97, 114, 116, 32] ++ z0o c.call ++ [32] ++ z0o c.saga ++ [32]) (defT c.d)
 have hT : cmdT c = [115, 116, 97, 114, 116, 32] ++ z0o c.call ++ [32] ++ z0o c.saga ++ [32] ++ defT c.d := by
  unfold cmdT
  rw [hk]
  show z1P ([115, 116, 97, 114, 116] :: [fCall, fSaga, fDef].map fun f : Fld => f.tx c) = _
  simp [z1P, Lib.join_cons, Lib.joinTail, fCall, fDef, fSaga]
 rw [hT]
 refine Gets.blk ?_
 change Gets _ _ _ _ _ _
 repeat refine Gets.seq ?_
 refine g1_ i22 ?_
 refine cF_ ?_
 refine g1_ i22 ?_
 refine cF_ ?_
 refine g1_ i22 ?_
 refine cF_ ?_
 refine g1_ i22 ?_
 refine cF_ ?_
 refine g1_ i22 ?_
 refine cT_ ?_
 refine o1_ (z0e z0c qd) (y6_ @z0y i1 a0 @z8g @ccL (z0f ia31 sz31)) ?_
 refine gk_ (ov := z1O noOv 87 (z2X h')) (z0I z0c (z1I aN)) [.rd 0, .rd 1, .rd 5, .rd 6, .rd 10, .sm 2, .rd 3, .rd 4, .sm 7, .rd 8, .rd 9, .rd 11, .rd 12, .rd 13] (aN) (y8_ a0 j2o i1 i4 d0 d1 c0 (y4_ c1 c2 c3 c4)) ?_
 refine Gets.ret Tryz.tabOk ?_
 exact z3c ⟨rfl, rfl, rfl, sr_ Tryz.f44.eq_1⟩
theorem k0c (c : CmdN) (hk : c.kind = 12) (hB : cmdB c = true) (H : Heap) (hN : Neat H) (hd : z1n H c.d) (hs : CmdSm c) : CallTo Tryz.prog Tryz.tab 44 [.agg c.cells] H [(.tuple [.str (cmdT c), vi 0], H)] := by
 have hB' := hB
 unfold cmdB at hB'
 rw [hk] at hB'
 obtain ⟨hall, -⟩ := Bool.and_eq_true_iff.1 hB'
 simp only [List.all_cons, List.all_nil, Bool.and_true, Bool.and_eq_true] at hall
 obtain ⟨b0, b1⟩ := hall
 refine z3y c 12 hk hB (cmdT c) H hN hd hs fun tm h' aN ag a0 i1 i4 i22 => ?_
 have w0 : 0 ≤ c.call ∧ c.call ≤ 9223372036854775807 := by
  have h9 : z0x c.call _ _ = true := b0
  simp only [z0x, Bool.and_eq_true, decide_eq_true_eq] at h9
  omega
 have d0 := z1a (h := h') (n := c.call) w0.1 w0.2
 have l0 := z0r (n := c.call) ⟨by omega, by omega⟩
 have w1 : 0 ≤ c.saga ∧ c.saga ≤ 9223372036854775807 := by
  have h9 : z0x c.saga _ _ = true := b1
  simp only [z0x, Bool.and_eq_true, decide_eq_true_eq] at h9
  omega
 have d1 := z1a (h := h') (n := c.saga) w1.1 w1.2
 have l1 := z0r (n := c.saga) ⟨by omega, by omega⟩
 have c0 := cat_ ([115, 116, 97, 116, 117, 115, 32]) (z0o c.call)
 have c1 := cat_ ([115, 116, 97, 116, 117, 115, 32] ++ z0o c.call) [32]
 have c2 := cat_ ([115, 116, 97, 116, 117, 115, 32] ++ z0o c.call ++ [32]) (z0o c.saga)
 have hT : cmdT c = [115, 116, 97, 116, 117, 115, 32] ++ z0o c.call ++ [32] ++ z0o c.saga := by
  unfold cmdT
  rw [hk]
  show z1P ([115, 116, 97, 116, 117, 115] :: [fCall, fSaga].map fun f : Fld => f.tx c) = _
  simp [z1P, Lib.join_cons, Lib.joinTail, fCall, fSaga]
 rw [hT]
 refine Gets.blk ?_
 change Gets _ _ _ _ _ _
 repeat refine Gets.seq ?_
 refine g1_ i22 ?_
 refine cF_ ?_
 refine g1_ i22 ?_
 refine cF_ ?_
 refine g1_ i22 ?_
 refine cF_ ?_
 refine g1_ i22 ?_
 refine cF_ ?_
 refine g1_ i22 ?_
 refine cF_ ?_
 refine g1_ i22 ?_
 refine cT_ ?_
 refine gk_ (ov := z1O noOv 87 (z2X h')) (z0I z0c (z1I aN)) [.rd 0, .rd 1, .rd 5, .rd 6, .sm 2, .rd 3, .rd 4, .sm 7, .rd 8, .rd 9, .rd 10] (aN) (y8_ a0 j2o i1 i4 d0 d1 c0 (y2_ c1 c2)) ?_
 refine Gets.ret Tryz.tabOk ?_
 exact z3c ⟨rfl, rfl, rfl, sr_ Tryz.f44.eq_1⟩
theorem k0d (c : CmdN) (hk : c.kind = 13) (hB : cmdB c = true) (H : Heap) (hN : Neat H) (hd : z1n H c.d) (hs : CmdSm c) : CallTo Tryz.prog Tryz.tab 44 [.agg c.cells] H [(.tuple [.str (cmdT c), vi 0], H)] := by
 have hB' := hB
 unfold cmdB at hB'
 rw [hk] at hB'
 obtain ⟨hall, -⟩ := Bool.and_eq_true_iff.1 hB'
 simp only [List.all_cons, List.all_nil, Bool.and_true, Bool.and_eq_true] at hall
 obtain ⟨b0, b1⟩ := hall
 refine z3y c 13 hk hB (cmdT c) H hN hd hs fun tm h' aN ag a0 i1 i4 i22 => ?_
 have w0 : 0 ≤ c.call ∧ c.call ≤ 9223372036854775807 := by
  have h9 : z0x c.call _ _ = true := b0
  simp only [z0x, Bool.and_eq_true, decide_eq_true_eq] at h9
  omega
 have d0 := z1a (h := h') (n := c.call) w0.1 w0.2
 have l0 := z0r (n := c.call) ⟨by omega, by omega⟩
 have w1 : 0 ≤ c.saga ∧ c.saga ≤ 9223372036854775807 := by
  have h9 : z0x c.saga _ _ = true := b1
  simp only [z0x, Bool.and_eq_true, decide_eq_true_eq] at h9
  omega
 have d1 := z1a (h := h') (n := c.saga) w1.1 w1.2
 have l1 := z0r (n := c.saga) ⟨by omega, by omega⟩
 have c0 := cat_ ([99, 97, 110, 99, 101, 108, 32]) (z0o c.call)
 have c1 := cat_ ([99, 97, 110, 99, 101, 108, 32] ++ z0o c.call) [32]
 have c2 := cat_ ([99, 97, 110, 99, 101, 108, 32] ++ z0o c.call ++ [32]) (z0o c.saga)
 have hT : cmdT c = [99, 97, 110, 99, 101, 108, 32] ++ z0o c.call ++ [32] ++ z0o c.saga := by
  unfold cmdT
  rw [hk]
  show z1P ([99, 97, 110, 99, 101, 108] :: [fCall, fSaga].map fun f : Fld => f.tx c) = _
  simp [z1P, Lib.join_cons, Lib.joinTail, fCall, fSaga]
 rw [hT]
 refine Gets.blk ?_
 change Gets _ _ _ _ _ _
 repeat refine Gets.seq ?_
 refine g1_ i22 ?_
 refine cF_ ?_
 refine g1_ i22 ?_
 refine cF_ ?_
 refine g1_ i22 ?_
 refine cF_ ?_
 refine g1_ i22 ?_
 refine cF_ ?_
 refine g1_ i22 ?_
 refine cF_ ?_
 refine g1_ i22 ?_
 refine cF_ ?_
 refine g1_ i22 ?_
 refine cT_ ?_
 refine gk_ (ov := z1O noOv 87 (z2X h')) (z0I z0c (z1I aN)) [.rd 0, .rd 1, .rd 5, .rd 6, .sm 2, .rd 3, .rd 4, .sm 7, .rd 8, .rd 9, .rd 10] (aN) (y8_ a0 j2o i1 i4 d0 d1 c0 (y2_ c1 c2)) ?_
 refine Gets.ret Tryz.tabOk ?_
 exact z3c ⟨rfl, rfl, rfl, sr_ Tryz.f44.eq_1⟩
theorem k0e (c : CmdN) (hk : c.kind = 14) (hB : cmdB c = true) (H : Heap) (hN : Neat H) (hd : z1n H c.d) (hs : CmdSm c) : CallTo Tryz.prog Tryz.tab 44 [.agg c.cells] H [(.tuple [.str (cmdT c), vi 0], H)] := by
 have hB' := hB
 unfold cmdB at hB'
 rw [hk] at hB'
 obtain ⟨hall, -⟩ := Bool.and_eq_true_iff.1 hB'
 simp only [List.all_cons, List.all_nil, Bool.and_true, Bool.and_eq_true] at hall
 obtain ⟨b0, b1, b2⟩ := hall
 refine z3y c 14 hk hB (cmdT c) H hN hd hs fun tm h' aN ag a0 i1 i4 i22 => ?_
 have w0 : 0 ≤ c.call ∧ c.call ≤ 9223372036854775807 := by
  have h9 : z0x c.call _ _ = true := b0
  simp only [z0x, Bool.and_eq_true, decide_eq_true_eq] at h9
  omega
 have d0 := z1a (h := h') (n := c.call) w0.1 w0.2
 have l0 := z0r (n := c.call) ⟨by omega, by omega⟩
 have l1 := z8S c hs b1
 have l1 : (z2v c.fr c.to).length ≤ 1000 := l1
 rw [if_pos (show z1Y c.fr c.to = true from b1)] at i4
 have w2 : 0 ≤ c.group ∧ c.group ≤ 9223372036854775807 := by
  have h9 : z0x c.group _ _ = true := b2
  simp only [z0x, Bool.and_eq_true, decide_eq_true_eq] at h9
  omega
 have d2 := z1a (h := h') (n := c.group) w2.1 w2.2
 have l2 := z0r (n := c.group) ⟨by omega, by omega⟩
 have c0 := cat_ ([109, 111, 118, 101, 32]) (z0o c.call)
 have c1 := cat_ ([109, 111, 118, 101, 32] ++ z0o c.call) [32]
 have c2 := cat_ ([109, 111, 118, 101, 32] ++ z0o c.call ++ [32]) (z2v c.fr c.to)
 have c3 := cat_ ([109, 111, 118, 101, 32] ++ z0o c.call ++ [32] ++ z2v c.fr c.to) [32]
 have c4 := cat_ ([109, 111, 118, 101, 32] ++ z0o c.call ++ [32] ++ z2v c.fr c.to ++ [32]) (z0o c.group)
 have hT : cmdT c = [109, 111, 118, 101, 32] ++ z0o c.call ++ [32] ++ z2v c.fr c.to ++ [32] ++ z0o c.group := by
  unfold cmdT
  rw [hk]
  show z1P ([109, 111, 118, 101] :: [fCall, fRange, fGroup].map fun f : Fld => f.tx c) = _
  simp [z1P, Lib.join_cons, Lib.joinTail, fCall, fGroup, fRange]
 rw [hT]
 refine Gets.blk ?_
 change Gets _ _ _ _ _ _
 repeat refine Gets.seq ?_
 refine g1_ i22 ?_
 refine cF_ ?_
 refine g1_ i22 ?_
 refine cF_ ?_
 refine g1_ i22 ?_
 refine cF_ ?_
 refine g1_ i22 ?_
 refine cF_ ?_
 refine g1_ i22 ?_
 refine cF_ ?_
 refine g1_ i22 ?_
 refine cF_ ?_
 refine g1_ i22 ?_
 refine cF_ ?_
 refine g1_ i22 ?_
 refine cT_ ?_
 refine gk_ (ov := z1O noOv 87 (z2X h')) (z0I z0c (z1I aN)) [.rd 0, .rd 1, .rd 5, .rd 8, .rd 9, .sm 2, .rd 3, .rd 4, .rd 6, .rd 7, .sm 10, .rd 11, .rd 12, .rd 13] (aN) (y8_ a0 j2o i1 i4 d0 d2 c0 (y4_ c1 c2 c3 c4)) ?_
 refine Gets.ret Tryz.tabOk ?_
 exact z3c ⟨rfl, rfl, rfl, sr_ Tryz.f44.eq_1⟩
theorem k0f (c : CmdN) (hk : c.kind = 15) (hB : cmdB c = true) (H : Heap) (hN : Neat H) (hd : z1n H c.d) (hs : CmdSm c) : CallTo Tryz.prog Tryz.tab 44 [.agg c.cells] H [(.tuple [.str (cmdT c), vi 0], H)] := by
 have hB' := hB
 unfold cmdB at hB'
 rw [hk] at hB'
 obtain ⟨hall, -⟩ := Bool.and_eq_true_iff.1 hB'
 simp only [List.all_cons, List.all_nil, Bool.and_true, Bool.and_eq_true] at hall
 obtain ⟨b0, b1, b2⟩ := hall
 refine z3y c 15 hk hB (cmdT c) H hN hd hs fun tm h' aN ag a0 i1 i4 i22 => ?_
 have qi := j2l c.it b0 h' aN
 have l0 := z8N b0
 have w1 : 0 ≤ c.res ∧ c.res ≤ 9223372036854775807 := by
  have h9 : z0x c.res _ _ = true := b1
  simp only [z0x, Bool.and_eq_true, decide_eq_true_eq] at h9
  omega
 have d1 := z1a (h := h') (n := c.res) w1.1 w1.2
 have l1 := z0r (n := c.res) ⟨by omega, by omega⟩
 have d2 := z1a (h := h') (n := (c.data.length : Int)) (by omega) (by have := hs.data; omega)
 have l2 := z0r (n := (c.data.length : Int)) (by have := hs.data; exact ⟨by omega, by omega⟩)
 have c0 := cat_ ([114, 101, 115, 117, 108, 116, 32]) (z6n c.it)
 have c1 := cat_ ([114, 101, 115, 117, 108, 116, 32] ++ z6n c.it) [32]
 have c2 := cat_ ([114, 101, 115, 117, 108, 116, 32] ++ z6n c.it ++ [32]) (z0o c.res)
 have c3 := cat_ ([114, 101, 115, 117, 108, 116, 32] ++ z6n c.it ++ [32] ++ z0o c.res) [32]
 have c4 := cat_ ([114, 101, 115, 117, 108, 116, 32] ++ z6n c.it ++ [32] ++ z0o c.res ++ [32]) (z0o c.data.length)
 have hT : cmdT c = [114, 101, 115, 117, 108, 116, 32] ++ z6n c.it ++ [32] ++ z0o c.res ++ [32] ++ z0o c.data.length := by
  unfold cmdT
  rw [hk]
  show z1P ([114, 101, 115, 117, 108, 116] :: [fItem, fRes, fData].map fun f : Fld => f.tx c) = _
  simp [z1P, Lib.join_cons, Lib.joinTail, fData, fItem, fRes]
 rw [hT]
 refine Gets.blk ?_
 change Gets _ _ _ _ _ _
 repeat refine Gets.seq ?_
 refine g1_ i22 ?_
 refine cF_ ?_
 refine g1_ i22 ?_
 refine cF_ ?_
 refine g1_ i22 ?_
 refine cF_ ?_
 refine g1_ i22 ?_
 refine cF_ ?_
 refine g1_ i22 ?_
 refine cF_ ?_
 refine g1_ i22 ?_
 refine cF_ ?_
 refine g1_ i22 ?_
 refine cF_ ?_
 refine g1_ i22 ?_
 refine cF_ ?_
 refine g1_ i22 ?_
 refine cT_ ?_
 refine o1_ (z0e z0c qi) (y6_ @z0y i1 a0 @z6u @ccL (z0f ia33 sz33)) ?_
 refine gk_ (ov := z1O noOv 87 (z2X h')) (z0I z0c (z1I aN)) [.rd 0, .rd 1, .rd 2, .rd 3, .rd 4, .rd 8, .rd 9, .rd 10, .sm 5, .rd 6, .rd 7, .sm 11, .rd 12, .rd 13, .rd 14] (aN) (y8_ a0 k8T i1 i4 d1 d2 c0 (y4_ c1 c2 c3 c4)) ?_
 refine Gets.ret Tryz.tabOk ?_
 exact z3c ⟨rfl, rfl, rfl, sr_ Tryz.f44.eq_1⟩
theorem j6O (c : CmdN) (H : Heap) (hN : Neat H) (hd : z1n H c.d) (hs : CmdSm c) : CallTo Tryz.prog Tryz.tab 44 [.agg c.cells] H [(.tuple [.str (if cmdB c then cmdT c else []), vi (code (cmdB c) 2)], H)] := by
 cases hB : cmdB c with
 | true =>
  rw [if_pos rfl, z2m]
  by_cases h0 : c.kind = 0
  ·exact k4A c h0 hB H hN hd hs
  by_cases h1 : c.kind = 1
  ·exact k4B c h1 hB H hN hd hs
  by_cases h2 : c.kind = 2
  ·exact k4C c h2 hB H hN hd hs
  by_cases h3 : c.kind = 3
  ·exact k4D c h3 hB H hN hd hs
  by_cases h4 : c.kind = 4
  ·exact k4E c h4 hB H hN hd hs
  by_cases h11 : c.kind = 11
  ·exact k0b c h11 hB H hN hd hs
  by_cases h12 : c.kind = 12
  ·exact k0c c h12 hB H hN hd hs
  by_cases h13 : c.kind = 13
  ·exact k0d c h13 hB H hN hd hs
  by_cases h14 : c.kind = 14
  ·exact k0e c h14 hB H hN hd hs
  by_cases h15 : c.kind = 15
  ·exact k0f c h15 hB H hN hd hs
  have e : z5g c.kind = none := by unfold z5g; simp only [h0, h1, h2, h3, h4, h11, h12, h13, h14, h15, if_false]
  unfold cmdB at hB
  rw [e] at hB
  exact Bool.noConfusion hB
 | false =>
  rw [if_neg (by simp), z2p]
  refine z0A Tryz.tabOk Tryz.func44 rfl rfl ?_
  show Gets Tryz.prog Tryz.tab ⟨none, 153⟩ _ _ _
  repeat refine Gets.seq ?_
  have o1 := z2u hd.one
  refine g1_ o1 ?_
  refine Gets.ofH (fun h => h.blks.get H.next = some (z0p c) ∧ Grows H h ∧ Neat h) ⟨fo_, .push _ _, hN.push _⟩ ?_
  rintro h ⟨a0, ag, aN⟩
  have q := q2b c h aN (hd.grow hN ag) hs
  rw [hB] at q
  refine o1_ (z0e z0c q) (y5_ @z0y a0 @ccL (z0f ia36 sz36) @z2p) ?_
  refine cT_ ?_
  refine g0_ ?_
  refine Gets.ret Tryz.tabOk ?_
  exact z1e rfl (sr_ Tryz.f44.eq_1) ag hN ⟨trivial, trivial, trivial⟩
end Go.Proofs
namespace Go.Proofs
open Go.Sx
set_option maxRecDepth 100000
set_option maxHeartbeats 1000000
theorem j6P (n : Int) (H : Heap) : z3O Tryz.tab H 3 114 (.int .i64 n) = some (.int .u64 (z1V .u64 n), H) := by kernel_rfl
theorem k4F (n : Int) (H : Heap) : z3O Tryz.tab H 34 114 (.int .i64 n) = some (.int .u64 (z1V .u64 n), H) := by kernel_rfl
theorem k4G (n : Int) (H : Heap) : z3O Tryz.tab H 2 114 (.int .i64 n) = some (.int .u64 (z1V .u64 n), H) := by kernel_rfl
theorem q6U {n : Int} (h0 : 0 ≤ n) (h1 : n ≤ 9223372036854775807) : z1V .u64 n = n := by
 obtain ⟨m, rfl⟩ := Int.eq_ofNat_of_zero_le h0
 exact k8G (by omega)
open Classical in
noncomputable def z6T (h : Heap) (args : List AV) (H : Heap) : Option (List VH) := match args with
 | [.int .u64 n] => if 0 ≤ n ∧ n ≤ 9223372036854775807 ∧ H = h then some [(.str (z0o n), H)] else none
 | _ => none
theorem z5L {h : Heap} {n : Int} (h0 : 0 ≤ n) (h1 : n ≤ 9223372036854775807) : z6T h [.int .u64 n] h = some [(.str (z0o n), h)] := if_pos ⟨h0, h1, rfl⟩
theorem z5M {h : Heap} (hN : Neat h) (args : List AV) (H : Heap) (outs : List VH) (e : z6T h args H = some outs) : CallTo Tryz.prog Tryz.tab 43 args H outs := by
 unfold z6T at e
 split at e
 ·rename_i n
  split at e
  ·rename_i hh
   simp only [Option.some.injEq] at e
   subst e
   obtain ⟨h0, h1, rfl⟩ := hh
   obtain ⟨m, rfl⟩ := Int.eq_ofNat_of_zero_le h0
   rw [q0t]
   exact k4j m (by omega) H hN
  ·simp at e
 ·simp at e
set_option linter.defProp false
def k1c := y7_ @egL @z7s @q5f (z0b ia2) @q6C @k4G @z3w
theorem k0g (x : EvN) (hE : evB x = true) (hsx : EvSm x) (H : Heap) (hN : Neat H) (hd : z1n H x.c.d) : CallTo Tryz.prog Tryz.tab 27 [.agg x.cells] H [(.str (z5h x), H)] := by
 refine z0A Tryz.tabOk Tryz.func27 rfl rfl ?_
 show Gets Tryz.prog Tryz.tab ⟨none, 65⟩ _ _ _
 repeat refine Gets.seq ?_
 have o1 := k0V hd.one
 have hE' := hE
 simp only [evB, Bool.and_eq_true, decide_eq_true_eq] at hE'
 obtain ⟨⟨g1, g2⟩, g3⟩ := hE'
 refine g1_ o1 ?_
 refine Gets.ofH (fun h => h.blks.get H.next = some (j9M x) ∧ Grows H h ∧ Neat h) ⟨fo_, .push _ _, hN.push _⟩ ?_
 rintro h ⟨a0, ag, aN⟩
 have hdh := hd.grow hN ag
 have w1 := q6U (n := x.call) (by omega) (by omega)
 have d1 := z5L (h := h) (n := x.call) (by omega) (by omega)
 have l1 := z0r (n := x.call) ⟨by omega, by omega⟩
 refine o1_ (ov := z1O noOv 43 (z6T h)) (z0I z0c (z5M aN)) (y8_ d1 a0 @egL @z6i (z0b ia3) @q6C @j6P w1) ?_
 refine g1_ (y4_ a0 @egL @z9z (z0b ia4)) ?_
 cases hr : x.reply with
 | false =>
  have qT := j6O x.c h aN hdh hsx.c
  refine cT_ (hv := sx1_ hr) ?_
  have key : ∀ u : z0L, u = (if cmdB x.c then cmdT x.c else [63]) → u.length ≤ 5000 ∧ z5h x = z0o x.call ++ [32, 99, 97, 108, 108, 32] ++ u ++ [10] := fun u hu => by
   refine ⟨?_, ?_⟩
   ·rw [hu]
    cases hB : cmdB x.c with
    | true => rw [if_pos rfl]; exact q4X hsx.c hB
    | false => rw [if_neg (by simp)]; simp
   ·unfold z5h evT
    rw [hr, if_neg (by simp), ← hu]
    simp [z1P, Lib.join_cons, Lib.joinTail]
  have c1 : catO (z0o x.call) [32, 99, 97, 108, 108, 32] = some (.str (z0o x.call ++ [32, 99, 97, 108, 108, 32])) := z2E (by simp only [List.length_cons, List.length_nil]; omega)
  cases hB : cmdB x.c with
  | true =>
   rw [hB, if_pos rfl] at qT
   obtain ⟨k1, k2⟩ := key (cmdT x.c) (by rw [hB, if_pos rfl])
   have c2 := cat_ (z0o x.call ++ [32, 99, 97, 108, 108, 32]) (cmdT x.c)
   have c3 := cat_ (z0o x.call ++ [32, 99, 97, 108, 108, 32] ++ cmdT x.c) [10]
   rw [k2]
   refine o1_ (z0e z0c qT) (y6_ @z0y a0 @egL @q2A (z0f ia36 sz36) @z2m) ?_
   refine g0_ ?_
   refine cFs_ ?_
   refine g1_ (y4_ @z3w c1 c2 c3) ?_
   refine Gets.ret Tryz.tabOk ?_
   exact z0v rfl (sr_ Tryz.f27.eq_1) ag hN trivial
  | false =>
   rw [hB, if_neg (by simp)] at qT
   obtain ⟨k1, k2⟩ := key [63] (by rw [hB, if_neg (by simp)])
   have c2 := cat_ (z0o x.call ++ [32, 99, 97, 108, 108, 32]) [63]
   have c3 := cat_ (z0o x.call ++ [32, 99, 97, 108, 108, 32] ++ [63]) [10]
   rw [k2]
   refine o1_ (z0e z0c qT) (y6_ @z0y a0 @egL @q2A (z0f ia36 sz36) @z2p) ?_
   refine g0_ ?_
   refine cT_ ?_
   refine g0_ ?_
   refine g1_ (y4_ @z3w c1 c2 c3) ?_
   refine Gets.ret Tryz.tabOk ?_
   exact z0v rfl (sr_ Tryz.f27.eq_1) ag hN trivial
 | true =>
  have hrb : repB x.r = true := by simpa [hr] using g3
  simp only [repB, numB, Bool.and_eq_true, decide_eq_true_eq] at hrb
  have w2 := q6U (n := x.r.err) (by omega) (by omega)
  have d2 := z5L (h := h) (n := x.r.err) (by omega) (by omega)
  have l2 := z0r (n := x.r.err) ⟨by omega, by omega⟩
  have w3 := q6U (n := (x.r.data.length : Int)) (by omega) (by have := hsx.data; omega)
  have d3 := z5L (h := h) (n := (x.r.data.length : Int)) (by omega) (by have := hsx.data; omega)
  have l3 := z0r (n := (x.r.data.length : Int)) (by have := hsx.data; exact ⟨by omega, by omega⟩)
  have l4 := z0r hsx.num
  have hT : z5h x = z0o x.call ++ [32, 114, 101, 112, 108, 121, 32] ++ z0o x.r.err ++ [32] ++ z0o x.r.num ++ [32] ++ z0o x.r.data.length ++ [10] := by
   unfold z5h evT
   rw [hr, if_pos rfl]
   simp [z1P, Lib.join_cons, Lib.joinTail]
  rw [hT]
  have c1 : catO (z0o x.call) [32, 114, 101, 112, 108, 121, 32] = some (.str (z0o x.call ++ [32, 114, 101, 112, 108, 121, 32])) := z2E (by simp only [List.length_cons, List.length_nil]; omega)
  have c2 := cat_ (z0o x.call ++ [32, 114, 101, 112, 108, 121, 32]) (z0o x.r.err)
  have c3 := cat_ (z0o x.call ++ [32, 114, 101, 112, 108, 121, 32] ++ z0o x.r.err) [32]
  refine cFs_ (hv := sx1_ hr) ?_
  refine o1_ (ov := z1O noOv 43 (z6T h)) (z0I z0c (z5M aN)) (y8_ d2 a0 @egL @z7s @q8N (z0b ia34) @q6C (y6_ @k4F w2 @z3w c1 c2 c3)) ?_
  have la : (z0o x.call ++ [32, 114, 101, 112, 108, 121, 32] ++ z0o x.r.err ++ [32]).length ≤ 100 := by simp only [List.length_append, List.length_cons, List.length_nil]; omega
  generalize (z0o x.call ++ [32, 114, 101, 112, 108, 121, 32] ++ z0o x.r.err ++ [32]) = acc at la ⊢
  refine g1_ (y5_ a0 @egL @z7s @q5f (z0b ia2)) ?_
  refine Gets.midH (I := fun tm k => k = h ∧ tm.get 1 = some (.ptr H.next 0) ∧ tm.get 3 = some (.str (acc ++ z0o x.r.num))) ?_ ?_
  ·by_cases h0 : x.r.num < 0
   ·have hw : z1V .i64 (0 - x.r.num) = -x.r.num := by rw [z2C (by omega) (by omega)]; omega
    have w4 := q6U (n := -x.r.num) (by omega) (by omega)
    have d4 := z5L (h := h) (n := -x.r.num) (by omega) (by omega)
    have l5 := z0r (n := -x.r.num) ⟨by omega, by omega⟩
    have c4 : catO acc [45] = some (.str (acc ++ [45])) := z2E (by simp only [List.length_cons, List.length_nil]; omega)
    have c5 : catO (acc ++ [45]) (z0o (-x.r.num)) = some (.str (acc ++ z0o x.r.num)) := by
     rw [q1Z h0, ← List.append_assoc]
     exact z2E (by simp only [List.length_append, List.length_cons, List.length_nil]; omega)
    refine cT_ (hv := sx1_ h0) ?_
    refine o1_ (ov := z1O noOv 43 (z6T h)) (z0I z0c (z5M aN)) (y7_ d4 a0 k1c hw w4 c4 c5) ?_
    exact ⟨rfl, _, _, rfl, rfl, sx0_, sx0_⟩
   ·have w4 := q6U (n := x.r.num) (by omega) (by omega)
    have d4 := z5L (h := h) (n := x.r.num) (by omega) (by omega)
    have c5 : catO acc (z0o x.r.num) = some (.str (acc ++ z0o x.r.num)) := z2E (by omega)
    refine cF_ (hv := sx1_ h0) ?_
    refine o1_ (ov := z1O noOv 43 (z6T h)) (z0I z0c (z5M aN)) (y5_ d4 a0 k1c w4 c5) ?_
    exact ⟨rfl, _, _, rfl, rfl, sx0_, sx0_⟩
  rintro tm k ⟨rfl, i1, i3⟩
  change Gets _ _ _ _ _ _
  repeat refine Gets.seq ?_
  have c6 := cat_ (acc ++ z0o x.r.num) [32]
  have c7 := cat_ (acc ++ z0o x.r.num ++ [32]) (z0o x.r.data.length)
  have c8 := cat_ (acc ++ z0o x.r.num ++ [32] ++ z0o x.r.data.length) [10]
  refine o1_ (ov := z1O noOv 43 (z6T k)) (z0I z0c (z5M aN)) (y8_ d3 i1 i3 a0 @egL @z7s @q5e (y8_ (z0b ia9) (z0S ud9) @q6C @j6P w3 @z3w c6 (y2_ c7 c8))) ?_
  refine Gets.ret Tryz.tabOk ?_
  exact z0v rfl (sr_ Tryz.f27.eq_1) ag hN trivial
end Go.Proofs
namespace Go.Proofs
open Go.Sx
set_option maxRecDepth 100000
set_option maxHeartbeats 1000000
theorem q8K (l : List EvN) (i : Nat) : (z1u (l.take i)).length ≤ (z1u l).length := by
 have e : z1u l = z1u (l.take i) ++ z1u (l.drop i) := by
  unfold z1u
  rw [← List.flatten_append, ← List.map_append, List.take_append_drop]
 rw [e, List.length_append]
 omega
theorem k0h (v : AV) (l : List EvN) (H : Heap) (hN : Neat H) (hv : EvsAt H v l) (hs : ∀ x ∈ l, EvSm x) (hl : l.length ≤ 60) :
  CallTo Tryz.prog Tryz.tab 8 [v] H [(.tuple [.str (q4P l).1, vi (q4P l).2], H)] := by
 refine z0A Tryz.tabOk Tryz.func8 rfl rfl ?_
 show Gets Tryz.prog Tryz.tab ⟨none, 60⟩ _ _ _
 repeat refine Gets.seq ?_
 have hvo : z0P v = true := hv.1.one
 have hln : ∀ h, lenA Tryz.tab h 22 v = some (.int .i64 (l.length : Int)) := hv.1.len
 refine g0_ ?_
 refine g0_ ?_
 refine Gets.upto l.length (fun i tm => tm.get 0 = some v ∧ tm.get 4 = some (vi (i : Int)) ∧ ∀ (j : Nat) (x : EvN), j < i → l[j]? = some x → evB x = true)
  ⟨sx0_, sx0_, fun j x hj => absurd hj (Nat.not_lt_zero _)⟩ ?_
 rintro i tm hi ⟨i0, i4, hok⟩
 repeat refine Gets.seq ?_
 by_cases hlt : (i : Int) < (l.length : Int)
 ·obtain ⟨x, hx⟩ : ∃ x, l[i]? = some x := ⟨_, List.getElem?_eq_getElem (by omega)⟩
  obtain ⟨rb, hidx, hcl, hcs⟩ := hv.1.row hx
  have hc0 : z1g (H.blks.get rb) (i * 29) = some (vi x.call) := hcl 0 (by omega)
  have hc1 : z1g (H.blks.get rb) (i * 29 + 1) = some (.bool x.reply) := hcl 1 (by omega)
  have hc26 : Sx.cellsIn (H.blks.get rb) (i * 29 + 26) 3 = some [vi x.r.err, vi x.r.num, .str x.r.data] := hcs 26 3 (by omega)
  have v5 : z1V .i64 ((i : Int) + 1) = (i : Int) + 1 := z2C (by omega) (by omega)
  have q := j1P x.r H hN
  refine g1_ (y4_ i0 i4 hln hlt) ?_
  refine cTb_ ?_
  refine Gets.midH (I := fun tm h' => h' = H ∧ tm.get 0 = some v ∧ tm.get 4 = some (vi (i : Int)) ∧ tm.get 42 = some (.bool (!evB x))) ?_ ?_
  ·rw [k0W]
   by_cases c1 : x.call < 1
   ·refine g1_ (y8_ i0 i4 hidx hc0 @z6i (z0b ia3) c1 @z0N) ?_
    exact ⟨rfl, _, _, rfl, rfl, sx1_ i0, sx1_ i4, sx1_ c1⟩
   by_cases c2 : 2000 < x.call
   ·refine g1_ (y8_ i0 i4 hidx hc0 @z6i (z0b ia3) c1 (y2_ c2 @z0N)) ?_
    exact ⟨rfl, _, _, rfl, rfl, sx1_ i0, sx1_ i4, sx1_ (y2_ c1 c2)⟩
   cases hr : x.reply with
   | false =>
    rw [hr] at hc1
    refine g1_ (y8_ i0 i4 hidx hc0 hc1 @z6i @z9z (y5_ (z0b ia3) (z0b ia4) c1 c2 @z0N)) ?_
    exact ⟨rfl, _, _, rfl, rfl, sx1_ i0, sx1_ i4, sx1_ (y2_ c1 c2)⟩
   | true =>
    rw [hr] at hc1
    cases hrb : repB x.r with
    | false =>
     rw [hrb] at q
     refine o1_ (z0e z0c q) (y8_ @z0y i0 i4 hidx hc0 hc1 hc26 (y8_ @z6i @z9z @z7s (z0b ia3) (z0b ia4) (z0f ia38 sz38) c1 (y3_ c2 @z2p @z0N))) ?_
     exact ⟨rfl, _, _, rfl, rfl, sx1_ i0, sx1_ i4, sx1_ (y2_ c1 c2)⟩
    | true =>
     rw [hrb] at q
     refine o1_ (z0e z0c q) (y8_ @z0y i0 i4 hidx hc0 hc1 hc26 (y8_ @z6i @z9z @z7s (z0b ia3) (z0b ia4) (z0f ia38 sz38) c1 (y3_ c2 @z2m @z0N))) ?_
     exact ⟨rfl, _, _, rfl, rfl, sx1_ i0, sx1_ i4, sx1_ (y2_ c1 c2)⟩
  clear i0 i4
  clear tm
  rintro tm h' ⟨rfl, i0, i4, i42⟩
  change Gets _ _ _ _ _ _
  repeat refine Gets.seq ?_
  cases hE : evB x with
  | false =>
   rw [hE] at i42
   rw [q6O hx hE]
   refine cT_ (hv := sx1_ i42) ?_
   refine g0_ ?_
   refine Gets.ret Tryz.tabOk ?_
   exact z1e rfl (sr_ Tryz.f8.eq_1) (.refl _) hN ⟨trivial, trivial, trivial⟩
  | true =>
   rw [hE] at i42
   refine cFk_ (hv := sx1_ i42) ?_
   refine g1_ (y2_ i4 v5) ?_
   exact ⟨_, rfl, by omega, sx1_ i0, sx1_ @z2l, fun j y hj hy => by
    by_cases e : j = i
    ·subst e
     rw [hx] at hy
     cases hy
     exact hE
    ·exact hok j y (by omega) hy⟩
 ·have h9 : i = l.length := by omega
  subst h9
  refine g1_ (y4_ i0 i4 hln hlt) ?_
  refine cFx_ ?_
  rw [q6P hok]
  refine g0_ ?_
  refine g0_ ?_
  refine Gets.upto l.length (fun i tm => tm.get 0 = some v ∧ tm.get 5 = some (.str (z1u (l.take i))) ∧ tm.get 6 = some (vi (i : Int)) ∧ (z1u (l.take i)).length ≤ 65536)
   ⟨sx1_ i0, by simp (disch := decide) only [sxL]; rfl, sx0_, by simp [z1u]⟩ ?_
  clear i0 i4 hlt hi
  clear tm
  rintro i tm hi ⟨i0, i5, i6, hle⟩
  repeat refine Gets.seq ?_
  by_cases hlt : (i : Int) < (l.length : Int)
  ·obtain ⟨x, hx⟩ : ∃ x, l[i]? = some x := ⟨_, List.getElem?_eq_getElem (by omega)⟩
   have hxm := List.mem_of_getElem? hx
   have hE := hok i x (by omega) hx
   obtain ⟨rb, hidx, -, hcs⟩ := hv.1.row hx
   have hc29 : Sx.cellsIn (H.blks.get rb) (i * 29) 29 = some x.cells := hcs 0 29 (by omega)
   have v5 : z1V .i64 ((i : Int) + 1) = (i : Int) + 1 := z2C (by omega) (by omega)
   have q := k0g x hE (hs x hxm) H hN (hv.2 x hxm)
   have ll := (q1X (hs x hxm) hE).1
   have hsn : z1u (l.take (i + 1)) = z1u (l.take i) ++ z5h x := by rw [q1W hx, z8c]
   have c1 : catO (z1u (l.take i)) (z5h x) = some (.str (z1u (l.take (i + 1)))) := by rw [hsn]; exact z2E (by omega)
   refine g1_ (y4_ i0 i6 hln hlt) ?_
   refine cTb_ ?_
   refine o1_ (z0e z0c q) (y8_ @z0y i0 i5 i6 hidx hc29 (z0f ia40 sz40) (y2_ @z3w c1)) ?_
   by_cases hW : 65536 < ((z1u (l.take (i + 1))).length : Int)
   ·have hbig := q8K l (i + 1)
    rw [if_pos (by omega)]
    refine g1_ (y2_ (z0S ud9) hW) ?_
    refine cT_ ?_
    refine g0_ ?_
    refine Gets.ret Tryz.tabOk ?_
    exact z1e rfl (sr_ Tryz.f8.eq_1) (.refl _) hN ⟨trivial, trivial, trivial⟩
   ·refine g1_ (y2_ (z0S ud9) hW) ?_
    refine cFk_ ?_
    refine g1_ (y2_ i6 v5) ?_
    exact ⟨_, rfl, by omega, sx1_ i0, sx0_, sx1_ @z2l, by omega⟩
  ·have h9 : i = l.length := by omega
   subst h9
   rw [List.take_length] at i5 hle
   rw [if_neg (by omega)]
   refine g1_ (y4_ i0 i6 hln hlt) ?_
   refine cFx_ ?_
   refine g1_ i5 ?_
   refine Gets.ret Tryz.tabOk ?_
   exact z1e rfl (sr_ Tryz.f8.eq_1) (.refl _) hN ⟨trivial, trivial, trivial⟩
end Go.Proofs
