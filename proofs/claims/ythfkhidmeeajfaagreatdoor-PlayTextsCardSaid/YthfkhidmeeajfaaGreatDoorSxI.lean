/-
  Runs whose end is known ahead; rows in cells; what a call leaves, said by a law; contracts of the library as calls.
-/
import Derived.Test.YthfkhidmeeajfaaGreatDoorSxH
import Derived.Test.YthfkhidmeeajfaaGreatDoorSxF
import Derived.Below
import Derived.Lib.LaidTab
set_option linter.unusedSimpArgs false
set_option linter.unusedVariables false
namespace Go.Sx
open Go
theorem j8H (t : TypeId) (x y : Operand) : kindOf (.store t x y) = .eff := rfl
theorem k7G (t : TypeId) (x y z : Operand) : kindOf (.mapUpdate t x y z) = .eff := rfl
theorem k3F (a b : TypeId) (x : Operand) : kindOf (.convert a b x) = .eff := rfl
theorem j8I (x : Operand) : kindC (.value x) = .eff := rfl
theorem j1F : kindB .append = .eff := rfl
theorem j8J : kindB .copy = .eff := rfl
theorem j1G : kindB .delete = .eff := rfl
theorem j5t : kindB .clear = .eff := rfl
theorem j5u : kindB .panic = .eff := rfl
theorem k7H (k : IntKind) (n : Int) : ofValue (.int k n) = some (.int k n) := rfl
theorem k3G (b : Bool) : ofValue (.bool b) = some (.bool b) := rfl
theorem k7I (s : ByteArray) : ofValue (.string s) = some (.str s.data.toList) := rfl
theorem w1f : ofValue (.pointer none) = some .nilptr := rfl
theorem w1g : ofValue (.slice none 0 0) = some .nilslice := rfl
theorem w1h : ofValue (.map none) = some .nilmap := rfl
theorem w1i : ofValue .nilFunc = some .nilFunc := rfl
theorem w1j : ofValue .nilIface = some .nilIface := rfl
theorem k7J (k : IntKind) (a b : Int) : intBin .add k a k b = some (.int k (z1V k (a + b))) := if_pos rfl
theorem k7K (k : IntKind) (a b : Int) : intBin .sub k a k b = some (.int k (z1V k (a - b))) := if_pos rfl
theorem k7L (k : IntKind) (a b : Int) : intBin .mul k a k b = some (.int k (z1V k (a * b))) := if_pos rfl
theorem k7M (k : IntKind) (a b : Int) : intBin .quo k a k b = quoO k a b := if_pos rfl
theorem k7N (k : IntKind) (a b : Int) : intBin .rem k a k b = remO k a b := if_pos rfl
theorem k7O (k : IntKind) (a b : Int) : intBin .eql k a k b = boolO (ibeq a b) := if_pos rfl
theorem k7P (k : IntKind) (a b : Int) : intBin .neq k a k b = boolO (bnot (ibeq a b)) := if_pos rfl
theorem k7Q (k : IntKind) (a b : Int) : intBin .lss k a k b = boolO (iblt a b) := if_pos rfl
theorem k7R (k : IntKind) (a b : Int) : intBin .leq k a k b = boolO (bnot (iblt b a)) := if_pos rfl
theorem k7S (k : IntKind) (a b : Int) : intBin .gtr k a k b = boolO (iblt b a) := if_pos rfl
theorem k7T (k : IntKind) (a b : Int) : intBin .geq k a k b = boolO (bnot (iblt a b)) := if_pos rfl
theorem k7U (k : IntKind) (a b : Int) : intBin .and k a k b = bitO k Nat.land a b := if_pos rfl
theorem w1k (k : IntKind) (a b : Int) : intBin .or k a k b = bitO k Nat.lor a b := if_pos rfl
theorem k7V (k : IntKind) (a b : Int) : intBin .xor k a k b = bitO k Nat.xor a b := if_pos rfl
theorem j8K (t : TypeId) (x : Operand) : kindOf (.range t x) = .eff := rfl
theorem k3H (x : Operand) (b : Bool) : kindOf (.next x b) = .eff := rfl
theorem z2o (H : Heap) (o : ABlk) : (H.push o).next = H.next + 1 := (z0i H o).trans (Eq.refl _)
theorem k7W (H : Heap) (o : ABlk) {b : Nat} (h : b = H.next) : (H.push o).blks.get b = some o := by subst h; exact z0w H o
set_option linter.defProp false in
def sxM := And.intro (And.intro sxL (And.intro @z1t (And.intro @j8K (And.intro @k3H @k7W)))) (And.intro (And.intro (And.intro (And.intro (And.intro (And.intro @j8H (And.intro @k7G @k3F)) (And.intro @j8I (And.intro @j1F @j8J))) (And.intro (And.intro @j1G (And.intro @j5t @j5u)) (And.intro (And.intro @k7H @k3G) (And.intro @k7I @w1f)))) (And.intro (And.intro (And.intro @w1g (And.intro @w1h @w1i)) (And.intro @w1j (And.intro @k7J @k7K))) (And.intro (And.intro @k7L (And.intro @k7M @k7N)) (And.intro (And.intro @k7O @k7P) (And.intro @k7Q @k7R))))) (And.intro (And.intro (And.intro (And.intro @k7S (And.intro @k7T @k7U)) (And.intro @w1k (And.intro @k7V @kindOf.eq_1))) (And.intro (And.intro @kindOf.eq_2 (And.intro @kindOf.eq_3 @kindOf.eq_4)) (And.intro (And.intro @kindOf.eq_5 @kindOf.eq_6) (And.intro @kindOf.eq_7 @kindOf.eq_8)))) (And.intro (And.intro (And.intro @kindOf.eq_9 (And.intro @kindOf.eq_10 @kindOf.eq_11)) (And.intro @kindOf.eq_12 (And.intro @kindOf.eq_13 @kindOf.eq_14))) (And.intro (And.intro @kindOf.eq_15 (And.intro @kindOf.eq_16 @kindOf.eq_17)) (And.intro (And.intro @kindOf.eq_18 @kindOf.eq_19) (And.intro @kindOf.eq_20 @kindOf.eq_21)))))) (And.intro (And.intro (And.intro (And.intro (And.intro @kindOf.eq_22 (And.intro @kindOf.eq_23 @kindOf.eq_24)) (And.intro @kindOf.eq_25 (And.intro @kindC.eq_1 @kindB.eq_1))) (And.intro (And.intro @kindB.eq_2 (And.intro @kindB.eq_3 @kindB.eq_4)) (And.intro (And.intro @kindB.eq_5 @unA.eq_1) (And.intro @unA.eq_2 @unA.eq_3)))) (And.intro (And.intro (And.intro @boxA.eq_1 (And.intro @loadPtr.eq_1 @nilCheckA.eq_1)) (And.intro @nilCheckA.eq_2 (And.intro @nilCheckA.eq_3 @nilCheckA.eq_4))) (And.intro (And.intro @fst1.eq_1 (And.intro @fst1.eq_2 @ofValue.eq_1)) (And.intro (And.intro @ofValue.eq_2 @ofScalar.eq_1) (And.intro @ofScalar.eq_2 @ofScalar.eq_3))))) (And.intro (And.intro (And.intro (And.intro @ofScalar.eq_4 (And.intro @ofScalar.eq_5 @ofScalar.eq_6)) (And.intro @ofScalar.eq_7 (And.intro @ofScalar.eq_8 @intBin.eq_1))) (And.intro (And.intro @intBin.eq_2 (And.intro @boolO.eq_1 @guardA.eq_1)) (And.intro (And.intro @cCond.eq_1 @condV.eq_1) (And.intro @condV.eq_2 @cRet.eq_1)))) (And.intro (And.intro (And.intro @cExit.eq_1 (And.intro @cSkip.eq_1 @resOut.eq_1)) (And.intro (And.intro @resultA.eq_1 @resultA.eq_2) (And.intro @extractA.eq_1 @tupleO.eq_1))) (And.intro (And.intro @tupleO.eq_2 (And.intro @k3i @q1C)) (And.intro (And.intro @noOv.eq_1 @callFn.eq_1) (And.intro @q6i @q1A)))))))
theorem Gets.l0 {P : Program} {G : Tab} {c : Ctx} {s s' : St} {Q : Ex → St → Prop} (TT : TabOk P G) {x : Code} (h : z1D x (fnsO G noOv 8) G c s = some [(.normal, s')]) (h' : Q .normal s') : Gets P G c x s Q := Gets.last TT z0c 8 h h'
theorem pd_ {l : List Oper} (h : z6O l = true) : z6O l = true := h
theorem md_ {l : List Oper} (h : q0p l = true) : q0p l = true := h
theorem xd_ {l : List Oper} (h : z8B l = true) : z8B l = true := h
end Go.Sx
namespace Go.Sx
open Go
section
variable {P : Program} {G : Tab} {c : Ctx} {s s' : St} {Q : Ex → St → Prop}
def GetsE (P : Program) (G : Tab) (c : Ctx) (x : Code) (s : St) (Q : Ex → St → Prop) : Prop := ∃ e s', Q e s' ∧ Gets P G c x s fun e1 s1 => e1 = e ∧ s1 = s'
theorem GetsE.mono {x : Code} {Q' : Ex → St → Prop} (h : GetsE P G c x s Q) (hq : ∀ e s', Q e s' → Q' e s') : GetsE P G c x s Q' := by
 obtain ⟨e, s', q, g⟩ := h
 exact ⟨e, s', hq e s' q, g⟩
theorem GetsE.one {x : Code} {e : Ex} (g : ∀ Q : Ex → St → Prop, Q e s' → Gets P G c x s Q) (hQ : Q e s') : GetsE P G c x s Q := ⟨e, s', hQ, g _ ⟨rfl, rfl⟩⟩
theorem GetsE.last (TT : TabOk P G) {ov : Ov} (ho : OvOk P G ov) (n : Nat) {x : Code} {s' : St} (h : z1D x (fnsO G ov n) G c s = some [(.normal, s')]) (h' : Q .normal s') : GetsE P G c x s Q :=
 GetsE.one (fun _ hq => Gets.last TT ho n h hq) h'
theorem GetsE.l0 (TT : TabOk P G) {x : Code} {s' : St} (h : z1D x (fnsO G noOv 8) G c s = some [(.normal, s')]) (h' : Q .normal s') : GetsE P G c x s Q := GetsE.last TT z0c 8 h h'
theorem GetsE.skip (TT : TabOk P G) (h : Q .normal s) : GetsE P G c .skip s Q := GetsE.one (fun _ hq => Gets.skip TT hq) h
theorem GetsE.ret (TT : TabOk P G) (h : Q .ret s) : GetsE P G c .ret s Q := GetsE.one (fun _ hq => Gets.ret TT hq) h
theorem GetsE.exit (TT : TabOk P G) {i : Nat} (h : Q (.exit i) s) : GetsE P G c (.exit i) s Q := GetsE.one (fun _ hq => Gets.exit TT hq) h
theorem GetsE.condT {v : Operand} {x y : Code} (hv : aev G s.tm v = some (.bool true)) (h : GetsE P G c x s Q) : GetsE P G c (.cond v x y) s Q := by
 obtain ⟨e, s', q, g⟩ := h
 exact ⟨e, s', q, Gets.condT hv g⟩
theorem GetsE.condF {v : Operand} {x y : Code} (hv : aev G s.tm v = some (.bool false)) (h : GetsE P G c y s Q) : GetsE P G c (.cond v x y) s Q := by
 obtain ⟨e, s', q, g⟩ := h
 exact ⟨e, s', q, Gets.condF hv g⟩
theorem GetsE.seq {x y : Code} (h : GetsE P G c x s fun e s' => match e with | .normal => GetsE P G c y s' Q | e => Q e s') : GetsE P G c (.seq x y) s Q := by
 obtain ⟨e, s1, q, g⟩ := h
 cases e with
 | normal =>
  obtain ⟨e2, s2, q2, g2⟩ := q
  exact ⟨e2, s2, q2, Gets.seq (g.mono fun e' s' hh => by obtain ⟨rfl, rfl⟩ := hh; exact g2)⟩
 | exit j => exact ⟨_, s1, q, Gets.seq (g.mono fun e' s' hh => by obtain ⟨rfl, rfl⟩ := hh; exact ⟨rfl, rfl⟩)⟩
 | goto j => exact ⟨_, s1, q, Gets.seq (g.mono fun e' s' hh => by obtain ⟨rfl, rfl⟩ := hh; exact ⟨rfl, rfl⟩)⟩
 | ret => exact ⟨_, s1, q, Gets.seq (g.mono fun e' s' hh => by obtain ⟨rfl, rfl⟩ := hh; exact ⟨rfl, rfl⟩)⟩
theorem GetsE.blk {id : Nat} {x : Code} (h : GetsE P G c x s (q0c id Q)) : GetsE P G c (.block id x) s Q := by
 obtain ⟨e, s1, q, g⟩ := h
 cases e with
 | exit j =>
  by_cases hj : j = id
  ·subst hj
   have q' : (if j = j then Q .normal s1 else Q (.exit j) s1) := q
   rw [if_pos rfl] at q'
   exact ⟨.normal, s1, q', Gets.blk (g.mono fun e' s' hh => by obtain ⟨rfl, rfl⟩ := hh; exact z2Q ⟨rfl, rfl⟩)⟩
  ·have q' : (if j = id then Q .normal s1 else Q (.exit j) s1) := q
   rw [if_neg hj] at q'
   exact ⟨.exit j, s1, q', Gets.blk (g.mono fun e' s' hh => by obtain ⟨rfl, rfl⟩ := hh; exact z7U hj ⟨rfl, rfl⟩)⟩
 | normal => exact ⟨.normal, s1, q, Gets.blk (g.mono fun e' s' hh => by obtain ⟨rfl, rfl⟩ := hh; exact z0l ⟨rfl, rfl⟩)⟩
 | ret => exact ⟨.ret, s1, q, Gets.blk (g.mono fun e' s' hh => by obtain ⟨rfl, rfl⟩ := hh; exact z3c ⟨rfl, rfl⟩)⟩
 | goto j => exact ⟨.goto j, s1, q, Gets.blk (g.mono fun e' s' hh => by obtain ⟨rfl, rfl⟩ := hh; exact ⟨rfl, rfl⟩)⟩
inductive Rounds (P : Program) (G : Tab) (c : Ctx) (x : Code) (e2 : Ex) (s2 : St) : Nat → St → Prop
 | stop {m : Nat} {s : St} (he : e2 ≠ .normal) (g : Gets P G c x s fun e1 s1 => e1 = e2 ∧ s1 = s2) : Rounds P G c x e2 s2 m s
 | next {m m' : Nat} {s s1 : St} (hm : m' < m) (g : Gets P G c x s fun e1 s' => e1 = .normal ∧ s' = s1) (r : Rounds P G c x e2 s2 m' s1) : Rounds P G c x e2 s2 m s
theorem j1H {x : Code} {e2 : Ex} {s2 : St} : ∀ m s, Rounds P G c x e2 s2 m s → Gets P G c (.loop x) s fun e1 s1 => e1 = e2 ∧ s1 = s2 :=
 Gets.loop (I := Rounds P G c x e2 s2) fun m s r => by
  cases r with
  | stop he g =>
   refine g.mono fun e' s' hh => ?_
   obtain ⟨rfl, rfl⟩ := hh
   cases e' with
   | normal => exact absurd rfl he
   | exit j => exact ⟨rfl, rfl⟩
   | goto j => exact ⟨rfl, rfl⟩
   | ret => exact ⟨rfl, rfl⟩
  | next hm g r =>
   refine g.mono fun e' s' hh => ?_
   obtain ⟨rfl, rfl⟩ := hh
   exact ⟨_, hm, r⟩
theorem GetsE.loop {x : Code} {I : Nat → St → Prop}
  (h : ∀ m s, I m s → GetsE P G c x s fun e s' => match e with | .normal => ∃ m', m' < m ∧ I m' s' | e => Q e s') : ∀ m s, I m s → GetsE P G c (.loop x) s Q := by
 have key : ∀ m s, I m s → ∃ e2 s2, Q e2 s2 ∧ Rounds P G c x e2 s2 m s := by
  intro m
  induction m using Nat.strongRecOn with
  | _ m ih =>
   intro s hI
   obtain ⟨e, s1, q, g⟩ := h m s hI
   cases e with
   | normal =>
    obtain ⟨m', hm, hI'⟩ := q
    obtain ⟨e2, s2, q2, r⟩ := ih m' hm s1 hI'
    exact ⟨e2, s2, q2, .next hm g r⟩
   | exit j => exact ⟨_, s1, q, .stop (by simp) g⟩
   | goto j => exact ⟨_, s1, q, .stop (by simp) g⟩
   | ret => exact ⟨_, s1, q, .stop (by simp) g⟩
 intro m s hI
 obtain ⟨e2, s2, q, r⟩ := key m s hI
 exact ⟨e2, s2, q, j1H m s r⟩
theorem GetsE.forI {id : Nat} {x : Code} (I : Nat → St → Prop) (m : Nat) (h0 : I m s) (h : ∀ m s, I m s → GetsE P G c x s (q6g I m (q0c id Q))) : GetsE P G c (.block id (.loop x)) s Q :=
 GetsE.blk (GetsE.loop (I := I) (fun m s hI => (h m s hI).mono fun e s' h => by cases e <;> exact h) m s h0)
theorem GetsE.upto {id : Nat} {x : Code} {H : Heap} (n : Nat) (I : Nat → T AV → Prop) {tm : T AV} (h0 : I 0 tm)
  (h : ∀ i tm, i ≤ n → I i tm → GetsE P G c x ⟨tm, H, []⟩ fun e s' => match e with
   | .normal => ∃ tm', s' = ⟨tm', H, []⟩ ∧ i < n ∧ I (i + 1) tm'
   | e => q0c id Q e s') : GetsE P G c (.block id (.loop x)) ⟨tm, H, []⟩ Q :=
 GetsE.forI (I := fun m s => ∃ i tm, i ≤ n ∧ m = n - i ∧ s = ⟨tm, H, []⟩ ∧ I i tm) n ⟨0, tm, Nat.zero_le _, rfl, rfl, h0⟩ fun m s ⟨i, tm, hi, hm, hs, hI⟩ => by
  subst hs
  refine (h i tm hi hI).mono fun e s' h => ?_
  cases e with
  | normal =>
   obtain ⟨tm', rfl, hlt, hI'⟩ := h
   exact ⟨n - (i + 1), by omega, i + 1, tm', hlt, rfl, rfl, hI'⟩
  | _ => exact h
theorem GetsE.uptoH {id : Nat} {x : Code} (n : Nat) (I : Nat → T AV → Heap → Prop) {tm : T AV} {H : Heap} (h0 : I 0 tm H)
  (h : ∀ i tm H, i ≤ n → I i tm H → GetsE P G c x ⟨tm, H, []⟩ fun e s' => match e with
   | .normal => ∃ tm' H', s' = ⟨tm', H', []⟩ ∧ i < n ∧ I (i + 1) tm' H'
   | e => q0c id Q e s') : GetsE P G c (.block id (.loop x)) ⟨tm, H, []⟩ Q :=
 GetsE.forI (I := fun m s => ∃ i tm H, i ≤ n ∧ m = n - i ∧ s = ⟨tm, H, []⟩ ∧ I i tm H) n ⟨0, tm, H, Nat.zero_le _, rfl, rfl, h0⟩ fun m s ⟨i, tm, H, hi, hm, hs, hI⟩ => by
  subst hs
  refine (h i tm H hi hI).mono fun e s' h => ?_
  cases e with
  | normal =>
   obtain ⟨tm', H', rfl, hlt, hI'⟩ := h
   exact ⟨n - (i + 1), by omega, i + 1, tm', H', hlt, rfl, rfl, hI'⟩
  | _ => exact h
theorem GetsE.drawK (TT : TabOk P G) {ov : Ov} (ho : OvOk P G ov) (n : Nat) {i : Nat} {all : List Oper} (p : List PStep) (hp : q1I all p = true) (hN : Neat s.h)
  (h : runK (fnsO G ov n) G c all p s [] = some [s']) (hQ : Q .normal s') : GetsE P G c (.region i all.toArray true) s Q :=
 GetsE.one (fun _ hq => Gets.drawK TT ho n p hp hN h hq) hQ
theorem GetsE.midH {x : Code} {I : T AV → Heap → Prop} (h : GetsE P G c x s fun e s' => e = .normal ∧ ∃ tm H, s' = ⟨tm, H, []⟩ ∧ I tm H) (h' : ∀ tm H, I tm H → Q .normal ⟨tm, H, []⟩) : GetsE P G c x s Q :=
 h.mono fun e s' h => by obtain ⟨rfl, tm, H, rfl, h⟩ := h; exact h' tm H h
theorem z9Y (H : Heap) (o : ABlk) {b : Nat} (h : b = H.next) : (H.push o).blks.get b = some o := by subst h; exact z0w H o
theorem q1N (H : Heap) (b : Nat) (o : Option ABlk) {x : Nat} (h : x = b) : (z0n H b o).blks.get x = o := by subst h; exact z0K H x o
theorem Gets.ofH {x : Code} {tm : T AV} {H : Heap} {df : List ADefer} (I : Heap → Prop) (hI : I H) (h : ∀ h, I h → Gets P G c x ⟨tm, h, df⟩ Q) : Gets P G c x ⟨tm, H, df⟩ Q := h H hI
theorem GetsE.ofH {x : Code} {tm : T AV} {H : Heap} {df : List ADefer} (I : Heap → Prop) (hI : I H) (h : ∀ h, I h → GetsE P G c x ⟨tm, h, df⟩ Q) : GetsE P G c x ⟨tm, H, df⟩ Q := h H hI
theorem Gets.ofS {x : Code} {tm : T AV} {H : Heap} {df : List ADefer} (I : T AV → Heap → Prop) (hI : I tm H) (h : ∀ tm h, I tm h → Gets P G c x ⟨tm, h, df⟩ Q) : Gets P G c x ⟨tm, H, df⟩ Q := h tm H hI
theorem GetsE.ofS {x : Code} {tm : T AV} {H : Heap} {df : List ADefer} (I : T AV → Heap → Prop) (hI : I tm H) (h : ∀ tm h, I tm h → GetsE P G c x ⟨tm, h, df⟩ Q) : GetsE P G c x ⟨tm, H, df⟩ Q := h tm H hI
def j5v (H h : Heap) (b : Nat) : Prop := ∀ o, h.blks.get b = some o → (b < H.next ∧ H.blks.get b = some o) ∨ ltB h.next o
open Classical in
noncomputable def q4L (H h : Heap) : Nat → T ABlk
 | 0 => .e
 | n + 1 => if j5v H h n then (q4L H h n).set n (h.blks.get n) else q4L H h n
open Classical in
theorem z5D (H h : Heap) : ∀ n b, (q4L H h n).get b = if b < n ∧ j5v H h b then h.blks.get b else none
 | 0, b => by
  rw [if_neg fun e => absurd e.1 (Nat.not_lt_zero _)]
  show (T.e : T ABlk).get b = none
  rw [T.get_e]
 | n + 1, b => by
  unfold q4L
  by_cases hk : j5v H h n
  ·rw [if_pos hk, T.get_set]
   by_cases hb : b = n
   ·subst hb
    rw [if_pos rfl, if_pos ⟨by omega, hk⟩]
   ·rw [if_neg hb, z5D H h n b]
    by_cases hh : b < n ∧ j5v H h b
    ·rw [if_pos hh, if_pos ⟨by omega, hh.2⟩]
    ·rw [if_neg hh, if_neg fun e => hh ⟨by omega, e.2⟩]
  ·rw [if_neg hk, z5D H h n b]
   by_cases hh : b < n ∧ j5v H h b
   ·rw [if_pos hh, if_pos ⟨by omega, hh.2⟩]
   ·rw [if_neg hh, if_neg fun e => hh ⟨by
     by_cases hb : b = n
     ·subst hb; exact absurd e.2 hk
     ·omega, e.2⟩]
noncomputable def z2d (H h : Heap) : Heap := ⟨h.next, q4L H h h.next⟩
theorem k7X (H h : Heap) : (z2d H h).next = h.next := rfl
theorem z1X (H h : Heap) : Neat (z2d H h) := fun b o ho => by
 have ho : (q4L H h h.next).get b = some o := ho
 rw [z5D] at ho
 split at ho
 ·rename_i hh; exact hh.1
 ·simp at ho
theorem z4m {H h : Heap} {b : Nat} (hb : b < H.next) (hle : H.next ≤ h.next) (he : h.blks.get b = H.blks.get b) : (z2d H h).blks.get b = H.blks.get b := by
 show (q4L H h h.next).get b = _
 rw [z5D, if_pos ⟨by omega, fun o ho => .inl ⟨hb, by rw [← he]; exact ho⟩⟩, he]
theorem z6g {H h : Heap} {b : Nat} {o : ABlk} (hN : Neat h) (hb : h.blks.get b = some o) (hl : ltB h.next o) : (z2d H h).blks.get b = some o := by
 show (q4L H h h.next).get b = _
 rw [z5D, if_pos ⟨hN b o hb, fun o' ho => .inr (by rw [hb] at ho; cases ho; exact hl)⟩, hb]
theorem j8L {H h : Heap} {v : AV} (hle : H.next ≤ h.next) (hv : ltV h.next v) : Cut H (v, z2d H h) v h :=
 ⟨rfl, Nat.le_refl _, hle, fun b o ho => by
  have ho : (q4L H h h.next).get b = some o := ho
  rw [z5D] at ho
  split at ho
  ·rename_i hh; exact ⟨ho, hh.2 o ho⟩
  ·simp at ho, hv⟩
theorem z2D (TT : TabOk P G) {f : FuncId} {fn : Func} {body : Code} (hf : P.funcs[f]? = some fn) (hb : fn.body = some body) (hn : (fn.name == "runtime.NumGoroutine") = false) {args : List AV} {H : Heap} {R : AV → Heap → Prop}
  (hg : GetsE P G ⟨none, args.length + (fn.ntmps - args.length)⟩ body ⟨q9I args, H, []⟩ fun e s' =>
   z5r e = true ∧ s'.df = [] ∧ ∃ vs, z1q G s'.tm s'.h fn.results.toList = some vs ∧ H.next ≤ s'.h.next ∧ ltV s'.h.next (z2h vs) ∧ R (z2h vs) s'.h) :
  ∃ v h, R v h ∧ H.next ≤ h.next ∧ CallTo P G f args H [(v, z2d H h)] := by
 obtain ⟨e, s', ⟨q1, q2, vs, q3, q4, q5, q6⟩, g⟩ := hg
 exact ⟨z2h vs, s'.h, q6, q4, z0A TT hf hb hn (g.mono fun e1 s1 hh => by obtain ⟨rfl, rfl⟩ := hh; exact ⟨q1, q2, vs, q3, _, List.mem_singleton.2 rfl, j8L q4 q5⟩)⟩
theorem z8H {H : Heap} {s : St} {vs : List AV} {rs : List ResultVar} {R : AV → Heap → Prop} (hd : s.df = []) (hr : z1q G s.tm s.h rs = some vs) (hn : H.next ≤ s.h.next) (hv : ltV s.h.next (z2h vs)) (hR : R (z2h vs) s.h) :
  z5r .ret = true ∧ s.df = [] ∧ ∃ vs, z1q G s.tm s.h rs = some vs ∧ H.next ≤ s.h.next ∧ ltV s.h.next (z2h vs) ∧ R (z2h vs) s.h := ⟨rfl, hd, vs, hr, hn, hv, hR⟩
structure GrowsP (p : Nat) (H H' : Heap) : Prop where
 next : H.next ≤ H'.next
 get : ∀ b, b < H.next → b ≠ p → H'.blks.get b = H.blks.get b
theorem GrowsP.refl (p : Nat) (H : Heap) : GrowsP p H H := ⟨Nat.le_refl _, fun _ _ _ => rfl⟩
theorem GrowsP.trans {p : Nat} {a b c : Heap} (h : GrowsP p a b) (h' : GrowsP p b c) : GrowsP p a c :=
 ⟨Nat.le_trans h.next h'.next, fun x hx hp => (h'.get x (Nat.lt_of_lt_of_le hx h.next) hp).trans (h.get x hx hp)⟩
theorem GrowsP.push (p : Nat) (H : Heap) (o : ABlk) : GrowsP p H (H.push o) := ⟨Nat.le_succ _, fun b hb _ => z0u H o (Nat.ne_of_lt hb)⟩
theorem GrowsP.put (p : Nat) (H : Heap) (o : Option ABlk) : GrowsP p H (z0n H p o) := ⟨by rw [z0h]; exact Nat.le_refl _, fun b _ hp => z0k _ _ _ hp⟩
theorem GrowsP.new {p : Nat} {a b : Heap} (h : GrowsP p a b) {d : Nat} (hd : a.next ≤ d) (o : Option ABlk) : GrowsP p a (z0n b d o) :=
 ⟨by rw [z0h]; exact h.next, fun x hx hp => by rw [z0k _ _ _ (by omega)]; exact h.get x hx hp⟩
theorem GrowsP.keep {p : Nat} {H h : Heap} (h' : GrowsP p H h) : GrowsP p H (z2d H h) :=
 ⟨h'.next, fun b hb hp => z4m hb h'.next (h'.get b hb hp)⟩
theorem GrowsP.some_ {p : Nat} {H h : Heap} (g : GrowsP p H h) (hN : Neat H) {b : Nat} {o : ABlk} (hb : H.blks.get b = some o) (hp : b ≠ p) : h.blks.get b = some o := by rw [g.get b (hN b o hb) hp]; exact hb
theorem k7Y {H : Heap} {b b' : Nat} {o o' : ABlk} (h : H.blks.get b = some o) (h' : H.blks.get b' = some o') (hne : o ≠ o') : b ≠ b' := fun e => by
 subst e
 rw [h] at h'
 exact hne (Option.some.inj h')
noncomputable def stC (H : Heap) (b off : Nat) (l : List AV) (z : Option Nat) : Option Heap := z0d z fun s => bif Nat.beq (len l) s then z1Z H b off l else none
theorem k3I (H : Heap) (t : TypeId) (b off : Nat) (v : AV) : z0E G H t (.ptr b off) v = stC H b off v.cells (G.size t) := rfl
theorem t_c1 (H : Heap) (b off : Nat) (x : AV) : stC H b off [x] (some 1) = z4x H b off [x] (H.blks.get b) := rfl
theorem t_c2 (H : Heap) (b off : Nat) (x y : AV) : stC H b off [x, y] (some 2) = z4x H b off [x, y] (H.blks.get b) := rfl
theorem t_c4 (H : Heap) (b off : Nat) (x y z w : AV) : stC H b off [x, y, z, w] (some 4) = z4x H b off [x, y, z, w] (H.blks.get b) := rfl
theorem w1l (H : Heap) (b off : Nat) (x0 x1 x2 x3 x4 x5 x6 x7 x8 x9 : AV) : stC H b off [x0, x1, x2, x3, x4, x5, x6, x7, x8, x9] (some 10) = z4x H b off [x0, x1, x2, x3, x4, x5, x6, x7, x8, x9] (H.blks.get b) := rfl
noncomputable def stO (k : Bool) (H : Heap) (b : Nat) (e : TypeId) (x : Bool) (o : Option (List AV)) : Option Heap := bif k then z6W H b e x o else none
theorem t_in (H : Heap) (b off : Nat) (l : List AV) (e : TypeId) (x : Bool) (old : List AV) : z4x H b off l (some (.cells e x old)) = stO (z1c l) H b e x (z1R l old off) := rfl
theorem w1m (H : Heap) (b : Nat) (e : TypeId) (x : Bool) (l : List AV) : stO true H b e x (some l) = some (z0n H b (some (.cells e x l))) := by
 show z5N l (fun l => z1k H b (some (.cells e x l)) some) = _
 rw [z1T]
 unfold z1k z0n
 rw [T.setK_eq, T.setK_eq]
theorem w1n {α : Type} (w : List α) (a : α) (l : List α) : z1R w (a :: l) 0 = z6l w (a :: l) := rfl
theorem w1o {α : Type} (w : List α) (a : α) (l : List α) (k : Nat) : z1R w (a :: l) (k + 1) = z2W a (z1R w l k) := rfl
theorem w1p {α : Type} (l : List α) : z6l [] l = some l := rfl
theorem w1q {α : Type} (x : α) (w : List α) (o : α) (l : List α) : z6l (x :: w) (o :: l) = z2W x (z6l w l) := rfl
theorem k3J {α : Type} (a : α) (l : List α) : z2W a (some l) = some (a :: l) := rfl
theorem t_r2 (e : TypeId) (x : Bool) (a b : AV) : cellsIn (some (.cells e x [a, b])) 0 2 = some [a, b] := rfl
theorem t_r4 (e : TypeId) (x : Bool) (a b c d : AV) : cellsIn (some (.cells e x [a, b, c, d])) 0 4 = some [a, b, c, d] := rfl
theorem w1r (e : TypeId) (x : Bool) (x0 x1 x2 x3 x4 x5 x6 x7 x8 x9 : AV) : cellsIn (some (.cells e x [x0, x1, x2, x3, x4, x5, x6, x7, x8, x9])) 0 10 = some [x0, x1, x2, x3, x4, x5, x6, x7, x8, x9] := rfl
theorem w5X (e : TypeId) (x : Bool) (x0 x1 x2 x3 x4 x5 x6 x7 x8 x9 : AV) : cellsIn (some (.cells e x [x0, x1, x2, x3, x4, x5, x6, x7, x8, x9])) 4 2 = some [x4, x5] := rfl
theorem w5Y (e : TypeId) (x : Bool) (x0 x1 x2 x3 x4 x5 x6 x7 x8 x9 : AV) : cellsIn (some (.cells e x [x0, x1, x2, x3, x4, x5, x6, x7, x8, x9])) 6 4 = some [x6, x7, x8, x9] := rfl
set_option linter.defProp false in
def stL := And.intro (And.intro (And.intro (And.intro @k3I @t_c1) (And.intro @t_c2 @t_c4)) (And.intro (And.intro @w1l @t_in) (And.intro @w1m @w1n))) (And.intro (And.intro (And.intro @w1o @w1p) (And.intro @w1q @k3J)) (And.intro (And.intro @t_r2 @t_r4) (And.intro @w1r (And.intro @z9Y @q1N))))
set_option linter.defProp false in
def foL := And.intro (And.intro (And.intro @z0K @z0k) (And.intro @z0w (And.intro @z9W (And.intro @z9Y @q1N)))) (And.intro @z0u (And.intro @z0i @z0h))
end
end Go.Sx
namespace Go.Sx
open Go
section
variable {α : Type} {P : Program} {G : Tab}
theorem q9T {β : Type} : ∀ (w old S : List β), old.length = w.length → z6l w (old ++ S) = some (w ++ S)
 | [], [], S, _ => rfl
 | [], _ :: _, _, h => by simp at h
 | _ :: _, [], _, h => by simp at h
 | a :: w, o :: old, S, h => by
  show z2W a (z6l w (old ++ S)) = _
  rw [q9T w old S (by simpa using h)]; rfl
theorem z9r {β : Type} (w old S : List β) (hl : old.length = w.length) (hne : w ≠ []) : ∀ (Q : List β), z1R w (Q ++ (old ++ S)) Q.length = some (Q ++ (w ++ S))
 | [] => by
  cases old with
  | nil => cases w with
   | nil => exact absurd rfl hne
   | cons _ _ => simp at hl
  | cons o old => exact q9T w (o :: old) S hl
 | a :: Q => by
  show z2W a (z1R w (Q ++ (old ++ S)) Q.length) = _
  rw [z9r w old S hl hne Q]; rfl
theorem k4T {f : α → List AV} {k : Nat} (hf : ∀ a, (f a).length = k) (hk : 0 < k) (A B : List α) (a a' : α) {i : Nat} (hi : i = A.length * k) : z1R (f a') ((A ++ a :: B).flatMap f) i = some ((A ++ a' :: B).flatMap f) := by
 rw [List.flatMap_append, List.flatMap_cons, List.flatMap_append, List.flatMap_cons, hi, ← z4T hf A]
 exact z9r (f a') (f a) _ (by rw [hf, hf]) (fun e => by have := hf a'; rw [e] at this; simp at this; omega) _
theorem q1O {f : α → List AV} {l : List α} (h : ∀ a ∈ l, z1c (f a) = true) : z1c (l.flatMap f) = true :=
 z2P.2 fun v hv => by
  obtain ⟨a, ha, hv⟩ := List.mem_flatMap.1 hv
  exact z2P.1 (h a ha) v hv
theorem z5E {l m : List AV} (h : z1c l = true) (h' : z1c m = true) : z1c (l ++ m) = true :=
 z2P.2 fun v hv => (List.mem_append.1 hv).elim (z2P.1 h v) (z2P.1 h' v)
def CellsAt (e : Nat) (f : α → List AV) (H : Heap) (v : AV) (l : List α) : Prop :=
 (v = .nilslice ∧ l = []) ∨ ∃ b q c x, v = .slice b 0 l.length q c ∧ H.blks.get b = some (.cells e x (l.flatMap f))
variable {e k t : Nat} {f : α → List AV} {H H' : Heap} {v : AV} {l : List α}
theorem CellsAt.one (h : CellsAt e f H v l) : z0P v = true := by
 rcases h with ⟨rfl, _⟩ | ⟨b, q, c, x, rfl, _⟩ <;> rfl
theorem CellsAt.len (h : CellsAt e f H v l) (hu : G.und t = some (.slice e)) (H' : Heap) : lenA G H' t v = some (.int .i64 (l.length : Int)) := by
 rcases h with ⟨rfl, rfl⟩ | ⟨b, q, c, x, rfl, _⟩
 ·exact q4v hu H'
 ·exact z5C hu H' ..
theorem CellsAt.lt (h : CellsAt e f H v l) (hN : Neat H) : ltV H.next v := by
 rcases h with ⟨rfl, rfl⟩ | ⟨b, q, c, x, rfl, hb⟩
 ·trivial
 ·exact hN b _ hb
theorem CellsAt.to (h : CellsAt e f H v l) (hh : ∀ b x y, H.blks.get b = some (.cells e x y) → H'.blks.get b = some (.cells e x y)) : CellsAt e f H' v l := by
 rcases h with h | ⟨b, q, c, x, h1, hb⟩
 ·exact .inl h
 ·exact .inr ⟨b, q, c, x, h1, hh _ _ _ hb⟩
theorem CellsAt.growP (h : CellsAt e f H v l) (hN : Neat H) {p : Nat} (hg : GrowsP p H H') {o : ABlk} (hp : H.blks.get p = some o) (ho : ∀ x y, o ≠ .cells e x y) : CellsAt e f H' v l :=
 h.to fun b x y hb => hg.some_ hN hb fun e => by
  subst e
  rw [hp] at hb
  exact ho _ _ (Option.some.inj hb)
theorem CellsAt.keep {H h : Heap} (hc : CellsAt e f h v l) (hN : Neat h) (hf : ∀ a ∈ l, ltL h.next (f a)) : CellsAt e f (z2d H h) v l := by
 rcases hc with h1 | ⟨b, q, c, x, h1, hb⟩
 ·exact .inl h1
 ·refine .inr ⟨b, q, c, x, h1, z6g hN hb ?_⟩
  show ltL h.next (l.flatMap f)
  refine q4I.2 fun v hv => ?_
  obtain ⟨a, ha, hv⟩ := List.mem_flatMap.1 hv
  exact q4I.1 (hf a ha) v hv
theorem CellsAt.row (h : CellsAt e f H v l) (hu : G.und t = some (.slice e)) (hz : G.size e = some k) (hf : ∀ a, (f a).length = k) {i : Nat} {a : α} (ha : l[i]? = some a) :
  ∃ b, z1h G t v (.int .i64 (i : Int)) = some (.ptr b (i * k)) ∧ (∀ j, j < k → z1g (H.blks.get b) (i * k + j) = (f a)[j]?) ∧
   ∀ j r, j + r ≤ k → cellsIn (H.blks.get b) (i * k + j) r = some (((f a).drop j).take r) := by
 have hi : i < l.length := (List.getElem?_eq_some_iff.1 ha).1
 rcases h with ⟨_, rfl⟩ | ⟨b, q, c, x, rfl, hb⟩
 ·simp at ha
 ·have hlen := z4T hf l
  have hik : (i + 1) * k ≤ l.length * k := Nat.mul_le_mul_right k hi
  rw [Nat.succ_mul] at hik
  refine ⟨b, ?_, fun j hj => ?_, fun j r hj => ?_⟩
  ·rw [z2L hu hz, if_pos ⟨by omega, by omega⟩]; simp
  ·rw [hb]
   show nth (l.flatMap f) (i * k + j) = _
   rw [z2Z, z7Z hf ha hj]
  ·rw [hb]
   show z4w (z6k (l.flatMap f) (i * k + j)) r = _
   rw [z2A, z2e, if_pos (by rw [List.length_drop, hlen]; omega)]
   congr 1
   apply List.ext_getElem?
   intro q
   rw [List.getElem?_take, List.getElem?_take]
   by_cases hq : q < r
   ·rw [if_pos hq, if_pos hq, List.getElem?_drop, List.getElem?_drop, Nat.add_assoc, z7Z hf ha (by omega)]
   ·rw [if_neg hq, if_neg hq]
def GrownAt (n0 e : Nat) (f : α → List AV) (H : Heap) (v : AV) (l : List α) : Prop :=
 (v = .nilslice ∧ l = []) ∨ ∃ b, n0 ≤ b ∧ v = .slice b 0 l.length true 0 ∧ H.blks.get b = some (.cells e false (l.flatMap f)) ∧ l ≠ []
theorem GrownAt.cells {n0 : Nat} (h : GrownAt n0 e f H v l) : CellsAt e f H v l := by
 rcases h with h | ⟨b, h0, h1, h2, h3⟩
 ·exact .inl h
 ·exact .inr ⟨b, true, 0, false, h1, h2⟩
theorem GrownAt.to {n0 : Nat} (h : GrownAt n0 e f H v l) (hh : ∀ b x y, H.blks.get b = some (.cells e x y) → H'.blks.get b = some (.cells e x y)) : GrownAt n0 e f H' v l := by
 rcases h with h | ⟨b, h0, h1, h2, h3⟩
 ·exact .inl h
 ·exact .inr ⟨b, h0, h1, hh _ _ _ h2, h3⟩
theorem z3v (hu : G.und t = some (.slice e)) : Sx.elemOf G t = some e := by
 unfold Sx.elemOf
 rw [hu]; rfl
theorem q1P {b : Nat} {r : List AV} (hb : H.blks.get b = some (.cells e true r)) (hr : r.length = k) (hk : 0 < k) : z5o H k 1 (.slice b 0 1 false 1) = some r := by
 show z0R H b 0 (1 * k) = _
 rw [Nat.one_mul, q1B _ _ _ (by omega), hb]
 show z4w (z6k r 0) k = _
 rw [z2A, z2e, List.drop_zero, if_pos (Nat.le_of_eq hr.symm), List.take_of_length_le (Nat.le_of_eq hr)]
theorem j5w {i : TypeInfo} {zero : AV} (hu : G.und t = some (.slice e)) (hty : G.types.get e = some i) (hk : i.size = k) (hk0 : 0 < k) (hby : Nat.ble i.bytes 100000 = true) (hz : G.zero e = some zero) (hzl : zero.cells.length = k)
  {b : Nat} {r : List AV} (hb : H.blks.get b = some (.cells e true r)) (hr : r.length = k) (h1 : z1c r = true) :
  z4b G H [t, t] [.nilslice, .slice b 0 1 false 1] = some (.slice H.next 0 1 true 0, H.push (.cells e false r)) := by
 show z0d (Sx.elemOf G t) (fun e => z0d (G.und t) fun u => bif intD u then z0d (G.types.get e) (q0L G H e .nilslice (.slice b 0 1 false 1)) else z0d (G.types.get e) (z5Q G H e .nilslice (.slice b 0 1 false 1))) = _
 rw [z3v hu, hu]
 show z0d (G.types.get e) (z5Q G H e .nilslice (.slice b 0 1 false 1)) = _
 rw [hty]
 show z0d (G.zero e) (fun zero => bif Nat.beq i.size 0 then none else bif j2G (.slice b 0 1 false 1) i.size then bif Nat.beq (len zero.cells) i.size then bif Nat.ble i.bytes 100000 then
  bif Nat.ble (0 + 1) 1000000 then z0d (z5o H i.size 1 (.slice b 0 1 false 1)) (z2N H e i.size 1 .nilslice) else none else none else none else none) = _
 rw [hz, hby, hk]
 show (bif Nat.beq k 0 then none else bif Nat.beq (len zero.cells) k then z0d (z5o H k 1 (.slice b 0 1 false 1)) (z2N H e k 1 .nilslice) else none) = _
 rw [z1i (by omega : k ≠ 0), z1t, hzl, z1M rfl, cond_false, cond_true, q1P hb hr hk0]
 show z3U H e 1 r = _
 unfold z3U
 rw [z1W, h1]; rfl
theorem q3k {i : TypeInfo} {zero : AV} (hu : G.und t = some (.slice e)) (hty : G.types.get e = some i) (hk : i.size = k) (hk0 : 0 < k) (hby : Nat.ble i.bytes 100000 = true) (hz : G.zero e = some zero) (hzl : zero.cells.length = k)
  {b d n : Nat} {r y : List AV} (hb : H.blks.get b = some (.cells e true r)) (hr : r.length = k) (h1 : z1c r = true) (hd : H.blks.get d = some (.cells e false y)) (hy : y.length = n * k) (h2 : z1c y = true) (hn0 : 0 < n) (hn : n ≤ 100000) :
  z4b G H [t, t] [.slice d 0 n true 0, .slice b 0 1 false 1] = some (.slice H.next 0 (n + 1) true 0, (z0n H d none).push (.cells e false (y ++ r))) := by
 show z0d (Sx.elemOf G t) (fun e => z0d (G.und t) fun u => bif intD u then z0d (G.types.get e) (q0L G H e (.slice d 0 n true 0) (.slice b 0 1 false 1)) else z0d (G.types.get e) (z5Q G H e (.slice d 0 n true 0) (.slice b 0 1 false 1))) = _
 rw [z3v hu, hu]
 show z0d (G.types.get e) (z5Q G H e (.slice d 0 n true 0) (.slice b 0 1 false 1)) = _
 rw [hty]
 show z0d (G.zero e) (fun zero => bif Nat.beq i.size 0 then none else bif j2G (.slice b 0 1 false 1) i.size then bif Nat.beq (len zero.cells) i.size then bif Nat.ble i.bytes 100000 then
  bif Nat.ble (n + 1) 1000000 then z0d (z5o H i.size 1 (.slice b 0 1 false 1)) (z2N H e i.size 1 (.slice d 0 n true 0)) else none else none else none else none) = _
 have h9 : Nat.ble (n + 1) 1000000 = true := Nat.ble_eq_true_of_le (by omega)
 rw [hz, hby, hk, h9]
 show (bif Nat.beq k 0 then none else bif Nat.beq (len zero.cells) k then z0d (z5o H k 1 (.slice b 0 1 false 1)) (z2N H e k 1 (.slice d 0 n true 0)) else none) = _
 rw [z1i (by omega : k ≠ 0), z1t, hzl, z1M rfl, cond_false, cond_true, q1P hb hr hk0]
 show z0d (z7N e (H.blks.get d)) (fun kn => bif Nat.beq 0 (0 * k) then
   bif Nat.ble (0 + (n + 1) * k) kn then inPlace H d (0 + n * k) r (.slice d 0 (n + 1) true 0)
   else z0d (z0R H d 0 (n * k)) fun old => z1k H d none fun H' => z3U H' e (n + 1) (app old r)
  else none) = _
 have hkn : z7N e (H.blks.get d) = some (n * k) := by
  rw [hd]
  show (bif Nat.beq e e then some (len y) else none) = _
  rw [z1M rfl, cond_true, z1t, hy]
 have hnk : 0 < n * k := Nat.mul_pos hn0 hk0
 have hb' : Nat.ble (0 + (n + 1) * k) (n * k) = false := by
  cases hh : Nat.ble (0 + (n + 1) * k) (n * k)
  ·rfl
  ·have := z2n hh
   rw [Nat.succ_mul] at this
   omega
 rw [hkn]
 show (bif Nat.beq 0 (0 * k) then
   bif Nat.ble (0 + (n + 1) * k) (n * k) then inPlace H d (0 + n * k) r (.slice d 0 (n + 1) true 0)
   else z0d (z0R H d 0 (n * k)) fun old => z1k H d none fun H' => z3U H' e (n + 1) (app old r)
  else none) = _
 rw [hb', cond_false, z1M (Nat.zero_mul k).symm, cond_true]
 have hld : z0R H d 0 (n * k) = some y := by
  rw [q1B _ _ _ (by omega), hd]
  show z4w (z6k y 0) (n * k) = _
  rw [z2A, z2e, List.drop_zero, if_pos (Nat.le_of_eq hy.symm), List.take_of_length_le (Nat.le_of_eq hy)]
 rw [hld]
 show z1k H d none (fun H' => z3U H' e (n + 1) (app y r)) = _
 have e1 : z1k H d none (fun H' => z3U H' e (n + 1) (app y r)) = z3U (z0n H d none) e (n + 1) (app y r) := by
  unfold z1k z0n
  rw [T.setK_eq, T.setK_eq]
 rw [e1, z2H]
 unfold z3U
 rw [z1W, z5E h2 h1]
 show some (AV.slice (z0n H d none).next 0 (n + 1) true 0, _) = _
 rw [z0h]
theorem z8I {h : Heap} (hN : Neat h) (d : Nat) : Neat (z0n h d none) := fun x o hx => by
 rw [Heap.get_put] at hx
 rw [Heap.next_put]
 split at hx
 ·simp at hx
 ·exact hN x o hx
theorem k7Z {n0 : Nat} {i : TypeInfo} {zero : AV} (hu : G.und t = some (.slice e)) (hty : G.types.get e = some i) (hk : i.size = k) (hk0 : 0 < k) (hby : Nat.ble i.bytes 100000 = true) (hz : G.zero e = some zero) (hzl : zero.cells.length = k)
  (hf : ∀ a, (f a).length = k) (h : GrownAt n0 e f H v l) (hN : Neat H) (hn0 : n0 ≤ H.next) (hl : l.length ≤ 100000) (hone : ∀ a ∈ l, z1c (f a) = true) {b : Nat} {a : α} (hb : H.blks.get b = some (.cells e true (f a))) (h1 : z1c (f a) = true) :
  ∃ v' H', z4b G H [t, t] [v, .slice b 0 1 false 1] = some (v', H') ∧ GrownAt n0 e f H' v' (l ++ [a]) ∧ Neat H' ∧ H'.next = H.next + 1 ∧ (∀ x o, H.blks.get x = some o → (∀ y, o ≠ .cells e false y) → H'.blks.get x = some o) ∧
   ∀ x, x < n0 → H'.blks.get x = H.blks.get x := by
 rcases h with ⟨rfl, rfl⟩ | ⟨d, h0, rfl, h2, h3⟩
 ·refine ⟨_, _, j5w hu hty hk hk0 hby hz hzl hb (hf a) h1, .inr ⟨H.next, hn0, rfl, ?_, by simp⟩, hN.push _, rfl, fun x o hx _ => ?_, fun x hx => z0u _ _ (by omega)⟩
  ·rw [z0w]; simp
  ·rw [z0u _ _ (Nat.ne_of_lt (hN x o hx))]; exact hx
 ·have hpos : 0 < l.length := List.length_pos_iff.2 h3
  have hnx : (z0n H d none).next = H.next := z0h _ _ _
  refine ⟨_, _, q3k hu hty hk hk0 hby hz hzl hb (hf a) h1 h2 (z4T hf l) (q1O hone) hpos hl, .inr ⟨H.next, hn0, by rw [List.length_append]; rfl, ?_, by simp⟩, (z8I hN d).push _, by rw [z0i, hnx], fun x o hx ho => ?_, fun x hx => ?_⟩
  ·have := z0w (z0n H d none) (.cells e false (l.flatMap f ++ f a))
   rw [hnx] at this
   rw [this]; simp
  ·rw [z0u _ _ (by rw [hnx]; exact Nat.ne_of_lt (hN x o hx)), z0k _ _ _ (fun e' => by subst e'; rw [h2] at hx; exact ho _ (Option.some.inj hx).symm)]
   exact hx
  ·rw [z0u _ _ (by rw [hnx]; omega), z0k _ _ _ (by omega)]
theorem k8a {zero : AV} (hu : G.und t = some (.slice e)) (hz : G.size e = some k) (hzero : G.zero e = some zero) (hzl : zero.cells.length = k) (hk : Nat.ble (1 * k) 10000 = true) (hk0 : 0 < k) (cs : List AV) (hcl : cs.length = k) (h1 : z1c cs = true) :
  z1b G H t 1 [(0, .agg cs)] = some (.slice H.next 0 1 false 1, H.push (.cells e true cs)) := by
 show z0d (Sx.elemOf G t) (fun e => z0d (G.size e) fun z => z0d (G.zero e) fun zero =>
  bif Nat.ble (1 * z) 10000 then
   bif Nat.beq (len zero.cells) z then z0d (z0d (some (0 * z, z)) fun q => z0d (z7M (z1x zero.cells 1) (.agg cs) q) fun c => some c) (z0V H e 1 1) else none
  else none) = _
 rw [z3v hu]
 show z0d (G.size e) (fun z => z0d (G.zero e) fun zero =>
  bif Nat.ble (1 * z) 10000 then
   bif Nat.beq (len zero.cells) z then z0d (z0d (some (0 * z, z)) fun q => z0d (z7M (z1x zero.cells 1) (.agg cs) q) fun c => some c) (z0V H e 1 1) else none
  else none) = _
 rw [hz, hzero]
 show (bif Nat.ble (1 * k) 10000 then
   bif Nat.beq (len zero.cells) k then z0d (z0d (z7M (app zero.cells []) (.agg cs) (0 * k, k)) fun c => some c) (z0V H e 1 1) else none
  else none) = _
 rw [hk, z1t, hzl, z1M rfl, cond_true, cond_true, z2H, List.append_nil, Nat.zero_mul]
 have hs : z7M zero.cells (.agg cs) (0, k) = some cs := by
  show (bif Nat.beq (len cs) k then z1R cs zero.cells 0 else none) = _
  rw [z1t, hcl, z1M rfl, cond_true]
  have := z9r cs zero.cells [] (by rw [hzl, hcl]) (fun e => by rw [e] at hcl; simp at hcl; omega) []
  simpa using this
 rw [hs]
 show z0V H e 1 1 cs = _
 unfold z0V
 rw [z1W, h1]; rfl
theorem q8x (z : α) (n : Nat) : z1x (f z) n = (List.replicate n z).flatMap f := by
 induction n with
 | zero => rfl
 | succ n ih =>
  show app (f z) (z1x (f z) n) = _
  rw [z2H, ih, List.replicate_succ, List.flatMap_cons]
theorem k8b {i : TypeInfo} {zero : AV} (hu : G.und t = some (.slice e)) (hty : G.types.get e = some i) (hk : i.size = k) (hby : Nat.ble i.bytes 100000 = true) (hz : G.zero e = some zero) (z : α) (hz0 : zero.cells = f z) (hzl : (f z).length = k) (h1 : z1c (f z) = true) (n : Nat) (hn : n ≤ 1000) (hnk : n * k ≤ 1000) :
  z1A G H t (.int .i64 (n : Int)) (.int .i64 (n : Int)) = some (.slice H.next 0 n false n, H.push (.cells e true ((List.replicate n z).flatMap f))) := by
 show z0d (Sx.elemOf G t) (fun e => z0d (G.types.get e) (z4n G H e n n)) = _
 rw [z3v hu]
 show z0d (G.types.get e) (z4n G H e n n) = _
 rw [hty]
 show z4n G H e n n i = _
 unfold z4n
 rw [hz]
 show (bif Nat.ble n n then bif Nat.ble (n * (i.bytes + 1)) 1000000000 then bif Nat.beq (len zero.cells) i.size then bif Nat.ble (n * i.size) 1000 then z0V H e n n (z1x zero.cells n) else _ else none else none else none) = _
 have b2 : Nat.ble (n * (i.bytes + 1)) 1000000000 = true := Nat.ble_eq_true_of_le (Nat.le_trans (Nat.mul_le_mul hn (Nat.succ_le_succ (z2n hby))) (by omega))
 rw [Nat.ble_eq_true_of_le (Nat.le_refl n), b2, z1t, hz0, hzl, hk, z1M rfl, Nat.ble_eq_true_of_le hnk, q8x]
 show z0V H e n n ((List.replicate n z).flatMap f) = _
 unfold z0V
 rw [z1W, q1O (fun a ha => by rw [(List.mem_replicate.1 ha).2]; exact h1)]; rfl
end
end Go.Sx
namespace Go.Sx
open Go
section
variable {P : Program} {G : Tab} {e k t : Nat} {H H' : Heap} {v : AV}
theorem q8y {i : TypeInfo} {zero : AV} (hu : G.und t = some (.slice e)) (hty : G.types.get e = some i) (hk : i.size = k) (hk0 : 0 < k) (hby : Nat.ble i.bytes 100000 = true) (hz : G.zero e = some zero) (hzl : zero.cells.length = k)
  {b d n : Nat} {r y : List AV} (hb : H.blks.get b = some (.cells e true r)) (hr : r.length = k) (h1 : z1c r = true) (hd : H.blks.get d = some (.cells e true y)) (hy : y.length = n * k) (h2 : z1c y = true) (hn0 : 0 < n) (hn : n ≤ 100000) :
  z4b G H [t, t] [.slice d 0 n false n, .slice b 0 1 false 1] = some (.slice H.next 0 (n + 1) true 0, H.push (.cells e false (y ++ r))) := by
 show z0d (Sx.elemOf G t) (fun e => z0d (G.und t) fun u => bif intD u then z0d (G.types.get e) (q0L G H e (.slice d 0 n false n) (.slice b 0 1 false 1)) else z0d (G.types.get e) (z5Q G H e (.slice d 0 n false n) (.slice b 0 1 false 1))) = _
 rw [z3v hu, hu]
 show z0d (G.types.get e) (z5Q G H e (.slice d 0 n false n) (.slice b 0 1 false 1)) = _
 rw [hty]
 show z0d (G.zero e) (fun zero => bif Nat.beq i.size 0 then none else bif j2G (.slice b 0 1 false 1) i.size then bif Nat.beq (len zero.cells) i.size then bif Nat.ble i.bytes 100000 then
  bif Nat.ble (n + 1) 1000000 then z0d (z5o H i.size 1 (.slice b 0 1 false 1)) (z2N H e i.size 1 (.slice d 0 n false n)) else none else none else none else none) = _
 have h9 : Nat.ble (n + 1) 1000000 = true := Nat.ble_eq_true_of_le (by omega)
 rw [hz, hby, hk, h9]
 show (bif Nat.beq k 0 then none else bif Nat.beq (len zero.cells) k then z0d (z5o H k 1 (.slice b 0 1 false 1)) (z2N H e k 1 (.slice d 0 n false n)) else none) = _
 rw [z1i (by omega : k ≠ 0), z1t, hzl, z1M rfl, cond_false, cond_true, q1P hb hr hk0]
 show (bif Nat.ble (n + 1) n then inPlace H d (0 + n * k) r (.slice d 0 (n + 1) false n)
   else bif Nat.ble n 1000000 then z0d (z0R H d 0 (n * k)) fun old => z3U H e (n + 1) (app old r) else none) = _
 have hnk : 0 < n * k := Nat.mul_pos hn0 hk0
 have hb' : Nat.ble (n + 1) n = false := by
  cases hh : Nat.ble (n + 1) n
  ·rfl
  ·have := z2n hh; omega
 have hb2 : Nat.ble n 1000000 = true := Nat.ble_eq_true_of_le (by omega)
 have hld : z0R H d 0 (n * k) = some y := by
  rw [q1B _ _ _ (by omega), hd]
  show z4w (z6k y 0) (n * k) = _
  rw [z2A, z2e, List.drop_zero, if_pos (Nat.le_of_eq hy.symm), List.take_of_length_le (Nat.le_of_eq hy)]
 rw [hb', cond_false, hb2, cond_true, hld]
 show z3U H e (n + 1) (app y r) = _
 rw [z2H]
 unfold z3U
 rw [z1W, z5E h2 h1]; rfl
theorem z5F (s : List UInt8) : z0J s = s.map z8j := by
 induction s with
 | nil => rfl
 | cons a s ih => show z8j a :: z0J s = _; rw [ih]; rfl
theorem z5G (s : List UInt8) : (z0J s).length = s.length := by rw [z5F, List.length_map]
theorem j1I (s u : List UInt8) : z0J (s ++ u) = z0J s ++ z0J u := by rw [z5F, z5F, z5F, List.map_append]
theorem z9s (s : List UInt8) : z1c (z0J s) = true := by
 rw [z5F]
 exact z2P.2 fun v hv => by
  obtain ⟨x, _, rfl⟩ := List.mem_map.1 hv; rfl
def BufAt (n0 e : Nat) (H : Heap) (v : AV) (s : List UInt8) : Prop :=
 (v = .nilslice ∧ s = []) ∨ ∃ d, n0 ≤ d ∧ v = .slice d 0 s.length true 0 ∧ H.blks.get d = some (.cells e false (z0J s)) ∧ s ≠ []
theorem BufAt.one {n0 : Nat} {s : List UInt8} (h : BufAt n0 e H v s) : z0P v = true := by
 rcases h with ⟨rfl, _⟩ | ⟨d, _, rfl, _⟩ <;> rfl
theorem BufAt.len {n0 : Nat} {s : List UInt8} (h : BufAt n0 e H v s) (hu : G.und t = some (.slice e)) (K : Heap) : lenA G K t v = some (.int .i64 (s.length : Int)) := by
 rcases h with ⟨rfl, rfl⟩ | ⟨d, _, rfl, _⟩
 ·exact q4v hu K
 ·exact z5C hu K ..
theorem BufAt.to {n0 : Nat} {s : List UInt8} (h : BufAt n0 e H v s) (hh : ∀ b y, n0 ≤ b → H.blks.get b = some (.cells e false y) → H'.blks.get b = some (.cells e false y)) : BufAt n0 e H' v s := by
 rcases h with h | ⟨d, h0, h1, h2, h3⟩
 ·exact .inl h
 ·exact .inr ⟨d, h0, h1, hh _ _ h0 h2, h3⟩
theorem k3K {n0 ts : Nat} {i : TypeInfo} {zero : AV} {s u : List UInt8} (hu : G.und t = some (.slice e)) (hus : G.und ts = some .string) (hty : G.types.get e = some i) (hk : i.size = 1) (hby : Nat.ble i.bytes 100000 = true) (hz : G.zero e = some zero) (hzl : zero.cells.length = 1)
  (h : BufAt n0 e H v s) (hN : Neat H) (hn0 : n0 ≤ H.next) (hl : s.length + u.length ≤ 1000000) (hne : u ≠ []) :
  ∃ v' H', z4b G H [t, ts] [v, .str u] = some (v', H') ∧ BufAt n0 e H' v' (s ++ u) ∧ Neat H' ∧ H'.next = H.next + 1 ∧ ∀ x, x < n0 → H'.blks.get x = H.blks.get x := by
 have hpos : 0 < u.length := List.length_pos_iff.2 hne
 have start : ∀ v : AV, q3E v = s.length → z4b G H [t, ts] [v, .str u] = z2N H e 1 u.length v (z0J u) := fun v hv => by
  show z0d (Sx.elemOf G t) (fun e => z0d (G.und ts) fun w => bif intD w then z0d (G.types.get e) (q0L G H e v (.str u)) else z0d (G.types.get e) (z5Q G H e v (.str u))) = _
  rw [z3v hu, hus]
  show z0d (G.types.get e) (z5Q G H e v (.str u)) = _
  rw [hty]
  show z0d (G.zero e) (fun zero => bif Nat.beq i.size 0 then none else bif Nat.beq i.size 1 then bif Nat.beq (len zero.cells) i.size then bif Nat.ble i.bytes 100000 then
   bif Nat.ble (q3E v + len u) 1000000 then z0d (z0d (z4w u (len u)) fun s => some (z0J s)) (z2N H e i.size (len u) v) else none else none else none else none) = _
  have h9 : Nat.ble (q3E v + u.length) 1000000 = true := Nat.ble_eq_true_of_le (by omega)
  rw [hz, hby, hk, z1t, h9]
  show (bif Nat.beq (len zero.cells) 1 then z0d (z0d (z4w u u.length) fun s => some (z0J s)) (z2N H e 1 u.length v) else none) = _
  rw [z1t, hzl, z1M rfl, cond_true, z2e, if_pos (Nat.le_refl _), List.take_of_length_le (Nat.le_refl _)]; rfl
 rcases h with ⟨rfl, rfl⟩ | ⟨d, h0, rfl, h2, h3⟩
 ·refine ⟨.slice H.next 0 u.length true 0, H.push (.cells e false (z0J u)), ?_, .inr ⟨H.next, hn0, by simp, by rw [z0w]; simp, by simpa using hne⟩, hN.push _, z0i _ _, fun x hx => z0u _ _ (by omega)⟩
  rw [start .nilslice rfl]
  show (bif Nat.beq u.length 0 then some (AV.nilslice, H) else z3U H e u.length (z0J u)) = _
  rw [z1i (by omega : u.length ≠ 0), cond_false]
  unfold z3U
  rw [z1W, z9s]; rfl
 ·have hsp : 0 < s.length := List.length_pos_iff.2 h3
  have hnx : (z0n H d none).next = H.next := z0h _ _ _
  refine ⟨.slice H.next 0 (s.length + u.length) true 0, (z0n H d none).push (.cells e false (z0J s ++ z0J u)), ?_, .inr ⟨H.next, hn0, by rw [List.length_append], ?_, by simp [h3]⟩, (z8I hN d).push _, by rw [z0i, hnx], fun x hx => ?_⟩
  ·rw [start _ rfl]
   show z0d (z7N e (H.blks.get d)) (fun kn => bif Nat.beq 0 (0 * 1) then
     bif Nat.ble (0 + (s.length + u.length) * 1) kn then inPlace H d (0 + s.length * 1) (z0J u) (.slice d 0 (s.length + u.length) true 0)
     else z0d (z0R H d 0 (s.length * 1)) fun old => z1k H d none fun H' => z3U H' e (s.length + u.length) (app old (z0J u))
    else none) = _
   have hkn : z7N e (H.blks.get d) = some s.length := by
    rw [h2]
    show (bif Nat.beq e e then some (len (z0J s)) else none) = _
    rw [z1M rfl, cond_true, z1t, z5G]
   have hb' : Nat.ble (0 + (s.length + u.length) * 1) s.length = false := by
    cases hh : Nat.ble (0 + (s.length + u.length) * 1) s.length
    ·rfl
    ·have := z2n hh; omega
   have hld : z0R H d 0 (s.length * 1) = some (z0J s) := by
    rw [q1B _ _ _ (by omega), h2]
    show z4w (z6k (z0J s) 0) (s.length * 1) = _
    rw [z2A, z2e, List.drop_zero, Nat.mul_one, if_pos (by rw [z5G]; exact Nat.le_refl _), List.take_of_length_le (by rw [z5G]; exact Nat.le_refl _)]
   rw [hkn]
   show (bif Nat.ble (0 + (s.length + u.length) * 1) s.length then inPlace H d (0 + s.length * 1) (z0J u) (.slice d 0 (s.length + u.length) true 0)
     else z0d (z0R H d 0 (s.length * 1)) fun old => z1k H d none fun H' => z3U H' e (s.length + u.length) (app old (z0J u))) = _
   rw [hb', cond_false, hld]
   show z1k H d none (fun H' => z3U H' e (s.length + u.length) (app (z0J s) (z0J u))) = _
   have e1 : z1k H d none (fun H' => z3U H' e (s.length + u.length) (app (z0J s) (z0J u))) = z3U (z0n H d none) e (s.length + u.length) (app (z0J s) (z0J u)) := by
    unfold z1k z0n
    rw [T.setK_eq, T.setK_eq]
   rw [e1, z2H]
   unfold z3U
   rw [z1W, z5E (z9s s) (z9s u)]
   show some (AV.slice (z0n H d none).next 0 (s.length + u.length) true 0, _) = _
   rw [hnx]
  ·have := z0w (z0n H d none) (.cells e false (z0J s ++ z0J u))
   rw [hnx] at this
   rw [this, j1I]
  ·rw [z0u _ _ (by rw [hnx]; omega), z0k _ _ _ (by omega)]
end
end Go.Sx
namespace Go.Sx
section
variable {P : Program} {G : Tab}
theorem Gets.of_reach {c : Ctx} {x : Code} {s : St} {outs : List (Ex × St)} (h : z6b P G c x s outs) : Gets P G c x s fun e s' => (e, s') ∈ outs :=
 fun ρ D w tm df b k cs hS hR => by
  obtain ⟨p, hp, ρ', D', w', tm', df', h1, h2, h3⟩ := h ρ D w tm df b k cs hS hR
  exact ⟨p.1, p.2, hp, ρ', D', w', tm', df', h1, h2, h3⟩
noncomputable def k8c (v : AV) (o : Option (List AV)) : Bool :=
 match o with
 | some [u] => AV.beq u v
 | _ => false
noncomputable def j5x (H : Heap) (G : Tab) (rs : List ResultVar) (v : AV) (p : Ex × St) : Bool :=
 bif z5r p.1 then (bif z8X p.2.df then (bif k8c v (z1q G p.2.tm p.2.h rs) then (bif Nat.ble H.next p.2.h.next then q6D p.2.h.blks H.blks H.next else false) else false) else false) else false
noncomputable def q9U (H : Heap) (G : Tab) (rs : List ResultVar) (v : AV) (l : List (Ex × St)) : Bool := List.rec true (fun p _ ih => bif j5x H G rs v p then ih else false) l
noncomputable def k3L (H : Heap) (G : Tab) (rs : List ResultVar) (v : AV) (o : Outs) : Bool :=
 match o with
 | none => false
 | some l => q9U H G rs v l
theorem q3l {H : Heap} {rs : List ResultVar} {v : AV} : ∀ {l : List (Ex × St)}, q9U H G rs v l = true → ∀ p ∈ l, j5x H G rs v p = true
 | [], _, p, hp => by simp at hp
 | x :: l, h, p, hp => by
  have h : (bif j5x H G rs v x then q9U H G rs v l else false) = true := h
  obtain ⟨h1, h2⟩ := z0C h
  rcases List.mem_cons.1 hp with rfl | hp
  ·exact h1
  ·exact q3l h2 p hp
theorem q8z (TT : TabOk P G) {m : Nat} {f : FuncId} {fn : Func} {body rest : Code} (hf : P.funcs[f]? = some fn) (hb : fn.body = some body) (hn : (fn.name == "runtime.NumGoroutine") = false) {H : Heap} {s : St} {c : Ctx} (hc : c = ⟨none, fn.ntmps⟩)
  (hr : ∀ outs, z6b P G c rest s outs → z6b P G c body ⟨.e, H, []⟩ outs) {v : AV} (he : k3L H G fn.results.toList v (z1D rest (fns G m) G c s) = true) (hN : Neat H) (hv : ltV H.next v) : CallTo P G f [] H [(v, H)] := by
 subst hc
 cases ho : z1D rest (fns G m) G ⟨none, fn.ntmps⟩ s with
 | none => rw [ho] at he; simp [k3L] at he
 | some l =>
  rw [ho] at he
  have hall := q3l (show q9U H G fn.results.toList v l = true from he)
  refine z0A TT hf hb hn ?_
  have hG := Gets.of_reach (hr l (q3c TT ho))
  have e0 : ([] : List AV).length + (fn.ntmps - ([] : List AV).length) = fn.ntmps := by simp
  rw [e0]
  refine Gets.mono hG fun e s' hm => ?_
  have h1 := hall _ hm
  obtain ⟨k1, h2⟩ := z0C h1
  obtain ⟨k2, h3⟩ := z0C h2
  obtain ⟨k3, h4⟩ := z0C h3
  obtain ⟨k4, k5⟩ := z0C h4
  have k2 : s'.df = [] := (z8w _).1 k2
  refine ⟨k1, k2, ?_⟩
  unfold k8c at k3
  split at k3
  ·rename_i u hu
   have k3 := AV.beq_eq _ _ k3
   subst k3
   exact ⟨[u], hu, (u, H), List.mem_singleton.2 rfl, .pure (z2n k4) (q1L k5) hN hv⟩
  ·simp at k3
end
end Go.Sx
namespace Go.Sx
open Go Go.RowKit
section
variable {P : Program} {G : Tab}
theorem HRel.below {ρ : Env} {D : Nat → Prop} {w w' : World} {H : Heap} (hH : HRel G ρ D w H) (hb : Below w.heap.size w w') : HRel G ρ D w' H :=
 ⟨hH.lt, hH.glob, hH.inj, fun b o hD ho => (hH.blk b o hD ho).sub (.refl _ _) hD (hb.block _ (hH.blk b o hD ho).stands),
  fun i o hi => ⟨by
   have h1 := (hH.rest i o hi).1
   rw [hb.block i (Array.getElem?_eq_some_iff.1 h1).1]; exact h1, (hH.rest i o hi).2⟩, hH.kin.trans ⟨hb.os, hb.tape, hb.output, hb.size⟩⟩
theorem CallTo.of_calls {f : FuncId} {args : List AV} {H : Heap} {v : AV} (hf : ∃ fn body, P.funcs[f]? = some fn ∧ fn.body = some body ∧ (fn.name == "runtime.NumGoroutine") = false)
  (h : ∀ (ρ : Env) (D : Nat → Prop) (w : World), HRel G ρ D w H → okL ρ D args → okV ρ D v ∧ Calls P f (concL ρ args).toArray w fun e w' => e = .returned (conc ρ v) ∧ Below w.heap.size w w') :
  CallTo P G f args H [(v, H)] := by
 intro ρ D w kind cs hH ha
 refine ⟨hf, (v, H), List.mem_singleton.2 rfl, ?_⟩
 obtain ⟨hv, hc⟩ := h ρ D w hH ha
 obtain ⟨e, w', fr, ⟨rfl, hb⟩, hs, h1, h2⟩ := hc cs
 obtain ⟨k, hk⟩ := kind
 subst hk
 obtain ⟨m1, m2, m3, fn, m4, m5⟩ := h2
 exact ⟨ρ, D, w', fr, hH.below hb, .refl _ _ _, hv, hs, h1, m1, m2, m3, fn, by rw [← h1]; exact m4, m5⟩
end
end Go.Sx
namespace Go.Sx
open Go Go.RowKit
section
variable {P : Program} {G : Tab}
theorem j1J {W : World} {l : List (String × DataW Unit)} (h : laidMet P l W) {n : String} {g t e : Nat} {k : IntKind} {xs : List Int}
  (hm : (n, DataW.agg (xs.map fun x => .lit (.int k x))) ∈ l) (hg : P.globalNamed n = some g) (ht : (P.globals[g]?).map (·.type) = some t) (hu : P.underlying t = some (.array xs.length e)) (hc : P.cellsOf e = 1)
  (hi : P.underlying e = some (.int k)) (hne : xs ≠ []) (hct : P.cellsOf t = xs.length) :
  ∃ el : TypeId, W.heap[g]? = some (.cells (xs.map fun x => Value.int k x).toArray el (0, 0)) := by
 obtain ⟨arr, el, h1, h2, h3⟩ := q5X h hm hg ht hu hc hi hne
 obtain ⟨ps, hv, _, hps⟩ := h
 obtain ⟨g', t', cs, fuel, p, k1, k2, k3, k4, k5⟩ := z4P hv n _ hm
 obtain rfl : g' = g := Option.some.inj (k1.symm.trans hg)
 obtain rfl : t' = t := Option.some.inj (k2.symm.trans ht)
 obtain ⟨_, _, _, _, hl, _, _⟩ := DataW.trod_array hu k4
 have hcs : arr = cs := by
  unfold World.var? at k3
  rw [k1] at k3
  simp only [Option.bind_some, h1, Option.some.injEq] at k3
  exact k3
 subst hcs
 rw [hct] at hl
 refine ⟨el, ?_⟩
 rw [h1]
 have he : arr = (xs.map fun x => Value.int k x).toArray := by
  apply Array.ext'
  apply List.ext_getElem?
  intro i
  rw [Array.getElem?_toList, List.getElem?_map]
  by_cases hi' : i < xs.length
  ·rw [List.getElem?_eq_getElem hi', h3 i _ (List.getElem?_eq_getElem hi')]; rfl
  ·rw [List.getElem?_eq_none (by omega), Array.getElem?_eq_none (by rw [← Array.length_toList, hl]; omega)]; rfl
 rw [he]
theorem j1K {W : World} {H : Heap} (hn : G.nglob ≤ H.next) (hlt : ∀ x o, H.blks.get x = some o → x < H.next)
  (hget : ∀ x o, H.blks.get x = some o → (∃ (t : TypeId) (k : IntKind) (xs : List Int) (el : TypeId) (arr : Array Value), o = .big t xs.length (xs.map fun x => .int k x) ∧ W.heap[x]? = some (.cells arr el (0, 0)) ∧ xs.length ≤ arr.size ∧ ∀ (i : Nat) (y : Int), xs[i]? = some y → arr[i]? = some (Value.int k y)) ∨
   (∃ (t : TypeId) (k : IntKind) (xs : List Int) (el : TypeId), o = .fix t (xs.map fun x => .int k x) ∧ W.heap[x]? = some (.cells (xs.map fun x => Value.int k x).toArray el (0, 0)))) :
  HRel G (q5Y W) (fun x => x < H.next) W H := by
 refine ⟨fun x hx => hx, fun x hx => ⟨Nat.lt_of_lt_of_le hx hn, rfl, rfl⟩, fun x y p q hx hy hox hoy hxy => .inl hxy, fun x o hx hox => ?_, fun i o hi => ⟨hi, fun x hx _ => ?_⟩, .refl _⟩
 ·rcases hget x o hox with ⟨t, k, xs, el, arr, rfl, hg, hsz, harr⟩ | ⟨t, k, xs, el, rfl, hg⟩
  ·refine ⟨z0Z.2 fun v hv => ?_, _, _, _, hg, by show 0 + xs.length ≤ arr.size; omega, fun i v hi hv => ?_⟩
   ·obtain ⟨x, _, rfl⟩ := List.mem_map.1 hv; trivial
   ·rw [List.length_map, Nat.mod_eq_of_lt hi, List.getElem?_map] at hv
    obtain ⟨x, hx, rfl⟩ := Option.map_eq_some_iff.1 hv
    show arr[0 + i]? = _
    rw [Nat.zero_add]
    exact harr i x hx
  ·refine ⟨z0Z.2 fun v hv => ?_, el, (0, 0), ?_⟩
   ·obtain ⟨x, _, rfl⟩ := List.mem_map.1 hv; trivial
   ·show W.heap[x]? = _
    rw [hg, z0B, List.map_map]; rfl
 ·cases ho : H.blks.get x with
  | none => trivial
  | some o => rcases hget x o ho with ⟨_, _, _, _, _, rfl, _⟩ | ⟨_, _, _, _, rfl, _⟩ <;> trivial
theorem q3m {ρ : Env} {D : Nat → Prop} {w : World} {H : Heap} (hH : HRel G ρ D w H) {n : String} {g : Nat} {t : TypeId} {k : IntKind} {xs : List Int} (hg : P.globalNamed n = some g) (hgl : g < G.nglob)
  (hb : H.blks.get g = some (.fix t (xs.map fun x => .int k x))) : Lib.TabIs P w n k xs := by
 obtain ⟨d1, d2, d3⟩ := hH.glob g hgl
 obtain ⟨_, el, fz, h2⟩ := hH.blk g _ d1 hb
 rw [d2] at h2
 unfold Lib.TabIs World.var?
 rw [hg]
 simp only [Option.bind_some, h2]
 rw [z0B, List.map_map]; rfl
end
end Go.Sx
