/-
  Runs whose end is known ahead; rows in cells; what a call leaves, said by a law; contracts of the library as calls.
-/
import Derived.Test.YthfkhidmeeajfaaGreatDoorLSxH
import Derived.Test.YthfkhidmeeajfaaGreatDoorLSxF
import Derived.Below
import Derived.Lib.LaidTab
set_option linter.unusedSimpArgs false
set_option linter.unusedVariables false
namespace Go.Sx
open Go
theorem j7L (t : TypeId) (x y : Operand) : kindOf (.store t x y) = .eff := rfl
theorem k6b (t : TypeId) (x y z : Operand) : kindOf (.mapUpdate t x y z) = .eff := rfl
theorem k2s (a b : TypeId) (x : Operand) : kindOf (.convert a b x) = .eff := rfl
theorem j7M (x : Operand) : kindC (.value x) = .eff := rfl
theorem j0I : kindB .append = .eff := rfl
theorem j7N : kindB .copy = .eff := rfl
theorem j0J : kindB .delete = .eff := rfl
theorem j4z : kindB .clear = .eff := rfl
theorem j4A : kindB .panic = .eff := rfl
theorem k6c (k : IntKind) (n : Int) : ofValue (.int k n) = some (.int k n) := rfl
theorem k2t (b : Bool) : ofValue (.bool b) = some (.bool b) := rfl
theorem k6d (s : ByteArray) : ofValue (.string s) = some (.str s.data.toList) := rfl
theorem k9t : ofValue (.pointer none) = some .nilptr := rfl
theorem k9u : ofValue (.slice none 0 0) = some .nilslice := rfl
theorem k9v : ofValue (.map none) = some .nilmap := rfl
theorem k9w : ofValue .nilFunc = some .nilFunc := rfl
theorem k9x : ofValue .nilIface = some .nilIface := rfl
theorem k6e (k : IntKind) (a b : Int) : intBin .add k a k b = some (.int k (z3g k (a + b))) := if_pos rfl
theorem k6f (k : IntKind) (a b : Int) : intBin .sub k a k b = some (.int k (z3g k (a - b))) := if_pos rfl
theorem k6g (k : IntKind) (a b : Int) : intBin .mul k a k b = some (.int k (z3g k (a * b))) := if_pos rfl
theorem k6h (k : IntKind) (a b : Int) : intBin .quo k a k b = quoO k a b := if_pos rfl
theorem k6i (k : IntKind) (a b : Int) : intBin .rem k a k b = remO k a b := if_pos rfl
theorem k6j (k : IntKind) (a b : Int) : intBin .eql k a k b = boolO (ibeq a b) := if_pos rfl
theorem k6k (k : IntKind) (a b : Int) : intBin .neq k a k b = boolO (bnot (ibeq a b)) := if_pos rfl
theorem k6l (k : IntKind) (a b : Int) : intBin .lss k a k b = boolO (iblt a b) := if_pos rfl
theorem k6m (k : IntKind) (a b : Int) : intBin .leq k a k b = boolO (bnot (iblt b a)) := if_pos rfl
theorem k6n (k : IntKind) (a b : Int) : intBin .gtr k a k b = boolO (iblt b a) := if_pos rfl
theorem k6o (k : IntKind) (a b : Int) : intBin .geq k a k b = boolO (bnot (iblt a b)) := if_pos rfl
theorem k6p (k : IntKind) (a b : Int) : intBin .and k a k b = bitO k Nat.land a b := if_pos rfl
theorem k9y (k : IntKind) (a b : Int) : intBin .or k a k b = bitO k Nat.lor a b := if_pos rfl
theorem k6q (k : IntKind) (a b : Int) : intBin .xor k a k b = bitO k Nat.xor a b := if_pos rfl
theorem j7O (t : TypeId) (x : Operand) : kindOf (.range t x) = .eff := rfl
theorem k2u (x : Operand) (b : Bool) : kindOf (.next x b) = .eff := rfl
theorem z1Y (H : Heap) (o : ABlk) : (H.push o).next = H.next + 1 := (z0n H o).trans (Eq.refl _)
theorem k6r (H : Heap) (o : ABlk) {b : Nat} (h : b = H.next) : (H.push o).blks.get b = some o := by subst h; exact z0q H o
set_option linter.defProp false in
def sxM := And.intro (And.intro sxL (And.intro @z1f (And.intro @j7O (And.intro @k2u @k6r)))) (And.intro (And.intro (And.intro (And.intro (And.intro (And.intro @j7L (And.intro @k6b @k2s)) (And.intro @j7M (And.intro @j0I @j7N))) (And.intro (And.intro @j0J (And.intro @j4z @j4A)) (And.intro (And.intro @k6c @k2t) (And.intro @k6d @k9t)))) (And.intro (And.intro (And.intro @k9u (And.intro @k9v @k9w)) (And.intro @k9x (And.intro @k6e @k6f))) (And.intro (And.intro @k6g (And.intro @k6h @k6i)) (And.intro (And.intro @k6j @k6k) (And.intro @k6l @k6m))))) (And.intro (And.intro (And.intro (And.intro @k6n (And.intro @k6o @k6p)) (And.intro @k9y (And.intro @k6q @kindOf.eq_1))) (And.intro (And.intro @kindOf.eq_2 (And.intro @kindOf.eq_3 @kindOf.eq_4)) (And.intro (And.intro @kindOf.eq_5 @kindOf.eq_6) (And.intro @kindOf.eq_7 @kindOf.eq_8)))) (And.intro (And.intro (And.intro @kindOf.eq_9 (And.intro @kindOf.eq_10 @kindOf.eq_11)) (And.intro @kindOf.eq_12 (And.intro @kindOf.eq_13 @kindOf.eq_14))) (And.intro (And.intro @kindOf.eq_15 (And.intro @kindOf.eq_16 @kindOf.eq_17)) (And.intro (And.intro @kindOf.eq_18 @kindOf.eq_19) (And.intro @kindOf.eq_20 @kindOf.eq_21)))))) (And.intro (And.intro (And.intro (And.intro (And.intro @kindOf.eq_22 (And.intro @kindOf.eq_23 @kindOf.eq_24)) (And.intro @kindOf.eq_25 (And.intro @kindC.eq_1 @kindB.eq_1))) (And.intro (And.intro @kindB.eq_2 (And.intro @kindB.eq_3 @kindB.eq_4)) (And.intro (And.intro @kindB.eq_5 @unA.eq_1) (And.intro @unA.eq_2 @unA.eq_3)))) (And.intro (And.intro (And.intro @boxA.eq_1 (And.intro @loadPtr.eq_1 @nilCheckA.eq_1)) (And.intro @nilCheckA.eq_2 (And.intro @nilCheckA.eq_3 @nilCheckA.eq_4))) (And.intro (And.intro @fst1.eq_1 (And.intro @fst1.eq_2 @ofValue.eq_1)) (And.intro (And.intro @ofValue.eq_2 @ofScalar.eq_1) (And.intro @ofScalar.eq_2 @ofScalar.eq_3))))) (And.intro (And.intro (And.intro (And.intro @ofScalar.eq_4 (And.intro @ofScalar.eq_5 @ofScalar.eq_6)) (And.intro @ofScalar.eq_7 (And.intro @ofScalar.eq_8 @intBin.eq_1))) (And.intro (And.intro @intBin.eq_2 (And.intro @boolO.eq_1 @guardA.eq_1)) (And.intro (And.intro @cCond.eq_1 @condV.eq_1) (And.intro @condV.eq_2 @cRet.eq_1)))) (And.intro (And.intro (And.intro @cExit.eq_1 (And.intro @cSkip.eq_1 @resOut.eq_1)) (And.intro (And.intro @resultA.eq_1 @resultA.eq_2) (And.intro @extractA.eq_1 @tupleO.eq_1))) (And.intro (And.intro @tupleO.eq_2 (And.intro @k1U @q0D)) (And.intro (And.intro @noOv.eq_1 @callFn.eq_1) (And.intro @q5k @q0C)))))))
theorem Gets.l0 {P : Program} {G : Tab} {c : Ctx} {s s' : St} {Q : Ex → St → Prop} (TT : TabOk P G) {x : Code} (h : z1v x (fnsO G noOv 8) G c s = some [(.normal, s')]) (h' : Q .normal s') : Gets P G c x s Q := Gets.last TT z0d 8 h h'
theorem pd_ {l : List Oper} (h : z6m l = true) : z6m l = true := h
theorem md_ {l : List Oper} (h : z9s l = true) : z9s l = true := h
theorem xd_ {l : List Oper} (h : z7P l = true) : z7P l = true := h
end Go.Sx
namespace Go.Sx
open Go
section
variable {P : Program} {G : Tab} {c : Ctx} {s s' : St} {Q : Ex → St → Prop}
def GetsE (P : Program) (G : Tab) (c : Ctx) (x : Code) (s : St) (Q : Ex → St → Prop) : Prop := ∃ e s', Q e s' ∧ Gets P G c x s fun e1 s1 => e1 = e ∧ s1 = s'
theorem GetsE.mono {x : Code} {Q' : Ex → St → Prop} (h : GetsE P G c x s Q) (hq : ∀ e s', Q e s' → Q' e s') : GetsE P G c x s Q' := by
 obtain ⟨e, s', q, g⟩ := h
 exact ⟨e, s', hq e s' q, g⟩
theorem GetsE.one {x : Code} {e : Ex} (g : ∀ Q : Ex → St → Prop, Q e s' → Gets P G c x s Q) (hQ : Q e s') : GetsE P G c x s Q := ⟨e, s', hQ, g _ ⟨rfl, rfl⟩⟩
theorem GetsE.last (TT : TabOk P G) {ov : Ov} (ho : OvOk P G ov) (n : Nat) {x : Code} {s' : St} (h : z1v x (fnsO G ov n) G c s = some [(.normal, s')]) (h' : Q .normal s') : GetsE P G c x s Q :=
 GetsE.one (fun _ hq => Gets.last TT ho n h hq) h'
theorem GetsE.l0 (TT : TabOk P G) {x : Code} {s' : St} (h : z1v x (fnsO G noOv 8) G c s = some [(.normal, s')]) (h' : Q .normal s') : GetsE P G c x s Q := GetsE.last TT z0d 8 h h'
theorem GetsE.skip (TT : TabOk P G) (h : Q .normal s) : GetsE P G c .skip s Q := GetsE.one (fun _ hq => Gets.skip TT hq) h
theorem GetsE.ret (TT : TabOk P G) (h : Q .ret s) : GetsE P G c .ret s Q := GetsE.one (fun _ hq => Gets.ret TT hq) h
theorem GetsE.exit (TT : TabOk P G) {i : Nat} (h : Q (.exit i) s) : GetsE P G c (.exit i) s Q := GetsE.one (fun _ hq => Gets.exit TT hq) h
theorem GetsE.condT {v : Operand} {x y : Code} (hv : aev G s.tm v = some (.bool true)) (h : GetsE P G c x s Q) : GetsE P G c (.cond v x y) s Q := by
 obtain ⟨e, s', q, g⟩ := h
 exact ⟨e, s', q, Gets.condT hv g⟩
theorem GetsE.condF {v : Operand} {x y : Code} (hv : aev G s.tm v = some (.bool false)) (h : GetsE P G c y s Q) : GetsE P G c (.cond v x y) s Q := by
 obtain ⟨e, s', q, g⟩ := h
 exact ⟨e, s', q, Gets.condF hv g⟩
theorem GetsE.seq {x y : Code} (h : GetsE P G c x s fun e s' => match e with | .normal => GetsE P G c y s' Q | e => Q e s') : GetsE P G c (.seq x y) s Q := by
 obtain ⟨e, s1, q, g⟩ := h
 cases e with
 | normal =>
  obtain ⟨e2, s2, q2, g2⟩ := q
  exact ⟨e2, s2, q2, Gets.seq (g.mono fun e' s' hh => by obtain ⟨rfl, rfl⟩ := hh; exact g2)⟩
 | exit j => exact ⟨_, s1, q, Gets.seq (g.mono fun e' s' hh => by obtain ⟨rfl, rfl⟩ := hh; exact ⟨rfl, rfl⟩)⟩
 | goto j => exact ⟨_, s1, q, Gets.seq (g.mono fun e' s' hh => by obtain ⟨rfl, rfl⟩ := hh; exact ⟨rfl, rfl⟩)⟩
 | ret => exact ⟨_, s1, q, Gets.seq (g.mono fun e' s' hh => by obtain ⟨rfl, rfl⟩ := hh; exact ⟨rfl, rfl⟩)⟩
theorem GetsE.blk {id : Nat} {x : Code} (h : GetsE P G c x s (z9e id Q)) : GetsE P G c (.block id x) s Q := by
 obtain ⟨e, s1, q, g⟩ := h
 cases e with
 | exit j =>
  by_cases hj : j = id
  ·subst hj
   have q' : (if j = j then Q .normal s1 else Q (.exit j) s1) := q
   rw [if_pos rfl] at q'
   exact ⟨.normal, s1, q', Gets.blk (g.mono fun e' s' hh => by obtain ⟨rfl, rfl⟩ := hh; exact z2v ⟨rfl, rfl⟩)⟩
  ·have q' : (if j = id then Q .normal s1 else Q (.exit j) s1) := q
   rw [if_neg hj] at q'
   exact ⟨.exit j, s1, q', Gets.blk (g.mono fun e' s' hh => by obtain ⟨rfl, rfl⟩ := hh; exact z7m hj ⟨rfl, rfl⟩)⟩
 | normal => exact ⟨.normal, s1, q, Gets.blk (g.mono fun e' s' hh => by obtain ⟨rfl, rfl⟩ := hh; exact z2r ⟨rfl, rfl⟩)⟩
 | ret => exact ⟨.ret, s1, q, Gets.blk (g.mono fun e' s' hh => by obtain ⟨rfl, rfl⟩ := hh; exact j3I ⟨rfl, rfl⟩)⟩
 | goto j => exact ⟨.goto j, s1, q, Gets.blk (g.mono fun e' s' hh => by obtain ⟨rfl, rfl⟩ := hh; exact ⟨rfl, rfl⟩)⟩
inductive Rounds (P : Program) (G : Tab) (c : Ctx) (x : Code) (e2 : Ex) (s2 : St) : Nat → St → Prop
 | stop {m : Nat} {s : St} (he : e2 ≠ .normal) (g : Gets P G c x s fun e1 s1 => e1 = e2 ∧ s1 = s2) : Rounds P G c x e2 s2 m s
 | next {m m' : Nat} {s s1 : St} (hm : m' < m) (g : Gets P G c x s fun e1 s' => e1 = .normal ∧ s' = s1) (r : Rounds P G c x e2 s2 m' s1) : Rounds P G c x e2 s2 m s
theorem j0K {x : Code} {e2 : Ex} {s2 : St} : ∀ m s, Rounds P G c x e2 s2 m s → Gets P G c (.loop x) s fun e1 s1 => e1 = e2 ∧ s1 = s2 :=
 Gets.loop (I := Rounds P G c x e2 s2) fun m s r => by
  cases r with
  | stop he g =>
   refine g.mono fun e' s' hh => ?_
   obtain ⟨rfl, rfl⟩ := hh
   cases e' with
   | normal => exact absurd rfl he
   | exit j => exact ⟨rfl, rfl⟩
   | goto j => exact ⟨rfl, rfl⟩
   | ret => exact ⟨rfl, rfl⟩
  | next hm g r =>
   refine g.mono fun e' s' hh => ?_
   obtain ⟨rfl, rfl⟩ := hh
   exact ⟨_, hm, r⟩
theorem GetsE.loop {x : Code} {I : Nat → St → Prop}
  (h : ∀ m s, I m s → GetsE P G c x s fun e s' => match e with | .normal => ∃ m', m' < m ∧ I m' s' | e => Q e s') : ∀ m s, I m s → GetsE P G c (.loop x) s Q := by
 have key : ∀ m s, I m s → ∃ e2 s2, Q e2 s2 ∧ Rounds P G c x e2 s2 m s := by
  intro m
  induction m using Nat.strongRecOn with
  | _ m ih =>
   intro s hI
   obtain ⟨e, s1, q, g⟩ := h m s hI
   cases e with
   | normal =>
    obtain ⟨m', hm, hI'⟩ := q
    obtain ⟨e2, s2, q2, r⟩ := ih m' hm s1 hI'
    exact ⟨e2, s2, q2, .next hm g r⟩
   | exit j => exact ⟨_, s1, q, .stop (by simp) g⟩
   | goto j => exact ⟨_, s1, q, .stop (by simp) g⟩
   | ret => exact ⟨_, s1, q, .stop (by simp) g⟩
 intro m s hI
 obtain ⟨e2, s2, q, r⟩ := key m s hI
 exact ⟨e2, s2, q, j0K m s r⟩
theorem GetsE.forI {id : Nat} {x : Code} (I : Nat → St → Prop) (m : Nat) (h0 : I m s) (h : ∀ m s, I m s → GetsE P G c x s (q5i I m (z9e id Q))) : GetsE P G c (.block id (.loop x)) s Q :=
 GetsE.blk (GetsE.loop (I := I) (fun m s hI => (h m s hI).mono fun e s' h => by cases e <;> exact h) m s h0)
theorem GetsE.upto {id : Nat} {x : Code} {H : Heap} (n : Nat) (I : Nat → T AV → Prop) {tm : T AV} (h0 : I 0 tm)
  (h : ∀ i tm, i ≤ n → I i tm → GetsE P G c x ⟨tm, H, []⟩ fun e s' => match e with
   | .normal => ∃ tm', s' = ⟨tm', H, []⟩ ∧ i < n ∧ I (i + 1) tm'
   | e => z9e id Q e s') : GetsE P G c (.block id (.loop x)) ⟨tm, H, []⟩ Q :=
 GetsE.forI (I := fun m s => ∃ i tm, i ≤ n ∧ m = n - i ∧ s = ⟨tm, H, []⟩ ∧ I i tm) n ⟨0, tm, Nat.zero_le _, rfl, rfl, h0⟩ fun m s ⟨i, tm, hi, hm, hs, hI⟩ => by
  subst hs
  refine (h i tm hi hI).mono fun e s' h => ?_
  cases e with
  | normal =>
   obtain ⟨tm', rfl, hlt, hI'⟩ := h
   exact ⟨n - (i + 1), by omega, i + 1, tm', hlt, rfl, rfl, hI'⟩
  | _ => exact h
theorem GetsE.uptoH {id : Nat} {x : Code} (n : Nat) (I : Nat → T AV → Heap → Prop) {tm : T AV} {H : Heap} (h0 : I 0 tm H)
  (h : ∀ i tm H, i ≤ n → I i tm H → GetsE P G c x ⟨tm, H, []⟩ fun e s' => match e with
   | .normal => ∃ tm' H', s' = ⟨tm', H', []⟩ ∧ i < n ∧ I (i + 1) tm' H'
   | e => z9e id Q e s') : GetsE P G c (.block id (.loop x)) ⟨tm, H, []⟩ Q :=
 GetsE.forI (I := fun m s => ∃ i tm H, i ≤ n ∧ m = n - i ∧ s = ⟨tm, H, []⟩ ∧ I i tm H) n ⟨0, tm, H, Nat.zero_le _, rfl, rfl, h0⟩ fun m s ⟨i, tm, H, hi, hm, hs, hI⟩ => by
  subst hs
  refine (h i tm H hi hI).mono fun e s' h => ?_
  cases e with
  | normal =>
   obtain ⟨tm', H', rfl, hlt, hI'⟩ := h
   exact ⟨n - (i + 1), by omega, i + 1, tm', H', hlt, rfl, rfl, hI'⟩
  | _ => exact h
theorem GetsE.drawK (TT : TabOk P G) {ov : Ov} (ho : OvOk P G ov) (n : Nat) {i : Nat} {all : List Oper} (p : List PStep) (hp : q0J all p = true) (hN : Neat s.h)
  (h : runK (fnsO G ov n) G c all p s [] = some [s']) (hQ : Q .normal s') : GetsE P G c (.region i all.toArray true) s Q :=
 GetsE.one (fun _ hq => Gets.drawK TT ho n p hp hN h hq) hQ
theorem GetsE.midH {x : Code} {I : T AV → Heap → Prop} (h : GetsE P G c x s fun e s' => e = .normal ∧ ∃ tm H, s' = ⟨tm, H, []⟩ ∧ I tm H) (h' : ∀ tm H, I tm H → Q .normal ⟨tm, H, []⟩) : GetsE P G c x s Q :=
 h.mono fun e s' h => by obtain ⟨rfl, tm, H, rfl, h⟩ := h; exact h' tm H h
theorem z8Y (H : Heap) (o : ABlk) {b : Nat} (h : b = H.next) : (H.push o).blks.get b = some o := by subst h; exact z0q H o
theorem q0O (H : Heap) (b : Nat) (o : Option ABlk) {x : Nat} (h : x = b) : (z0i H b o).blks.get x = o := by subst h; exact z0J H x o
theorem Gets.ofH {x : Code} {tm : T AV} {H : Heap} {df : List ADefer} (I : Heap → Prop) (hI : I H) (h : ∀ h, I h → Gets P G c x ⟨tm, h, df⟩ Q) : Gets P G c x ⟨tm, H, df⟩ Q := h H hI
theorem GetsE.ofH {x : Code} {tm : T AV} {H : Heap} {df : List ADefer} (I : Heap → Prop) (hI : I H) (h : ∀ h, I h → GetsE P G c x ⟨tm, h, df⟩ Q) : GetsE P G c x ⟨tm, H, df⟩ Q := h H hI
theorem Gets.ofS {x : Code} {tm : T AV} {H : Heap} {df : List ADefer} (I : T AV → Heap → Prop) (hI : I tm H) (h : ∀ tm h, I tm h → Gets P G c x ⟨tm, h, df⟩ Q) : Gets P G c x ⟨tm, H, df⟩ Q := h tm H hI
theorem GetsE.ofS {x : Code} {tm : T AV} {H : Heap} {df : List ADefer} (I : T AV → Heap → Prop) (hI : I tm H) (h : ∀ tm h, I tm h → GetsE P G c x ⟨tm, h, df⟩ Q) : GetsE P G c x ⟨tm, H, df⟩ Q := h tm H hI
def j4B (H h : Heap) (b : Nat) : Prop := ∀ o, h.blks.get b = some o → (b < H.next ∧ H.blks.get b = some o) ∨ ltB h.next o
open Classical in
noncomputable def q3O (H h : Heap) : Nat → T ABlk
 | 0 => .e
 | n + 1 => if j4B H h n then (q3O H h n).set n (h.blks.get n) else q3O H h n
open Classical in
theorem z5k (H h : Heap) : ∀ n b, (q3O H h n).get b = if b < n ∧ j4B H h b then h.blks.get b else none
 | 0, b => by
  rw [if_neg fun e => absurd e.1 (Nat.not_lt_zero _)]
  show (T.e : T ABlk).get b = none
  rw [T.get_e]
 | n + 1, b => by
  unfold q3O
  by_cases hk : j4B H h n
  ·rw [if_pos hk, T.get_set]
   by_cases hb : b = n
   ·subst hb
    rw [if_pos rfl, if_pos ⟨by omega, hk⟩]
   ·rw [if_neg hb, z5k H h n b]
    by_cases hh : b < n ∧ j4B H h b
    ·rw [if_pos hh, if_pos ⟨by omega, hh.2⟩]
    ·rw [if_neg hh, if_neg fun e => hh ⟨by omega, e.2⟩]
  ·rw [if_neg hk, z5k H h n b]
   by_cases hh : b < n ∧ j4B H h b
   ·rw [if_pos hh, if_pos ⟨by omega, hh.2⟩]
   ·rw [if_neg hh, if_neg fun e => hh ⟨by
     by_cases hb : b = n
     ·subst hb; exact absurd e.2 hk
     ·omega, e.2⟩]
noncomputable def z1Q (H h : Heap) : Heap := ⟨h.next, q3O H h h.next⟩
theorem k6s (H h : Heap) : (z1Q H h).next = h.next := rfl
theorem z1K (H h : Heap) : Neat (z1Q H h) := fun b o ho => by
 have ho : (q3O H h h.next).get b = some o := ho
 rw [z5k] at ho
 split at ho
 ·rename_i hh; exact hh.1
 ·simp at ho
theorem z3T {H h : Heap} {b : Nat} (hb : b < H.next) (hle : H.next ≤ h.next) (he : h.blks.get b = H.blks.get b) : (z1Q H h).blks.get b = H.blks.get b := by
 show (q3O H h h.next).get b = _
 rw [z5k, if_pos ⟨by omega, fun o ho => .inl ⟨hb, by rw [← he]; exact ho⟩⟩, he]
theorem z5L {H h : Heap} {b : Nat} {o : ABlk} (hN : Neat h) (hb : h.blks.get b = some o) (hl : ltB h.next o) : (z1Q H h).blks.get b = some o := by
 show (q3O H h h.next).get b = _
 rw [z5k, if_pos ⟨hN b o hb, fun o' ho => .inr (by rw [hb] at ho; cases ho; exact hl)⟩, hb]
theorem j7P {H h : Heap} {v : AV} (hle : H.next ≤ h.next) (hv : ltV h.next v) : Cut H (v, z1Q H h) v h :=
 ⟨rfl, Nat.le_refl _, hle, fun b o ho => by
  have ho : (q3O H h h.next).get b = some o := ho
  rw [z5k] at ho
  split at ho
  ·rename_i hh; exact ⟨ho, hh.2 o ho⟩
  ·simp at ho, hv⟩
theorem z2m (TT : TabOk P G) {f : FuncId} {fn : Func} {body : Code} (hf : P.funcs[f]? = some fn) (hb : fn.body = some body) (hn : (fn.name == "runtime.NumGoroutine") = false) {args : List AV} {H : Heap} {R : AV → Heap → Prop}
  (hg : GetsE P G ⟨none, args.length + (fn.ntmps - args.length)⟩ body ⟨q8K args, H, []⟩ fun e s' =>
   z4Y e = true ∧ s'.df = [] ∧ ∃ vs, z1m G s'.tm s'.h fn.results.toList = some vs ∧ H.next ≤ s'.h.next ∧ ltV s'.h.next (z1T vs) ∧ R (z1T vs) s'.h) :
  ∃ v h, R v h ∧ H.next ≤ h.next ∧ CallTo P G f args H [(v, z1Q H h)] := by
 obtain ⟨e, s', ⟨q1, q2, vs, q3, q4, q5, q6⟩, g⟩ := hg
 exact ⟨z1T vs, s'.h, q6, q4, z0M TT hf hb hn (g.mono fun e1 s1 hh => by obtain ⟨rfl, rfl⟩ := hh; exact ⟨q1, q2, vs, q3, _, List.mem_singleton.2 rfl, j7P q4 q5⟩)⟩
theorem z7U {H : Heap} {s : St} {vs : List AV} {rs : List ResultVar} {R : AV → Heap → Prop} (hd : s.df = []) (hr : z1m G s.tm s.h rs = some vs) (hn : H.next ≤ s.h.next) (hv : ltV s.h.next (z1T vs)) (hR : R (z1T vs) s.h) :
  z4Y .ret = true ∧ s.df = [] ∧ ∃ vs, z1m G s.tm s.h rs = some vs ∧ H.next ≤ s.h.next ∧ ltV s.h.next (z1T vs) ∧ R (z1T vs) s.h := ⟨rfl, hd, vs, hr, hn, hv, hR⟩
structure GrowsP (p : Nat) (H H' : Heap) : Prop where
 next : H.next ≤ H'.next
 get : ∀ b, b < H.next → b ≠ p → H'.blks.get b = H.blks.get b
theorem GrowsP.refl (p : Nat) (H : Heap) : GrowsP p H H := ⟨Nat.le_refl _, fun _ _ _ => rfl⟩
theorem GrowsP.trans {p : Nat} {a b c : Heap} (h : GrowsP p a b) (h' : GrowsP p b c) : GrowsP p a c :=
 ⟨Nat.le_trans h.next h'.next, fun x hx hp => (h'.get x (Nat.lt_of_lt_of_le hx h.next) hp).trans (h.get x hx hp)⟩
theorem GrowsP.push (p : Nat) (H : Heap) (o : ABlk) : GrowsP p H (H.push o) := ⟨Nat.le_succ _, fun b hb _ => z0r H o (Nat.ne_of_lt hb)⟩
theorem GrowsP.put (p : Nat) (H : Heap) (o : Option ABlk) : GrowsP p H (z0i H p o) := ⟨by rw [z0f]; exact Nat.le_refl _, fun b _ hp => z0l _ _ _ hp⟩
theorem GrowsP.new {p : Nat} {a b : Heap} (h : GrowsP p a b) {d : Nat} (hd : a.next ≤ d) (o : Option ABlk) : GrowsP p a (z0i b d o) :=
 ⟨by rw [z0f]; exact h.next, fun x hx hp => by rw [z0l _ _ _ (by omega)]; exact h.get x hx hp⟩
theorem GrowsP.keep {p : Nat} {H h : Heap} (h' : GrowsP p H h) : GrowsP p H (z1Q H h) :=
 ⟨h'.next, fun b hb hp => z3T hb h'.next (h'.get b hb hp)⟩
theorem GrowsP.some_ {p : Nat} {H h : Heap} (g : GrowsP p H h) (hN : Neat H) {b : Nat} {o : ABlk} (hb : H.blks.get b = some o) (hp : b ≠ p) : h.blks.get b = some o := by rw [g.get b (hN b o hb) hp]; exact hb
theorem k6t {H : Heap} {b b' : Nat} {o o' : ABlk} (h : H.blks.get b = some o) (h' : H.blks.get b' = some o') (hne : o ≠ o') : b ≠ b' := fun e => by
 subst e
 rw [h] at h'
 exact hne (Option.some.inj h')
noncomputable def stC (H : Heap) (b off : Nat) (l : List AV) (z : Option Nat) : Option Heap := z0b z fun s => bif Nat.beq (len l) s then z1M H b off l else none
theorem k2v (H : Heap) (t : TypeId) (b off : Nat) (v : AV) : z0P G H t (.ptr b off) v = stC H b off v.cells (G.size t) := rfl
theorem t_c1 (H : Heap) (b off : Nat) (x : AV) : stC H b off [x] (some 1) = z4d H b off [x] (H.blks.get b) := rfl
theorem t_c2 (H : Heap) (b off : Nat) (x y : AV) : stC H b off [x, y] (some 2) = z4d H b off [x, y] (H.blks.get b) := rfl
theorem t_c4 (H : Heap) (b off : Nat) (x y z w : AV) : stC H b off [x, y, z, w] (some 4) = z4d H b off [x, y, z, w] (H.blks.get b) := rfl
theorem k9z (H : Heap) (b off : Nat) (x0 x1 x2 x3 x4 x5 x6 x7 x8 x9 : AV) : stC H b off [x0, x1, x2, x3, x4, x5, x6, x7, x8, x9] (some 10) = z4d H b off [x0, x1, x2, x3, x4, x5, x6, x7, x8, x9] (H.blks.get b) := rfl
noncomputable def stO (k : Bool) (H : Heap) (b : Nat) (e : TypeId) (x : Bool) (o : Option (List AV)) : Option Heap := bif k then z6t H b e x o else none
theorem t_in (H : Heap) (b off : Nat) (l : List AV) (e : TypeId) (x : Bool) (old : List AV) : z4d H b off l (some (.cells e x old)) = stO (z0W l) H b e x (z1F l old off) := rfl
theorem k9A (H : Heap) (b : Nat) (e : TypeId) (x : Bool) (l : List AV) : stO true H b e x (some l) = some (z0i H b (some (.cells e x l))) := by
 show z5q l (fun l => z0S H b (some (.cells e x l)) some) = _
 rw [z1G]
 unfold z0S z0i
 rw [T.setK_eq, T.setK_eq]
theorem k9B {α : Type} (w : List α) (a : α) (l : List α) : z1F w (a :: l) 0 = z5P w (a :: l) := rfl
theorem k9C {α : Type} (w : List α) (a : α) (l : List α) (k : Nat) : z1F w (a :: l) (k + 1) = z2C a (z1F w l k) := rfl
theorem k9D {α : Type} (l : List α) : z5P [] l = some l := rfl
theorem k9E {α : Type} (x : α) (w : List α) (o : α) (l : List α) : z5P (x :: w) (o :: l) = z2C x (z5P w l) := rfl
theorem k2w {α : Type} (a : α) (l : List α) : z2C a (some l) = some (a :: l) := rfl
theorem t_r2 (e : TypeId) (x : Bool) (a b : AV) : cellsIn (some (.cells e x [a, b])) 0 2 = some [a, b] := rfl
theorem t_r4 (e : TypeId) (x : Bool) (a b c d : AV) : cellsIn (some (.cells e x [a, b, c, d])) 0 4 = some [a, b, c, d] := rfl
theorem k9F (e : TypeId) (x : Bool) (x0 x1 x2 x3 x4 x5 x6 x7 x8 x9 : AV) : cellsIn (some (.cells e x [x0, x1, x2, x3, x4, x5, x6, x7, x8, x9])) 0 10 = some [x0, x1, x2, x3, x4, x5, x6, x7, x8, x9] := rfl
theorem w4q (e : TypeId) (x : Bool) (x0 x1 x2 x3 x4 x5 x6 x7 x8 x9 : AV) : cellsIn (some (.cells e x [x0, x1, x2, x3, x4, x5, x6, x7, x8, x9])) 4 2 = some [x4, x5] := rfl
theorem w4r (e : TypeId) (x : Bool) (x0 x1 x2 x3 x4 x5 x6 x7 x8 x9 : AV) : cellsIn (some (.cells e x [x0, x1, x2, x3, x4, x5, x6, x7, x8, x9])) 6 4 = some [x6, x7, x8, x9] := rfl
set_option linter.defProp false in
def stL := And.intro (And.intro (And.intro (And.intro @k2v @t_c1) (And.intro @t_c2 @t_c4)) (And.intro (And.intro @k9z @t_in) (And.intro @k9A @k9B))) (And.intro (And.intro (And.intro @k9C @k9D) (And.intro @k9E @k2w)) (And.intro (And.intro @t_r2 @t_r4) (And.intro @k9F (And.intro @z8Y @q0O))))
set_option linter.defProp false in
def foL := And.intro (And.intro (And.intro @z0J @z0l) (And.intro @z0q (And.intro @z8W (And.intro @z8Y @q0O)))) (And.intro @z0r (And.intro @z0n @z0f))
end
end Go.Sx
namespace Go.Sx
open Go
section
variable {α : Type} {P : Program} {G : Tab}
theorem q8V {β : Type} : ∀ (w old S : List β), old.length = w.length → z5P w (old ++ S) = some (w ++ S)
 | [], [], S, _ => rfl
 | [], _ :: _, _, h => by simp at h
 | _ :: _, [], _, h => by simp at h
 | a :: w, o :: old, S, h => by
  show z2C a (z5P w (old ++ S)) = _
  rw [q8V w old S (by simpa using h)]; rfl
theorem z8y {β : Type} (w old S : List β) (hl : old.length = w.length) (hne : w ≠ []) : ∀ (Q : List β), z1F w (Q ++ (old ++ S)) Q.length = some (Q ++ (w ++ S))
 | [] => by
  cases old with
  | nil => cases w with
   | nil => exact absurd rfl hne
   | cons _ _ => simp at hl
  | cons o old => exact q8V w (o :: old) S hl
 | a :: Q => by
  show z2C a (z1F w (Q ++ (old ++ S)) Q.length) = _
  rw [z8y w old S hl hne Q]; rfl
theorem k3s {f : α → List AV} {k : Nat} (hf : ∀ a, (f a).length = k) (hk : 0 < k) (A B : List α) (a a' : α) {i : Nat} (hi : i = A.length * k) : z1F (f a') ((A ++ a :: B).flatMap f) i = some ((A ++ a' :: B).flatMap f) := by
 rw [List.flatMap_append, List.flatMap_cons, List.flatMap_append, List.flatMap_cons, hi, ← z3w hf A]
 exact z8y (f a') (f a) _ (by rw [hf, hf]) (fun e => by have := hf a'; rw [e] at this; simp at this; omega) _
theorem z4q {f : α → List AV} {l : List α} (h : ∀ a ∈ l, z0W (f a) = true) : z0W (l.flatMap f) = true :=
 z2u.2 fun v hv => by
  obtain ⟨a, ha, hv⟩ := List.mem_flatMap.1 hv
  exact z2u.1 (h a ha) v hv
theorem z4a {l m : List AV} (h : z0W l = true) (h' : z0W m = true) : z0W (l ++ m) = true :=
 z2u.2 fun v hv => (List.mem_append.1 hv).elim (z2u.1 h v) (z2u.1 h' v)
def CellsAt (e : Nat) (f : α → List AV) (H : Heap) (v : AV) (l : List α) : Prop :=
 (v = .nilslice ∧ l = []) ∨ ∃ b q c x, v = .slice b 0 l.length q c ∧ H.blks.get b = some (.cells e x (l.flatMap f))
variable {e k t : Nat} {f : α → List AV} {H H' : Heap} {v : AV} {l : List α}
theorem CellsAt.one (h : CellsAt e f H v l) : z0H v = true := by
 rcases h with ⟨rfl, _⟩ | ⟨b, q, c, x, rfl, _⟩ <;> rfl
theorem CellsAt.len (h : CellsAt e f H v l) (hu : G.und t = some (.slice e)) (H' : Heap) : lenA G H' t v = some (.int .i64 (l.length : Int)) := by
 rcases h with ⟨rfl, rfl⟩ | ⟨b, q, c, x, rfl, _⟩
 ·exact q3w hu H'
 ·exact z5j hu H' ..
theorem CellsAt.lt (h : CellsAt e f H v l) (hN : Neat H) : ltV H.next v := by
 rcases h with ⟨rfl, rfl⟩ | ⟨b, q, c, x, rfl, hb⟩
 ·trivial
 ·exact hN b _ hb
theorem CellsAt.to (h : CellsAt e f H v l) (hh : ∀ b x y, H.blks.get b = some (.cells e x y) → H'.blks.get b = some (.cells e x y)) : CellsAt e f H' v l := by
 rcases h with h | ⟨b, q, c, x, h1, hb⟩
 ·exact .inl h
 ·exact .inr ⟨b, q, c, x, h1, hh _ _ _ hb⟩
theorem CellsAt.growP (h : CellsAt e f H v l) (hN : Neat H) {p : Nat} (hg : GrowsP p H H') {o : ABlk} (hp : H.blks.get p = some o) (ho : ∀ x y, o ≠ .cells e x y) : CellsAt e f H' v l :=
 h.to fun b x y hb => hg.some_ hN hb fun e => by
  subst e
  rw [hp] at hb
  exact ho _ _ (Option.some.inj hb)
theorem CellsAt.keep {H h : Heap} (hc : CellsAt e f h v l) (hN : Neat h) (hf : ∀ a ∈ l, ltL h.next (f a)) : CellsAt e f (z1Q H h) v l := by
 rcases hc with h1 | ⟨b, q, c, x, h1, hb⟩
 ·exact .inl h1
 ·refine .inr ⟨b, q, c, x, h1, z5L hN hb ?_⟩
  show ltL h.next (l.flatMap f)
  refine q3J.2 fun v hv => ?_
  obtain ⟨a, ha, hv⟩ := List.mem_flatMap.1 hv
  exact q3J.1 (hf a ha) v hv
theorem CellsAt.row (h : CellsAt e f H v l) (hu : G.und t = some (.slice e)) (hz : G.size e = some k) (hf : ∀ a, (f a).length = k) {i : Nat} {a : α} (ha : l[i]? = some a) :
  ∃ b, z1e G t v (.int .i64 (i : Int)) = some (.ptr b (i * k)) ∧ (∀ j, j < k → z1c (H.blks.get b) (i * k + j) = (f a)[j]?) ∧
   ∀ j r, j + r ≤ k → cellsIn (H.blks.get b) (i * k + j) r = some (((f a).drop j).take r) := by
 have hi : i < l.length := (List.getElem?_eq_some_iff.1 ha).1
 rcases h with ⟨_, rfl⟩ | ⟨b, q, c, x, rfl, hb⟩
 ·simp at ha
 ·have hlen := z3w hf l
  have hik : (i + 1) * k ≤ l.length * k := Nat.mul_le_mul_right k hi
  rw [Nat.succ_mul] at hik
  refine ⟨b, ?_, fun j hj => ?_, fun j r hj => ?_⟩
  ·rw [z2W hu hz, if_pos ⟨by omega, by omega⟩]; simp
  ·rw [hb]
   show nth (l.flatMap f) (i * k + j) = _
   rw [z2F, z7p hf ha hj]
  ·rw [hb]
   show z3R (z5p (l.flatMap f) (i * k + j)) r = _
   rw [z1Z, z1I, if_pos (by rw [List.length_drop, hlen]; omega)]
   congr 1
   apply List.ext_getElem?
   intro q
   rw [List.getElem?_take, List.getElem?_take]
   by_cases hq : q < r
   ·rw [if_pos hq, if_pos hq, List.getElem?_drop, List.getElem?_drop, Nat.add_assoc, z7p hf ha (by omega)]
   ·rw [if_neg hq, if_neg hq]
def GrownAt (n0 e : Nat) (f : α → List AV) (H : Heap) (v : AV) (l : List α) : Prop :=
 (v = .nilslice ∧ l = []) ∨ ∃ b, n0 ≤ b ∧ v = .slice b 0 l.length true 0 ∧ H.blks.get b = some (.cells e false (l.flatMap f)) ∧ l ≠ []
theorem GrownAt.cells {n0 : Nat} (h : GrownAt n0 e f H v l) : CellsAt e f H v l := by
 rcases h with h | ⟨b, h0, h1, h2, h3⟩
 ·exact .inl h
 ·exact .inr ⟨b, true, 0, false, h1, h2⟩
theorem GrownAt.to {n0 : Nat} (h : GrownAt n0 e f H v l) (hh : ∀ b x y, H.blks.get b = some (.cells e x y) → H'.blks.get b = some (.cells e x y)) : GrownAt n0 e f H' v l := by
 rcases h with h | ⟨b, h0, h1, h2, h3⟩
 ·exact .inl h
 ·exact .inr ⟨b, h0, h1, hh _ _ _ h2, h3⟩
theorem z2J (hu : G.und t = some (.slice e)) : Sx.elemOf G t = some e := by
 unfold Sx.elemOf
 rw [hu]; rfl
theorem q0P {b : Nat} {r : List AV} (hb : H.blks.get b = some (.cells e true r)) (hr : r.length = k) (hk : 0 < k) : z3y H k 1 (.slice b 0 1 false 1) = some r := by
 show z0y H b 0 (1 * k) = _
 rw [Nat.one_mul, z7n _ _ _ (by omega), hb]
 show z3R (z5p r 0) k = _
 rw [z1Z, z1I, List.drop_zero, if_pos (Nat.le_of_eq hr.symm), List.take_of_length_le (Nat.le_of_eq hr)]
theorem j4C {i : TypeInfo} {zero : AV} (hu : G.und t = some (.slice e)) (hty : G.types.get e = some i) (hk : i.size = k) (hk0 : 0 < k) (hby : Nat.ble i.bytes 100000 = true) (hz : G.zero e = some zero) (hzl : zero.cells.length = k)
  {b : Nat} {r : List AV} (hb : H.blks.get b = some (.cells e true r)) (hr : r.length = k) (h1 : z0W r = true) :
  z3a G H [t, t] [.nilslice, .slice b 0 1 false 1] = some (.slice H.next 0 1 true 0, H.push (.cells e false r)) := by
 show z0b (Sx.elemOf G t) (fun e => z0b (G.und t) fun u => bif intD u then z0b (G.types.get e) (z8h G H e .nilslice (.slice b 0 1 false 1)) else z0b (G.types.get e) (z4e G H e .nilslice (.slice b 0 1 false 1))) = _
 rw [z2J hu, hu]
 show z0b (G.types.get e) (z4e G H e .nilslice (.slice b 0 1 false 1)) = _
 rw [hty]
 show z0b (G.zero e) (fun zero => bif Nat.beq i.size 0 then none else bif q2F (.slice b 0 1 false 1) i.size then bif Nat.beq (len zero.cells) i.size then bif Nat.ble i.bytes 100000 then
  bif Nat.ble (0 + 1) 1000000 then z0b (z3y H i.size 1 (.slice b 0 1 false 1)) (z1R H e i.size 1 .nilslice) else none else none else none else none) = _
 rw [hz, hby, hk]
 show (bif Nat.beq k 0 then none else bif Nat.beq (len zero.cells) k then z0b (z3y H k 1 (.slice b 0 1 false 1)) (z1R H e k 1 .nilslice) else none) = _
 rw [z0Y (by omega : k ≠ 0), z1f, hzl, z1h rfl, cond_false, cond_true, q0P hb hr hk0]
 show z2i H e 1 r = _
 unfold z2i
 rw [z1t, h1]; rfl
theorem q2m {i : TypeInfo} {zero : AV} (hu : G.und t = some (.slice e)) (hty : G.types.get e = some i) (hk : i.size = k) (hk0 : 0 < k) (hby : Nat.ble i.bytes 100000 = true) (hz : G.zero e = some zero) (hzl : zero.cells.length = k)
  {b d n : Nat} {r y : List AV} (hb : H.blks.get b = some (.cells e true r)) (hr : r.length = k) (h1 : z0W r = true) (hd : H.blks.get d = some (.cells e false y)) (hy : y.length = n * k) (h2 : z0W y = true) (hn0 : 0 < n) (hn : n ≤ 100000) :
  z3a G H [t, t] [.slice d 0 n true 0, .slice b 0 1 false 1] = some (.slice H.next 0 (n + 1) true 0, (z0i H d none).push (.cells e false (y ++ r))) := by
 show z0b (Sx.elemOf G t) (fun e => z0b (G.und t) fun u => bif intD u then z0b (G.types.get e) (z8h G H e (.slice d 0 n true 0) (.slice b 0 1 false 1)) else z0b (G.types.get e) (z4e G H e (.slice d 0 n true 0) (.slice b 0 1 false 1))) = _
 rw [z2J hu, hu]
 show z0b (G.types.get e) (z4e G H e (.slice d 0 n true 0) (.slice b 0 1 false 1)) = _
 rw [hty]
 show z0b (G.zero e) (fun zero => bif Nat.beq i.size 0 then none else bif q2F (.slice b 0 1 false 1) i.size then bif Nat.beq (len zero.cells) i.size then bif Nat.ble i.bytes 100000 then
  bif Nat.ble (n + 1) 1000000 then z0b (z3y H i.size 1 (.slice b 0 1 false 1)) (z1R H e i.size 1 (.slice d 0 n true 0)) else none else none else none else none) = _
 have h9 : Nat.ble (n + 1) 1000000 = true := Nat.ble_eq_true_of_le (by omega)
 rw [hz, hby, hk, h9]
 show (bif Nat.beq k 0 then none else bif Nat.beq (len zero.cells) k then z0b (z3y H k 1 (.slice b 0 1 false 1)) (z1R H e k 1 (.slice d 0 n true 0)) else none) = _
 rw [z0Y (by omega : k ≠ 0), z1f, hzl, z1h rfl, cond_false, cond_true, q0P hb hr hk0]
 show z0b (z4I e (H.blks.get d)) (fun kn => bif Nat.beq 0 (0 * k) then
   bif Nat.ble (0 + (n + 1) * k) kn then inPlace H d (0 + n * k) r (.slice d 0 (n + 1) true 0)
   else z0b (z0y H d 0 (n * k)) fun old => z0S H d none fun H' => z2i H' e (n + 1) (app old r)
  else none) = _
 have hkn : z4I e (H.blks.get d) = some (n * k) := by
  rw [hd]
  show (bif Nat.beq e e then some (len y) else none) = _
  rw [z1h rfl, cond_true, z1f, hy]
 have hnk : 0 < n * k := Nat.mul_pos hn0 hk0
 have hb' : Nat.ble (0 + (n + 1) * k) (n * k) = false := by
  cases hh : Nat.ble (0 + (n + 1) * k) (n * k)
  ·rfl
  ·have := z1J hh
   rw [Nat.succ_mul] at this
   omega
 rw [hkn]
 show (bif Nat.beq 0 (0 * k) then
   bif Nat.ble (0 + (n + 1) * k) (n * k) then inPlace H d (0 + n * k) r (.slice d 0 (n + 1) true 0)
   else z0b (z0y H d 0 (n * k)) fun old => z0S H d none fun H' => z2i H' e (n + 1) (app old r)
  else none) = _
 rw [hb', cond_false, z1h (Nat.zero_mul k).symm, cond_true]
 have hld : z0y H d 0 (n * k) = some y := by
  rw [z7n _ _ _ (by omega), hd]
  show z3R (z5p y 0) (n * k) = _
  rw [z1Z, z1I, List.drop_zero, if_pos (Nat.le_of_eq hy.symm), List.take_of_length_le (Nat.le_of_eq hy)]
 rw [hld]
 show z0S H d none (fun H' => z2i H' e (n + 1) (app y r)) = _
 have e1 : z0S H d none (fun H' => z2i H' e (n + 1) (app y r)) = z2i (z0i H d none) e (n + 1) (app y r) := by
  unfold z0S z0i
  rw [T.setK_eq, T.setK_eq]
 rw [e1, z2f]
 unfold z2i
 rw [z1t, z4a h2 h1]
 show some (AV.slice (z0i H d none).next 0 (n + 1) true 0, _) = _
 rw [z0f]
theorem z6p {h : Heap} (hN : Neat h) (d : Nat) : Neat (z0i h d none) := fun x o hx => by
 rw [Heap.get_put] at hx
 rw [Heap.next_put]
 split at hx
 ·simp at hx
 ·exact hN x o hx
theorem k6u {n0 : Nat} {i : TypeInfo} {zero : AV} (hu : G.und t = some (.slice e)) (hty : G.types.get e = some i) (hk : i.size = k) (hk0 : 0 < k) (hby : Nat.ble i.bytes 100000 = true) (hz : G.zero e = some zero) (hzl : zero.cells.length = k)
  (hf : ∀ a, (f a).length = k) (h : GrownAt n0 e f H v l) (hN : Neat H) (hn0 : n0 ≤ H.next) (hl : l.length ≤ 100000) (hone : ∀ a ∈ l, z0W (f a) = true) {b : Nat} {a : α} (hb : H.blks.get b = some (.cells e true (f a))) (h1 : z0W (f a) = true) :
  ∃ v' H', z3a G H [t, t] [v, .slice b 0 1 false 1] = some (v', H') ∧ GrownAt n0 e f H' v' (l ++ [a]) ∧ Neat H' ∧ H'.next = H.next + 1 ∧ (∀ x o, H.blks.get x = some o → (∀ y, o ≠ .cells e false y) → H'.blks.get x = some o) ∧
   ∀ x, x < n0 → H'.blks.get x = H.blks.get x := by
 rcases h with ⟨rfl, rfl⟩ | ⟨d, h0, rfl, h2, h3⟩
 ·refine ⟨_, _, j4C hu hty hk hk0 hby hz hzl hb (hf a) h1, .inr ⟨H.next, hn0, rfl, ?_, by simp⟩, hN.push _, rfl, fun x o hx _ => ?_, fun x hx => z0r _ _ (by omega)⟩
  ·rw [z0q]; simp
  ·rw [z0r _ _ (Nat.ne_of_lt (hN x o hx))]; exact hx
 ·have hpos : 0 < l.length := List.length_pos_iff.2 h3
  have hnx : (z0i H d none).next = H.next := z0f _ _ _
  refine ⟨_, _, q2m hu hty hk hk0 hby hz hzl hb (hf a) h1 h2 (z3w hf l) (z4q hone) hpos hl, .inr ⟨H.next, hn0, by rw [List.length_append]; rfl, ?_, by simp⟩, (z6p hN d).push _, by rw [z0n, hnx], fun x o hx ho => ?_, fun x hx => ?_⟩
  ·have := z0q (z0i H d none) (.cells e false (l.flatMap f ++ f a))
   rw [hnx] at this
   rw [this]; simp
  ·rw [z0r _ _ (by rw [hnx]; exact Nat.ne_of_lt (hN x o hx)), z0l _ _ _ (fun e' => by subst e'; rw [h2] at hx; exact ho _ (Option.some.inj hx).symm)]
   exact hx
  ·rw [z0r _ _ (by rw [hnx]; omega), z0l _ _ _ (by omega)]
theorem k6v {zero : AV} (hu : G.und t = some (.slice e)) (hz : G.size e = some k) (hzero : G.zero e = some zero) (hzl : zero.cells.length = k) (hk : Nat.ble (1 * k) 10000 = true) (hk0 : 0 < k) (cs : List AV) (hcl : cs.length = k) (h1 : z0W cs = true) :
  z0N G H t 1 [(0, .agg cs)] = some (.slice H.next 0 1 false 1, H.push (.cells e true cs)) := by
 show z0b (Sx.elemOf G t) (fun e => z0b (G.size e) fun z => z0b (G.zero e) fun zero =>
  bif Nat.ble (1 * z) 10000 then
   bif Nat.beq (len zero.cells) z then z0b (z0b (some (0 * z, z)) fun q => z0b (z7f (z1o zero.cells 1) (.agg cs) q) fun c => some c) (z0K H e 1 1) else none
  else none) = _
 rw [z2J hu]
 show z0b (G.size e) (fun z => z0b (G.zero e) fun zero =>
  bif Nat.ble (1 * z) 10000 then
   bif Nat.beq (len zero.cells) z then z0b (z0b (some (0 * z, z)) fun q => z0b (z7f (z1o zero.cells 1) (.agg cs) q) fun c => some c) (z0K H e 1 1) else none
  else none) = _
 rw [hz, hzero]
 show (bif Nat.ble (1 * k) 10000 then
   bif Nat.beq (len zero.cells) k then z0b (z0b (z7f (app zero.cells []) (.agg cs) (0 * k, k)) fun c => some c) (z0K H e 1 1) else none
  else none) = _
 rw [hk, z1f, hzl, z1h rfl, cond_true, cond_true, z2f, List.append_nil, Nat.zero_mul]
 have hs : z7f zero.cells (.agg cs) (0, k) = some cs := by
  show (bif Nat.beq (len cs) k then z1F cs zero.cells 0 else none) = _
  rw [z1f, hcl, z1h rfl, cond_true]
  have := z8y cs zero.cells [] (by rw [hzl, hcl]) (fun e => by rw [e] at hcl; simp at hcl; omega) []
  simpa using this
 rw [hs]
 show z0K H e 1 1 cs = _
 unfold z0K
 rw [z1t, h1]; rfl
theorem q7y (z : α) (n : Nat) : z1o (f z) n = (List.replicate n z).flatMap f := by
 induction n with
 | zero => rfl
 | succ n ih =>
  show app (f z) (z1o (f z) n) = _
  rw [z2f, ih, List.replicate_succ, List.flatMap_cons]
theorem k6w {i : TypeInfo} {zero : AV} (hu : G.und t = some (.slice e)) (hty : G.types.get e = some i) (hk : i.size = k) (hby : Nat.ble i.bytes 100000 = true) (hz : G.zero e = some zero) (z : α) (hz0 : zero.cells = f z) (hzl : (f z).length = k) (h1 : z0W (f z) = true) (n : Nat) (hn : n ≤ 1000) (hnk : n * k ≤ 1000) :
  z1r G H t (.int .i64 (n : Int)) (.int .i64 (n : Int)) = some (.slice H.next 0 n false n, H.push (.cells e true ((List.replicate n z).flatMap f))) := by
 show z0b (Sx.elemOf G t) (fun e => z0b (G.types.get e) (z3U G H e n n)) = _
 rw [z2J hu]
 show z0b (G.types.get e) (z3U G H e n n) = _
 rw [hty]
 show z3U G H e n n i = _
 unfold z3U
 rw [hz]
 show (bif Nat.ble n n then bif Nat.ble (n * (i.bytes + 1)) 1000000000 then bif Nat.beq (len zero.cells) i.size then bif Nat.ble (n * i.size) 1000 then z0K H e n n (z1o zero.cells n) else _ else none else none else none) = _
 have b2 : Nat.ble (n * (i.bytes + 1)) 1000000000 = true := Nat.ble_eq_true_of_le (Nat.le_trans (Nat.mul_le_mul hn (Nat.succ_le_succ (z1J hby))) (by omega))
 rw [Nat.ble_eq_true_of_le (Nat.le_refl n), b2, z1f, hz0, hzl, hk, z1h rfl, Nat.ble_eq_true_of_le hnk, q7y]
 show z0K H e n n ((List.replicate n z).flatMap f) = _
 unfold z0K
 rw [z1t, z4q (fun a ha => by rw [(List.mem_replicate.1 ha).2]; exact h1)]; rfl
end
end Go.Sx
namespace Go.Sx
open Go
section
variable {P : Program} {G : Tab} {e k t : Nat} {H H' : Heap} {v : AV}
theorem q7z {i : TypeInfo} {zero : AV} (hu : G.und t = some (.slice e)) (hty : G.types.get e = some i) (hk : i.size = k) (hk0 : 0 < k) (hby : Nat.ble i.bytes 100000 = true) (hz : G.zero e = some zero) (hzl : zero.cells.length = k)
  {b d n : Nat} {r y : List AV} (hb : H.blks.get b = some (.cells e true r)) (hr : r.length = k) (h1 : z0W r = true) (hd : H.blks.get d = some (.cells e true y)) (hy : y.length = n * k) (h2 : z0W y = true) (hn0 : 0 < n) (hn : n ≤ 100000) :
  z3a G H [t, t] [.slice d 0 n false n, .slice b 0 1 false 1] = some (.slice H.next 0 (n + 1) true 0, H.push (.cells e false (y ++ r))) := by
 show z0b (Sx.elemOf G t) (fun e => z0b (G.und t) fun u => bif intD u then z0b (G.types.get e) (z8h G H e (.slice d 0 n false n) (.slice b 0 1 false 1)) else z0b (G.types.get e) (z4e G H e (.slice d 0 n false n) (.slice b 0 1 false 1))) = _
 rw [z2J hu, hu]
 show z0b (G.types.get e) (z4e G H e (.slice d 0 n false n) (.slice b 0 1 false 1)) = _
 rw [hty]
 show z0b (G.zero e) (fun zero => bif Nat.beq i.size 0 then none else bif q2F (.slice b 0 1 false 1) i.size then bif Nat.beq (len zero.cells) i.size then bif Nat.ble i.bytes 100000 then
  bif Nat.ble (n + 1) 1000000 then z0b (z3y H i.size 1 (.slice b 0 1 false 1)) (z1R H e i.size 1 (.slice d 0 n false n)) else none else none else none else none) = _
 have h9 : Nat.ble (n + 1) 1000000 = true := Nat.ble_eq_true_of_le (by omega)
 rw [hz, hby, hk, h9]
 show (bif Nat.beq k 0 then none else bif Nat.beq (len zero.cells) k then z0b (z3y H k 1 (.slice b 0 1 false 1)) (z1R H e k 1 (.slice d 0 n false n)) else none) = _
 rw [z0Y (by omega : k ≠ 0), z1f, hzl, z1h rfl, cond_false, cond_true, q0P hb hr hk0]
 show (bif Nat.ble (n + 1) n then inPlace H d (0 + n * k) r (.slice d 0 (n + 1) false n)
   else bif Nat.ble n 1000000 then z0b (z0y H d 0 (n * k)) fun old => z2i H e (n + 1) (app old r) else none) = _
 have hnk : 0 < n * k := Nat.mul_pos hn0 hk0
 have hb' : Nat.ble (n + 1) n = false := by
  cases hh : Nat.ble (n + 1) n
  ·rfl
  ·have := z1J hh; omega
 have hb2 : Nat.ble n 1000000 = true := Nat.ble_eq_true_of_le (by omega)
 have hld : z0y H d 0 (n * k) = some y := by
  rw [z7n _ _ _ (by omega), hd]
  show z3R (z5p y 0) (n * k) = _
  rw [z1Z, z1I, List.drop_zero, if_pos (Nat.le_of_eq hy.symm), List.take_of_length_le (Nat.le_of_eq hy)]
 rw [hb', cond_false, hb2, cond_true, hld]
 show z2i H e (n + 1) (app y r) = _
 rw [z2f]
 unfold z2i
 rw [z1t, z4a h2 h1]; rfl
theorem z5l (s : List UInt8) : z0E s = s.map z7w := by
 induction s with
 | nil => rfl
 | cons a s ih => show z7w a :: z0E s = _; rw [ih]; rfl
theorem z5m (s : List UInt8) : (z0E s).length = s.length := by rw [z5l, List.length_map]
theorem j0L (s u : List UInt8) : z0E (s ++ u) = z0E s ++ z0E u := by rw [z5l, z5l, z5l, List.map_append]
theorem z8z (s : List UInt8) : z0W (z0E s) = true := by
 rw [z5l]
 exact z2u.2 fun v hv => by
  obtain ⟨x, _, rfl⟩ := List.mem_map.1 hv; rfl
def BufAt (n0 e : Nat) (H : Heap) (v : AV) (s : List UInt8) : Prop :=
 (v = .nilslice ∧ s = []) ∨ ∃ d, n0 ≤ d ∧ v = .slice d 0 s.length true 0 ∧ H.blks.get d = some (.cells e false (z0E s)) ∧ s ≠ []
theorem BufAt.one {n0 : Nat} {s : List UInt8} (h : BufAt n0 e H v s) : z0H v = true := by
 rcases h with ⟨rfl, _⟩ | ⟨d, _, rfl, _⟩ <;> rfl
theorem BufAt.len {n0 : Nat} {s : List UInt8} (h : BufAt n0 e H v s) (hu : G.und t = some (.slice e)) (K : Heap) : lenA G K t v = some (.int .i64 (s.length : Int)) := by
 rcases h with ⟨rfl, rfl⟩ | ⟨d, _, rfl, _⟩
 ·exact q3w hu K
 ·exact z5j hu K ..
theorem BufAt.to {n0 : Nat} {s : List UInt8} (h : BufAt n0 e H v s) (hh : ∀ b y, n0 ≤ b → H.blks.get b = some (.cells e false y) → H'.blks.get b = some (.cells e false y)) : BufAt n0 e H' v s := by
 rcases h with h | ⟨d, h0, h1, h2, h3⟩
 ·exact .inl h
 ·exact .inr ⟨d, h0, h1, hh _ _ h0 h2, h3⟩
theorem k2x {n0 ts : Nat} {i : TypeInfo} {zero : AV} {s u : List UInt8} (hu : G.und t = some (.slice e)) (hus : G.und ts = some .string) (hty : G.types.get e = some i) (hk : i.size = 1) (hby : Nat.ble i.bytes 100000 = true) (hz : G.zero e = some zero) (hzl : zero.cells.length = 1)
  (h : BufAt n0 e H v s) (hN : Neat H) (hn0 : n0 ≤ H.next) (hl : s.length + u.length ≤ 1000000) (hne : u ≠ []) :
  ∃ v' H', z3a G H [t, ts] [v, .str u] = some (v', H') ∧ BufAt n0 e H' v' (s ++ u) ∧ Neat H' ∧ H'.next = H.next + 1 ∧ ∀ x, x < n0 → H'.blks.get x = H.blks.get x := by
 have hpos : 0 < u.length := List.length_pos_iff.2 hne
 have start : ∀ v : AV, z9b v = s.length → z3a G H [t, ts] [v, .str u] = z1R H e 1 u.length v (z0E u) := fun v hv => by
  show z0b (Sx.elemOf G t) (fun e => z0b (G.und ts) fun w => bif intD w then z0b (G.types.get e) (z8h G H e v (.str u)) else z0b (G.types.get e) (z4e G H e v (.str u))) = _
  rw [z2J hu, hus]
  show z0b (G.types.get e) (z4e G H e v (.str u)) = _
  rw [hty]
  show z0b (G.zero e) (fun zero => bif Nat.beq i.size 0 then none else bif Nat.beq i.size 1 then bif Nat.beq (len zero.cells) i.size then bif Nat.ble i.bytes 100000 then
   bif Nat.ble (z9b v + len u) 1000000 then z0b (z0b (z3R u (len u)) fun s => some (z0E s)) (z1R H e i.size (len u) v) else none else none else none else none) = _
  have h9 : Nat.ble (z9b v + u.length) 1000000 = true := Nat.ble_eq_true_of_le (by omega)
  rw [hz, hby, hk, z1f, h9]
  show (bif Nat.beq (len zero.cells) 1 then z0b (z0b (z3R u u.length) fun s => some (z0E s)) (z1R H e 1 u.length v) else none) = _
  rw [z1f, hzl, z1h rfl, cond_true, z1I, if_pos (Nat.le_refl _), List.take_of_length_le (Nat.le_refl _)]; rfl
 rcases h with ⟨rfl, rfl⟩ | ⟨d, h0, rfl, h2, h3⟩
 ·refine ⟨.slice H.next 0 u.length true 0, H.push (.cells e false (z0E u)), ?_, .inr ⟨H.next, hn0, by simp, by rw [z0q]; simp, by simpa using hne⟩, hN.push _, z0n _ _, fun x hx => z0r _ _ (by omega)⟩
  rw [start .nilslice rfl]
  show (bif Nat.beq u.length 0 then some (AV.nilslice, H) else z2i H e u.length (z0E u)) = _
  rw [z0Y (by omega : u.length ≠ 0), cond_false]
  unfold z2i
  rw [z1t, z8z]; rfl
 ·have hsp : 0 < s.length := List.length_pos_iff.2 h3
  have hnx : (z0i H d none).next = H.next := z0f _ _ _
  refine ⟨.slice H.next 0 (s.length + u.length) true 0, (z0i H d none).push (.cells e false (z0E s ++ z0E u)), ?_, .inr ⟨H.next, hn0, by rw [List.length_append], ?_, by simp [h3]⟩, (z6p hN d).push _, by rw [z0n, hnx], fun x hx => ?_⟩
  ·rw [start _ rfl]
   show z0b (z4I e (H.blks.get d)) (fun kn => bif Nat.beq 0 (0 * 1) then
     bif Nat.ble (0 + (s.length + u.length) * 1) kn then inPlace H d (0 + s.length * 1) (z0E u) (.slice d 0 (s.length + u.length) true 0)
     else z0b (z0y H d 0 (s.length * 1)) fun old => z0S H d none fun H' => z2i H' e (s.length + u.length) (app old (z0E u))
    else none) = _
   have hkn : z4I e (H.blks.get d) = some s.length := by
    rw [h2]
    show (bif Nat.beq e e then some (len (z0E s)) else none) = _
    rw [z1h rfl, cond_true, z1f, z5m]
   have hb' : Nat.ble (0 + (s.length + u.length) * 1) s.length = false := by
    cases hh : Nat.ble (0 + (s.length + u.length) * 1) s.length
    ·rfl
    ·have := z1J hh; omega
   have hld : z0y H d 0 (s.length * 1) = some (z0E s) := by
    rw [z7n _ _ _ (by omega), h2]
    show z3R (z5p (z0E s) 0) (s.length * 1) = _
    rw [z1Z, z1I, List.drop_zero, Nat.mul_one, if_pos (by rw [z5m]; exact Nat.le_refl _), List.take_of_length_le (by rw [z5m]; exact Nat.le_refl _)]
   rw [hkn]
   show (bif Nat.ble (0 + (s.length + u.length) * 1) s.length then inPlace H d (0 + s.length * 1) (z0E u) (.slice d 0 (s.length + u.length) true 0)
     else z0b (z0y H d 0 (s.length * 1)) fun old => z0S H d none fun H' => z2i H' e (s.length + u.length) (app old (z0E u))) = _
   rw [hb', cond_false, hld]
   show z0S H d none (fun H' => z2i H' e (s.length + u.length) (app (z0E s) (z0E u))) = _
   have e1 : z0S H d none (fun H' => z2i H' e (s.length + u.length) (app (z0E s) (z0E u))) = z2i (z0i H d none) e (s.length + u.length) (app (z0E s) (z0E u)) := by
    unfold z0S z0i
    rw [T.setK_eq, T.setK_eq]
   rw [e1, z2f]
   unfold z2i
   rw [z1t, z4a (z8z s) (z8z u)]
   show some (AV.slice (z0i H d none).next 0 (s.length + u.length) true 0, _) = _
   rw [hnx]
  ·have := z0q (z0i H d none) (.cells e false (z0E s ++ z0E u))
   rw [hnx] at this
   rw [this, j0L]
  ·rw [z0r _ _ (by rw [hnx]; omega), z0l _ _ _ (by omega)]
end
end Go.Sx
namespace Go.Sx
section
variable {P : Program} {G : Tab}
theorem Gets.of_reach {c : Ctx} {x : Code} {s : St} {outs : List (Ex × St)} (h : z5F P G c x s outs) : Gets P G c x s fun e s' => (e, s') ∈ outs :=
 fun ρ D w tm df b k cs hS hR => by
  obtain ⟨p, hp, ρ', D', w', tm', df', h1, h2, h3⟩ := h ρ D w tm df b k cs hS hR
  exact ⟨p.1, p.2, hp, ρ', D', w', tm', df', h1, h2, h3⟩
noncomputable def k6x (v : AV) (o : Option (List AV)) : Bool :=
 match o with
 | some [u] => AV.beq u v
 | _ => false
noncomputable def j4D (H : Heap) (G : Tab) (rs : List ResultVar) (v : AV) (p : Ex × St) : Bool :=
 bif z4Y p.1 then (bif z8d p.2.df then (bif k6x v (z1m G p.2.tm p.2.h rs) then (bif Nat.ble H.next p.2.h.next then q5E p.2.h.blks H.blks H.next else false) else false) else false) else false
noncomputable def q8W (H : Heap) (G : Tab) (rs : List ResultVar) (v : AV) (l : List (Ex × St)) : Bool := List.rec true (fun p _ ih => bif j4D H G rs v p then ih else false) l
noncomputable def k2y (H : Heap) (G : Tab) (rs : List ResultVar) (v : AV) (o : Outs) : Bool :=
 match o with
 | none => false
 | some l => q8W H G rs v l
theorem q2n {H : Heap} {rs : List ResultVar} {v : AV} : ∀ {l : List (Ex × St)}, q8W H G rs v l = true → ∀ p ∈ l, j4D H G rs v p = true
 | [], _, p, hp => by simp at hp
 | x :: l, h, p, hp => by
  have h : (bif j4D H G rs v x then q8W H G rs v l else false) = true := h
  obtain ⟨h1, h2⟩ := z0u h
  rcases List.mem_cons.1 hp with rfl | hp
  ·exact h1
  ·exact q2n h2 p hp
theorem q7A (TT : TabOk P G) {m : Nat} {f : FuncId} {fn : Func} {body rest : Code} (hf : P.funcs[f]? = some fn) (hb : fn.body = some body) (hn : (fn.name == "runtime.NumGoroutine") = false) {H : Heap} {s : St} {c : Ctx} (hc : c = ⟨none, fn.ntmps⟩)
  (hr : ∀ outs, z5F P G c rest s outs → z5F P G c body ⟨.e, H, []⟩ outs) {v : AV} (he : k2y H G fn.results.toList v (z1v rest (fns G m) G c s) = true) (hN : Neat H) (hv : ltV H.next v) : CallTo P G f [] H [(v, H)] := by
 subst hc
 cases ho : z1v rest (fns G m) G ⟨none, fn.ntmps⟩ s with
 | none => rw [ho] at he; simp [k2y] at he
 | some l =>
  rw [ho] at he
  have hall := q2n (show q8W H G fn.results.toList v l = true from he)
  refine z0M TT hf hb hn ?_
  have hG := Gets.of_reach (hr l (q2e TT ho))
  have e0 : ([] : List AV).length + (fn.ntmps - ([] : List AV).length) = fn.ntmps := by simp
  rw [e0]
  refine Gets.mono hG fun e s' hm => ?_
  have h1 := hall _ hm
  obtain ⟨k1, h2⟩ := z0u h1
  obtain ⟨k2, h3⟩ := z0u h2
  obtain ⟨k3, h4⟩ := z0u h3
  obtain ⟨k4, k5⟩ := z0u h4
  have k2 : s'.df = [] := (z7K _).1 k2
  refine ⟨k1, k2, ?_⟩
  unfold k6x at k3
  split at k3
  ·rename_i u hu
   have k3 := AV.beq_eq _ _ k3
   subst k3
   exact ⟨[u], hu, (u, H), List.mem_singleton.2 rfl, .pure (z1J k4) (q0M k5) hN hv⟩
  ·simp at k3
end
end Go.Sx
namespace Go.Sx
open Go Go.RowKit
section
variable {P : Program} {G : Tab}
theorem HRel.below {ρ : Env} {D : Nat → Prop} {w w' : World} {H : Heap} (hH : HRel G ρ D w H) (hb : Below w.heap.size w w') : HRel G ρ D w' H :=
 ⟨hH.lt, hH.glob, hH.inj, fun b o hD ho => (hH.blk b o hD ho).sub (.refl _ _) hD (hb.block _ (hH.blk b o hD ho).stands),
  fun i o hi => ⟨by
   have h1 := (hH.rest i o hi).1
   rw [hb.block i (Array.getElem?_eq_some_iff.1 h1).1]; exact h1, (hH.rest i o hi).2⟩, hH.kin.trans ⟨hb.os, hb.tape, hb.output, hb.size⟩⟩
theorem CallTo.of_calls {f : FuncId} {args : List AV} {H : Heap} {v : AV} (hf : ∃ fn body, P.funcs[f]? = some fn ∧ fn.body = some body ∧ (fn.name == "runtime.NumGoroutine") = false)
  (h : ∀ (ρ : Env) (D : Nat → Prop) (w : World), HRel G ρ D w H → okL ρ D args → okV ρ D v ∧ Calls P f (concL ρ args).toArray w fun e w' => e = .returned (conc ρ v) ∧ Below w.heap.size w w') :
  CallTo P G f args H [(v, H)] := by
 intro ρ D w kind cs hH ha
 refine ⟨hf, (v, H), List.mem_singleton.2 rfl, ?_⟩
 obtain ⟨hv, hc⟩ := h ρ D w hH ha
 obtain ⟨e, w', fr, ⟨rfl, hb⟩, hs, h1, h2⟩ := hc cs
 obtain ⟨k, hk⟩ := kind
 subst hk
 obtain ⟨m1, m2, m3, fn, m4, m5⟩ := h2
 exact ⟨ρ, D, w', fr, hH.below hb, .refl _ _ _, hv, hs, h1, m1, m2, m3, fn, by rw [← h1]; exact m4, m5⟩
end
end Go.Sx
namespace Go.Sx
open Go Go.RowKit
section
variable {P : Program} {G : Tab}
theorem j0M {W : World} {l : List (String × DataW Unit)} (h : laidMet P l W) {n : String} {g t e : Nat} {k : IntKind} {xs : List Int}
  (hm : (n, DataW.agg (xs.map fun x => .lit (.int k x))) ∈ l) (hg : P.globalNamed n = some g) (ht : (P.globals[g]?).map (·.type) = some t) (hu : P.underlying t = some (.array xs.length e)) (hc : P.cellsOf e = 1)
  (hi : P.underlying e = some (.int k)) (hne : xs ≠ []) (hct : P.cellsOf t = xs.length) :
  ∃ el : TypeId, W.heap[g]? = some (.cells (xs.map fun x => Value.int k x).toArray el (0, 0)) := by
 obtain ⟨arr, el, h1, h2, h3⟩ := q4Z h hm hg ht hu hc hi hne
 obtain ⟨ps, hv, _, hps⟩ := h
 obtain ⟨g', t', cs, fuel, p, k1, k2, k3, k4, k5⟩ := z4x hv n _ hm
 obtain rfl : g' = g := Option.some.inj (k1.symm.trans hg)
 obtain rfl : t' = t := Option.some.inj (k2.symm.trans ht)
 obtain ⟨_, _, _, _, hl, _, _⟩ := DataW.trod_array hu k4
 have hcs : arr = cs := by
  unfold World.var? at k3
  rw [k1] at k3
  simp only [Option.bind_some, h1, Option.some.injEq] at k3
  exact k3
 subst hcs
 rw [hct] at hl
 refine ⟨el, ?_⟩
 rw [h1]
 have he : arr = (xs.map fun x => Value.int k x).toArray := by
  apply Array.ext'
  apply List.ext_getElem?
  intro i
  rw [Array.getElem?_toList, List.getElem?_map]
  by_cases hi' : i < xs.length
  ·rw [List.getElem?_eq_getElem hi', h3 i _ (List.getElem?_eq_getElem hi')]; rfl
  ·rw [List.getElem?_eq_none (by omega), Array.getElem?_eq_none (by rw [← Array.length_toList, hl]; omega)]; rfl
 rw [he]
theorem j0N {W : World} {H : Heap} (hn : G.nglob ≤ H.next) (hlt : ∀ x o, H.blks.get x = some o → x < H.next)
  (hget : ∀ x o, H.blks.get x = some o → (∃ (t : TypeId) (k : IntKind) (xs : List Int) (el : TypeId) (arr : Array Value), o = .big t xs.length (xs.map fun x => .int k x) ∧ W.heap[x]? = some (.cells arr el (0, 0)) ∧ xs.length ≤ arr.size ∧ ∀ (i : Nat) (y : Int), xs[i]? = some y → arr[i]? = some (Value.int k y)) ∨
   (∃ (t : TypeId) (k : IntKind) (xs : List Int) (el : TypeId), o = .fix t (xs.map fun x => .int k x) ∧ W.heap[x]? = some (.cells (xs.map fun x => Value.int k x).toArray el (0, 0)))) :
  HRel G (q5a W) (fun x => x < H.next) W H := by
 refine ⟨fun x hx => hx, fun x hx => ⟨Nat.lt_of_lt_of_le hx hn, rfl, rfl⟩, fun x y p q hx hy hox hoy hxy => .inl hxy, fun x o hx hox => ?_, fun i o hi => ⟨hi, fun x hx _ => ?_⟩, .refl _⟩
 ·rcases hget x o hox with ⟨t, k, xs, el, arr, rfl, hg, hsz, harr⟩ | ⟨t, k, xs, el, rfl, hg⟩
  ·refine ⟨z0V.2 fun v hv => ?_, _, _, _, hg, by show 0 + xs.length ≤ arr.size; omega, fun i v hi hv => ?_⟩
   ·obtain ⟨x, _, rfl⟩ := List.mem_map.1 hv; trivial
   ·rw [List.length_map, Nat.mod_eq_of_lt hi, List.getElem?_map] at hv
    obtain ⟨x, hx, rfl⟩ := Option.map_eq_some_iff.1 hv
    show arr[0 + i]? = _
    rw [Nat.zero_add]
    exact harr i x hx
  ·refine ⟨z0V.2 fun v hv => ?_, el, (0, 0), ?_⟩
   ·obtain ⟨x, _, rfl⟩ := List.mem_map.1 hv; trivial
   ·show W.heap[x]? = _
    rw [hg, z0t, List.map_map]; rfl
 ·cases ho : H.blks.get x with
  | none => trivial
  | some o => rcases hget x o ho with ⟨_, _, _, _, _, rfl, _⟩ | ⟨_, _, _, _, rfl, _⟩ <;> trivial
theorem q2o {ρ : Env} {D : Nat → Prop} {w : World} {H : Heap} (hH : HRel G ρ D w H) {n : String} {g : Nat} {t : TypeId} {k : IntKind} {xs : List Int} (hg : P.globalNamed n = some g) (hgl : g < G.nglob)
  (hb : H.blks.get g = some (.fix t (xs.map fun x => .int k x))) : Lib.TabIs P w n k xs := by
 obtain ⟨d1, d2, d3⟩ := hH.glob g hgl
 obtain ⟨_, el, fz, h2⟩ := hH.blk g _ d1 hb
 rw [d2] at h2
 unfold Lib.TabIs World.var?
 rw [hg]
 simp only [Option.bind_some, h2]
 rw [z0t, List.map_map]; rfl
end
end Go.Sx
