/-
  Runs whose end is known ahead; rows in cells; code and calls in pieces; the start from listed variables of any kind.
-/
import Derived.Test.YtdnkpdgncgjilaaGreatDoorNSxH
import Derived.Test.YtdnkpdgncgjilaaGreatDoorNSxF
import Derived.Below
import Derived.Lib.LaidTab
import Derived.ChangeArms
import Derived.LaidHandle
set_option linter.unusedSimpArgs false
set_option linter.unusedVariables false
namespace Go.Sx
open Go
theorem j6D (t : TypeId) (x y : Operand) : kindOf (.store t x y) = .eff := rfl
theorem w5T (t : TypeId) (x y z : Operand) : kindOf (.mapUpdate t x y z) = .eff := rfl
theorem k2N (a b : TypeId) (x : Operand) : kindOf (.convert a b x) = .eff := rfl
theorem j6E (x : Operand) : kindC (.value x) = .eff := rfl
theorem q9h : kindB .append = .eff := rfl
theorem j6F : kindB .copy = .eff := rfl
theorem q9i : kindB .delete = .eff := rfl
theorem j3s : kindB .clear = .eff := rfl
theorem j3t : kindB .panic = .eff := rfl
theorem w5U (k : IntKind) (n : Int) : ofValue (.int k n) = some (.int k n) := rfl
theorem k2O (b : Bool) : ofValue (.bool b) = some (.bool b) := rfl
theorem w5V (s : ByteArray) : ofValue (.string s) = some (.str s.data.toList) := rfl
theorem w8Z : ofValue (.pointer none) = some .nilptr := rfl
theorem w9a : ofValue (.slice none 0 0) = some .nilslice := rfl
theorem w9b : ofValue (.map none) = some .nilmap := rfl
theorem w9c : ofValue .nilFunc = some .nilFunc := rfl
theorem w9d : ofValue .nilIface = some .nilIface := rfl
theorem w5W (k : IntKind) (a b : Int) : intBin .add k a k b = some (.int k (z4Y k (a + b))) := if_pos rfl
theorem w5X (k : IntKind) (a b : Int) : intBin .sub k a k b = some (.int k (z4Y k (a - b))) := if_pos rfl
theorem w5Y (k : IntKind) (a b : Int) : intBin .mul k a k b = some (.int k (z4Y k (a * b))) := if_pos rfl
theorem w5Z (k : IntKind) (a b : Int) : intBin .quo k a k b = quoO k a b := if_pos rfl
theorem w6a (k : IntKind) (a b : Int) : intBin .rem k a k b = remO k a b := if_pos rfl
theorem w6b (k : IntKind) (a b : Int) : intBin .eql k a k b = boolO (ibeq a b) := if_pos rfl
theorem w6c (k : IntKind) (a b : Int) : intBin .neq k a k b = boolO (bnot (ibeq a b)) := if_pos rfl
theorem w6d (k : IntKind) (a b : Int) : intBin .lss k a k b = boolO (iblt a b) := if_pos rfl
theorem w6e (k : IntKind) (a b : Int) : intBin .leq k a k b = boolO (bnot (iblt b a)) := if_pos rfl
theorem w6f (k : IntKind) (a b : Int) : intBin .gtr k a k b = boolO (iblt b a) := if_pos rfl
theorem w6g (k : IntKind) (a b : Int) : intBin .geq k a k b = boolO (bnot (iblt a b)) := if_pos rfl
theorem w6h (k : IntKind) (a b : Int) : intBin .and k a k b = bitO k Nat.land a b := if_pos rfl
theorem w9e (k : IntKind) (a b : Int) : intBin .or k a k b = bitO k Nat.lor a b := if_pos rfl
theorem w6i (k : IntKind) (a b : Int) : intBin .xor k a k b = bitO k Nat.xor a b := if_pos rfl
theorem j6G (t : TypeId) (x : Operand) : kindOf (.range t x) = .eff := rfl
theorem k2P (x : Operand) (b : Bool) : kindOf (.next x b) = .eff := rfl
theorem z1l (H : Heap) (o : ABlk) : (H.push o).next = H.next + 1 := (z0x H o).trans (Eq.refl _)
theorem w6j (H : Heap) (o : ABlk) {b : Nat} (h : b = H.next) : (H.push o).blks.get b = some o := by subst h; exact z0F H o
set_option linter.defProp false in
def sxM := And.intro (And.intro sxL (And.intro @z1g (And.intro @j6G (And.intro @k2P @w6j)))) (And.intro (And.intro (And.intro (And.intro (And.intro (And.intro @j6D (And.intro @w5T @k2N)) (And.intro @j6E (And.intro @q9h @j6F))) (And.intro (And.intro @q9i (And.intro @j3s @j3t)) (And.intro (And.intro @w5U @k2O) (And.intro @w5V @w8Z)))) (And.intro (And.intro (And.intro @w9a (And.intro @w9b @w9c)) (And.intro @w9d (And.intro @w5W @w5X))) (And.intro (And.intro @w5Y (And.intro @w5Z @w6a)) (And.intro (And.intro @w6b @w6c) (And.intro @w6d @w6e))))) (And.intro (And.intro (And.intro (And.intro @w6f (And.intro @w6g @w6h)) (And.intro @w9e (And.intro @w6i @kindOf.eq_1))) (And.intro (And.intro @kindOf.eq_2 (And.intro @kindOf.eq_3 @kindOf.eq_4)) (And.intro (And.intro @kindOf.eq_5 @kindOf.eq_6) (And.intro @kindOf.eq_7 @kindOf.eq_8)))) (And.intro (And.intro (And.intro @kindOf.eq_9 (And.intro @kindOf.eq_10 @kindOf.eq_11)) (And.intro @kindOf.eq_12 (And.intro @kindOf.eq_13 @kindOf.eq_14))) (And.intro (And.intro @kindOf.eq_15 (And.intro @kindOf.eq_16 @kindOf.eq_17)) (And.intro (And.intro @kindOf.eq_18 @kindOf.eq_19) (And.intro @kindOf.eq_20 @kindOf.eq_21)))))) (And.intro (And.intro (And.intro (And.intro (And.intro @kindOf.eq_22 (And.intro @kindOf.eq_23 @kindOf.eq_24)) (And.intro @kindOf.eq_25 (And.intro @kindC.eq_1 @kindB.eq_1))) (And.intro (And.intro @kindB.eq_2 (And.intro @kindB.eq_3 @kindB.eq_4)) (And.intro (And.intro @kindB.eq_5 @unA.eq_1) (And.intro @unA.eq_2 @unA.eq_3)))) (And.intro (And.intro (And.intro @boxA.eq_1 (And.intro @loadPtr.eq_1 @nilCheckA.eq_1)) (And.intro @nilCheckA.eq_2 (And.intro @nilCheckA.eq_3 @nilCheckA.eq_4))) (And.intro (And.intro @fst1.eq_1 (And.intro @fst1.eq_2 @ofValue.eq_1)) (And.intro (And.intro @ofValue.eq_2 @ofScalar.eq_1) (And.intro @ofScalar.eq_2 @ofScalar.eq_3))))) (And.intro (And.intro (And.intro (And.intro @ofScalar.eq_4 (And.intro @ofScalar.eq_5 @ofScalar.eq_6)) (And.intro @ofScalar.eq_7 (And.intro @ofScalar.eq_8 @intBin.eq_1))) (And.intro (And.intro @intBin.eq_2 (And.intro @boolO.eq_1 @guardA.eq_1)) (And.intro (And.intro @cCond.eq_1 @condV.eq_1) (And.intro @condV.eq_2 @cRet.eq_1)))) (And.intro (And.intro (And.intro @cExit.eq_1 (And.intro @cSkip.eq_1 @resOut.eq_1)) (And.intro (And.intro @resultA.eq_1 @resultA.eq_2) (And.intro @extractA.eq_1 @tupleO.eq_1))) (And.intro (And.intro @tupleO.eq_2 (And.intro @k2p @z9A)) (And.intro (And.intro @noOv.eq_1 @callFn.eq_1) (And.intro @q4j @z9y)))))))
theorem Gets.l0 {P : Program} {G : Tab} {c : Ctx} {s s' : St} {Q : Ex → St → Prop} (TT : TabOk P G) {x : Code} (h : z0u x (fnsO G noOv 8) G c s = some [(.normal, s')]) (h' : Q .normal s') : Gets P G c x s Q := Gets.last TT z0T 8 h h'
theorem pd_ {l : List Oper} (h : z4x l = true) : z4x l = true := h
theorem md_ {l : List Oper} (h : z6N l = true) : z6N l = true := h
theorem xd_ {l : List Oper} (h : z5w l = true) : z5w l = true := h
end Go.Sx
namespace Go.Sx
open Go
section
variable {P : Program} {G : Tab} {c : Ctx} {s s' : St} {Q : Ex → St → Prop}
def GetsE (P : Program) (G : Tab) (c : Ctx) (x : Code) (s : St) (Q : Ex → St → Prop) : Prop := ∃ e s', Q e s' ∧ Gets P G c x s fun e1 s1 => e1 = e ∧ s1 = s'
theorem GetsE.mono {x : Code} {Q' : Ex → St → Prop} (h : GetsE P G c x s Q) (hq : ∀ e s', Q e s' → Q' e s') : GetsE P G c x s Q' := by
 obtain ⟨e, s', q, g⟩ := h
 exact ⟨e, s', hq e s' q, g⟩
theorem GetsE.one {x : Code} {e : Ex} (g : ∀ Q : Ex → St → Prop, Q e s' → Gets P G c x s Q) (hQ : Q e s') : GetsE P G c x s Q := ⟨e, s', hQ, g _ ⟨rfl, rfl⟩⟩
theorem GetsE.last (TT : TabOk P G) {ov : Ov} (ho : OvOk P G ov) (n : Nat) {x : Code} {s' : St} (h : z0u x (fnsO G ov n) G c s = some [(.normal, s')]) (h' : Q .normal s') : GetsE P G c x s Q :=
 GetsE.one (fun _ hq => Gets.last TT ho n h hq) h'
theorem GetsE.l0 (TT : TabOk P G) {x : Code} {s' : St} (h : z0u x (fnsO G noOv 8) G c s = some [(.normal, s')]) (h' : Q .normal s') : GetsE P G c x s Q := GetsE.last TT z0T 8 h h'
theorem GetsE.skip (TT : TabOk P G) (h : Q .normal s) : GetsE P G c .skip s Q := GetsE.one (fun _ hq => Gets.skip TT hq) h
theorem GetsE.ret (TT : TabOk P G) (h : Q .ret s) : GetsE P G c .ret s Q := GetsE.one (fun _ hq => Gets.ret TT hq) h
theorem GetsE.exit (TT : TabOk P G) {i : Nat} (h : Q (.exit i) s) : GetsE P G c (.exit i) s Q := GetsE.one (fun _ hq => Gets.exit TT hq) h
theorem GetsE.condT {v : Operand} {x y : Code} (hv : aev G s.tm v = some (.bool true)) (h : GetsE P G c x s Q) : GetsE P G c (.cond v x y) s Q := by
 obtain ⟨e, s', q, g⟩ := h
 exact ⟨e, s', q, Gets.condT hv g⟩
theorem GetsE.condF {v : Operand} {x y : Code} (hv : aev G s.tm v = some (.bool false)) (h : GetsE P G c y s Q) : GetsE P G c (.cond v x y) s Q := by
 obtain ⟨e, s', q, g⟩ := h
 exact ⟨e, s', q, Gets.condF hv g⟩
theorem GetsE.seq {x y : Code} (h : GetsE P G c x s fun e s' => match e with | .normal => GetsE P G c y s' Q | e => Q e s') : GetsE P G c (.seq x y) s Q := by
 obtain ⟨e, s1, q, g⟩ := h
 cases e with
 | normal =>
  obtain ⟨e2, s2, q2, g2⟩ := q
  exact ⟨e2, s2, q2, Gets.seq (g.mono fun e' s' hh => by obtain ⟨rfl, rfl⟩ := hh; exact g2)⟩
 | exit j => exact ⟨_, s1, q, Gets.seq (g.mono fun e' s' hh => by obtain ⟨rfl, rfl⟩ := hh; exact ⟨rfl, rfl⟩)⟩
 | goto j => exact ⟨_, s1, q, Gets.seq (g.mono fun e' s' hh => by obtain ⟨rfl, rfl⟩ := hh; exact ⟨rfl, rfl⟩)⟩
 | ret => exact ⟨_, s1, q, Gets.seq (g.mono fun e' s' hh => by obtain ⟨rfl, rfl⟩ := hh; exact ⟨rfl, rfl⟩)⟩
theorem GetsE.blk {id : Nat} {x : Code} (h : GetsE P G c x s (z8a id Q)) : GetsE P G c (.block id x) s Q := by
 obtain ⟨e, s1, q, g⟩ := h
 cases e with
 | exit j =>
  by_cases hj : j = id
  ·subst hj
   have q' : (if j = j then Q .normal s1 else Q (.exit j) s1) := q
   rw [if_pos rfl] at q'
   exact ⟨.normal, s1, q', Gets.blk (g.mono fun e' s' hh => by obtain ⟨rfl, rfl⟩ := hh; exact z3v ⟨rfl, rfl⟩)⟩
  ·have q' : (if j = id then Q .normal s1 else Q (.exit j) s1) := q
   rw [if_neg hj] at q'
   exact ⟨.exit j, s1, q', Gets.blk (g.mono fun e' s' hh => by obtain ⟨rfl, rfl⟩ := hh; exact q5Y hj ⟨rfl, rfl⟩)⟩
 | normal => exact ⟨.normal, s1, q, Gets.blk (g.mono fun e' s' hh => by obtain ⟨rfl, rfl⟩ := hh; exact q4g ⟨rfl, rfl⟩)⟩
 | ret => exact ⟨.ret, s1, q, Gets.blk (g.mono fun e' s' hh => by obtain ⟨rfl, rfl⟩ := hh; exact z6L ⟨rfl, rfl⟩)⟩
 | goto j => exact ⟨.goto j, s1, q, Gets.blk (g.mono fun e' s' hh => by obtain ⟨rfl, rfl⟩ := hh; exact ⟨rfl, rfl⟩)⟩
inductive Rounds (P : Program) (G : Tab) (c : Ctx) (x : Code) (e2 : Ex) (s2 : St) : Nat → St → Prop
 | stop {m : Nat} {s : St} (he : e2 ≠ .normal) (g : Gets P G c x s fun e1 s1 => e1 = e2 ∧ s1 = s2) : Rounds P G c x e2 s2 m s
 | next {m m' : Nat} {s s1 : St} (hm : m' < m) (g : Gets P G c x s fun e1 s' => e1 = .normal ∧ s' = s1) (r : Rounds P G c x e2 s2 m' s1) : Rounds P G c x e2 s2 m s
theorem q9j {x : Code} {e2 : Ex} {s2 : St} : ∀ m s, Rounds P G c x e2 s2 m s → Gets P G c (.loop x) s fun e1 s1 => e1 = e2 ∧ s1 = s2 :=
 Gets.loop (I := Rounds P G c x e2 s2) fun m s r => by
  cases r with
  | stop he g =>
   refine g.mono fun e' s' hh => ?_
   obtain ⟨rfl, rfl⟩ := hh
   cases e' with
   | normal => exact absurd rfl he
   | exit j => exact ⟨rfl, rfl⟩
   | goto j => exact ⟨rfl, rfl⟩
   | ret => exact ⟨rfl, rfl⟩
  | next hm g r =>
   refine g.mono fun e' s' hh => ?_
   obtain ⟨rfl, rfl⟩ := hh
   exact ⟨_, hm, r⟩
theorem GetsE.loop {x : Code} {I : Nat → St → Prop}
  (h : ∀ m s, I m s → GetsE P G c x s fun e s' => match e with | .normal => ∃ m', m' < m ∧ I m' s' | e => Q e s') : ∀ m s, I m s → GetsE P G c (.loop x) s Q := by
 have key : ∀ m s, I m s → ∃ e2 s2, Q e2 s2 ∧ Rounds P G c x e2 s2 m s := by
  intro m
  induction m using Nat.strongRecOn with
  | _ m ih =>
   intro s hI
   obtain ⟨e, s1, q, g⟩ := h m s hI
   cases e with
   | normal =>
    obtain ⟨m', hm, hI'⟩ := q
    obtain ⟨e2, s2, q2, r⟩ := ih m' hm s1 hI'
    exact ⟨e2, s2, q2, .next hm g r⟩
   | exit j => exact ⟨_, s1, q, .stop (by simp) g⟩
   | goto j => exact ⟨_, s1, q, .stop (by simp) g⟩
   | ret => exact ⟨_, s1, q, .stop (by simp) g⟩
 intro m s hI
 obtain ⟨e2, s2, q, r⟩ := key m s hI
 exact ⟨e2, s2, q, q9j m s r⟩
theorem GetsE.forI {id : Nat} {x : Code} (I : Nat → St → Prop) (m : Nat) (h0 : I m s) (h : ∀ m s, I m s → GetsE P G c x s (q4h I m (z8a id Q))) : GetsE P G c (.block id (.loop x)) s Q :=
 GetsE.blk (GetsE.loop (I := I) (fun m s hI => (h m s hI).mono fun e s' h => by cases e <;> exact h) m s h0)
theorem GetsE.upto {id : Nat} {x : Code} {H : Heap} (n : Nat) (I : Nat → T AV → Prop) {tm : T AV} (h0 : I 0 tm)
  (h : ∀ i tm, i ≤ n → I i tm → GetsE P G c x ⟨tm, H, []⟩ fun e s' => match e with
   | .normal => ∃ tm', s' = ⟨tm', H, []⟩ ∧ i < n ∧ I (i + 1) tm'
   | e => z8a id Q e s') : GetsE P G c (.block id (.loop x)) ⟨tm, H, []⟩ Q :=
 GetsE.forI (I := fun m s => ∃ i tm, i ≤ n ∧ m = n - i ∧ s = ⟨tm, H, []⟩ ∧ I i tm) n ⟨0, tm, Nat.zero_le _, rfl, rfl, h0⟩ fun m s ⟨i, tm, hi, hm, hs, hI⟩ => by
  subst hs
  refine (h i tm hi hI).mono fun e s' h => ?_
  cases e with
  | normal =>
   obtain ⟨tm', rfl, hlt, hI'⟩ := h
   exact ⟨n - (i + 1), by omega, i + 1, tm', hlt, rfl, rfl, hI'⟩
  | _ => exact h
theorem GetsE.uptoH {id : Nat} {x : Code} (n : Nat) (I : Nat → T AV → Heap → Prop) {tm : T AV} {H : Heap} (h0 : I 0 tm H)
  (h : ∀ i tm H, i ≤ n → I i tm H → GetsE P G c x ⟨tm, H, []⟩ fun e s' => match e with
   | .normal => ∃ tm' H', s' = ⟨tm', H', []⟩ ∧ i < n ∧ I (i + 1) tm' H'
   | e => z8a id Q e s') : GetsE P G c (.block id (.loop x)) ⟨tm, H, []⟩ Q :=
 GetsE.forI (I := fun m s => ∃ i tm H, i ≤ n ∧ m = n - i ∧ s = ⟨tm, H, []⟩ ∧ I i tm H) n ⟨0, tm, H, Nat.zero_le _, rfl, rfl, h0⟩ fun m s ⟨i, tm, H, hi, hm, hs, hI⟩ => by
  subst hs
  refine (h i tm H hi hI).mono fun e s' h => ?_
  cases e with
  | normal =>
   obtain ⟨tm', H', rfl, hlt, hI'⟩ := h
   exact ⟨n - (i + 1), by omega, i + 1, tm', H', hlt, rfl, rfl, hI'⟩
  | _ => exact h
theorem GetsE.drawK (TT : TabOk P G) {ov : Ov} (ho : OvOk P G ov) (n : Nat) {i : Nat} {all : List Oper} (p : List PStep) (hp : z7U all p = true) (hN : Neat s.h)
  (h : runK (fnsO G ov n) G c all p s [] = some [s']) (hQ : Q .normal s') : GetsE P G c (.region i all.toArray true) s Q :=
 GetsE.one (fun _ hq => Gets.drawK TT ho n p hp hN h hq) hQ
theorem GetsE.midH {x : Code} {I : T AV → Heap → Prop} (h : GetsE P G c x s fun e s' => e = .normal ∧ ∃ tm H, s' = ⟨tm, H, []⟩ ∧ I tm H) (h' : ∀ tm H, I tm H → Q .normal ⟨tm, H, []⟩) : GetsE P G c x s Q :=
 h.mono fun e s' h => by obtain ⟨rfl, tm, H, rfl, h⟩ := h; exact h' tm H h
theorem z7V (H : Heap) (o : ABlk) {b : Nat} (h : b = H.next) : (H.push o).blks.get b = some o := by subst h; exact z0F H o
theorem z9M (H : Heap) (b : Nat) (o : Option ABlk) {x : Nat} (h : x = b) : (z0y H b o).blks.get x = o := by subst h; exact z4y H x o
theorem Gets.ofH {x : Code} {tm : T AV} {H : Heap} {df : List ADefer} (I : Heap → Prop) (hI : I H) (h : ∀ h, I h → Gets P G c x ⟨tm, h, df⟩ Q) : Gets P G c x ⟨tm, H, df⟩ Q := h H hI
theorem GetsE.ofH {x : Code} {tm : T AV} {H : Heap} {df : List ADefer} (I : Heap → Prop) (hI : I H) (h : ∀ h, I h → GetsE P G c x ⟨tm, h, df⟩ Q) : GetsE P G c x ⟨tm, H, df⟩ Q := h H hI
theorem Gets.ofS {x : Code} {tm : T AV} {H : Heap} {df : List ADefer} (I : T AV → Heap → Prop) (hI : I tm H) (h : ∀ tm h, I tm h → Gets P G c x ⟨tm, h, df⟩ Q) : Gets P G c x ⟨tm, H, df⟩ Q := h tm H hI
theorem GetsE.ofS {x : Code} {tm : T AV} {H : Heap} {df : List ADefer} (I : T AV → Heap → Prop) (hI : I tm H) (h : ∀ tm h, I tm h → GetsE P G c x ⟨tm, h, df⟩ Q) : GetsE P G c x ⟨tm, H, df⟩ Q := h tm H hI
def j3u (H h : Heap) (b : Nat) : Prop := ∀ o, h.blks.get b = some o → (b < H.next ∧ H.blks.get b = some o) ∨ ltB h.next o
open Classical in
noncomputable def q2R (H h : Heap) : Nat → T ABlk
 | 0 => .e
 | n + 1 => if j3u H h n then (q2R H h n).set n (h.blks.get n) else q2R H h n
open Classical in
theorem z4z (H h : Heap) : ∀ n b, (q2R H h n).get b = if b < n ∧ j3u H h b then h.blks.get b else none
 | 0, b => by
  rw [if_neg fun e => absurd e.1 (Nat.not_lt_zero _)]
  show (T.e : T ABlk).get b = none
  rw [T.get_e]
 | n + 1, b => by
  unfold q2R
  by_cases hk : j3u H h n
  ·rw [if_pos hk, T.get_set]
   by_cases hb : b = n
   ·subst hb
    rw [if_pos rfl, if_pos ⟨by omega, hk⟩]
   ·rw [if_neg hb, z4z H h n b]
    by_cases hh : b < n ∧ j3u H h b
    ·rw [if_pos hh, if_pos ⟨by omega, hh.2⟩]
    ·rw [if_neg hh, if_neg fun e => hh ⟨by omega, e.2⟩]
  ·rw [if_neg hk, z4z H h n b]
   by_cases hh : b < n ∧ j3u H h b
   ·rw [if_pos hh, if_pos ⟨by omega, hh.2⟩]
   ·rw [if_neg hh, if_neg fun e => hh ⟨by
     by_cases hb : b = n
     ·subst hb; exact absurd e.2 hk
     ·omega, e.2⟩]
noncomputable def q0n (H h : Heap) : Heap := ⟨h.next, q2R H h h.next⟩
theorem w6k (H h : Heap) : (q0n H h).next = h.next := rfl
theorem q4G (H h : Heap) : Neat (q0n H h) := fun b o ho => by
 have ho : (q2R H h h.next).get b = some o := ho
 rw [z4z] at ho
 split at ho
 ·rename_i hh; exact hh.1
 ·simp at ho
theorem q2S {H h : Heap} {b : Nat} (hb : b < H.next) (hle : H.next ≤ h.next) (he : h.blks.get b = H.blks.get b) : (q0n H h).blks.get b = H.blks.get b := by
 show (q2R H h h.next).get b = _
 rw [z4z, if_pos ⟨by omega, fun o ho => .inl ⟨hb, by rw [← he]; exact ho⟩⟩, he]
theorem j6H {H h : Heap} {b : Nat} {o : ABlk} (hN : Neat h) (hb : h.blks.get b = some o) (hl : ltB h.next o) : (q0n H h).blks.get b = some o := by
 show (q2R H h h.next).get b = _
 rw [z4z, if_pos ⟨hN b o hb, fun o' ho => .inr (by rw [hb] at ho; cases ho; exact hl)⟩, hb]
theorem j6I {H h : Heap} {v : AV} (hle : H.next ≤ h.next) (hv : ltV h.next v) : Cut H (v, q0n H h) v h :=
 ⟨rfl, Nat.le_refl _, hle, fun b o ho => by
  have ho : (q2R H h h.next).get b = some o := ho
  rw [z4z] at ho
  split at ho
  ·rename_i hh; exact ⟨ho, hh.2 o ho⟩
  ·simp at ho, hv⟩
theorem q7D (TT : TabOk P G) {f : FuncId} {fn : Func} {body : Code} (hf : P.funcs[f]? = some fn) (hb : fn.body = some body) (hn : (fn.name == "runtime.NumGoroutine") = false) {args : List AV} {H : Heap} {R : AV → Heap → Prop}
  (hg : GetsE P G ⟨none, args.length + (fn.ntmps - args.length)⟩ body ⟨z4v args, H, []⟩ fun e s' =>
   z2W e = true ∧ s'.df = [] ∧ ∃ vs, z0I G s'.tm s'.h fn.results.toList = some vs ∧ H.next ≤ s'.h.next ∧ ltV s'.h.next (z2d vs) ∧ R (z2d vs) s'.h) :
  ∃ v h, R v h ∧ H.next ≤ h.next ∧ CallTo P G f args H [(v, q0n H h)] := by
 obtain ⟨e, s', ⟨q1, q2, vs, q3, q4, q5, q6⟩, g⟩ := hg
 exact ⟨z2d vs, s'.h, q6, q4, z0Q TT hf hb hn (g.mono fun e1 s1 hh => by obtain ⟨rfl, rfl⟩ := hh; exact ⟨q1, q2, vs, q3, _, List.mem_singleton.2 rfl, j6I q4 q5⟩)⟩
theorem j6J {H : Heap} {s : St} {vs : List AV} {rs : List ResultVar} {R : AV → Heap → Prop} (hd : s.df = []) (hr : z0I G s.tm s.h rs = some vs) (hn : H.next ≤ s.h.next) (hv : ltV s.h.next (z2d vs)) (hR : R (z2d vs) s.h) :
  z2W .ret = true ∧ s.df = [] ∧ ∃ vs, z0I G s.tm s.h rs = some vs ∧ H.next ≤ s.h.next ∧ ltV s.h.next (z2d vs) ∧ R (z2d vs) s.h := ⟨rfl, hd, vs, hr, hn, hv, hR⟩
structure GrowsP (p : Nat) (H H' : Heap) : Prop where
 next : H.next ≤ H'.next
 get : ∀ b, b < H.next → b ≠ p → H'.blks.get b = H.blks.get b
theorem GrowsP.refl (p : Nat) (H : Heap) : GrowsP p H H := ⟨Nat.le_refl _, fun _ _ _ => rfl⟩
theorem GrowsP.trans {p : Nat} {a b c : Heap} (h : GrowsP p a b) (h' : GrowsP p b c) : GrowsP p a c :=
 ⟨Nat.le_trans h.next h'.next, fun x hx hp => (h'.get x (Nat.lt_of_lt_of_le hx h.next) hp).trans (h.get x hx hp)⟩
theorem GrowsP.push (p : Nat) (H : Heap) (o : ABlk) : GrowsP p H (H.push o) := ⟨Nat.le_succ _, fun b hb _ => z0R H o (Nat.ne_of_lt hb)⟩
theorem GrowsP.put (p : Nat) (H : Heap) (o : Option ABlk) : GrowsP p H (z0y H p o) := ⟨by rw [z0h]; exact Nat.le_refl _, fun b _ hp => z1D _ _ _ hp⟩
theorem GrowsP.new {p : Nat} {a b : Heap} (h : GrowsP p a b) {d : Nat} (hd : a.next ≤ d) (o : Option ABlk) : GrowsP p a (z0y b d o) :=
 ⟨by rw [z0h]; exact h.next, fun x hx hp => by rw [z1D _ _ _ (by omega)]; exact h.get x hx hp⟩
theorem GrowsP.keep {p : Nat} {H h : Heap} (h' : GrowsP p H h) : GrowsP p H (q0n H h) :=
 ⟨h'.next, fun b hb hp => q2S hb h'.next (h'.get b hb hp)⟩
theorem GrowsP.some_ {p : Nat} {H h : Heap} (g : GrowsP p H h) (hN : Neat H) {b : Nat} {o : ABlk} (hb : H.blks.get b = some o) (hp : b ≠ p) : h.blks.get b = some o := by rw [g.get b (hN b o hb) hp]; exact hb
theorem w6l {H : Heap} {b b' : Nat} {o o' : ABlk} (h : H.blks.get b = some o) (h' : H.blks.get b' = some o') (hne : o ≠ o') : b ≠ b' := fun e => by
 subst e
 rw [h] at h'
 exact hne (Option.some.inj h')
noncomputable def stC (H : Heap) (b off : Nat) (l : List AV) (z : Option Nat) : Option Heap := z0b z fun s => bif Nat.beq (len l) s then z1y H b off l else none
theorem k2Q (H : Heap) (t : TypeId) (b off : Nat) (v : AV) : z2i G H t (.ptr b off) v = stC H b off v.cells (G.size t) := rfl
theorem t_c1 (H : Heap) (b off : Nat) (x : AV) : stC H b off [x] (some 1) = z3W H b off [x] (H.blks.get b) := rfl
theorem t_c2 (H : Heap) (b off : Nat) (x y : AV) : stC H b off [x, y] (some 2) = z3W H b off [x, y] (H.blks.get b) := rfl
theorem t_c4 (H : Heap) (b off : Nat) (x y z w : AV) : stC H b off [x, y, z, w] (some 4) = z3W H b off [x, y, z, w] (H.blks.get b) := rfl
theorem w9f (H : Heap) (b off : Nat) (x0 x1 x2 x3 x4 x5 x6 x7 x8 x9 : AV) : stC H b off [x0, x1, x2, x3, x4, x5, x6, x7, x8, x9] (some 10) = z3W H b off [x0, x1, x2, x3, x4, x5, x6, x7, x8, x9] (H.blks.get b) := rfl
noncomputable def stO (k : Bool) (H : Heap) (b : Nat) (e : TypeId) (x : Bool) (o : Option (List AV)) : Option Heap := bif k then z6r H b e x o else none
theorem t_in (H : Heap) (b off : Nat) (l : List AV) (e : TypeId) (x : Bool) (old : List AV) : z3W H b off l (some (.cells e x old)) = stO (z0Y l) H b e x (z1q l old off) := rfl
theorem w9g (H : Heap) (b : Nat) (e : TypeId) (x : Bool) (l : List AV) : stO true H b e x (some l) = some (z0y H b (some (.cells e x l))) := by
 show z4Z l (fun l => z0V H b (some (.cells e x l)) some) = _
 rw [z1r]
 unfold z0V z0y
 rw [T.setK_eq, T.setK_eq]
theorem w9h {α : Type} (w : List α) (a : α) (l : List α) : z1q w (a :: l) 0 = z4U w (a :: l) := rfl
theorem w9i {α : Type} (w : List α) (a : α) (l : List α) (k : Nat) : z1q w (a :: l) (k + 1) = z1L a (z1q w l k) := rfl
theorem w9j {α : Type} (l : List α) : z4U [] l = some l := rfl
theorem w9k {α : Type} (x : α) (w : List α) (o : α) (l : List α) : z4U (x :: w) (o :: l) = z1L x (z4U w l) := rfl
theorem k2R {α : Type} (a : α) (l : List α) : z1L a (some l) = some (a :: l) := rfl
theorem t_r2 (e : TypeId) (x : Bool) (a b : AV) : cellsIn (some (.cells e x [a, b])) 0 2 = some [a, b] := rfl
theorem t_r4 (e : TypeId) (x : Bool) (a b c d : AV) : cellsIn (some (.cells e x [a, b, c, d])) 0 4 = some [a, b, c, d] := rfl
theorem w9l (e : TypeId) (x : Bool) (x0 x1 x2 x3 x4 x5 x6 x7 x8 x9 : AV) : cellsIn (some (.cells e x [x0, x1, x2, x3, x4, x5, x6, x7, x8, x9])) 0 10 = some [x0, x1, x2, x3, x4, x5, x6, x7, x8, x9] := rfl
theorem v3g (e : TypeId) (x : Bool) (x0 x1 x2 x3 x4 x5 x6 x7 x8 x9 : AV) : cellsIn (some (.cells e x [x0, x1, x2, x3, x4, x5, x6, x7, x8, x9])) 4 2 = some [x4, x5] := rfl
theorem w6m (e : TypeId) (x : Bool) (x0 x1 x2 x3 x4 x5 x6 x7 x8 x9 : AV) : cellsIn (some (.cells e x [x0, x1, x2, x3, x4, x5, x6, x7, x8, x9])) 6 4 = some [x6, x7, x8, x9] := rfl
set_option linter.defProp false in
def stL := And.intro (And.intro (And.intro (And.intro @k2Q @t_c1) (And.intro @t_c2 @t_c4)) (And.intro (And.intro @w9f @t_in) (And.intro @w9g @w9h))) (And.intro (And.intro (And.intro @w9i @w9j) (And.intro @w9k @k2R)) (And.intro (And.intro @t_r2 @t_r4) (And.intro @w9l (And.intro @z7V @z9M))))
set_option linter.defProp false in
def foL := And.intro (And.intro (And.intro @z4y @z1D) (And.intro @z0F (And.intro @z7S (And.intro @z7V @z9M)))) (And.intro @z0R (And.intro @z0x @z0h))
end
end Go.Sx
namespace Go.Sx
open Go
section
variable {α : Type} {P : Program} {G : Tab}
theorem q7E {β : Type} : ∀ (w old S : List β), old.length = w.length → z4U w (old ++ S) = some (w ++ S)
 | [], [], S, _ => rfl
 | [], _ :: _, _, h => by simp at h
 | _ :: _, [], _, h => by simp at h
 | a :: w, o :: old, S, h => by
  show z1L a (z4U w (old ++ S)) = _
  rw [q7E w old S (by simpa using h)]; rfl
theorem z7s {β : Type} (w old S : List β) (hl : old.length = w.length) (hne : w ≠ []) : ∀ (Q : List β), z1q w (Q ++ (old ++ S)) Q.length = some (Q ++ (w ++ S))
 | [] => by
  cases old with
  | nil => cases w with
   | nil => exact absurd rfl hne
   | cons _ _ => simp at hl
  | cons o old => exact q7E w (o :: old) S hl
 | a :: Q => by
  show z1L a (z1q w (Q ++ (old ++ S)) Q.length) = _
  rw [z7s w old S hl hne Q]; rfl
theorem k3l {f : α → List AV} {k : Nat} (hf : ∀ a, (f a).length = k) (hk : 0 < k) (A B : List α) (a a' : α) {i : Nat} (hi : i = A.length * k) : z1q (f a') ((A ++ a :: B).flatMap f) i = some ((A ++ a' :: B).flatMap f) := by
 rw [List.flatMap_append, List.flatMap_cons, List.flatMap_append, List.flatMap_cons, hi, ← z4R hf A]
 exact z7s (f a') (f a) _ (by rw [hf, hf]) (fun e => by have := hf a'; rw [e] at this; simp at this; omega) _
theorem z9N {f : α → List AV} {l : List α} (h : ∀ a ∈ l, z0Y (f a) = true) : z0Y (l.flatMap f) = true :=
 z2r.2 fun v hv => by
  obtain ⟨a, ha, hv⟩ := List.mem_flatMap.1 hv
  exact z2r.1 (h a ha) v hv
theorem z7t {l m : List AV} (h : z0Y l = true) (h' : z0Y m = true) : z0Y (l ++ m) = true :=
 z2r.2 fun v hv => (List.mem_append.1 hv).elim (z2r.1 h v) (z2r.1 h' v)
def CellsAt (e : Nat) (f : α → List AV) (H : Heap) (v : AV) (l : List α) : Prop :=
 (v = .nilslice ∧ l = []) ∨ ∃ b q c x, v = .slice b 0 l.length q c ∧ H.blks.get b = some (.cells e x (l.flatMap f))
variable {e k t : Nat} {f : α → List AV} {H H' : Heap} {v : AV} {l : List α}
theorem CellsAt.one (h : CellsAt e f H v l) : z0E v = true := by
 rcases h with ⟨rfl, _⟩ | ⟨b, q, c, x, rfl, _⟩ <;> rfl
theorem CellsAt.len (h : CellsAt e f H v l) (hu : G.und t = some (.slice e)) (H' : Heap) : lenA G H' t v = some (.int .i64 (l.length : Int)) := by
 rcases h with ⟨rfl, rfl⟩ | ⟨b, q, c, x, rfl, _⟩
 ·exact z5G hu H'
 ·exact z2t hu H' ..
theorem CellsAt.lt (h : CellsAt e f H v l) (hN : Neat H) : ltV H.next v := by
 rcases h with ⟨rfl, rfl⟩ | ⟨b, q, c, x, rfl, hb⟩
 ·trivial
 ·exact hN b _ hb
theorem CellsAt.to (h : CellsAt e f H v l) (hh : ∀ b x y, H.blks.get b = some (.cells e x y) → H'.blks.get b = some (.cells e x y)) : CellsAt e f H' v l := by
 rcases h with h | ⟨b, q, c, x, h1, hb⟩
 ·exact .inl h
 ·exact .inr ⟨b, q, c, x, h1, hh _ _ _ hb⟩
theorem CellsAt.growP (h : CellsAt e f H v l) (hN : Neat H) {p : Nat} (hg : GrowsP p H H') {o : ABlk} (hp : H.blks.get p = some o) (ho : ∀ x y, o ≠ .cells e x y) : CellsAt e f H' v l :=
 h.to fun b x y hb => hg.some_ hN hb fun e => by
  subst e
  rw [hp] at hb
  exact ho _ _ (Option.some.inj hb)
theorem CellsAt.keep {H h : Heap} (hc : CellsAt e f h v l) (hN : Neat h) (hf : ∀ a ∈ l, ltL h.next (f a)) : CellsAt e f (q0n H h) v l := by
 rcases hc with h1 | ⟨b, q, c, x, h1, hb⟩
 ·exact .inl h1
 ·refine .inr ⟨b, q, c, x, h1, j6H hN hb ?_⟩
  show ltL h.next (l.flatMap f)
  refine q2O.2 fun v hv => ?_
  obtain ⟨a, ha, hv⟩ := List.mem_flatMap.1 hv
  exact q2O.1 (hf a ha) v hv
theorem CellsAt.row (h : CellsAt e f H v l) (hu : G.und t = some (.slice e)) (hz : G.size e = some k) (hf : ∀ a, (f a).length = k) {i : Nat} {a : α} (ha : l[i]? = some a) :
  ∃ b, z1K G t v (.int .i64 (i : Int)) = some (.ptr b (i * k)) ∧ (∀ j, j < k → z0H (H.blks.get b) (i * k + j) = (f a)[j]?) ∧
   ∀ j r, j + r ≤ k → cellsIn (H.blks.get b) (i * k + j) r = some (((f a).drop j).take r) := by
 have hi : i < l.length := (List.getElem?_eq_some_iff.1 ha).1
 rcases h with ⟨_, rfl⟩ | ⟨b, q, c, x, rfl, hb⟩
 ·simp at ha
 ·have hlen := z4R hf l
  have hik : (i + 1) * k ≤ l.length * k := Nat.mul_le_mul_right k hi
  rw [Nat.succ_mul] at hik
  refine ⟨b, ?_, fun j hj => ?_, fun j r hj => ?_⟩
  ·rw [z3Q hu hz, if_pos ⟨by omega, by omega⟩]; simp
  ·rw [hb]
   show nth (l.flatMap f) (i * k + j) = _
   rw [z2C, z9L hf ha hj]
  ·rw [hb]
   show z4T (z6V (l.flatMap f) (i * k + j)) r = _
   rw [z2w, z1R, if_pos (by rw [List.length_drop, hlen]; omega)]
   congr 1
   apply List.ext_getElem?
   intro q
   rw [List.getElem?_take, List.getElem?_take]
   by_cases hq : q < r
   ·rw [if_pos hq, if_pos hq, List.getElem?_drop, List.getElem?_drop, Nat.add_assoc, z9L hf ha (by omega)]
   ·rw [if_neg hq, if_neg hq]
def GrownAt (n0 e : Nat) (f : α → List AV) (H : Heap) (v : AV) (l : List α) : Prop :=
 (v = .nilslice ∧ l = []) ∨ ∃ b, n0 ≤ b ∧ v = .slice b 0 l.length true 0 ∧ H.blks.get b = some (.cells e false (l.flatMap f)) ∧ l ≠ []
theorem GrownAt.cells {n0 : Nat} (h : GrownAt n0 e f H v l) : CellsAt e f H v l := by
 rcases h with h | ⟨b, h0, h1, h2, h3⟩
 ·exact .inl h
 ·exact .inr ⟨b, true, 0, false, h1, h2⟩
theorem GrownAt.to {n0 : Nat} (h : GrownAt n0 e f H v l) (hh : ∀ b x y, H.blks.get b = some (.cells e x y) → H'.blks.get b = some (.cells e x y)) : GrownAt n0 e f H' v l := by
 rcases h with h | ⟨b, h0, h1, h2, h3⟩
 ·exact .inl h
 ·exact .inr ⟨b, h0, h1, hh _ _ _ h2, h3⟩
theorem z3c (hu : G.und t = some (.slice e)) : Sx.elemOf G t = some e := by
 unfold Sx.elemOf
 rw [hu]; rfl
theorem z9O {b : Nat} {r : List AV} (hb : H.blks.get b = some (.cells e true r)) (hr : r.length = k) (hk : 0 < k) : z4h H k 1 (.slice b 0 1 false 1) = some r := by
 show z0p H b 0 (1 * k) = _
 rw [Nat.one_mul, z9z _ _ _ (by omega), hb]
 show z4T (z6V r 0) k = _
 rw [z2w, z1R, List.drop_zero, if_pos (Nat.le_of_eq hr.symm), List.take_of_length_le (Nat.le_of_eq hr)]
theorem j3v {i : TypeInfo} {zero : AV} (hu : G.und t = some (.slice e)) (hty : G.types.get e = some i) (hk : i.size = k) (hk0 : 0 < k) (hby : Nat.ble i.bytes 100000 = true) (hz : G.zero e = some zero) (hzl : zero.cells.length = k)
  {b : Nat} {r : List AV} (hb : H.blks.get b = some (.cells e true r)) (hr : r.length = k) (h1 : z0Y r = true) :
  z3y G H [t, t] [.nilslice, .slice b 0 1 false 1] = some (.slice H.next 0 1 true 0, H.push (.cells e false r)) := by
 show z0b (Sx.elemOf G t) (fun e => z0b (G.und t) fun u => bif intD u then z0b (G.types.get e) (z8E G H e .nilslice (.slice b 0 1 false 1)) else z0b (G.types.get e) (z4E G H e .nilslice (.slice b 0 1 false 1))) = _
 rw [z3c hu, hu]
 show z0b (G.types.get e) (z4E G H e .nilslice (.slice b 0 1 false 1)) = _
 rw [hty]
 show z0b (G.zero e) (fun zero => bif Nat.beq i.size 0 then none else bif j0y (.slice b 0 1 false 1) i.size then bif Nat.beq (len zero.cells) i.size then bif Nat.ble i.bytes 100000 then
  bif Nat.ble (0 + 1) 1000000 then z0b (z4h H i.size 1 (.slice b 0 1 false 1)) (z1Q H e i.size 1 .nilslice) else none else none else none else none) = _
 rw [hz, hby, hk]
 show (bif Nat.beq k 0 then none else bif Nat.beq (len zero.cells) k then z0b (z4h H k 1 (.slice b 0 1 false 1)) (z1Q H e k 1 .nilslice) else none) = _
 rw [z0O (by omega : k ≠ 0), z1g, hzl, z1p rfl, cond_false, cond_true, z9O hb hr hk0]
 show z2V H e 1 r = _
 unfold z2V
 rw [z1H, h1]; rfl
theorem q9k {i : TypeInfo} {zero : AV} (hu : G.und t = some (.slice e)) (hty : G.types.get e = some i) (hk : i.size = k) (hk0 : 0 < k) (hby : Nat.ble i.bytes 100000 = true) (hz : G.zero e = some zero) (hzl : zero.cells.length = k)
  {b d n : Nat} {r y : List AV} (hb : H.blks.get b = some (.cells e true r)) (hr : r.length = k) (h1 : z0Y r = true) (hd : H.blks.get d = some (.cells e false y)) (hy : y.length = n * k) (h2 : z0Y y = true) (hn0 : 0 < n) (hn : n ≤ 100000) :
  z3y G H [t, t] [.slice d 0 n true 0, .slice b 0 1 false 1] = some (.slice H.next 0 (n + 1) true 0, (z0y H d none).push (.cells e false (y ++ r))) := by
 show z0b (Sx.elemOf G t) (fun e => z0b (G.und t) fun u => bif intD u then z0b (G.types.get e) (z8E G H e (.slice d 0 n true 0) (.slice b 0 1 false 1)) else z0b (G.types.get e) (z4E G H e (.slice d 0 n true 0) (.slice b 0 1 false 1))) = _
 rw [z3c hu, hu]
 show z0b (G.types.get e) (z4E G H e (.slice d 0 n true 0) (.slice b 0 1 false 1)) = _
 rw [hty]
 show z0b (G.zero e) (fun zero => bif Nat.beq i.size 0 then none else bif j0y (.slice b 0 1 false 1) i.size then bif Nat.beq (len zero.cells) i.size then bif Nat.ble i.bytes 100000 then
  bif Nat.ble (n + 1) 1000000 then z0b (z4h H i.size 1 (.slice b 0 1 false 1)) (z1Q H e i.size 1 (.slice d 0 n true 0)) else none else none else none else none) = _
 have h9 : Nat.ble (n + 1) 1000000 = true := Nat.ble_eq_true_of_le (by omega)
 rw [hz, hby, hk, h9]
 show (bif Nat.beq k 0 then none else bif Nat.beq (len zero.cells) k then z0b (z4h H k 1 (.slice b 0 1 false 1)) (z1Q H e k 1 (.slice d 0 n true 0)) else none) = _
 rw [z0O (by omega : k ≠ 0), z1g, hzl, z1p rfl, cond_false, cond_true, z9O hb hr hk0]
 show z0b (z3x e (H.blks.get d)) (fun kn => bif Nat.beq 0 (0 * k) then
   bif Nat.ble (0 + (n + 1) * k) kn then inPlace H d (0 + n * k) r (.slice d 0 (n + 1) true 0)
   else z0b (z0p H d 0 (n * k)) fun old => z0V H d none fun H' => z2V H' e (n + 1) (app old r)
  else none) = _
 have hkn : z3x e (H.blks.get d) = some (n * k) := by
  rw [hd]
  show (bif Nat.beq e e then some (len y) else none) = _
  rw [z1p rfl, cond_true, z1g, hy]
 have hnk : 0 < n * k := Nat.mul_pos hn0 hk0
 have hb' : Nat.ble (0 + (n + 1) * k) (n * k) = false := by
  cases hh : Nat.ble (0 + (n + 1) * k) (n * k)
  ·rfl
  ·have := z1k hh
   rw [Nat.succ_mul] at this
   omega
 rw [hkn]
 show (bif Nat.beq 0 (0 * k) then
   bif Nat.ble (0 + (n + 1) * k) (n * k) then inPlace H d (0 + n * k) r (.slice d 0 (n + 1) true 0)
   else z0b (z0p H d 0 (n * k)) fun old => z0V H d none fun H' => z2V H' e (n + 1) (app old r)
  else none) = _
 rw [hb', cond_false, z1p (Nat.zero_mul k).symm, cond_true]
 have hld : z0p H d 0 (n * k) = some y := by
  rw [z9z _ _ _ (by omega), hd]
  show z4T (z6V y 0) (n * k) = _
  rw [z2w, z1R, List.drop_zero, if_pos (Nat.le_of_eq hy.symm), List.take_of_length_le (Nat.le_of_eq hy)]
 rw [hld]
 show z0V H d none (fun H' => z2V H' e (n + 1) (app y r)) = _
 have e1 : z0V H d none (fun H' => z2V H' e (n + 1) (app y r)) = z2V (z0y H d none) e (n + 1) (app y r) := by
  unfold z0V z0y
  rw [T.setK_eq, T.setK_eq]
 rw [e1, z2e]
 unfold z2V
 rw [z1H, z7t h2 h1]
 show some (AV.slice (z0y H d none).next 0 (n + 1) true 0, _) = _
 rw [z0h]
theorem q4H {h : Heap} (hN : Neat h) (d : Nat) : Neat (z0y h d none) := fun x o hx => by
 rw [Heap.get_put] at hx
 rw [Heap.next_put]
 split at hx
 ·simp at hx
 ·exact hN x o hx
theorem w6n {n0 : Nat} {i : TypeInfo} {zero : AV} (hu : G.und t = some (.slice e)) (hty : G.types.get e = some i) (hk : i.size = k) (hk0 : 0 < k) (hby : Nat.ble i.bytes 100000 = true) (hz : G.zero e = some zero) (hzl : zero.cells.length = k)
  (hf : ∀ a, (f a).length = k) (h : GrownAt n0 e f H v l) (hN : Neat H) (hn0 : n0 ≤ H.next) (hl : l.length ≤ 100000) (hone : ∀ a ∈ l, z0Y (f a) = true) {b : Nat} {a : α} (hb : H.blks.get b = some (.cells e true (f a))) (h1 : z0Y (f a) = true) :
  ∃ v' H', z3y G H [t, t] [v, .slice b 0 1 false 1] = some (v', H') ∧ GrownAt n0 e f H' v' (l ++ [a]) ∧ Neat H' ∧ H'.next = H.next + 1 ∧ (∀ x o, H.blks.get x = some o → (∀ y, o ≠ .cells e false y) → H'.blks.get x = some o) ∧
   ∀ x, x < n0 → H'.blks.get x = H.blks.get x := by
 rcases h with ⟨rfl, rfl⟩ | ⟨d, h0, rfl, h2, h3⟩
 ·refine ⟨_, _, j3v hu hty hk hk0 hby hz hzl hb (hf a) h1, .inr ⟨H.next, hn0, rfl, ?_, by simp⟩, hN.push _, rfl, fun x o hx _ => ?_, fun x hx => z0R _ _ (by omega)⟩
  ·rw [z0F]; simp
  ·rw [z0R _ _ (Nat.ne_of_lt (hN x o hx))]; exact hx
 ·have hpos : 0 < l.length := List.length_pos_iff.2 h3
  have hnx : (z0y H d none).next = H.next := z0h _ _ _
  refine ⟨_, _, q9k hu hty hk hk0 hby hz hzl hb (hf a) h1 h2 (z4R hf l) (z9N hone) hpos hl, .inr ⟨H.next, hn0, by rw [List.length_append]; rfl, ?_, by simp⟩, (q4H hN d).push _, by rw [z0x, hnx], fun x o hx ho => ?_, fun x hx => ?_⟩
  ·have := z0F (z0y H d none) (.cells e false (l.flatMap f ++ f a))
   rw [hnx] at this
   rw [this]; simp
  ·rw [z0R _ _ (by rw [hnx]; exact Nat.ne_of_lt (hN x o hx)), z1D _ _ _ (fun e' => by subst e'; rw [h2] at hx; exact ho _ (Option.some.inj hx).symm)]
   exact hx
  ·rw [z0R _ _ (by rw [hnx]; omega), z1D _ _ _ (by omega)]
theorem j3w {zero : AV} (hu : G.und t = some (.slice e)) (hz : G.size e = some k) (hzero : G.zero e = some zero) (hzl : zero.cells.length = k) (hk : Nat.ble (1 * k) 10000 = true) (hk0 : 0 < k) (cs : List AV) (hcl : cs.length = k) (h1 : z0Y cs = true) :
  z1c G H t 1 [(0, .agg cs)] = some (.slice H.next 0 1 false 1, H.push (.cells e true cs)) := by
 show z0b (Sx.elemOf G t) (fun e => z0b (G.size e) fun z => z0b (G.zero e) fun zero =>
  bif Nat.ble (1 * z) 10000 then
   bif Nat.beq (len zero.cells) z then z0b (z0b (some (0 * z, z)) fun q => z0b (z6d (z0M zero.cells 1) (.agg cs) q) fun c => some c) (z0N H e 1 1) else none
  else none) = _
 rw [z3c hu]
 show z0b (G.size e) (fun z => z0b (G.zero e) fun zero =>
  bif Nat.ble (1 * z) 10000 then
   bif Nat.beq (len zero.cells) z then z0b (z0b (some (0 * z, z)) fun q => z0b (z6d (z0M zero.cells 1) (.agg cs) q) fun c => some c) (z0N H e 1 1) else none
  else none) = _
 rw [hz, hzero]
 show (bif Nat.ble (1 * k) 10000 then
   bif Nat.beq (len zero.cells) k then z0b (z0b (z6d (app zero.cells []) (.agg cs) (0 * k, k)) fun c => some c) (z0N H e 1 1) else none
  else none) = _
 rw [hk, z1g, hzl, z1p rfl, cond_true, cond_true, z2e, List.append_nil, Nat.zero_mul]
 have hs : z6d zero.cells (.agg cs) (0, k) = some cs := by
  show (bif Nat.beq (len cs) k then z1q cs zero.cells 0 else none) = _
  rw [z1g, hcl, z1p rfl, cond_true]
  have := z7s cs zero.cells [] (by rw [hzl, hcl]) (fun e => by rw [e] at hcl; simp at hcl; omega) []
  simpa using this
 rw [hs]
 show z0N H e 1 1 cs = _
 unfold z0N
 rw [z1H, h1]; rfl
theorem q6w (z : α) (n : Nat) : z0M (f z) n = (List.replicate n z).flatMap f := by
 induction n with
 | zero => rfl
 | succ n ih =>
  show app (f z) (z0M (f z) n) = _
  rw [z2e, ih, List.replicate_succ, List.flatMap_cons]
theorem w6o {i : TypeInfo} {zero : AV} (hu : G.und t = some (.slice e)) (hty : G.types.get e = some i) (hk : i.size = k) (hby : Nat.ble i.bytes 100000 = true) (hz : G.zero e = some zero) (z : α) (hz0 : zero.cells = f z) (hzl : (f z).length = k) (h1 : z0Y (f z) = true) (n : Nat) (hn : n ≤ 1000) (hnk : n * k ≤ 1000) :
  z1b G H t (.int .i64 (n : Int)) (.int .i64 (n : Int)) = some (.slice H.next 0 n false n, H.push (.cells e true ((List.replicate n z).flatMap f))) := by
 show z0b (Sx.elemOf G t) (fun e => z0b (G.types.get e) (z3o G H e n n)) = _
 rw [z3c hu]
 show z0b (G.types.get e) (z3o G H e n n) = _
 rw [hty]
 show z3o G H e n n i = _
 unfold z3o
 rw [hz]
 show (bif Nat.ble n n then bif Nat.ble (n * (i.bytes + 1)) 1000000000 then bif Nat.beq (len zero.cells) i.size then bif Nat.ble (n * i.size) 1000 then z0N H e n n (z0M zero.cells n) else _ else none else none else none) = _
 have b2 : Nat.ble (n * (i.bytes + 1)) 1000000000 = true := Nat.ble_eq_true_of_le (Nat.le_trans (Nat.mul_le_mul hn (Nat.succ_le_succ (z1k hby))) (by omega))
 rw [Nat.ble_eq_true_of_le (Nat.le_refl n), b2, z1g, hz0, hzl, hk, z1p rfl, Nat.ble_eq_true_of_le hnk, q6w]
 show z0N H e n n ((List.replicate n z).flatMap f) = _
 unfold z0N
 rw [z1H, z9N (fun a ha => by rw [(List.mem_replicate.1 ha).2]; exact h1)]; rfl
end
end Go.Sx
namespace Go.Sx
open Go
section
variable {P : Program} {G : Tab} {e k t : Nat} {H H' : Heap} {v : AV}
theorem k2S {i : TypeInfo} {zero : AV} (hu : G.und t = some (.slice e)) (hty : G.types.get e = some i) (hk : i.size = k) (hk0 : 0 < k) (hby : Nat.ble i.bytes 100000 = true) (hz : G.zero e = some zero) (hzl : zero.cells.length = k)
  {b d n : Nat} {r y : List AV} (hb : H.blks.get b = some (.cells e true r)) (hr : r.length = k) (h1 : z0Y r = true) (hd : H.blks.get d = some (.cells e true y)) (hy : y.length = n * k) (h2 : z0Y y = true) (hn0 : 0 < n) (hn : n ≤ 100000) :
  z3y G H [t, t] [.slice d 0 n false n, .slice b 0 1 false 1] = some (.slice H.next 0 (n + 1) true 0, H.push (.cells e false (y ++ r))) := by
 show z0b (Sx.elemOf G t) (fun e => z0b (G.und t) fun u => bif intD u then z0b (G.types.get e) (z8E G H e (.slice d 0 n false n) (.slice b 0 1 false 1)) else z0b (G.types.get e) (z4E G H e (.slice d 0 n false n) (.slice b 0 1 false 1))) = _
 rw [z3c hu, hu]
 show z0b (G.types.get e) (z4E G H e (.slice d 0 n false n) (.slice b 0 1 false 1)) = _
 rw [hty]
 show z0b (G.zero e) (fun zero => bif Nat.beq i.size 0 then none else bif j0y (.slice b 0 1 false 1) i.size then bif Nat.beq (len zero.cells) i.size then bif Nat.ble i.bytes 100000 then
  bif Nat.ble (n + 1) 1000000 then z0b (z4h H i.size 1 (.slice b 0 1 false 1)) (z1Q H e i.size 1 (.slice d 0 n false n)) else none else none else none else none) = _
 have h9 : Nat.ble (n + 1) 1000000 = true := Nat.ble_eq_true_of_le (by omega)
 rw [hz, hby, hk, h9]
 show (bif Nat.beq k 0 then none else bif Nat.beq (len zero.cells) k then z0b (z4h H k 1 (.slice b 0 1 false 1)) (z1Q H e k 1 (.slice d 0 n false n)) else none) = _
 rw [z0O (by omega : k ≠ 0), z1g, hzl, z1p rfl, cond_false, cond_true, z9O hb hr hk0]
 show (bif Nat.ble (n + 1) n then inPlace H d (0 + n * k) r (.slice d 0 (n + 1) false n)
   else bif Nat.ble n 1000000 then z0b (z0p H d 0 (n * k)) fun old => z2V H e (n + 1) (app old r) else none) = _
 have hnk : 0 < n * k := Nat.mul_pos hn0 hk0
 have hb' : Nat.ble (n + 1) n = false := by
  cases hh : Nat.ble (n + 1) n
  ·rfl
  ·have := z1k hh; omega
 have hb2 : Nat.ble n 1000000 = true := Nat.ble_eq_true_of_le (by omega)
 have hld : z0p H d 0 (n * k) = some y := by
  rw [z9z _ _ _ (by omega), hd]
  show z4T (z6V y 0) (n * k) = _
  rw [z2w, z1R, List.drop_zero, if_pos (Nat.le_of_eq hy.symm), List.take_of_length_le (Nat.le_of_eq hy)]
 rw [hb', cond_false, hb2, cond_true, hld]
 show z2V H e (n + 1) (app y r) = _
 rw [z2e]
 unfold z2V
 rw [z1H, z7t h2 h1]; rfl
theorem z4A (s : List UInt8) : z0A s = s.map z8u := by
 induction s with
 | nil => rfl
 | cons a s ih => show z8u a :: z0A s = _; rw [ih]; rfl
theorem z7u (s : List UInt8) : (z0A s).length = s.length := by rw [z4A, List.length_map]
theorem q9l (s u : List UInt8) : z0A (s ++ u) = z0A s ++ z0A u := by rw [z4A, z4A, z4A, List.map_append]
theorem z7v (s : List UInt8) : z0Y (z0A s) = true := by
 rw [z4A]
 exact z2r.2 fun v hv => by
  obtain ⟨x, _, rfl⟩ := List.mem_map.1 hv; rfl
def BufAt (n0 e : Nat) (H : Heap) (v : AV) (s : List UInt8) : Prop :=
 (v = .nilslice ∧ s = []) ∨ ∃ d, n0 ≤ d ∧ v = .slice d 0 s.length true 0 ∧ H.blks.get d = some (.cells e false (z0A s)) ∧ s ≠ []
theorem BufAt.one {n0 : Nat} {s : List UInt8} (h : BufAt n0 e H v s) : z0E v = true := by
 rcases h with ⟨rfl, _⟩ | ⟨d, _, rfl, _⟩ <;> rfl
theorem BufAt.len {n0 : Nat} {s : List UInt8} (h : BufAt n0 e H v s) (hu : G.und t = some (.slice e)) (K : Heap) : lenA G K t v = some (.int .i64 (s.length : Int)) := by
 rcases h with ⟨rfl, rfl⟩ | ⟨d, _, rfl, _⟩
 ·exact z5G hu K
 ·exact z2t hu K ..
theorem BufAt.to {n0 : Nat} {s : List UInt8} (h : BufAt n0 e H v s) (hh : ∀ b y, n0 ≤ b → H.blks.get b = some (.cells e false y) → H'.blks.get b = some (.cells e false y)) : BufAt n0 e H' v s := by
 rcases h with h | ⟨d, h0, h1, h2, h3⟩
 ·exact .inl h
 ·exact .inr ⟨d, h0, h1, hh _ _ h0 h2, h3⟩
theorem w9m {n0 ts : Nat} {i : TypeInfo} {zero : AV} {s u : List UInt8} (hu : G.und t = some (.slice e)) (hus : G.und ts = some .string) (hty : G.types.get e = some i) (hk : i.size = 1) (hby : Nat.ble i.bytes 100000 = true) (hz : G.zero e = some zero) (hzl : zero.cells.length = 1)
  (h : BufAt n0 e H v s) (hN : Neat H) (hn0 : n0 ≤ H.next) (hl : s.length + u.length ≤ 1000000) (hne : u ≠ []) :
  ∃ v' H', z3y G H [t, ts] [v, .str u] = some (v', H') ∧ BufAt n0 e H' v' (s ++ u) ∧ Neat H' ∧ H'.next = H.next + 1 ∧ ∀ x, x < n0 → H'.blks.get x = H.blks.get x := by
 have hpos : 0 < u.length := List.length_pos_iff.2 hne
 have start : ∀ v : AV, q1L v = s.length → z3y G H [t, ts] [v, .str u] = z1Q H e 1 u.length v (z0A u) := fun v hv => by
  show z0b (Sx.elemOf G t) (fun e => z0b (G.und ts) fun w => bif intD w then z0b (G.types.get e) (z8E G H e v (.str u)) else z0b (G.types.get e) (z4E G H e v (.str u))) = _
  rw [z3c hu, hus]
  show z0b (G.types.get e) (z4E G H e v (.str u)) = _
  rw [hty]
  show z0b (G.zero e) (fun zero => bif Nat.beq i.size 0 then none else bif Nat.beq i.size 1 then bif Nat.beq (len zero.cells) i.size then bif Nat.ble i.bytes 100000 then
   bif Nat.ble (q1L v + len u) 1000000 then z0b (z0b (z4T u (len u)) fun s => some (z0A s)) (z1Q H e i.size (len u) v) else none else none else none else none) = _
  have h9 : Nat.ble (q1L v + u.length) 1000000 = true := Nat.ble_eq_true_of_le (by omega)
  rw [hz, hby, hk, z1g, h9]
  show (bif Nat.beq (len zero.cells) 1 then z0b (z0b (z4T u u.length) fun s => some (z0A s)) (z1Q H e 1 u.length v) else none) = _
  rw [z1g, hzl, z1p rfl, cond_true, z1R, if_pos (Nat.le_refl _), List.take_of_length_le (Nat.le_refl _)]; rfl
 rcases h with ⟨rfl, rfl⟩ | ⟨d, h0, rfl, h2, h3⟩
 ·refine ⟨.slice H.next 0 u.length true 0, H.push (.cells e false (z0A u)), ?_, .inr ⟨H.next, hn0, by simp, by rw [z0F]; simp, by simpa using hne⟩, hN.push _, z0x _ _, fun x hx => z0R _ _ (by omega)⟩
  rw [start .nilslice rfl]
  show (bif Nat.beq u.length 0 then some (AV.nilslice, H) else z2V H e u.length (z0A u)) = _
  rw [z0O (by omega : u.length ≠ 0), cond_false]
  unfold z2V
  rw [z1H, z7v]; rfl
 ·have hsp : 0 < s.length := List.length_pos_iff.2 h3
  have hnx : (z0y H d none).next = H.next := z0h _ _ _
  refine ⟨.slice H.next 0 (s.length + u.length) true 0, (z0y H d none).push (.cells e false (z0A s ++ z0A u)), ?_, .inr ⟨H.next, hn0, by rw [List.length_append], ?_, by simp [h3]⟩, (q4H hN d).push _, by rw [z0x, hnx], fun x hx => ?_⟩
  ·rw [start _ rfl]
   show z0b (z3x e (H.blks.get d)) (fun kn => bif Nat.beq 0 (0 * 1) then
     bif Nat.ble (0 + (s.length + u.length) * 1) kn then inPlace H d (0 + s.length * 1) (z0A u) (.slice d 0 (s.length + u.length) true 0)
     else z0b (z0p H d 0 (s.length * 1)) fun old => z0V H d none fun H' => z2V H' e (s.length + u.length) (app old (z0A u))
    else none) = _
   have hkn : z3x e (H.blks.get d) = some s.length := by
    rw [h2]
    show (bif Nat.beq e e then some (len (z0A s)) else none) = _
    rw [z1p rfl, cond_true, z1g, z7u]
   have hb' : Nat.ble (0 + (s.length + u.length) * 1) s.length = false := by
    cases hh : Nat.ble (0 + (s.length + u.length) * 1) s.length
    ·rfl
    ·have := z1k hh; omega
   have hld : z0p H d 0 (s.length * 1) = some (z0A s) := by
    rw [z9z _ _ _ (by omega), h2]
    show z4T (z6V (z0A s) 0) (s.length * 1) = _
    rw [z2w, z1R, List.drop_zero, Nat.mul_one, if_pos (by rw [z7u]; exact Nat.le_refl _), List.take_of_length_le (by rw [z7u]; exact Nat.le_refl _)]
   rw [hkn]
   show (bif Nat.ble (0 + (s.length + u.length) * 1) s.length then inPlace H d (0 + s.length * 1) (z0A u) (.slice d 0 (s.length + u.length) true 0)
     else z0b (z0p H d 0 (s.length * 1)) fun old => z0V H d none fun H' => z2V H' e (s.length + u.length) (app old (z0A u))) = _
   rw [hb', cond_false, hld]
   show z0V H d none (fun H' => z2V H' e (s.length + u.length) (app (z0A s) (z0A u))) = _
   have e1 : z0V H d none (fun H' => z2V H' e (s.length + u.length) (app (z0A s) (z0A u))) = z2V (z0y H d none) e (s.length + u.length) (app (z0A s) (z0A u)) := by
    unfold z0V z0y
    rw [T.setK_eq, T.setK_eq]
   rw [e1, z2e]
   unfold z2V
   rw [z1H, z7t (z7v s) (z7v u)]
   show some (AV.slice (z0y H d none).next 0 (s.length + u.length) true 0, _) = _
   rw [hnx]
  ·have := z0F (z0y H d none) (.cells e false (z0A s ++ z0A u))
   rw [hnx] at this
   rw [this, q9l]
  ·rw [z0R _ _ (by rw [hnx]; omega), z1D _ _ _ (by omega)]
end
end Go.Sx
namespace Go.Sx
section
variable {P : Program} {G : Tab}
theorem Gets.of_reach {c : Ctx} {x : Code} {s : St} {outs : List (Ex × St)} (h : z4N P G c x s outs) : Gets P G c x s fun e s' => (e, s') ∈ outs :=
 fun ρ D w tm df b k cs hS hR => by
  obtain ⟨p, hp, ρ', D', w', tm', df', h1, h2, h3⟩ := h ρ D w tm df b k cs hS hR
  exact ⟨p.1, p.2, hp, ρ', D', w', tm', df', h1, h2, h3⟩
noncomputable def k2T (v : AV) (o : Option (List AV)) : Bool :=
 match o with
 | some [u] => AV.beq u v
 | _ => false
noncomputable def j3x (H : Heap) (G : Tab) (rs : List ResultVar) (v : AV) (p : Ex × St) : Bool :=
 bif z2W p.1 then (bif z6t p.2.df then (bif k2T v (z0I G p.2.tm p.2.h rs) then (bif Nat.ble H.next p.2.h.next then q4E p.2.h.blks H.blks H.next else false) else false) else false) else false
noncomputable def q4I (H : Heap) (G : Tab) (rs : List ResultVar) (v : AV) (l : List (Ex × St)) : Bool := List.rec true (fun p _ ih => bif j3x H G rs v p then ih else false) l
noncomputable def endOk (H : Heap) (G : Tab) (rs : List ResultVar) (v : AV) (o : Outs) : Bool :=
 match o with
 | none => false
 | some l => q4I H G rs v l
theorem z7w {H : Heap} {rs : List ResultVar} {v : AV} : ∀ {l : List (Ex × St)}, q4I H G rs v l = true → ∀ p ∈ l, j3x H G rs v p = true
 | [], _, p, hp => by simp at hp
 | x :: l, h, p, hp => by
  have h : (bif j3x H G rs v x then q4I H G rs v l else false) = true := h
  obtain ⟨h1, h2⟩ := z0f h
  rcases List.mem_cons.1 hp with rfl | hp
  ·exact h1
  ·exact z7w h2 p hp
theorem k2U (TT : TabOk P G) {m : Nat} {f : FuncId} {fn : Func} {body rest : Code} (hf : P.funcs[f]? = some fn) (hb : fn.body = some body) (hn : (fn.name == "runtime.NumGoroutine") = false) {H : Heap} {s : St} {c : Ctx} (hc : c = ⟨none, fn.ntmps⟩)
  (hr : ∀ outs, z4N P G c rest s outs → z4N P G c body ⟨.e, H, []⟩ outs) {v : AV} (he : endOk H G fn.results.toList v (z0u rest (fns G m) G c s) = true) (hN : Neat H) (hv : ltV H.next v) : CallTo P G f [] H [(v, H)] := by
 subst hc
 cases ho : z0u rest (fns G m) G ⟨none, fn.ntmps⟩ s with
 | none => rw [ho] at he; simp [endOk] at he
 | some l =>
  rw [ho] at he
  have hall := z7w (show q4I H G fn.results.toList v l = true from he)
  refine z0Q TT hf hb hn ?_
  have hG := Gets.of_reach (hr l (q0R TT ho))
  have e0 : ([] : List AV).length + (fn.ntmps - ([] : List AV).length) = fn.ntmps := by simp
  rw [e0]
  refine Gets.mono hG fun e s' hm => ?_
  have h1 := hall _ hm
  obtain ⟨k1, h2⟩ := z0f h1
  obtain ⟨k2, h3⟩ := z0f h2
  obtain ⟨k3, h4⟩ := z0f h3
  obtain ⟨k4, k5⟩ := z0f h4
  have k2 : s'.df = [] := (z3l _).1 k2
  refine ⟨k1, k2, ?_⟩
  unfold k2T at k3
  split at k3
  ·rename_i u hu
   have k3 := AV.beq_eq _ _ k3
   subst k3
   exact ⟨[u], hu, (u, H), List.mem_singleton.2 rfl, .pure (z1k k4) (z6S k5) hN hv⟩
  ·simp at k3
end
end Go.Sx
namespace Go.Sx
section
variable {P : Program} {G : Tab}
theorem Gets.loop1 {c : Ctx} {x : Code} {s : St} {Q : Ex → St → Prop} (h : Gets P G c x s fun e s' => match e with | .normal => Gets P G c (.loop x) s' Q | e => Q e s') : Gets P G c (.loop x) s Q := by
 intro ρ D w tm df b k cs hS hR
 obtain ⟨e, s', h1, ρ', D', w', tm', df', g1, g2, g3⟩ := h ρ D w tm df b (.inLoop x :: k) cs hS hR
 have first : Steps P (lone (fat b tm df (entry (.loop x) k)) cs w) (lone (fat b tm df (entry x (.inLoop x :: k))) cs w) := z0P
 cases e with
 | normal =>
  obtain ⟨e₂, s₂, h2, ρ₂, D₂, w₂, tm₂, df₂, f1, f2, f3⟩ := h1 ρ' D' w' tm' df' b k cs g1 (hR.sub g2.sub)
  exact ⟨e₂, s₂, h2, ρ₂, D₂, w₂, tm₂, df₂, f1, g2.trans f2, Arr.of_steps (first.trans (Steps.trans g3 (.one z9i))) f3⟩
 | exit j => exact ⟨_, s', h1, ρ', D', w', tm', df', g1, g2, Arr.of_steps first (Arr.pass (by simp) (fun _ _ => rfl) (fun _ _ => rfl) g3)⟩
 | goto j => exact ⟨_, s', h1, ρ', D', w', tm', df', g1, g2, Arr.of_steps first (Arr.pass (by simp) (fun _ _ => rfl) (fun _ _ => rfl) g3)⟩
 | ret => exact ⟨_, s', h1, ρ', D', w', tm', df', g1, g2, Arr.of_steps first (Arr.pass (by simp) (fun _ _ => rfl) (fun _ _ => rfl) g3)⟩
theorem Gets.weak {c : Ctx} {x : Code} {s s' : St} {Q : Ex → St → Prop} (hs : q2u s s' = true) (h : Gets P G c x s' Q) : Gets P G c x s Q := by
 intro ρ D w tm df b k cs hS hR
 obtain ⟨g1, g2⟩ := q7u hs hS
 obtain ⟨e, s1, h1, ρ', D', w', tm', df', f1, f2, f3⟩ := h ρ D w tm df b k cs g1 hR
 exact ⟨e, s1, h1, ρ', D', w', tm', df', f1, ⟨f2.sub, Nat.le_trans g2 f2.next, fun b hb => (f2.new b hb).imp_right (Nat.le_trans g2)⟩, f3⟩
theorem Gets.code (TT : TabOk P G) {ov : Ov} (ho : OvOk P G ov) {m : Nat} {c : Ctx} {x : Code} {s : St} {l : List (Ex × St)} (h : z0u x (fnsO G ov m) G c s = some l) : Gets P G c x s fun e s' => (e, s') ∈ l :=
 Gets.of_reach fun ρ D w tm df b k cs hS hR => q0S TT ho m x c s l h ρ D w tm df b k cs hS hR
noncomputable def loopTo (r : St → Outs) (n : Nat) : St → Outs := Nat.rec (fun s => some [(.normal, s)]) (fun _ ih s => z2k (r s) (z4j ih)) n
theorem Gets.loopTo (TT : TabOk P G) {ov : Ov} (ho : OvOk P G ov) {m : Nat} {c : Ctx} {x : Code} {Q : Ex → St → Prop} : ∀ (n : Nat) (s : St) (l : List (Ex × St)), Sx.loopTo (z0u x (fnsO G ov m) G c) n s = some l →
  (∀ p ∈ l, p.1 = .normal ∧ Gets P G c (.loop x) p.2 Q) → Gets P G c (.loop x) s Q := by
 intro n
 induction n with
 | zero =>
  intro s l h hl
  have h : some [(Ex.normal, s)] = some l := h
  simp only [Option.some.injEq] at h; subst h
  exact (hl _ (List.mem_singleton.2 rfl)).2
 | succ n ih =>
  intro s l h hl
  have h : z2k (z0u x (fnsO G ov m) G c s) (z4j (Sx.loopTo (z0u x (fnsO G ov m) G c) n)) = some l := h
  obtain ⟨l1, h1, hin⟩ := z0J h
  refine Gets.loop1 ((Gets.code TT ho h1).mono fun e s1 hm => ?_)
  obtain ⟨z, hz, hzin⟩ := hin _ hm
  rcases z3E hz with ⟨e1, e2⟩ | ⟨e1, e2⟩
  ·simp only at e1 e2
   subst e1
   exact ih s1 z e2 fun p hp => hl p (hzin p hp)
  ·subst e2
   exact absurd (hl _ (hzin _ (List.mem_singleton.2 rfl))).1 e1
theorem Gets.loopSeg (TT : TabOk P G) {ov : Ov} (ho : OvOk P G ov) {m n : Nat} {c : Ctx} {x : Code} {s s' : St} {Q : Ex → St → Prop} (h : z2s s' (Sx.loopTo (z0u x (fnsO G ov m) G c) n s) = true) (hr : Gets P G c (.loop x) s' Q) : Gets P G c (.loop x) s Q := by
 cases ho' : Sx.loopTo (z0u x (fnsO G ov m) G c) n s with
 | none => rw [ho'] at h; simp [z2s] at h
 | some l =>
  rw [ho'] at h
  have hall := z7m (l := l) h
  exact Gets.loopTo TT ho n s l ho' fun p hp => ⟨(hall p hp).1, .weak (hall p hp).2 hr⟩
theorem Gets.segs (TT : TabOk P G) {ov : Ov} (ho : OvOk P G ov) {m : Nat} {c : Ctx} {Q : Ex → St → Prop} : ∀ (n : Nat) (x : Code) (s : St) (l : List (Ex × St)), z4u n x (fnsO G ov m) G c s = some l →
  (∀ p ∈ l, p.1 = .normal ∧ Gets P G c (z2L n x) p.2 Q) → Gets P G c x s Q := by
 intro n
 induction n with
 | zero =>
  intro x s l h hl
  have h : some [(Ex.normal, s)] = some l := h
  simp only [Option.some.injEq] at h; subst h
  exact (hl _ (List.mem_singleton.2 rfl)).2
 | succ n ih =>
  intro x s l h hl
  cases x with
  | seq a y =>
   have h : z2k (z0u a (fnsO G ov m) G c s) (z4j (z4u n y (fnsO G ov m) G c)) = some l := h
   obtain ⟨l1, h1, hin⟩ := z0J h
   refine Gets.seq ((Gets.code TT ho h1).mono fun e s1 hm => ?_)
   obtain ⟨z, hz, hzin⟩ := hin _ hm
   rcases z3E hz with ⟨e1, e2⟩ | ⟨e1, e2⟩
   ·simp only at e1 e2
    subst e1
    exact ih y s1 z e2 fun p hp => hl p (hzin p hp)
   ·subst e2
    exact absurd (hl _ (hzin _ (List.mem_singleton.2 rfl))).1 e1
  | _ => have h : (none : Outs) = some l := h; simp at h
theorem Gets.seg (TT : TabOk P G) {ov : Ov} (ho : OvOk P G ov) {m n : Nat} {c : Ctx} {x : Code} {s s' : St} {Q : Ex → St → Prop} (h : z2s s' (z4u n x (fnsO G ov m) G c s) = true) (hr : Gets P G c (z2L n x) s' Q) : Gets P G c x s Q := by
 cases ho' : z4u n x (fnsO G ov m) G c s with
 | none => rw [ho'] at h; simp [z2s] at h
 | some l =>
  rw [ho'] at h
  have hall := z7m (l := l) h
  exact Gets.segs TT ho n x s l ho' fun p hp => ⟨(hall p hp).1, .weak (hall p hp).2 hr⟩
theorem Gets.endOk (TT : TabOk P G) {ov : Ov} (ho : OvOk P G ov) {m : Nat} {c : Ctx} {x : Code} {s : St} {H : Heap} {rs : List ResultVar} {v : AV} (he : Sx.endOk H G rs v (z0u x (fnsO G ov m) G c s) = true) (hN : Neat H) (hv : ltV H.next v) :
  Gets P G c x s fun e s' => z2W e = true ∧ s'.df = [] ∧ ∃ vs, z0I G s'.tm s'.h rs = some vs ∧ ∃ p ∈ [(v, H)], Cut H p (z2d vs) s'.h := by
 cases ho' : z0u x (fnsO G ov m) G c s with
 | none => rw [ho'] at he; simp [Sx.endOk] at he
 | some l =>
  rw [ho'] at he
  have hall := z7w (show q4I H G rs v l = true from he)
  refine (Gets.code TT ho ho').mono fun e s' hm => ?_
  have h1 := hall _ hm
  obtain ⟨k1, h2⟩ := z0f h1
  obtain ⟨k2, h3⟩ := z0f h2
  obtain ⟨k3, h4⟩ := z0f h3
  obtain ⟨k4, k5⟩ := z0f h4
  have k2 : s'.df = [] := (z3l _).1 k2
  refine ⟨k1, k2, ?_⟩
  unfold k2T at k3
  split at k3
  ·rename_i u hu
   have k3 := AV.beq_eq _ _ k3
   subst k3
   exact ⟨[u], hu, (u, H), List.mem_singleton.2 rfl, .pure (z1k k4) (z6S k5) hN hv⟩
  ·simp at k3
theorem z2Q (TT : TabOk P G) {f : FuncId} {fn : Func} {body : Code} (hf : P.funcs[f]? = some fn) (hb : fn.body = some body) (hn : (fn.name == "runtime.NumGoroutine") = false) {args : List AV} {H : Heap} {outs : List VH}
  (hg : Gets P G ⟨none, args.length + (fn.ntmps - args.length)⟩ body ⟨z4v args, H, []⟩ fun e s' =>
   z2W e = true ∧ s'.df = [] ∧ ∃ vs, z0I G s'.tm s'.h fn.results.toList = some vs ∧ (z2d vs, s'.h) ∈ outs) : CallTo P G f args H outs := by
 intro ρ D w kind cs hH ha
 refine ⟨⟨fn, body, hf, hb, hn⟩, ?_⟩
 obtain ⟨tm, e1, e2⟩ := q2m args .e 0 (id : T AV → T AV)
 have htm : z4v args = tm := e1
 rw [htm] at hg
 let b : Frame := { fn := f, tmps := #[], todo := [], defers := [], mode := .run, kind := kind.1 }
 have henter : Frame.enter P f (concL ρ args).toArray kind.1 = fat b ((concL ρ args).toArray ++ Array.replicate (fn.ntmps - (concL ρ args).toArray.size) undef) [] [.code body] := by
  simp [Frame.enter, fat, hf, hb, b]
 rw [henter]
 obtain ⟨e, s', ⟨q1, q2, vs, q3, hp⟩, ρ', D', w', tm', df', r1, r2, r3⟩ := hg ρ D w _ [] b [] cs ⟨hH, z8k ha e2, trivial⟩ rfl
 have hend : z2G (fnsO G (fun _ _ _ => none) 0) G fn.results.toList (e, s') = some [(z2d vs, s'.h)] := by
  obtain ⟨tm₀, h₀, df₀⟩ := s'
  simp only at q2 q3
  subst q2
  unfold z2G
  simp only [q1, cond_true]
  show z0b (z0I G tm₀ h₀ fn.results.toList) (fun vs => some [(z2d vs, h₀)]) = _
  rw [q3]; rfl
 obtain ⟨q, hq, ρ₂, D₂, w₂, todo, g1, g2, g3, g4, g5⟩ := z5D TT (z6k TT (fun _ _ _ _ h => by simp at h) 0) hend r1 b rfl cs (r3.of_steps z0P)
 simp only [List.mem_singleton] at hq
 subst hq
 exact ⟨_, hp, ρ₂, D₂, w₂, _, g1, r2.trans g2, g3, g4, rfl, rfl, rfl, rfl, fn, hf, g5⟩
theorem CallTo.more {f : FuncId} {args : List AV} {H H' : Heap} {outs : List VH} (h : CallTo P G f args H outs) (hs : ∀ b o, H.blks.get b = some o → H'.blks.get b = some o) (hn : H'.next ≤ H.next) : CallTo P G f args H' outs := by
 intro ρ D w kind cs hH ha
 obtain ⟨h0, p, hp, ρ', D', w', fr, h1, h2, h3⟩ := h ρ D w kind cs (hH.less hs hn) ha
 exact ⟨h0, p, hp, ρ', D', w', fr, h1, ⟨h2.sub, Nat.le_trans hn h2.next, fun b hb => (h2.new b hb).imp_right (Nat.le_trans hn)⟩, h3⟩
noncomputable def ovPt (f : FuncId) (args : List AV) (H : Heap) (out : VH) : Ov := fun f' args' H' =>
 bif Nat.beq f' f then (bif z2a AV.beq args' args then (bif z7l H.blks H'.blks then (bif Nat.ble H'.next H.next then some [out] else none) else none) else none) else none
theorem z6m {f : FuncId} {args : List AV} {H : Heap} {out : VH} (h : CallTo P G f args H [out]) : OvOk P G (ovPt f args H out) := by
 intro f' args' H' outs ho
 obtain ⟨h1, ho⟩ := z0c ho
 obtain ⟨h2, ho⟩ := z0c ho
 obtain ⟨h3, ho⟩ := z0c ho
 obtain ⟨h4, ho⟩ := z0c ho
 simp only [Option.some.injEq] at ho; subst ho
 have h1 := z0C h1
 have h2 := z4r (fun a b => AV.beq_eq a b) _ _ h2
 subst h1 h2
 exact h.more (z5E h3) (z1k h4)
noncomputable def ovOr (a b : Ov) : Ov := fun f args H => orOv (a f args H) (b f args H)
theorem z6n {a b : Ov} (ha : OvOk P G a) (hb : OvOk P G b) : OvOk P G (ovOr a b) := by
 intro f args H outs h
 unfold ovOr orOv at h
 split at h
 ·rename_i l hl
  simp only [Option.some.injEq] at h; subst h
  exact ha _ _ _ _ hl
 ·exact hb _ _ _ _ h
theorem Gets.keep {c : Ctx} {x : Code} {s : St} {R Q : Ex → St → Prop} (h : Gets P G c x s R) (hw : ∀ e s1, R e s1 → ∃ H : Heap, (∀ b o, H.blks.get b = some o → s1.h.blks.get b = some o) ∧ s1.h.next ≤ H.next ∧ Q e ⟨s1.tm, H, s1.df⟩) : Gets P G c x s Q := by
 intro ρ D w tm df b k cs hS hR
 obtain ⟨e, s1, h1, ρ', D', w', tm', df', f1, f2, f3⟩ := h ρ D w tm df b k cs hS hR
 obtain ⟨H, q1, q2, q3⟩ := hw e s1 h1
 exact ⟨e, _, q3, ρ', D', w', tm', df', ⟨f1.h.less q1 q2, f1.t, f1.d⟩, ⟨f2.sub, Nat.le_trans f2.next q2, f2.new⟩, f3⟩
noncomputable def j3y (j : Nat) (e : Ex) : Bool :=
 match e with
 | .exit k => Nat.beq k j
 | _ => false
noncomputable def q2T (j : Nat) (s' : St) (l : List (Ex × St)) : Bool := List.rec true (fun p _ ih => bif j3y j p.1 then (bif q2u p.2 s' then ih else false) else false) l
noncomputable def q2U (j : Nat) (s' : St) (o : Outs) : Bool :=
 match o with
 | none => false
 | some l => q2T j s' l
theorem q6x {j : Nat} {s' : St} : ∀ {l : List (Ex × St)}, q2T j s' l = true → ∀ p ∈ l, p.1 = .exit j ∧ q2u p.2 s' = true := by
 intro l
 induction l with
 | nil => intro _ p hp; simp at hp
 | cons a l ih =>
  intro h p hp
  have h : (bif j3y j a.1 then (bif q2u a.2 s' then q2T j s' l else false) else false) = true := h
  obtain ⟨h1, h2⟩ := z0f h
  obtain ⟨h2, h3⟩ := z0f h2
  rcases List.mem_cons.1 hp with rfl | hp
  ·refine ⟨?_, h2⟩
   cases hp1 : p.1 <;> rw [hp1] at h1 <;> simp [j3y] at h1 ⊢
   exact h1
  ·exact ih h3 p hp
theorem q6y {s s' : St} (h : q2u s s' = true) : s' = ⟨s.tm, s'.h, s.df⟩ ∧ (∀ b o, s'.h.blks.get b = some o → s.h.blks.get b = some o) ∧ s.h.next ≤ s'.h.next := by
 obtain ⟨h1, h⟩ := z0f h
 obtain ⟨h2, h⟩ := z0f h
 obtain ⟨h3, h⟩ := z0f h
 obtain ⟨h4, h5⟩ := z0f h
 have h1 := T.beq_eq AV.beq_eq _ _ h1
 have h4 := (z3l _).1 h4
 have h5 := (z3l _).1 h5
 refine ⟨?_, z5E h2, z1k h3⟩
 cases s; cases s'; simp_all
theorem Gets.loopExit (TT : TabOk P G) {ov : Ov} (ho : OvOk P G ov) {m j : Nat} {c : Ctx} {x : Code} {s s' : St} {Q : Ex → St → Prop} (h : q2U j s' (z0u x (fnsO G ov m) G c s) = true) (hq : Q (.exit j) s') : Gets P G c (.loop x) s Q := by
 cases ho' : z0u x (fnsO G ov m) G c s with
 | none => rw [ho'] at h; simp [q2U] at h
 | some l =>
  rw [ho'] at h
  have hall := q6x (l := l) h
  refine Gets.loop1 ((Gets.code TT ho ho').keep fun e s1 hm => ?_)
  obtain ⟨h1, h2⟩ := hall _ hm
  obtain ⟨h3, h4, h5⟩ := q6y h2
  simp only at h1
  subst h1
  exact ⟨s'.h, h4, h5, by show Q (.exit j) _; rw [← h3]; exact hq⟩
noncomputable def w6p (v : AV) (o : Option (List AV)) : Bool :=
 match o with
 | some vs => AV.beq (z2d vs) v
 | none => false
noncomputable def q6z (G : Tab) (rs : List ResultVar) (v : AV) (H : Heap) (p : Ex × St) : Bool :=
 bif z2W p.1 then (bif z6t p.2.df then (bif w6p v (z0I G p.2.tm H rs) then (bif z7l H.blks p.2.h.blks then Nat.ble p.2.h.next H.next else false) else false) else false) else false
noncomputable def q2V (G : Tab) (rs : List ResultVar) (v : AV) (H : Heap) (l : List (Ex × St)) : Bool := List.rec true (fun p _ ih => bif q6z G rs v H p then ih else false) l
noncomputable def endAll (G : Tab) (rs : List ResultVar) (v : AV) (H : Heap) (o : Outs) : Bool :=
 match o with
 | none => false
 | some l => q2V G rs v H l
theorem z9P {rs : List ResultVar} {v : AV} {H : Heap} : ∀ {l : List (Ex × St)}, q2V G rs v H l = true → ∀ p ∈ l, q6z G rs v H p = true
 | [], _, p, hp => by simp at hp
 | x :: l, h, p, hp => by
  have h : (bif q6z G rs v H x then q2V G rs v H l else false) = true := h
  obtain ⟨h1, h2⟩ := z0f h
  rcases List.mem_cons.1 hp with rfl | hp
  ·exact h1
  ·exact z9P h2 p hp
theorem Gets.endAll (TT : TabOk P G) {ov : Ov} (ho : OvOk P G ov) {m : Nat} {c : Ctx} {x : Code} {s : St} {H : Heap} {rs : List ResultVar} {v : AV} (he : Sx.endAll G rs v H (z0u x (fnsO G ov m) G c s) = true) :
  Gets P G c x s fun e s' => z2W e = true ∧ s'.df = [] ∧ ∃ vs, z0I G s'.tm s'.h rs = some vs ∧ (z2d vs, s'.h) ∈ [(v, H)] := by
 cases ho' : z0u x (fnsO G ov m) G c s with
 | none => rw [ho'] at he; simp [Sx.endAll] at he
 | some l =>
  rw [ho'] at he
  have hall := z9P (show q2V G rs v H l = true from he)
  refine (Gets.code TT ho ho').keep fun e s1 hm => ?_
  have h1 := hall _ hm
  obtain ⟨k1, h2⟩ := z0f h1
  obtain ⟨k2, h3⟩ := z0f h2
  obtain ⟨k3, h4⟩ := z0f h3
  obtain ⟨k4, k5⟩ := z0f h4
  refine ⟨H, z5E k4, z1k k5, k1, (z3l _).1 k2, ?_⟩
  unfold w6p at k3
  split at k3
  ·rename_i vs hu
   have k3 := AV.beq_eq _ _ k3
   exact ⟨vs, hu, by rw [← k3]; exact List.mem_singleton.2 rfl⟩
  ·simp at k3
def w9n (x : Code) : Code := match x with | .seq (.block _ (.loop b)) _ => b | _ => .skip
end
end Go.Sx
namespace Go.Sx
open Go Go.RowKit
section
variable {P : Program} {G : Tab}
theorem HRel.below {ρ : Env} {D : Nat → Prop} {w w' : World} {H : Heap} (hH : HRel G ρ D w H) (hb : Below w.heap.size w w') : HRel G ρ D w' H :=
 ⟨hH.lt, hH.glob, hH.inj, fun b o hD ho => (hH.blk b o hD ho).sub (.refl _ _) hD (hb.block _ (hH.blk b o hD ho).stands),
  fun i o hi => ⟨by
   have h1 := (hH.rest i o hi).1
   rw [hb.block i (Array.getElem?_eq_some_iff.1 h1).1]; exact h1, (hH.rest i o hi).2⟩, hH.kin.trans ⟨hb.os, hb.tape, hb.output, hb.size⟩⟩
theorem CallTo.of_calls {f : FuncId} {args : List AV} {H : Heap} {v : AV} (hf : ∃ fn body, P.funcs[f]? = some fn ∧ fn.body = some body ∧ (fn.name == "runtime.NumGoroutine") = false)
  (h : ∀ (ρ : Env) (D : Nat → Prop) (w : World), HRel G ρ D w H → okL ρ D args → okV ρ D v ∧ Calls P f (concL ρ args).toArray w fun e w' => e = .returned (conc ρ v) ∧ Below w.heap.size w w') :
  CallTo P G f args H [(v, H)] := by
 intro ρ D w kind cs hH ha
 refine ⟨hf, (v, H), List.mem_singleton.2 rfl, ?_⟩
 obtain ⟨hv, hc⟩ := h ρ D w hH ha
 obtain ⟨e, w', fr, ⟨rfl, hb⟩, hs, h1, h2⟩ := hc cs
 obtain ⟨k, hk⟩ := kind
 subst hk
 obtain ⟨m1, m2, m3, fn, m4, m5⟩ := h2
 exact ⟨ρ, D, w', fr, hH.below hb, .refl _ _ _, hv, hs, h1, m1, m2, m3, fn, by rw [← h1]; exact m4, m5⟩
end
end Go.Sx
namespace Go.Sx
open Go Go.RowKit
section
variable {P : Program} {G : Tab}
theorem k3m {W : World} {l : List (String × DataW Unit)} (h : laidMet P l W) {n : String} {g t e : Nat} {k : IntKind} {xs : List Int}
  (hm : (n, DataW.agg (xs.map fun x => .lit (.int k x))) ∈ l) (hg : P.globalNamed n = some g) (ht : (P.globals[g]?).map (·.type) = some t) (hu : P.underlying t = some (.array xs.length e)) (hc : P.cellsOf e = 1)
  (hi : P.underlying e = some (.int k)) (hne : xs ≠ []) (hct : P.cellsOf t = xs.length) :
  ∃ el : TypeId, W.heap[g]? = some (.cells (xs.map fun x => Value.int k x).toArray el (0, 0)) := by
 obtain ⟨arr, el, h1, h2, h3⟩ := z9t h hm hg ht hu hc hi hne
 obtain ⟨ps, hv, _, hps⟩ := h
 obtain ⟨g', t', cs, fuel, p, k1, k2, k3, k4, k5⟩ := z3a hv n _ hm
 obtain rfl : g' = g := Option.some.inj (k1.symm.trans hg)
 obtain rfl : t' = t := Option.some.inj (k2.symm.trans ht)
 obtain ⟨_, _, _, _, hl, _, _⟩ := DataW.trod_array hu k4
 have hcs : arr = cs := by
  unfold World.var? at k3
  rw [k1] at k3
  simp only [Option.bind_some, h1, Option.some.injEq] at k3
  exact k3
 subst hcs
 rw [hct] at hl
 refine ⟨el, ?_⟩
 rw [h1]
 have he : arr = (xs.map fun x => Value.int k x).toArray := by
  apply Array.ext'
  apply List.ext_getElem?
  intro i
  rw [Array.getElem?_toList, List.getElem?_map]
  by_cases hi' : i < xs.length
  ·rw [List.getElem?_eq_getElem hi', h3 i _ (List.getElem?_eq_getElem hi')]; rfl
  ·rw [List.getElem?_eq_none (by omega), Array.getElem?_eq_none (by rw [← Array.length_toList, hl]; omega)]; rfl
 rw [he]
theorem k3n {W : World} {H : Heap} (hn : G.nglob ≤ H.next) (hlt : ∀ x o, H.blks.get x = some o → x < H.next)
  (hget : ∀ x o, H.blks.get x = some o → (∃ (t : TypeId) (k : IntKind) (xs : List Int) (el : TypeId) (arr : Array Value), o = .big t xs.length (xs.map fun x => .int k x) ∧ W.heap[x]? = some (.cells arr el (0, 0)) ∧ xs.length ≤ arr.size ∧ ∀ (i : Nat) (y : Int), xs[i]? = some y → arr[i]? = some (Value.int k y)) ∨
   (∃ (t : TypeId) (k : IntKind) (xs : List Int) (el : TypeId), o = .fix t (xs.map fun x => .int k x) ∧ W.heap[x]? = some (.cells (xs.map fun x => Value.int k x).toArray el (0, 0)))) :
  HRel G (z5p W) (fun x => x < H.next) W H := by
 refine ⟨fun x hx => hx, fun x hx => ⟨Nat.lt_of_lt_of_le hx hn, rfl, rfl⟩, fun x y p q hx hy hox hoy hxy => .inl hxy, fun x o hx hox => ?_, fun i o hi => ⟨hi, fun x hx _ => ?_⟩, .refl _⟩
 ·rcases hget x o hox with ⟨t, k, xs, el, arr, rfl, hg, hsz, harr⟩ | ⟨t, k, xs, el, rfl, hg⟩
  ·refine ⟨z0w.2 fun v hv => ?_, _, _, _, hg, by show 0 + xs.length ≤ arr.size; omega, fun i v hi hv => ?_⟩
   ·obtain ⟨x, _, rfl⟩ := List.mem_map.1 hv; trivial
   ·rw [List.length_map, Nat.mod_eq_of_lt hi, List.getElem?_map] at hv
    obtain ⟨x, hx, rfl⟩ := Option.map_eq_some_iff.1 hv
    show arr[0 + i]? = _
    rw [Nat.zero_add]
    exact harr i x hx
  ·refine ⟨z0w.2 fun v hv => ?_, el, (0, 0), ?_⟩
   ·obtain ⟨x, _, rfl⟩ := List.mem_map.1 hv; trivial
   ·show W.heap[x]? = _
    rw [hg, z0k, List.map_map]; rfl
 ·cases ho : H.blks.get x with
  | none => trivial
  | some o => rcases hget x o ho with ⟨_, _, _, _, _, rfl, _⟩ | ⟨_, _, _, _, rfl, _⟩ <;> trivial
theorem k3o {ρ : Env} {D : Nat → Prop} {w : World} {H : Heap} (hH : HRel G ρ D w H) {n : String} {g : Nat} {t : TypeId} {k : IntKind} {xs : List Int} (hg : P.globalNamed n = some g) (hgl : g < G.nglob)
  (hb : H.blks.get g = some (.fix t (xs.map fun x => .int k x))) : Lib.TabIs P w n k xs := by
 obtain ⟨d1, d2, d3⟩ := hH.glob g hgl
 obtain ⟨_, el, fz, h2⟩ := hH.blk g _ d1 hb
 rw [d2] at h2
 unfold Lib.TabIs World.var?
 rw [hg]
 simp only [Option.bind_some, h2]
 rw [z0k, List.map_map]; rfl
end
end Go.Sx
namespace Go.Sx
open Go Go.RowKit
section
variable {P : Program} {G : Tab}
def litV : Lit → Value
 | .int k n => .int k n
 | .string s => .string ⟨s.toArray⟩
 | _ => .bool false
def j6K (P : Program) (t : TypeId) (x : Lit) : Prop :=
 match x with
 | .int k _ => P.underlying t = some (.int k)
 | .string _ => P.underlying t = some .string
 | _ => False
theorem j3z {W : World} {l : List (String × DataW Unit)} (h : laidMet P l W) {n : String} {g t e : Nat} {fs : Array Field} {rows : List (List Lit)}
  (hm : (n, DataW.agg (rows.map fun r => .agg (r.map .lit))) ∈ l) (hg : P.globalNamed n = some g) (ht : (P.globals[g]?).map (·.type) = some t) (hu : P.underlying t = some (.array rows.length e)) (hs : P.underlying e = some (.struct fs))
  {w : Nat} (hc : P.cellsOf e = w) (hf : ∀ r ∈ rows, ∀ (j : Nat) (x : Lit), r[j]? = some x → ∃ f, fs[j]? = some f ∧ f.offset = j ∧ P.cellsOf f.type = 1 ∧ j6K P f.type x) :
  ∃ (arr : Array Value) (el : TypeId) (fz : Nat × Nat), W.heap[g]? = some (.cells arr el fz) ∧ ∀ (i j : Nat) (r : List Lit) (x : Lit), rows[i]? = some r → r[j]? = some x → j < w → arr[i * w + j]? = some (litV x) := by
 obtain ⟨ps, hv, _, hps⟩ := h
 obtain ⟨g', t', cs, fuel, p, k1, k2, k3, k4, k5⟩ := z3a hv n _ hm
 obtain rfl : g' = g := Option.some.inj (k1.symm.trans hg)
 obtain rfl : t' = t := Option.some.inj (k2.symm.trans ht)
 obtain ⟨ys, m, _, hx, _, hyl, hel⟩ := DataW.trod_array hu k4
 simp only [Prod.mk.injEq, DataW.agg.injEq] at hx
 have hvar : ∃ el f, W.heap[g']? = some (.cells cs el f) := by
  unfold World.var? at k3
  rw [k1] at k3
  simp only [Option.bind_some] at k3
  split at k3
  ·rename_i c el f hh
   simp only [Option.some.injEq] at k3; subst k3
   exact ⟨el, f, hh⟩
  ·simp at k3
 obtain ⟨el, fg, hgc⟩ := hvar
 refine ⟨cs, el, fg, hgc, fun i j r x hr hx' hj => ?_⟩
 have hil : i < rows.length := (List.getElem?_eq_some_iff.1 hr).1
 have h1 := hel i hil
 rw [hc, List.getElem?_eq_getElem (by omega)] at h1
 obtain ⟨zs, m2, _, hz, _, hzl, hfl⟩ := DataW.trod_struct hs h1
 obtain ⟨f, f1, f2, f3, f4⟩ := hf r (List.mem_of_getElem? hr) j x hx'
 have h2 : (rows.map fun r => (DataW.agg (r.map .lit) : DataW Unit))[i]? = (ys.map (·.1))[i]? := by rw [hx.1]
 rw [List.getElem?_map, List.getElem?_map, hr, List.getElem?_eq_getElem (by omega), Option.map_some, Option.map_some, hz] at h2
 simp only [Option.some.injEq, DataW.agg.injEq] at h2
 have h3 := hfl j f f1
 rw [f2, f3] at h3
 have hjz : j < zs.length := by
  have hl := congrArg List.length h2
  rw [List.length_map, List.length_map] at hl
  have := (List.getElem?_eq_some_iff.1 hx').1
  omega
 rw [List.getElem?_eq_getElem hjz] at h3
 have h4 : (r.map (DataW.lit : Lit → DataW Unit))[j]? = (zs.map (·.1))[j]? := by rw [h2]
 rw [List.getElem?_map, List.getElem?_map, hx', List.getElem?_eq_getElem hjz, Option.map_some, Option.map_some] at h4
 simp only [Option.some.injEq] at h4
 have hcell : cs[i * w + j]? = ((((cs.toList.drop (i * w)).take w).drop j).take 1)[0]? := by
  rw [List.getElem?_take_of_lt (by omega), List.getElem?_drop, Nat.add_zero, List.getElem?_take_of_lt hj, List.getElem?_drop, Array.getElem?_toList]
 rw [hcell]
 cases x with
 | int k n =>
  obtain ⟨z, e1, e2, _⟩ := DataW.trod_int f4 h3
  rw [e2] at h4
  simp only [DataW.lit.injEq, Lit.int.injEq, true_and] at h4
  rw [e1, ← h4]; rfl
 | string s =>
  obtain ⟨z, e1, e2, _⟩ := DataW.trod_string f4 h3
  rw [e2] at h4
  simp only [DataW.lit.injEq, Lit.string.injEq] at h4
  rw [e1]
  show some (Value.string z) = some (Value.string ⟨s.toArray⟩)
  rw [h4]
 | _ => exact f4.elim
theorem j3A {W : World} {H : Heap} (hn : G.nglob ≤ H.next)
  (hget : ∀ x o, H.blks.get x = some o → ∃ (t : TypeId) (xs : List AV) (el : TypeId) (arr : Array Value) (fz : Nat × Nat), o = .big t xs.length xs ∧ okL (z5p W) (fun x => x < H.next) xs ∧ W.heap[x]? = some (.cells arr el fz) ∧ ∀ (i : Nat) (y : AV), xs[i]? = some y → arr[i]? = some (conc (z5p W) y)) :
  HRel G (z5p W) (fun x => x < H.next) W H := by
 refine ⟨fun x hx => hx, fun x hx => ⟨Nat.lt_of_lt_of_le hx hn, rfl, rfl⟩, fun x y p q hx hy hox hoy hxy => .inl hxy, fun x o hx hox => ?_, fun i o hi => ⟨hi, fun x hx _ => ?_⟩, .refl _⟩
 ·obtain ⟨t, xs, el, arr, fz, rfl, hk, hg, harr⟩ := hget x o hox
  refine ⟨hk, arr, el, fz, hg, ?_, fun i v hi hv => ?_⟩
  ·show 0 + xs.length ≤ arr.size
   cases hl : xs.length with
   | zero => omega
   | succ n =>
    have := harr n xs[n] (List.getElem?_eq_getElem (by omega))
    have := (Array.getElem?_eq_some_iff.1 this).1
    omega
  ·rw [Nat.mod_eq_of_lt hi] at hv
   show arr[0 + i]? = _
   rw [Nat.zero_add]
   exact harr i v hv
 ·cases ho : H.blks.get x with
  | none => trivial
  | some o => obtain ⟨_, _, _, _, _, rfl, _⟩ := hget x o ho; trivial
def q2W (d : TypeDesc) : Bool :=
 match d with
 | .func .. => true
 | _ => false
theorem q9m {W : World} {n : String} {ds : List (DataW Unit)} (h : funcsAt P W n (.agg ds)) {g t e : Nat} (hg : P.globalNamed n = some g) (ht : (P.globals[g]?).map (·.type) = some t) (hu : P.underlying t = some (.array ds.length e)) (hc : P.cellsOf e = 1) (hct : P.cellsOf t = ds.length) :
  ∃ (arr : Array Value) (el : TypeId) (fz : Nat × Nat) (m : Nat) (ys : List (DataW (List UInt8) × List MemPlace)), W.heap[g]? = some (.cells arr el fz) ∧ ys.map (·.1) = DataW.funcsOutAll ds ∧ ys.length = ds.length ∧
   ∀ i, i < ds.length → ∃ v, arr[i]? = some v ∧ DataW.trod (funcToken P) P W 0 (fun _ => true) true m e [v] = ys[i]? := by
 obtain ⟨g', t', cs, fuel, p, k1, k2, k3, k4⟩ := h
 obtain rfl : g' = g := Option.some.inj (k1.symm.trans hg)
 obtain rfl : t' = t := Option.some.inj (k2.symm.trans ht)
 obtain ⟨ys, m, _, hx, hl, hyl, hel⟩ := DataW.trod_array hu k4
 have hx : DataW.agg (DataW.funcsOutAll ds) = DataW.agg (ys.map (·.1)) := by
  have := congrArg Prod.fst hx
  simpa [DataW.funcsOut] using this
 simp only [DataW.agg.injEq] at hx
 have hvar : ∃ el f, W.heap[g']? = some (.cells cs el f) := by
  unfold World.var? at k3
  rw [k1] at k3
  simp only [Option.bind_some] at k3
  split at k3
  ·rename_i c el f hh
   simp only [Option.some.injEq] at k3; subst k3
   exact ⟨el, f, hh⟩
  ·simp at k3
 obtain ⟨el, fg, hgc⟩ := hvar
 refine ⟨cs, el, fg, m, ys, hgc, hx.symm, hyl, fun i hi => ?_⟩
 have h1 := hel i hi
 rw [hc, Nat.mul_one] at h1
 have hlt : i < cs.toList.length := by rw [hl, hct]; exact hi
 refine ⟨cs.toList[i], by rw [← Array.getElem?_toList, List.getElem?_eq_getElem hlt], ?_⟩
 rw [← h1]
 congr 1
 rw [List.drop_eq_getElem_cons hlt]; rfl
theorem q4J {H : Type} {enc : TypeId × Value → H} {w : World} {base : Nat} {spare : Nat → Bool} {fuel : Nat} {t : TypeId} {d : TypeDesc} {v : Value} {x : DataW H × List MemPlace} (ht : P.underlying t = some d) (hd : q2W d = true)
  (h : DataW.trod enc P w base spare true fuel t [v] = some x) : (v = .nilFunc ∧ x.1 = .nil) ∨ x.1 = .held (enc (t, v)) := by
 cases fuel with
 | zero => simp [DataW.trod] at h
 | succ n =>
  unfold DataW.trod at h
  rw [ht] at h
  cases d <;> simp [q2W] at hd
  split at h <;> (try simp_all) <;> (subst h; simp)
theorem z9Q {t : TypeId} {v : Value} {b : UInt8} {r : List UInt8} {f : FuncId} {d : TypeDesc} {w : World} {m : Nat} {x : DataW (List UInt8) × List MemPlace} (ht : P.underlying t = some d) (hd : q2W d = true)
  (h : DataW.trod (funcToken P) P w 0 (fun _ => true) true m t [v] = some x) (hx : x.1 = .held (b :: r)) {name : String} (hn : ∀ s : String, s.toUTF8.data.toList = b :: r → s = name) (hf : P.funcNamed name = some f) : v = .func (.func f) #[] #[] := by
 rcases q4J ht hd h with ⟨_, h1⟩ | h1
 ·rw [hx] at h1; simp at h1
 ·rw [hx] at h1
  simp only [DataW.held.injEq] at h1
  obtain ⟨f', fn, e1, e2, e3, e4⟩ := funcToken_tells h1.symm
  rw [hn _ e4, hf] at e3
  simp only [Option.some.injEq] at e3
  rw [e1, e3]
theorem z9R {name : String} {l : List UInt8} (hl : name.toUTF8.data.toList = l) : ∀ s : String, s.toUTF8.data.toList = l → s = name := fun s hs => by
 have h : s.toUTF8.data = name.toUTF8.data := Array.toList_inj.1 (hs.trans hl.symm)
 have h2 : s.toUTF8 = name.toUTF8 := by
  cases h3 : s.toUTF8; cases h4 : name.toUTF8
  rw [h3, h4] at h; simp only at h; rw [h]
 exact String.toByteArray_inj.1 h2
theorem j6L {α β : Type} {f : α → β} {w : Nat} : ∀ {rows : List (List α)} {i : Nat} {y : β}, (∀ r ∈ rows, r.length = w) → (rows.flatMap fun r => r.map f)[i]? = some y → ∃ q j r x, i = q * w + j ∧ j < w ∧ rows[q]? = some r ∧ r[j]? = some x ∧ y = f x := by
 intro rows
 induction rows with
 | nil => intro i y _ h; simp at h
 | cons a rows ih =>
  intro i y hr h
  rw [List.flatMap_cons] at h
  have ha := hr a (List.mem_cons_self ..)
  by_cases hi : i < w
  ·rw [List.getElem?_append_left (by rw [List.length_map, ha]; exact hi), List.getElem?_map] at h
   obtain ⟨x, hx, rfl⟩ := Option.map_eq_some_iff.1 h
   exact ⟨0, i, a, x, by omega, hi, rfl, hx, rfl⟩
  ·rw [List.getElem?_append_right (by rw [List.length_map, ha]; omega), List.length_map, ha] at h
   obtain ⟨q, j, r, x, h1, h2, h3, h4, h5⟩ := ih (fun r hm => hr r (List.mem_cons_of_mem _ hm)) h
   exact ⟨q + 1, j, r, x, by rw [Nat.add_mul]; omega, h2, by simpa using h3, h4, h5⟩
end
end Go.Sx
