/-
  Runs whose end is known ahead; code and calls in pieces; calls that panic, functions that recover.
-/
import Derived.Test.YtcoigmfhlbngfaaGreatDoorNSxH
import Derived.Test.YtcoigmfhlbngfaaGreatDoorNSxF
import Derived.Recover
import Derived.Below
import Derived.Lib.LaidTab
set_option linter.unusedSimpArgs false
set_option linter.unusedVariables false
namespace Go.Sx
open Go
theorem j4c (t : TypeId) (x y : Operand) : kindOf (.store t x y) = .eff := rfl
theorem k0O (t : TypeId) (x y z : Operand) : kindOf (.mapUpdate t x y z) = .eff := rfl
theorem j8q (a b : TypeId) (x : Operand) : kindOf (.convert a b x) = .eff := rfl
theorem j4d (x : Operand) : kindC (.value x) = .eff := rfl
theorem q8n : kindB .append = .eff := rfl
theorem j4e : kindB .copy = .eff := rfl
theorem q8o : kindB .delete = .eff := rfl
theorem j1L : kindB .clear = .eff := rfl
theorem j1M : kindB .panic = .eff := rfl
theorem k0P (k : IntKind) (n : Int) : ofValue (.int k n) = some (.int k n) := rfl
theorem j8r (b : Bool) : ofValue (.bool b) = some (.bool b) := rfl
theorem k0Q (s : ByteArray) : ofValue (.string s) = some (.str s.data.toList) := rfl
theorem k3J : ofValue (.pointer none) = some .nilptr := rfl
theorem k3K : ofValue (.slice none 0 0) = some .nilslice := rfl
theorem k3L : ofValue (.map none) = some .nilmap := rfl
theorem k3M : ofValue .nilFunc = some .nilFunc := rfl
theorem k3N : ofValue .nilIface = some .nilIface := rfl
theorem k0R (k : IntKind) (a b : Int) : intBin .add k a k b = some (.int k (z6k k (a + b))) := if_pos rfl
theorem k0S (k : IntKind) (a b : Int) : intBin .sub k a k b = some (.int k (z6k k (a - b))) := if_pos rfl
theorem k0T (k : IntKind) (a b : Int) : intBin .mul k a k b = some (.int k (z6k k (a * b))) := if_pos rfl
theorem k0U (k : IntKind) (a b : Int) : intBin .quo k a k b = quoO k a b := if_pos rfl
theorem k0V (k : IntKind) (a b : Int) : intBin .rem k a k b = remO k a b := if_pos rfl
theorem k0W (k : IntKind) (a b : Int) : intBin .eql k a k b = boolO (ibeq a b) := if_pos rfl
theorem k0X (k : IntKind) (a b : Int) : intBin .neq k a k b = boolO (bnot (ibeq a b)) := if_pos rfl
theorem k0Y (k : IntKind) (a b : Int) : intBin .lss k a k b = boolO (iblt a b) := if_pos rfl
theorem k0Z (k : IntKind) (a b : Int) : intBin .leq k a k b = boolO (bnot (iblt b a)) := if_pos rfl
theorem k1a (k : IntKind) (a b : Int) : intBin .gtr k a k b = boolO (iblt b a) := if_pos rfl
theorem k1b (k : IntKind) (a b : Int) : intBin .geq k a k b = boolO (bnot (iblt a b)) := if_pos rfl
theorem k1c (k : IntKind) (a b : Int) : intBin .and k a k b = bitO k Nat.land a b := if_pos rfl
theorem k3O (k : IntKind) (a b : Int) : intBin .or k a k b = bitO k Nat.lor a b := if_pos rfl
theorem k1d (k : IntKind) (a b : Int) : intBin .xor k a k b = bitO k Nat.xor a b := if_pos rfl
theorem j4f (t : TypeId) (x : Operand) : kindOf (.range t x) = .eff := rfl
theorem j8s (x : Operand) (b : Bool) : kindOf (.next x b) = .eff := rfl
theorem z1H (H : Heap) (o : ABlk) : (H.push o).next = H.next + 1 := (z1e H o).trans (Eq.refl _)
theorem k1e (H : Heap) (o : ABlk) {b : Nat} (h : b = H.next) : (H.push o).blks.get b = some o := by subst h; exact z0L H o
set_option linter.defProp false in
def sxM := And.intro (And.intro sxL (And.intro @z0S (And.intro @j4f (And.intro @j8s @k1e)))) (And.intro (And.intro (And.intro (And.intro (And.intro (And.intro @j4c (And.intro @k0O @j8q)) (And.intro @j4d (And.intro @q8n @j4e))) (And.intro (And.intro @q8o (And.intro @j1L @j1M)) (And.intro (And.intro @k0P @j8r) (And.intro @k0Q @k3J)))) (And.intro (And.intro (And.intro @k3K (And.intro @k3L @k3M)) (And.intro @k3N (And.intro @k0R @k0S))) (And.intro (And.intro @k0T (And.intro @k0U @k0V)) (And.intro (And.intro @k0W @k0X) (And.intro @k0Y @k0Z))))) (And.intro (And.intro (And.intro (And.intro @k1a (And.intro @k1b @k1c)) (And.intro @k3O (And.intro @k1d @kindOf.eq_1))) (And.intro (And.intro @kindOf.eq_2 (And.intro @kindOf.eq_3 @kindOf.eq_4)) (And.intro (And.intro @kindOf.eq_5 @kindOf.eq_6) (And.intro @kindOf.eq_7 @kindOf.eq_8)))) (And.intro (And.intro (And.intro @kindOf.eq_9 (And.intro @kindOf.eq_10 @kindOf.eq_11)) (And.intro @kindOf.eq_12 (And.intro @kindOf.eq_13 @kindOf.eq_14))) (And.intro (And.intro @kindOf.eq_15 (And.intro @kindOf.eq_16 @kindOf.eq_17)) (And.intro (And.intro @kindOf.eq_18 @kindOf.eq_19) (And.intro @kindOf.eq_20 @kindOf.eq_21)))))) (And.intro (And.intro (And.intro (And.intro (And.intro @kindOf.eq_22 (And.intro @kindOf.eq_23 @kindOf.eq_24)) (And.intro @kindOf.eq_25 (And.intro @kindC.eq_1 @kindB.eq_1))) (And.intro (And.intro @kindB.eq_2 (And.intro @kindB.eq_3 @kindB.eq_4)) (And.intro (And.intro @kindB.eq_5 @unA.eq_1) (And.intro @unA.eq_2 @unA.eq_3)))) (And.intro (And.intro (And.intro @boxA.eq_1 (And.intro @loadPtr.eq_1 @nilCheckA.eq_1)) (And.intro @nilCheckA.eq_2 (And.intro @nilCheckA.eq_3 @nilCheckA.eq_4))) (And.intro (And.intro @fst1.eq_1 (And.intro @fst1.eq_2 @ofValue.eq_1)) (And.intro (And.intro @ofValue.eq_2 @ofScalar.eq_1) (And.intro @ofScalar.eq_2 @ofScalar.eq_3))))) (And.intro (And.intro (And.intro (And.intro @ofScalar.eq_4 (And.intro @ofScalar.eq_5 @ofScalar.eq_6)) (And.intro @ofScalar.eq_7 (And.intro @ofScalar.eq_8 @intBin.eq_1))) (And.intro (And.intro @intBin.eq_2 (And.intro @boolO.eq_1 @guardA.eq_1)) (And.intro (And.intro @cCond.eq_1 @condV.eq_1) (And.intro @condV.eq_2 @cRet.eq_1)))) (And.intro (And.intro (And.intro @cExit.eq_1 (And.intro @cSkip.eq_1 @resOut.eq_1)) (And.intro (And.intro @resultA.eq_1 @resultA.eq_2) (And.intro @extractA.eq_1 @tupleO.eq_1))) (And.intro (And.intro @tupleO.eq_2 (And.intro @j7R @z9A)) (And.intro (And.intro @noOv.eq_1 @callFn.eq_1) (And.intro @q3G @z9y)))))))
theorem Gets.l0 {P : Program} {G : Tab} {c : Ctx} {s s' : St} {Q : Ex → St → Prop} (TT : TabOk P G) {x : Code} (h : z0p x (fnsO G noOv 8) G c s = some [(.normal, s')]) (h' : Q .normal s') : Gets P G c x s Q := Gets.last TT z3R 8 h h'
theorem pd_ {l : List Oper} (h : z4m l = true) : z4m l = true := h
theorem md_ {l : List Oper} (h : z6J l = true) : z6J l = true := h
theorem xd_ {l : List Oper} (h : z5o l = true) : z5o l = true := h
end Go.Sx
namespace Go.Sx
open Go
section
variable {P : Program} {G : Tab} {c : Ctx} {s s' : St} {Q : Ex → St → Prop}
def GetsE (P : Program) (G : Tab) (c : Ctx) (x : Code) (s : St) (Q : Ex → St → Prop) : Prop := ∃ e s', Q e s' ∧ Gets P G c x s fun e1 s1 => e1 = e ∧ s1 = s'
theorem GetsE.mono {x : Code} {Q' : Ex → St → Prop} (h : GetsE P G c x s Q) (hq : ∀ e s', Q e s' → Q' e s') : GetsE P G c x s Q' := by
 obtain ⟨e, s', q, g⟩ := h
 exact ⟨e, s', hq e s' q, g⟩
theorem GetsE.one {x : Code} {e : Ex} (g : ∀ Q : Ex → St → Prop, Q e s' → Gets P G c x s Q) (hQ : Q e s') : GetsE P G c x s Q := ⟨e, s', hQ, g _ ⟨rfl, rfl⟩⟩
theorem GetsE.last (TT : TabOk P G) {ov : Ov} (ho : OvOk P G ov) (n : Nat) {x : Code} {s' : St} (h : z0p x (fnsO G ov n) G c s = some [(.normal, s')]) (h' : Q .normal s') : GetsE P G c x s Q :=
 GetsE.one (fun _ hq => Gets.last TT ho n h hq) h'
theorem GetsE.l0 (TT : TabOk P G) {x : Code} {s' : St} (h : z0p x (fnsO G noOv 8) G c s = some [(.normal, s')]) (h' : Q .normal s') : GetsE P G c x s Q := GetsE.last TT z3R 8 h h'
theorem GetsE.skip (TT : TabOk P G) (h : Q .normal s) : GetsE P G c .skip s Q := GetsE.one (fun _ hq => Gets.skip TT hq) h
theorem GetsE.ret (TT : TabOk P G) (h : Q .ret s) : GetsE P G c .ret s Q := GetsE.one (fun _ hq => Gets.ret TT hq) h
theorem GetsE.exit (TT : TabOk P G) {i : Nat} (h : Q (.exit i) s) : GetsE P G c (.exit i) s Q := GetsE.one (fun _ hq => Gets.exit TT hq) h
theorem GetsE.condT {v : Operand} {x y : Code} (hv : aev G s.tm v = some (.bool true)) (h : GetsE P G c x s Q) : GetsE P G c (.cond v x y) s Q := by
 obtain ⟨e, s', q, g⟩ := h
 exact ⟨e, s', q, Gets.condT hv g⟩
theorem GetsE.condF {v : Operand} {x y : Code} (hv : aev G s.tm v = some (.bool false)) (h : GetsE P G c y s Q) : GetsE P G c (.cond v x y) s Q := by
 obtain ⟨e, s', q, g⟩ := h
 exact ⟨e, s', q, Gets.condF hv g⟩
theorem GetsE.seq {x y : Code} (h : GetsE P G c x s fun e s' => match e with | .normal => GetsE P G c y s' Q | e => Q e s') : GetsE P G c (.seq x y) s Q := by
 obtain ⟨e, s1, q, g⟩ := h
 cases e with
 | normal =>
  obtain ⟨e2, s2, q2, g2⟩ := q
  exact ⟨e2, s2, q2, Gets.seq (g.mono fun e' s' hh => by obtain ⟨rfl, rfl⟩ := hh; exact g2)⟩
 | exit j => exact ⟨_, s1, q, Gets.seq (g.mono fun e' s' hh => by obtain ⟨rfl, rfl⟩ := hh; exact ⟨rfl, rfl⟩)⟩
 | goto j => exact ⟨_, s1, q, Gets.seq (g.mono fun e' s' hh => by obtain ⟨rfl, rfl⟩ := hh; exact ⟨rfl, rfl⟩)⟩
 | ret => exact ⟨_, s1, q, Gets.seq (g.mono fun e' s' hh => by obtain ⟨rfl, rfl⟩ := hh; exact ⟨rfl, rfl⟩)⟩
theorem GetsE.blk {id : Nat} {x : Code} (h : GetsE P G c x s (z7Z id Q)) : GetsE P G c (.block id x) s Q := by
 obtain ⟨e, s1, q, g⟩ := h
 cases e with
 | exit j =>
  by_cases hj : j = id
  ·subst hj
   have q' : (if j = j then Q .normal s1 else Q (.exit j) s1) := q
   rw [if_pos rfl] at q'
   exact ⟨.normal, s1, q', Gets.blk (g.mono fun e' s' hh => by obtain ⟨rfl, rfl⟩ := hh; exact z7p ⟨rfl, rfl⟩)⟩
  ·have q' : (if j = id then Q .normal s1 else Q (.exit j) s1) := q
   rw [if_neg hj] at q'
   exact ⟨.exit j, s1, q', Gets.blk (g.mono fun e' s' hh => by obtain ⟨rfl, rfl⟩ := hh; exact q5o hj ⟨rfl, rfl⟩)⟩
 | normal => exact ⟨.normal, s1, q, Gets.blk (g.mono fun e' s' hh => by obtain ⟨rfl, rfl⟩ := hh; exact q3D ⟨rfl, rfl⟩)⟩
 | ret => exact ⟨.ret, s1, q, Gets.blk (g.mono fun e' s' hh => by obtain ⟨rfl, rfl⟩ := hh; exact j0V ⟨rfl, rfl⟩)⟩
 | goto j => exact ⟨.goto j, s1, q, Gets.blk (g.mono fun e' s' hh => by obtain ⟨rfl, rfl⟩ := hh; exact ⟨rfl, rfl⟩)⟩
inductive Rounds (P : Program) (G : Tab) (c : Ctx) (x : Code) (e2 : Ex) (s2 : St) : Nat → St → Prop
 | stop {m : Nat} {s : St} (he : e2 ≠ .normal) (g : Gets P G c x s fun e1 s1 => e1 = e2 ∧ s1 = s2) : Rounds P G c x e2 s2 m s
 | next {m m' : Nat} {s s1 : St} (hm : m' < m) (g : Gets P G c x s fun e1 s' => e1 = .normal ∧ s' = s1) (r : Rounds P G c x e2 s2 m' s1) : Rounds P G c x e2 s2 m s
theorem q8p {x : Code} {e2 : Ex} {s2 : St} : ∀ m s, Rounds P G c x e2 s2 m s → Gets P G c (.loop x) s fun e1 s1 => e1 = e2 ∧ s1 = s2 :=
 Gets.loop (I := Rounds P G c x e2 s2) fun m s r => by
  cases r with
  | stop he g =>
   refine g.mono fun e' s' hh => ?_
   obtain ⟨rfl, rfl⟩ := hh
   cases e' with
   | normal => exact absurd rfl he
   | exit j => exact ⟨rfl, rfl⟩
   | goto j => exact ⟨rfl, rfl⟩
   | ret => exact ⟨rfl, rfl⟩
  | next hm g r =>
   refine g.mono fun e' s' hh => ?_
   obtain ⟨rfl, rfl⟩ := hh
   exact ⟨_, hm, r⟩
theorem GetsE.loop {x : Code} {I : Nat → St → Prop}
  (h : ∀ m s, I m s → GetsE P G c x s fun e s' => match e with | .normal => ∃ m', m' < m ∧ I m' s' | e => Q e s') : ∀ m s, I m s → GetsE P G c (.loop x) s Q := by
 have key : ∀ m s, I m s → ∃ e2 s2, Q e2 s2 ∧ Rounds P G c x e2 s2 m s := by
  intro m
  induction m using Nat.strongRecOn with
  | _ m ih =>
   intro s hI
   obtain ⟨e, s1, q, g⟩ := h m s hI
   cases e with
   | normal =>
    obtain ⟨m', hm, hI'⟩ := q
    obtain ⟨e2, s2, q2, r⟩ := ih m' hm s1 hI'
    exact ⟨e2, s2, q2, .next hm g r⟩
   | exit j => exact ⟨_, s1, q, .stop (by simp) g⟩
   | goto j => exact ⟨_, s1, q, .stop (by simp) g⟩
   | ret => exact ⟨_, s1, q, .stop (by simp) g⟩
 intro m s hI
 obtain ⟨e2, s2, q, r⟩ := key m s hI
 exact ⟨e2, s2, q, q8p m s r⟩
theorem GetsE.forI {id : Nat} {x : Code} (I : Nat → St → Prop) (m : Nat) (h0 : I m s) (h : ∀ m s, I m s → GetsE P G c x s (q3E I m (z7Z id Q))) : GetsE P G c (.block id (.loop x)) s Q :=
 GetsE.blk (GetsE.loop (I := I) (fun m s hI => (h m s hI).mono fun e s' h => by cases e <;> exact h) m s h0)
theorem GetsE.upto {id : Nat} {x : Code} {H : Heap} (n : Nat) (I : Nat → T AV → Prop) {tm : T AV} (h0 : I 0 tm)
  (h : ∀ i tm, i ≤ n → I i tm → GetsE P G c x ⟨tm, H, []⟩ fun e s' => match e with
   | .normal => ∃ tm', s' = ⟨tm', H, []⟩ ∧ i < n ∧ I (i + 1) tm'
   | e => z7Z id Q e s') : GetsE P G c (.block id (.loop x)) ⟨tm, H, []⟩ Q :=
 GetsE.forI (I := fun m s => ∃ i tm, i ≤ n ∧ m = n - i ∧ s = ⟨tm, H, []⟩ ∧ I i tm) n ⟨0, tm, Nat.zero_le _, rfl, rfl, h0⟩ fun m s ⟨i, tm, hi, hm, hs, hI⟩ => by
  subst hs
  refine (h i tm hi hI).mono fun e s' h => ?_
  cases e with
  | normal =>
   obtain ⟨tm', rfl, hlt, hI'⟩ := h
   exact ⟨n - (i + 1), by omega, i + 1, tm', hlt, rfl, rfl, hI'⟩
  | _ => exact h
theorem GetsE.uptoH {id : Nat} {x : Code} (n : Nat) (I : Nat → T AV → Heap → Prop) {tm : T AV} {H : Heap} (h0 : I 0 tm H)
  (h : ∀ i tm H, i ≤ n → I i tm H → GetsE P G c x ⟨tm, H, []⟩ fun e s' => match e with
   | .normal => ∃ tm' H', s' = ⟨tm', H', []⟩ ∧ i < n ∧ I (i + 1) tm' H'
   | e => z7Z id Q e s') : GetsE P G c (.block id (.loop x)) ⟨tm, H, []⟩ Q :=
 GetsE.forI (I := fun m s => ∃ i tm H, i ≤ n ∧ m = n - i ∧ s = ⟨tm, H, []⟩ ∧ I i tm H) n ⟨0, tm, H, Nat.zero_le _, rfl, rfl, h0⟩ fun m s ⟨i, tm, H, hi, hm, hs, hI⟩ => by
  subst hs
  refine (h i tm H hi hI).mono fun e s' h => ?_
  cases e with
  | normal =>
   obtain ⟨tm', H', rfl, hlt, hI'⟩ := h
   exact ⟨n - (i + 1), by omega, i + 1, tm', H', hlt, rfl, rfl, hI'⟩
  | _ => exact h
theorem GetsE.drawK (TT : TabOk P G) {ov : Ov} (ho : OvOk P G ov) (n : Nat) {i : Nat} {all : List Oper} (p : List PStep) (hp : z7T all p = true) (hN : Neat s.h)
  (h : runK (fnsO G ov n) G c all p s [] = some [s']) (hQ : Q .normal s') : GetsE P G c (.region i all.toArray true) s Q :=
 GetsE.one (fun _ hq => Gets.drawK TT ho n p hp hN h hq) hQ
theorem GetsE.midH {x : Code} {I : T AV → Heap → Prop} (h : GetsE P G c x s fun e s' => e = .normal ∧ ∃ tm H, s' = ⟨tm, H, []⟩ ∧ I tm H) (h' : ∀ tm H, I tm H → Q .normal ⟨tm, H, []⟩) : GetsE P G c x s Q :=
 h.mono fun e s' h => by obtain ⟨rfl, tm, H, rfl, h⟩ := h; exact h' tm H h
theorem z7U (H : Heap) (o : ABlk) {b : Nat} (h : b = H.next) : (H.push o).blks.get b = some o := by subst h; exact z0L H o
theorem z9M (H : Heap) (b : Nat) (o : Option ABlk) {x : Nat} (h : x = b) : (z0y H b o).blks.get x = o := by subst h; exact z5G H x o
theorem Gets.ofH {x : Code} {tm : T AV} {H : Heap} {df : List ADefer} (I : Heap → Prop) (hI : I H) (h : ∀ h, I h → Gets P G c x ⟨tm, h, df⟩ Q) : Gets P G c x ⟨tm, H, df⟩ Q := h H hI
theorem GetsE.ofH {x : Code} {tm : T AV} {H : Heap} {df : List ADefer} (I : Heap → Prop) (hI : I H) (h : ∀ h, I h → GetsE P G c x ⟨tm, h, df⟩ Q) : GetsE P G c x ⟨tm, H, df⟩ Q := h H hI
theorem Gets.ofS {x : Code} {tm : T AV} {H : Heap} {df : List ADefer} (I : T AV → Heap → Prop) (hI : I tm H) (h : ∀ tm h, I tm h → Gets P G c x ⟨tm, h, df⟩ Q) : Gets P G c x ⟨tm, H, df⟩ Q := h tm H hI
theorem GetsE.ofS {x : Code} {tm : T AV} {H : Heap} {df : List ADefer} (I : T AV → Heap → Prop) (hI : I tm H) (h : ∀ tm h, I tm h → GetsE P G c x ⟨tm, h, df⟩ Q) : GetsE P G c x ⟨tm, H, df⟩ Q := h tm H hI
def j1N (H h : Heap) (b : Nat) : Prop := ∀ o, h.blks.get b = some o → (b < H.next ∧ H.blks.get b = some o) ∨ ltB h.next o
open Classical in
noncomputable def q2m (H h : Heap) : Nat → T ABlk
 | 0 => .e
 | n + 1 => if j1N H h n then (q2m H h n).set n (h.blks.get n) else q2m H h n
open Classical in
theorem z4n (H h : Heap) : ∀ n b, (q2m H h n).get b = if b < n ∧ j1N H h b then h.blks.get b else none
 | 0, b => by
  rw [if_neg fun e => absurd e.1 (Nat.not_lt_zero _)]
  show (T.e : T ABlk).get b = none
  rw [T.get_e]
 | n + 1, b => by
  unfold q2m
  by_cases hk : j1N H h n
  ·rw [if_pos hk, T.get_set]
   by_cases hb : b = n
   ·subst hb
    rw [if_pos rfl, if_pos ⟨by omega, hk⟩]
   ·rw [if_neg hb, z4n H h n b]
    by_cases hh : b < n ∧ j1N H h b
    ·rw [if_pos hh, if_pos ⟨by omega, hh.2⟩]
    ·rw [if_neg hh, if_neg fun e => hh ⟨by omega, e.2⟩]
  ·rw [if_neg hk, z4n H h n b]
   by_cases hh : b < n ∧ j1N H h b
   ·rw [if_pos hh, if_pos ⟨by omega, hh.2⟩]
   ·rw [if_neg hh, if_neg fun e => hh ⟨by
     by_cases hb : b = n
     ·subst hb; exact absurd e.2 hk
     ·omega, e.2⟩]
noncomputable def q4d (H h : Heap) : Heap := ⟨h.next, q2m H h h.next⟩
theorem k1f (H h : Heap) : (q4d H h).next = h.next := rfl
theorem k1g (H h : Heap) : Neat (q4d H h) := fun b o ho => by
 have ho : (q2m H h h.next).get b = some o := ho
 rw [z4n] at ho
 split at ho
 ·rename_i hh; exact hh.1
 ·simp at ho
theorem j4g {H h : Heap} {b : Nat} (hb : b < H.next) (hle : H.next ≤ h.next) (he : h.blks.get b = H.blks.get b) : (q4d H h).blks.get b = H.blks.get b := by
 show (q2m H h h.next).get b = _
 rw [z4n, if_pos ⟨by omega, fun o ho => .inl ⟨hb, by rw [← he]; exact ho⟩⟩, he]
theorem j4h {H h : Heap} {b : Nat} {o : ABlk} (hN : Neat h) (hb : h.blks.get b = some o) (hl : ltB h.next o) : (q4d H h).blks.get b = some o := by
 show (q2m H h h.next).get b = _
 rw [z4n, if_pos ⟨hN b o hb, fun o' ho => .inr (by rw [hb] at ho; cases ho; exact hl)⟩, hb]
theorem j4i {H h : Heap} {v : AV} (hle : H.next ≤ h.next) (hv : ltV h.next v) : Cut H (v, q4d H h) v h :=
 ⟨rfl, Nat.le_refl _, hle, fun b o ho => by
  have ho : (q2m H h h.next).get b = some o := ho
  rw [z4n] at ho
  split at ho
  ·rename_i hh; exact ⟨ho, hh.2 o ho⟩
  ·simp at ho, hv⟩
theorem k1I (TT : TabOk P G) {f : FuncId} {fn : Func} {body : Code} (hf : P.funcs[f]? = some fn) (hb : fn.body = some body) (hn : (fn.name == "runtime.NumGoroutine") = false) {args : List AV} {H : Heap} {R : AV → Heap → Prop}
  (hg : GetsE P G ⟨none, args.length + (fn.ntmps - args.length)⟩ body ⟨q0O args, H, []⟩ fun e s' =>
   z1I e = true ∧ s'.df = [] ∧ ∃ vs, z0C G s'.tm s'.h fn.results.toList = some vs ∧ H.next ≤ s'.h.next ∧ ltV s'.h.next (z2a vs) ∧ R (z2a vs) s'.h) :
  ∃ v h, R v h ∧ H.next ≤ h.next ∧ CallTo P G f args H [(v, q4d H h)] := by
 obtain ⟨e, s', ⟨q1, q2, vs, q3, q4, q5, q6⟩, g⟩ := hg
 exact ⟨z2a vs, s'.h, q6, q4, z4j TT hf hb hn (g.mono fun e1 s1 hh => by obtain ⟨rfl, rfl⟩ := hh; exact ⟨q1, q2, vs, q3, _, List.mem_singleton.2 rfl, j4i q4 q5⟩)⟩
theorem w2s {H : Heap} {s : St} {vs : List AV} {rs : List ResultVar} {R : AV → Heap → Prop} (hd : s.df = []) (hr : z0C G s.tm s.h rs = some vs) (hn : H.next ≤ s.h.next) (hv : ltV s.h.next (z2a vs)) (hR : R (z2a vs) s.h) :
  z1I .ret = true ∧ s.df = [] ∧ ∃ vs, z0C G s.tm s.h rs = some vs ∧ H.next ≤ s.h.next ∧ ltV s.h.next (z2a vs) ∧ R (z2a vs) s.h := ⟨rfl, hd, vs, hr, hn, hv, hR⟩
structure GrowsP (p : Nat) (H H' : Heap) : Prop where
 next : H.next ≤ H'.next
 get : ∀ b, b < H.next → b ≠ p → H'.blks.get b = H.blks.get b
theorem GrowsP.refl (p : Nat) (H : Heap) : GrowsP p H H := ⟨Nat.le_refl _, fun _ _ _ => rfl⟩
theorem GrowsP.trans {p : Nat} {a b c : Heap} (h : GrowsP p a b) (h' : GrowsP p b c) : GrowsP p a c :=
 ⟨Nat.le_trans h.next h'.next, fun x hx hp => (h'.get x (Nat.lt_of_lt_of_le hx h.next) hp).trans (h.get x hx hp)⟩
theorem GrowsP.push (p : Nat) (H : Heap) (o : ABlk) : GrowsP p H (H.push o) := ⟨Nat.le_succ _, fun b hb _ => z0Q H o (Nat.ne_of_lt hb)⟩
theorem GrowsP.put (p : Nat) (H : Heap) (o : Option ABlk) : GrowsP p H (z0y H p o) := ⟨by rw [z0j]; exact Nat.le_refl _, fun b _ hp => z1z _ _ _ hp⟩
theorem GrowsP.new {p : Nat} {a b : Heap} (h : GrowsP p a b) {d : Nat} (hd : a.next ≤ d) (o : Option ABlk) : GrowsP p a (z0y b d o) :=
 ⟨by rw [z0j]; exact h.next, fun x hx hp => by rw [z1z _ _ _ (by omega)]; exact h.get x hx hp⟩
theorem GrowsP.keep {p : Nat} {H h : Heap} (h' : GrowsP p H h) : GrowsP p H (q4d H h) :=
 ⟨h'.next, fun b hb hp => j4g hb h'.next (h'.get b hb hp)⟩
theorem GrowsP.some_ {p : Nat} {H h : Heap} (g : GrowsP p H h) (hN : Neat H) {b : Nat} {o : ABlk} (hb : H.blks.get b = some o) (hp : b ≠ p) : h.blks.get b = some o := by rw [g.get b (hN b o hb) hp]; exact hb
theorem k1h {H : Heap} {b b' : Nat} {o o' : ABlk} (h : H.blks.get b = some o) (h' : H.blks.get b' = some o') (hne : o ≠ o') : b ≠ b' := fun e => by
 subst e
 rw [h] at h'
 exact hne (Option.some.inj h')
noncomputable def stC (H : Heap) (b off : Nat) (l : List AV) (z : Option Nat) : Option Heap := z0b z fun s => bif Nat.beq (len l) s then z1s H b off l else none
theorem j8t (H : Heap) (t : TypeId) (b off : Nat) (v : AV) : z2r G H t (.ptr b off) v = stC H b off v.cells (G.size t) := rfl
theorem t_c1 (H : Heap) (b off : Nat) (x : AV) : stC H b off [x] (some 1) = z4q H b off [x] (H.blks.get b) := rfl
theorem t_c2 (H : Heap) (b off : Nat) (x y : AV) : stC H b off [x, y] (some 2) = z4q H b off [x, y] (H.blks.get b) := rfl
theorem t_c4 (H : Heap) (b off : Nat) (x y z w : AV) : stC H b off [x, y, z, w] (some 4) = z4q H b off [x, y, z, w] (H.blks.get b) := rfl
theorem k3P (H : Heap) (b off : Nat) (x0 x1 x2 x3 x4 x5 x6 x7 x8 x9 : AV) : stC H b off [x0, x1, x2, x3, x4, x5, x6, x7, x8, x9] (some 10) = z4q H b off [x0, x1, x2, x3, x4, x5, x6, x7, x8, x9] (H.blks.get b) := rfl
noncomputable def stO (k : Bool) (H : Heap) (b : Nat) (e : TypeId) (x : Bool) (o : Option (List AV)) : Option Heap := bif k then z6l H b e x o else none
theorem t_in (H : Heap) (b off : Nat) (l : List AV) (e : TypeId) (x : Bool) (old : List AV) : z4q H b off l (some (.cells e x old)) = stO (z0V l) H b e x (z1m l old off) := rfl
theorem k3Q (H : Heap) (b : Nat) (e : TypeId) (x : Bool) (l : List AV) : stO true H b e x (some l) = some (z0y H b (some (.cells e x l))) := by
 show z4N l (fun l => z0M H b (some (.cells e x l)) some) = _
 rw [z1n]
 unfold z0M z0y
 rw [T.setK_eq, T.setK_eq]
theorem k3R {α : Type} (w : List α) (a : α) (l : List α) : z1m w (a :: l) 0 = z4K w (a :: l) := rfl
theorem k3S {α : Type} (w : List α) (a : α) (l : List α) (k : Nat) : z1m w (a :: l) (k + 1) = z1D a (z1m w l k) := rfl
theorem k3T {α : Type} (l : List α) : z4K [] l = some l := rfl
theorem k3U {α : Type} (x : α) (w : List α) (o : α) (l : List α) : z4K (x :: w) (o :: l) = z1D x (z4K w l) := rfl
theorem j8u {α : Type} (a : α) (l : List α) : z1D a (some l) = some (a :: l) := rfl
theorem t_r2 (e : TypeId) (x : Bool) (a b : AV) : z2o (some (.cells e x [a, b])) 0 2 = some [a, b] := rfl
theorem t_r4 (e : TypeId) (x : Bool) (a b c d : AV) : z2o (some (.cells e x [a, b, c, d])) 0 4 = some [a, b, c, d] := rfl
theorem k3V (e : TypeId) (x : Bool) (x0 x1 x2 x3 x4 x5 x6 x7 x8 x9 : AV) : z2o (some (.cells e x [x0, x1, x2, x3, x4, x5, x6, x7, x8, x9])) 0 10 = some [x0, x1, x2, x3, x4, x5, x6, x7, x8, x9] := rfl
theorem w2j (e : TypeId) (x : Bool) (x0 x1 x2 x3 x4 x5 x6 x7 x8 x9 : AV) : z2o (some (.cells e x [x0, x1, x2, x3, x4, x5, x6, x7, x8, x9])) 4 2 = some [x4, x5] := rfl
theorem w2k (e : TypeId) (x : Bool) (x0 x1 x2 x3 x4 x5 x6 x7 x8 x9 : AV) : z2o (some (.cells e x [x0, x1, x2, x3, x4, x5, x6, x7, x8, x9])) 6 4 = some [x6, x7, x8, x9] := rfl
set_option linter.defProp false in
def stL := And.intro (And.intro (And.intro (And.intro @j8t @t_c1) (And.intro @t_c2 @t_c4)) (And.intro (And.intro @k3P @t_in) (And.intro @k3Q @k3R))) (And.intro (And.intro (And.intro @k3S @k3T) (And.intro @k3U @j8u)) (And.intro (And.intro @t_r2 @t_r4) (And.intro @k3V (And.intro @z7U @z9M))))
set_option linter.defProp false in
def foL := And.intro (And.intro (And.intro @z5G @z1z) (And.intro @z0L (And.intro @z7R (And.intro @z7U @z9M)))) (And.intro @z0Q (And.intro @z1e @z0j))
end
end Go.Sx
namespace Go.Sx
open Go
section
variable {α : Type} {P : Program} {G : Tab}
theorem q6W {β : Type} : ∀ (w old S : List β), old.length = w.length → z4K w (old ++ S) = some (w ++ S)
 | [], [], S, _ => rfl
 | [], _ :: _, _, h => by simp at h
 | _ :: _, [], _, h => by simp at h
 | a :: w, o :: old, S, h => by
  show z1D a (z4K w (old ++ S)) = _
  rw [q6W w old S (by simpa using h)]; rfl
theorem z7r {β : Type} (w old S : List β) (hl : old.length = w.length) (hne : w ≠ []) : ∀ (Q : List β), z1m w (Q ++ (old ++ S)) Q.length = some (Q ++ (w ++ S))
 | [] => by
  cases old with
  | nil => cases w with
   | nil => exact absurd rfl hne
   | cons _ _ => simp at hl
  | cons o old => exact q6W w (o :: old) S hl
 | a :: Q => by
  show z1D a (z1m w (Q ++ (old ++ S)) Q.length) = _
  rw [z7r w old S hl hne Q]; rfl
theorem j8O {f : α → List AV} {k : Nat} (hf : ∀ a, (f a).length = k) (hk : 0 < k) (A B : List α) (a a' : α) {i : Nat} (hi : i = A.length * k) : z1m (f a') ((A ++ a :: B).flatMap f) i = some ((A ++ a' :: B).flatMap f) := by
 rw [List.flatMap_append, List.flatMap_cons, List.flatMap_append, List.flatMap_cons, hi, ← z4G hf A]
 exact z7r (f a') (f a) _ (by rw [hf, hf]) (fun e => by have := hf a'; rw [e] at this; simp at this; omega) _
theorem z9N {f : α → List AV} {l : List α} (h : ∀ a ∈ l, z0V (f a) = true) : z0V (l.flatMap f) = true :=
 z2n.2 fun v hv => by
  obtain ⟨a, ha, hv⟩ := List.mem_flatMap.1 hv
  exact z2n.1 (h a ha) v hv
theorem z7s {l m : List AV} (h : z0V l = true) (h' : z0V m = true) : z0V (l ++ m) = true :=
 z2n.2 fun v hv => (List.mem_append.1 hv).elim (z2n.1 h v) (z2n.1 h' v)
def CellsAt (e : Nat) (f : α → List AV) (H : Heap) (v : AV) (l : List α) : Prop :=
 (v = .nilslice ∧ l = []) ∨ ∃ b q c x, v = .slice b 0 l.length q c ∧ H.blks.get b = some (.cells e x (l.flatMap f))
variable {e k t : Nat} {f : α → List AV} {H H' : Heap} {v : AV} {l : List α}
theorem CellsAt.one (h : CellsAt e f H v l) : z0F v = true := by
 rcases h with ⟨rfl, _⟩ | ⟨b, q, c, x, rfl, _⟩ <;> rfl
theorem CellsAt.len (h : CellsAt e f H v l) (hu : G.und t = some (.slice e)) (H' : Heap) : lenA G H' t v = some (.int .i64 (l.length : Int)) := by
 rcases h with ⟨rfl, rfl⟩ | ⟨b, q, c, x, rfl, _⟩
 ·exact q1Y hu H'
 ·exact z5C hu H' ..
theorem CellsAt.lt (h : CellsAt e f H v l) (hN : Neat H) : ltV H.next v := by
 rcases h with ⟨rfl, rfl⟩ | ⟨b, q, c, x, rfl, hb⟩
 ·trivial
 ·exact hN b _ hb
theorem CellsAt.to (h : CellsAt e f H v l) (hh : ∀ b x y, H.blks.get b = some (.cells e x y) → H'.blks.get b = some (.cells e x y)) : CellsAt e f H' v l := by
 rcases h with h | ⟨b, q, c, x, h1, hb⟩
 ·exact .inl h
 ·exact .inr ⟨b, q, c, x, h1, hh _ _ _ hb⟩
theorem CellsAt.growP (h : CellsAt e f H v l) (hN : Neat H) {p : Nat} (hg : GrowsP p H H') {o : ABlk} (hp : H.blks.get p = some o) (ho : ∀ x y, o ≠ .cells e x y) : CellsAt e f H' v l :=
 h.to fun b x y hb => hg.some_ hN hb fun e => by
  subst e
  rw [hp] at hb
  exact ho _ _ (Option.some.inj hb)
theorem CellsAt.keep {H h : Heap} (hc : CellsAt e f h v l) (hN : Neat h) (hf : ∀ a ∈ l, ltL h.next (f a)) : CellsAt e f (q4d H h) v l := by
 rcases hc with h1 | ⟨b, q, c, x, h1, hb⟩
 ·exact .inl h1
 ·refine .inr ⟨b, q, c, x, h1, j4h hN hb ?_⟩
  show ltL h.next (l.flatMap f)
  refine q2j.2 fun v hv => ?_
  obtain ⟨a, ha, hv⟩ := List.mem_flatMap.1 hv
  exact q2j.1 (hf a ha) v hv
theorem CellsAt.row (h : CellsAt e f H v l) (hu : G.und t = some (.slice e)) (hz : G.size e = some k) (hf : ∀ a, (f a).length = k) {i : Nat} {a : α} (ha : l[i]? = some a) :
  ∃ b, z1M G t v (.int .i64 (i : Int)) = some (.ptr b (i * k)) ∧ (∀ j, j < k → cellIn (H.blks.get b) (i * k + j) = (f a)[j]?) ∧
   ∀ j r, j + r ≤ k → z2o (H.blks.get b) (i * k + j) r = some (((f a).drop j).take r) := by
 have hi : i < l.length := (List.getElem?_eq_some_iff.1 ha).1
 rcases h with ⟨_, rfl⟩ | ⟨b, q, c, x, rfl, hb⟩
 ·simp at ha
 ·have hlen := z4G hf l
  have hik : (i + 1) * k ≤ l.length * k := Nat.mul_le_mul_right k hi
  rw [Nat.succ_mul] at hik
  refine ⟨b, ?_, fun j hj => ?_, fun j r hj => ?_⟩
  ·rw [z5h hu hz, if_pos ⟨by omega, by omega⟩]; simp
  ·rw [hb]
   show nth (l.flatMap f) (i * k + j) = _
   rw [z2A, z9L hf ha hj]
  ·rw [hb]
   show z4J (z6S (l.flatMap f) (i * k + j)) r = _
   rw [z2t, z1O, if_pos (by rw [List.length_drop, hlen]; omega)]
   congr 1
   apply List.ext_getElem?
   intro q
   rw [List.getElem?_take, List.getElem?_take]
   by_cases hq : q < r
   ·rw [if_pos hq, if_pos hq, List.getElem?_drop, List.getElem?_drop, Nat.add_assoc, z9L hf ha (by omega)]
   ·rw [if_neg hq, if_neg hq]
def GrownAt (n0 e : Nat) (f : α → List AV) (H : Heap) (v : AV) (l : List α) : Prop :=
 (v = .nilslice ∧ l = []) ∨ ∃ b, n0 ≤ b ∧ v = .slice b 0 l.length true 0 ∧ H.blks.get b = some (.cells e false (l.flatMap f)) ∧ l ≠ []
theorem GrownAt.cells {n0 : Nat} (h : GrownAt n0 e f H v l) : CellsAt e f H v l := by
 rcases h with h | ⟨b, h0, h1, h2, h3⟩
 ·exact .inl h
 ·exact .inr ⟨b, true, 0, false, h1, h2⟩
theorem GrownAt.to {n0 : Nat} (h : GrownAt n0 e f H v l) (hh : ∀ b x y, H.blks.get b = some (.cells e x y) → H'.blks.get b = some (.cells e x y)) : GrownAt n0 e f H' v l := by
 rcases h with h | ⟨b, h0, h1, h2, h3⟩
 ·exact .inl h
 ·exact .inr ⟨b, h0, h1, hh _ _ _ h2, h3⟩
theorem z3y (hu : G.und t = some (.slice e)) : Sx.elemOf G t = some e := by
 unfold Sx.elemOf
 rw [hu]; rfl
theorem z9O {b : Nat} {r : List AV} (hb : H.blks.get b = some (.cells e true r)) (hr : r.length = k) (hk : 0 < k) : z3Y H k 1 (.slice b 0 1 false 1) = some r := by
 show z0o H b 0 (1 * k) = _
 rw [Nat.one_mul, z9z _ _ _ (by omega), hb]
 show z4J (z6S r 0) k = _
 rw [z2t, z1O, List.drop_zero, if_pos (Nat.le_of_eq hr.symm), List.take_of_length_le (Nat.le_of_eq hr)]
theorem j1O {i : TypeInfo} {zero : AV} (hu : G.und t = some (.slice e)) (hty : G.types.get e = some i) (hk : i.size = k) (hk0 : 0 < k) (hby : Nat.ble i.bytes 100000 = true) (hz : G.zero e = some zero) (hzl : zero.cells.length = k)
  {b : Nat} {r : List AV} (hb : H.blks.get b = some (.cells e true r)) (hr : r.length = k) (h1 : z0V r = true) :
  z3n G H [t, t] [.nilslice, .slice b 0 1 false 1] = some (.slice H.next 0 1 true 0, H.push (.cells e false r)) := by
 show z0b (Sx.elemOf G t) (fun e => z0b (G.und t) fun u => bif intD u then z0b (G.types.get e) (z8C G H e .nilslice (.slice b 0 1 false 1)) else z0b (G.types.get e) (z4s G H e .nilslice (.slice b 0 1 false 1))) = _
 rw [z3y hu, hu]
 show z0b (G.types.get e) (z4s G H e .nilslice (.slice b 0 1 false 1)) = _
 rw [hty]
 show z0b (G.zero e) (fun zero => bif Nat.beq i.size 0 then none else bif q8Q (.slice b 0 1 false 1) i.size then bif Nat.beq (len zero.cells) i.size then bif Nat.ble i.bytes 100000 then
  bif Nat.ble (0 + 1) 1000000 then z0b (z3Y H i.size 1 (.slice b 0 1 false 1)) (z1N H e i.size 1 .nilslice) else none else none else none else none) = _
 rw [hz, hby, hk]
 show (bif Nat.beq k 0 then none else bif Nat.beq (len zero.cells) k then z0b (z3Y H k 1 (.slice b 0 1 false 1)) (z1N H e k 1 .nilslice) else none) = _
 rw [z0E (by omega : k ≠ 0), z0S, hzl, z1k rfl, cond_false, cond_true, z9O hb hr hk0]
 show z2Q H e 1 r = _
 unfold z2Q
 rw [z1L, h1]; rfl
theorem q8q {i : TypeInfo} {zero : AV} (hu : G.und t = some (.slice e)) (hty : G.types.get e = some i) (hk : i.size = k) (hk0 : 0 < k) (hby : Nat.ble i.bytes 100000 = true) (hz : G.zero e = some zero) (hzl : zero.cells.length = k)
  {b d n : Nat} {r y : List AV} (hb : H.blks.get b = some (.cells e true r)) (hr : r.length = k) (h1 : z0V r = true) (hd : H.blks.get d = some (.cells e false y)) (hy : y.length = n * k) (h2 : z0V y = true) (hn0 : 0 < n) (hn : n ≤ 100000) :
  z3n G H [t, t] [.slice d 0 n true 0, .slice b 0 1 false 1] = some (.slice H.next 0 (n + 1) true 0, (z0y H d none).push (.cells e false (y ++ r))) := by
 show z0b (Sx.elemOf G t) (fun e => z0b (G.und t) fun u => bif intD u then z0b (G.types.get e) (z8C G H e (.slice d 0 n true 0) (.slice b 0 1 false 1)) else z0b (G.types.get e) (z4s G H e (.slice d 0 n true 0) (.slice b 0 1 false 1))) = _
 rw [z3y hu, hu]
 show z0b (G.types.get e) (z4s G H e (.slice d 0 n true 0) (.slice b 0 1 false 1)) = _
 rw [hty]
 show z0b (G.zero e) (fun zero => bif Nat.beq i.size 0 then none else bif q8Q (.slice b 0 1 false 1) i.size then bif Nat.beq (len zero.cells) i.size then bif Nat.ble i.bytes 100000 then
  bif Nat.ble (n + 1) 1000000 then z0b (z3Y H i.size 1 (.slice b 0 1 false 1)) (z1N H e i.size 1 (.slice d 0 n true 0)) else none else none else none else none) = _
 have h9 : Nat.ble (n + 1) 1000000 = true := Nat.ble_eq_true_of_le (by omega)
 rw [hz, hby, hk, h9]
 show (bif Nat.beq k 0 then none else bif Nat.beq (len zero.cells) k then z0b (z3Y H k 1 (.slice b 0 1 false 1)) (z1N H e k 1 (.slice d 0 n true 0)) else none) = _
 rw [z0E (by omega : k ≠ 0), z0S, hzl, z1k rfl, cond_false, cond_true, z9O hb hr hk0]
 show z0b (z3m e (H.blks.get d)) (fun kn => bif Nat.beq 0 (0 * k) then
   bif Nat.ble (0 + (n + 1) * k) kn then inPlace H d (0 + n * k) r (.slice d 0 (n + 1) true 0)
   else z0b (z0o H d 0 (n * k)) fun old => z0M H d none fun H' => z2Q H' e (n + 1) (app old r)
  else none) = _
 have hkn : z3m e (H.blks.get d) = some (n * k) := by
  rw [hd]
  show (bif Nat.beq e e then some (len y) else none) = _
  rw [z1k rfl, cond_true, z0S, hy]
 have hnk : 0 < n * k := Nat.mul_pos hn0 hk0
 have hb' : Nat.ble (0 + (n + 1) * k) (n * k) = false := by
  cases hh : Nat.ble (0 + (n + 1) * k) (n * k)
  ·rfl
  ·have := z1h hh
   rw [Nat.succ_mul] at this
   omega
 rw [hkn]
 show (bif Nat.beq 0 (0 * k) then
   bif Nat.ble (0 + (n + 1) * k) (n * k) then inPlace H d (0 + n * k) r (.slice d 0 (n + 1) true 0)
   else z0b (z0o H d 0 (n * k)) fun old => z0M H d none fun H' => z2Q H' e (n + 1) (app old r)
  else none) = _
 rw [hb', cond_false, z1k (Nat.zero_mul k).symm, cond_true]
 have hld : z0o H d 0 (n * k) = some y := by
  rw [z9z _ _ _ (by omega), hd]
  show z4J (z6S y 0) (n * k) = _
  rw [z2t, z1O, List.drop_zero, if_pos (Nat.le_of_eq hy.symm), List.take_of_length_le (Nat.le_of_eq hy)]
 rw [hld]
 show z0M H d none (fun H' => z2Q H' e (n + 1) (app y r)) = _
 have e1 : z0M H d none (fun H' => z2Q H' e (n + 1) (app y r)) = z2Q (z0y H d none) e (n + 1) (app y r) := by
  unfold z0M z0y
  rw [T.setK_eq, T.setK_eq]
 rw [e1, z1G]
 unfold z2Q
 rw [z1L, z7s h2 h1]
 show some (AV.slice (z0y H d none).next 0 (n + 1) true 0, _) = _
 rw [z0j]
theorem q4e {h : Heap} (hN : Neat h) (d : Nat) : Neat (z0y h d none) := fun x o hx => by
 rw [Heap.get_put] at hx
 rw [Heap.next_put]
 split at hx
 ·simp at hx
 ·exact hN x o hx
theorem k1i {n0 : Nat} {i : TypeInfo} {zero : AV} (hu : G.und t = some (.slice e)) (hty : G.types.get e = some i) (hk : i.size = k) (hk0 : 0 < k) (hby : Nat.ble i.bytes 100000 = true) (hz : G.zero e = some zero) (hzl : zero.cells.length = k)
  (hf : ∀ a, (f a).length = k) (h : GrownAt n0 e f H v l) (hN : Neat H) (hn0 : n0 ≤ H.next) (hl : l.length ≤ 100000) (hone : ∀ a ∈ l, z0V (f a) = true) {b : Nat} {a : α} (hb : H.blks.get b = some (.cells e true (f a))) (h1 : z0V (f a) = true) :
  ∃ v' H', z3n G H [t, t] [v, .slice b 0 1 false 1] = some (v', H') ∧ GrownAt n0 e f H' v' (l ++ [a]) ∧ Neat H' ∧ H'.next = H.next + 1 ∧ (∀ x o, H.blks.get x = some o → (∀ y, o ≠ .cells e false y) → H'.blks.get x = some o) ∧
   ∀ x, x < n0 → H'.blks.get x = H.blks.get x := by
 rcases h with ⟨rfl, rfl⟩ | ⟨d, h0, rfl, h2, h3⟩
 ·refine ⟨_, _, j1O hu hty hk hk0 hby hz hzl hb (hf a) h1, .inr ⟨H.next, hn0, rfl, ?_, by simp⟩, hN.push _, rfl, fun x o hx _ => ?_, fun x hx => z0Q _ _ (by omega)⟩
  ·rw [z0L]; simp
  ·rw [z0Q _ _ (Nat.ne_of_lt (hN x o hx))]; exact hx
 ·have hpos : 0 < l.length := List.length_pos_iff.2 h3
  have hnx : (z0y H d none).next = H.next := z0j _ _ _
  refine ⟨_, _, q8q hu hty hk hk0 hby hz hzl hb (hf a) h1 h2 (z4G hf l) (z9N hone) hpos hl, .inr ⟨H.next, hn0, by rw [List.length_append]; rfl, ?_, by simp⟩, (q4e hN d).push _, by rw [z1e, hnx], fun x o hx ho => ?_, fun x hx => ?_⟩
  ·have := z0L (z0y H d none) (.cells e false (l.flatMap f ++ f a))
   rw [hnx] at this
   rw [this]; simp
  ·rw [z0Q _ _ (by rw [hnx]; exact Nat.ne_of_lt (hN x o hx)), z1z _ _ _ (fun e' => by subst e'; rw [h2] at hx; exact ho _ (Option.some.inj hx).symm)]
   exact hx
  ·rw [z0Q _ _ (by rw [hnx]; omega), z1z _ _ _ (by omega)]
theorem k1j {zero : AV} (hu : G.und t = some (.slice e)) (hz : G.size e = some k) (hzero : G.zero e = some zero) (hzl : zero.cells.length = k) (hk : Nat.ble (1 * k) 10000 = true) (hk0 : 0 < k) (cs : List AV) (hcl : cs.length = k) (h1 : z0V cs = true) :
  z1t G H t 1 [(0, .agg cs)] = some (.slice H.next 0 1 false 1, H.push (.cells e true cs)) := by
 show z0b (Sx.elemOf G t) (fun e => z0b (G.size e) fun z => z0b (G.zero e) fun zero =>
  bif Nat.ble (1 * z) 10000 then
   bif Nat.beq (len zero.cells) z then z0b (z0b (some (0 * z, z)) fun q => z0b (z6a (z0T zero.cells 1) (.agg cs) q) fun c => some c) (z1c H e 1 1) else none
  else none) = _
 rw [z3y hu]
 show z0b (G.size e) (fun z => z0b (G.zero e) fun zero =>
  bif Nat.ble (1 * z) 10000 then
   bif Nat.beq (len zero.cells) z then z0b (z0b (some (0 * z, z)) fun q => z0b (z6a (z0T zero.cells 1) (.agg cs) q) fun c => some c) (z1c H e 1 1) else none
  else none) = _
 rw [hz, hzero]
 show (bif Nat.ble (1 * k) 10000 then
   bif Nat.beq (len zero.cells) k then z0b (z0b (z6a (app zero.cells []) (.agg cs) (0 * k, k)) fun c => some c) (z1c H e 1 1) else none
  else none) = _
 rw [hk, z0S, hzl, z1k rfl, cond_true, cond_true, z1G, List.append_nil, Nat.zero_mul]
 have hs : z6a zero.cells (.agg cs) (0, k) = some cs := by
  show (bif Nat.beq (len cs) k then z1m cs zero.cells 0 else none) = _
  rw [z0S, hcl, z1k rfl, cond_true]
  have := z7r cs zero.cells [] (by rw [hzl, hcl]) (fun e => by rw [e] at hcl; simp at hcl; omega) []
  simpa using this
 rw [hs]
 show z1c H e 1 1 cs = _
 unfold z1c
 rw [z1L, h1]; rfl
theorem q5L (z : α) (n : Nat) : z0T (f z) n = (List.replicate n z).flatMap f := by
 induction n with
 | zero => rfl
 | succ n ih =>
  show app (f z) (z0T (f z) n) = _
  rw [z1G, ih, List.replicate_succ, List.flatMap_cons]
theorem k1k {i : TypeInfo} {zero : AV} (hu : G.und t = some (.slice e)) (hty : G.types.get e = some i) (hk : i.size = k) (hby : Nat.ble i.bytes 100000 = true) (hz : G.zero e = some zero) (z : α) (hz0 : zero.cells = f z) (hzl : (f z).length = k) (h1 : z0V (f z) = true) (n : Nat) (hn : n ≤ 1000) (hnk : n * k ≤ 1000) :
  z0R G H t (.int .i64 (n : Int)) (.int .i64 (n : Int)) = some (.slice H.next 0 n false n, H.push (.cells e true ((List.replicate n z).flatMap f))) := by
 show z0b (Sx.elemOf G t) (fun e => z0b (G.types.get e) (z3f G H e n n)) = _
 rw [z3y hu]
 show z0b (G.types.get e) (z3f G H e n n) = _
 rw [hty]
 show z3f G H e n n i = _
 unfold z3f
 rw [hz]
 show (bif Nat.ble n n then bif Nat.ble (n * (i.bytes + 1)) 1000000000 then bif Nat.beq (len zero.cells) i.size then bif Nat.ble (n * i.size) 1000 then z1c H e n n (z0T zero.cells n) else _ else none else none else none) = _
 have b2 : Nat.ble (n * (i.bytes + 1)) 1000000000 = true := Nat.ble_eq_true_of_le (Nat.le_trans (Nat.mul_le_mul hn (Nat.succ_le_succ (z1h hby))) (by omega))
 rw [Nat.ble_eq_true_of_le (Nat.le_refl n), b2, z0S, hz0, hzl, hk, z1k rfl, Nat.ble_eq_true_of_le hnk, q5L]
 show z1c H e n n ((List.replicate n z).flatMap f) = _
 unfold z1c
 rw [z1L, z9N (fun a ha => by rw [(List.mem_replicate.1 ha).2]; exact h1)]; rfl
end
end Go.Sx
namespace Go.Sx
open Go
section
variable {P : Program} {G : Tab} {e k t : Nat} {H H' : Heap} {v : AV}
theorem j8v {i : TypeInfo} {zero : AV} (hu : G.und t = some (.slice e)) (hty : G.types.get e = some i) (hk : i.size = k) (hk0 : 0 < k) (hby : Nat.ble i.bytes 100000 = true) (hz : G.zero e = some zero) (hzl : zero.cells.length = k)
  {b d n : Nat} {r y : List AV} (hb : H.blks.get b = some (.cells e true r)) (hr : r.length = k) (h1 : z0V r = true) (hd : H.blks.get d = some (.cells e true y)) (hy : y.length = n * k) (h2 : z0V y = true) (hn0 : 0 < n) (hn : n ≤ 100000) :
  z3n G H [t, t] [.slice d 0 n false n, .slice b 0 1 false 1] = some (.slice H.next 0 (n + 1) true 0, H.push (.cells e false (y ++ r))) := by
 show z0b (Sx.elemOf G t) (fun e => z0b (G.und t) fun u => bif intD u then z0b (G.types.get e) (z8C G H e (.slice d 0 n false n) (.slice b 0 1 false 1)) else z0b (G.types.get e) (z4s G H e (.slice d 0 n false n) (.slice b 0 1 false 1))) = _
 rw [z3y hu, hu]
 show z0b (G.types.get e) (z4s G H e (.slice d 0 n false n) (.slice b 0 1 false 1)) = _
 rw [hty]
 show z0b (G.zero e) (fun zero => bif Nat.beq i.size 0 then none else bif q8Q (.slice b 0 1 false 1) i.size then bif Nat.beq (len zero.cells) i.size then bif Nat.ble i.bytes 100000 then
  bif Nat.ble (n + 1) 1000000 then z0b (z3Y H i.size 1 (.slice b 0 1 false 1)) (z1N H e i.size 1 (.slice d 0 n false n)) else none else none else none else none) = _
 have h9 : Nat.ble (n + 1) 1000000 = true := Nat.ble_eq_true_of_le (by omega)
 rw [hz, hby, hk, h9]
 show (bif Nat.beq k 0 then none else bif Nat.beq (len zero.cells) k then z0b (z3Y H k 1 (.slice b 0 1 false 1)) (z1N H e k 1 (.slice d 0 n false n)) else none) = _
 rw [z0E (by omega : k ≠ 0), z0S, hzl, z1k rfl, cond_false, cond_true, z9O hb hr hk0]
 show (bif Nat.ble (n + 1) n then inPlace H d (0 + n * k) r (.slice d 0 (n + 1) false n)
   else bif Nat.ble n 1000000 then z0b (z0o H d 0 (n * k)) fun old => z2Q H e (n + 1) (app old r) else none) = _
 have hnk : 0 < n * k := Nat.mul_pos hn0 hk0
 have hb' : Nat.ble (n + 1) n = false := by
  cases hh : Nat.ble (n + 1) n
  ·rfl
  ·have := z1h hh; omega
 have hb2 : Nat.ble n 1000000 = true := Nat.ble_eq_true_of_le (by omega)
 have hld : z0o H d 0 (n * k) = some y := by
  rw [z9z _ _ _ (by omega), hd]
  show z4J (z6S y 0) (n * k) = _
  rw [z2t, z1O, List.drop_zero, if_pos (Nat.le_of_eq hy.symm), List.take_of_length_le (Nat.le_of_eq hy)]
 rw [hb', cond_false, hb2, cond_true, hld]
 show z2Q H e (n + 1) (app y r) = _
 rw [z1G]
 unfold z2Q
 rw [z1L, z7s h2 h1]; rfl
theorem z4o (s : List UInt8) : z0x s = s.map z8r := by
 induction s with
 | nil => rfl
 | cons a s ih => show z8r a :: z0x s = _; rw [ih]; rfl
theorem z7t (s : List UInt8) : (z0x s).length = s.length := by rw [z4o, List.length_map]
theorem q8r (s u : List UInt8) : z0x (s ++ u) = z0x s ++ z0x u := by rw [z4o, z4o, z4o, List.map_append]
theorem z7u (s : List UInt8) : z0V (z0x s) = true := by
 rw [z4o]
 exact z2n.2 fun v hv => by
  obtain ⟨x, _, rfl⟩ := List.mem_map.1 hv; rfl
def BufAt (n0 e : Nat) (H : Heap) (v : AV) (s : List UInt8) : Prop :=
 (v = .nilslice ∧ s = []) ∨ ∃ d, n0 ≤ d ∧ v = .slice d 0 s.length true 0 ∧ H.blks.get d = some (.cells e false (z0x s)) ∧ s ≠ []
theorem BufAt.one {n0 : Nat} {s : List UInt8} (h : BufAt n0 e H v s) : z0F v = true := by
 rcases h with ⟨rfl, _⟩ | ⟨d, _, rfl, _⟩ <;> rfl
theorem BufAt.len {n0 : Nat} {s : List UInt8} (h : BufAt n0 e H v s) (hu : G.und t = some (.slice e)) (K : Heap) : lenA G K t v = some (.int .i64 (s.length : Int)) := by
 rcases h with ⟨rfl, rfl⟩ | ⟨d, _, rfl, _⟩
 ·exact q1Y hu K
 ·exact z5C hu K ..
theorem BufAt.to {n0 : Nat} {s : List UInt8} (h : BufAt n0 e H v s) (hh : ∀ b y, n0 ≤ b → H.blks.get b = some (.cells e false y) → H'.blks.get b = some (.cells e false y)) : BufAt n0 e H' v s := by
 rcases h with h | ⟨d, h0, h1, h2, h3⟩
 ·exact .inl h
 ·exact .inr ⟨d, h0, h1, hh _ _ h0 h2, h3⟩
theorem k3W {n0 ts : Nat} {i : TypeInfo} {zero : AV} {s u : List UInt8} (hu : G.und t = some (.slice e)) (hus : G.und ts = some .string) (hty : G.types.get e = some i) (hk : i.size = 1) (hby : Nat.ble i.bytes 100000 = true) (hz : G.zero e = some zero) (hzl : zero.cells.length = 1)
  (h : BufAt n0 e H v s) (hN : Neat H) (hn0 : n0 ≤ H.next) (hl : s.length + u.length ≤ 1000000) (hne : u ≠ []) :
  ∃ v' H', z3n G H [t, ts] [v, .str u] = some (v', H') ∧ BufAt n0 e H' v' (s ++ u) ∧ Neat H' ∧ H'.next = H.next + 1 ∧ ∀ x, x < n0 → H'.blks.get x = H.blks.get x := by
 have hpos : 0 < u.length := List.length_pos_iff.2 hne
 have start : ∀ v : AV, q1i v = s.length → z3n G H [t, ts] [v, .str u] = z1N H e 1 u.length v (z0x u) := fun v hv => by
  show z0b (Sx.elemOf G t) (fun e => z0b (G.und ts) fun w => bif intD w then z0b (G.types.get e) (z8C G H e v (.str u)) else z0b (G.types.get e) (z4s G H e v (.str u))) = _
  rw [z3y hu, hus]
  show z0b (G.types.get e) (z4s G H e v (.str u)) = _
  rw [hty]
  show z0b (G.zero e) (fun zero => bif Nat.beq i.size 0 then none else bif Nat.beq i.size 1 then bif Nat.beq (len zero.cells) i.size then bif Nat.ble i.bytes 100000 then
   bif Nat.ble (q1i v + len u) 1000000 then z0b (z0b (z4J u (len u)) fun s => some (z0x s)) (z1N H e i.size (len u) v) else none else none else none else none) = _
  have h9 : Nat.ble (q1i v + u.length) 1000000 = true := Nat.ble_eq_true_of_le (by omega)
  rw [hz, hby, hk, z0S, h9]
  show (bif Nat.beq (len zero.cells) 1 then z0b (z0b (z4J u u.length) fun s => some (z0x s)) (z1N H e 1 u.length v) else none) = _
  rw [z0S, hzl, z1k rfl, cond_true, z1O, if_pos (Nat.le_refl _), List.take_of_length_le (Nat.le_refl _)]; rfl
 rcases h with ⟨rfl, rfl⟩ | ⟨d, h0, rfl, h2, h3⟩
 ·refine ⟨.slice H.next 0 u.length true 0, H.push (.cells e false (z0x u)), ?_, .inr ⟨H.next, hn0, by simp, by rw [z0L]; simp, by simpa using hne⟩, hN.push _, z1e _ _, fun x hx => z0Q _ _ (by omega)⟩
  rw [start .nilslice rfl]
  show (bif Nat.beq u.length 0 then some (AV.nilslice, H) else z2Q H e u.length (z0x u)) = _
  rw [z0E (by omega : u.length ≠ 0), cond_false]
  unfold z2Q
  rw [z1L, z7u]; rfl
 ·have hsp : 0 < s.length := List.length_pos_iff.2 h3
  have hnx : (z0y H d none).next = H.next := z0j _ _ _
  refine ⟨.slice H.next 0 (s.length + u.length) true 0, (z0y H d none).push (.cells e false (z0x s ++ z0x u)), ?_, .inr ⟨H.next, hn0, by rw [List.length_append], ?_, by simp [h3]⟩, (q4e hN d).push _, by rw [z1e, hnx], fun x hx => ?_⟩
  ·rw [start _ rfl]
   show z0b (z3m e (H.blks.get d)) (fun kn => bif Nat.beq 0 (0 * 1) then
     bif Nat.ble (0 + (s.length + u.length) * 1) kn then inPlace H d (0 + s.length * 1) (z0x u) (.slice d 0 (s.length + u.length) true 0)
     else z0b (z0o H d 0 (s.length * 1)) fun old => z0M H d none fun H' => z2Q H' e (s.length + u.length) (app old (z0x u))
    else none) = _
   have hkn : z3m e (H.blks.get d) = some s.length := by
    rw [h2]
    show (bif Nat.beq e e then some (len (z0x s)) else none) = _
    rw [z1k rfl, cond_true, z0S, z7t]
   have hb' : Nat.ble (0 + (s.length + u.length) * 1) s.length = false := by
    cases hh : Nat.ble (0 + (s.length + u.length) * 1) s.length
    ·rfl
    ·have := z1h hh; omega
   have hld : z0o H d 0 (s.length * 1) = some (z0x s) := by
    rw [z9z _ _ _ (by omega), h2]
    show z4J (z6S (z0x s) 0) (s.length * 1) = _
    rw [z2t, z1O, List.drop_zero, Nat.mul_one, if_pos (by rw [z7t]; exact Nat.le_refl _), List.take_of_length_le (by rw [z7t]; exact Nat.le_refl _)]
   rw [hkn]
   show (bif Nat.ble (0 + (s.length + u.length) * 1) s.length then inPlace H d (0 + s.length * 1) (z0x u) (.slice d 0 (s.length + u.length) true 0)
     else z0b (z0o H d 0 (s.length * 1)) fun old => z0M H d none fun H' => z2Q H' e (s.length + u.length) (app old (z0x u))) = _
   rw [hb', cond_false, hld]
   show z0M H d none (fun H' => z2Q H' e (s.length + u.length) (app (z0x s) (z0x u))) = _
   have e1 : z0M H d none (fun H' => z2Q H' e (s.length + u.length) (app (z0x s) (z0x u))) = z2Q (z0y H d none) e (s.length + u.length) (app (z0x s) (z0x u)) := by
    unfold z0M z0y
    rw [T.setK_eq, T.setK_eq]
   rw [e1, z1G]
   unfold z2Q
   rw [z1L, z7s (z7u s) (z7u u)]
   show some (AV.slice (z0y H d none).next 0 (s.length + u.length) true 0, _) = _
   rw [hnx]
  ·have := z0L (z0y H d none) (.cells e false (z0x s ++ z0x u))
   rw [hnx] at this
   rw [this, q8r]
  ·rw [z0Q _ _ (by rw [hnx]; omega), z1z _ _ _ (by omega)]
end
end Go.Sx
namespace Go.Sx
section
variable {P : Program} {G : Tab}
theorem Gets.of_reach {c : Ctx} {x : Code} {s : St} {outs : List (Ex × St)} (h : z4C P G c x s outs) : Gets P G c x s fun e s' => (e, s') ∈ outs :=
 fun ρ D w tm df b k cs hS hR => by
  obtain ⟨p, hp, ρ', D', w', tm', df', h1, h2, h3⟩ := h ρ D w tm df b k cs hS hR
  exact ⟨p.1, p.2, hp, ρ', D', w', tm', df', h1, h2, h3⟩
noncomputable def j8w (v : AV) (o : Option (List AV)) : Bool :=
 match o with
 | some [u] => AV.beq u v
 | _ => false
noncomputable def j1P (H : Heap) (G : Tab) (rs : List ResultVar) (v : AV) (p : Ex × St) : Bool :=
 bif z1I p.1 then (bif z5I p.2.df then (bif j8w v (z0C G p.2.tm p.2.h rs) then (bif Nat.ble H.next p.2.h.next then q4b p.2.h.blks H.blks H.next else false) else false) else false) else false
noncomputable def q4f (H : Heap) (G : Tab) (rs : List ResultVar) (v : AV) (l : List (Ex × St)) : Bool := List.rec true (fun p _ ih => bif j1P H G rs v p then ih else false) l
noncomputable def endOk (H : Heap) (G : Tab) (rs : List ResultVar) (v : AV) (o : Outs) : Bool :=
 match o with
 | none => false
 | some l => q4f H G rs v l
theorem z7v {H : Heap} {rs : List ResultVar} {v : AV} : ∀ {l : List (Ex × St)}, q4f H G rs v l = true → ∀ p ∈ l, j1P H G rs v p = true
 | [], _, p, hp => by simp at hp
 | x :: l, h, p, hp => by
  have h : (bif j1P H G rs v x then q4f H G rs v l else false) = true := h
  obtain ⟨h1, h2⟩ := z0f h
  rcases List.mem_cons.1 hp with rfl | hp
  ·exact h1
  ·exact z7v h2 p hp
theorem j8x (TT : TabOk P G) {m : Nat} {f : FuncId} {fn : Func} {body rest : Code} (hf : P.funcs[f]? = some fn) (hb : fn.body = some body) (hn : (fn.name == "runtime.NumGoroutine") = false) {H : Heap} {s : St} {c : Ctx} (hc : c = ⟨none, fn.ntmps⟩)
  (hr : ∀ outs, z4C P G c rest s outs → z4C P G c body ⟨.e, H, []⟩ outs) {v : AV} (he : endOk H G fn.results.toList v (z0p rest (fns G m) G c s) = true) (hN : Neat H) (hv : ltV H.next v) : CallTo P G f [] H [(v, H)] := by
 subst hc
 cases ho : z0p rest (fns G m) G ⟨none, fn.ntmps⟩ s with
 | none => rw [ho] at he; simp [endOk] at he
 | some l =>
  rw [ho] at he
  have hall := z7v (show q4f H G fn.results.toList v l = true from he)
  refine z4j TT hf hb hn ?_
  have hG := Gets.of_reach (hr l (q0N TT ho))
  have e0 : ([] : List AV).length + (fn.ntmps - ([] : List AV).length) = fn.ntmps := by simp
  rw [e0]
  refine Gets.mono hG fun e s' hm => ?_
  have h1 := hall _ hm
  obtain ⟨k1, h2⟩ := z0f h1
  obtain ⟨k2, h3⟩ := z0f h2
  obtain ⟨k3, h4⟩ := z0f h3
  obtain ⟨k4, k5⟩ := z0f h4
  have k2 : s'.df = [] := (z2v _).1 k2
  refine ⟨k1, k2, ?_⟩
  unfold j8w at k3
  split at k3
  ·rename_i u hu
   have k3 := AV.beq_eq _ _ k3
   subst k3
   exact ⟨[u], hu, (u, H), List.mem_singleton.2 rfl, .pure (z1h k4) (z6O k5) hN hv⟩
  ·simp at k3
end
end Go.Sx
namespace Go.Sx
section
variable {P : Program} {G : Tab}
theorem Gets.loop1 {c : Ctx} {x : Code} {s : St} {Q : Ex → St → Prop} (h : Gets P G c x s fun e s' => match e with | .normal => Gets P G c (.loop x) s' Q | e => Q e s') : Gets P G c (.loop x) s Q := by
 intro ρ D w tm df b k cs hS hR
 obtain ⟨e, s', h1, ρ', D', w', tm', df', g1, g2, g3⟩ := h ρ D w tm df b (.inLoop x :: k) cs hS hR
 have first : Steps P (lone (fat b tm df (entry (.loop x) k)) cs w) (lone (fat b tm df (entry x (.inLoop x :: k))) cs w) := z0D
 cases e with
 | normal =>
  obtain ⟨e₂, s₂, h2, ρ₂, D₂, w₂, tm₂, df₂, f1, f2, f3⟩ := h1 ρ' D' w' tm' df' b k cs g1 (hR.sub g2.sub)
  exact ⟨e₂, s₂, h2, ρ₂, D₂, w₂, tm₂, df₂, f1, g2.trans f2, Arr.of_steps (first.trans (Steps.trans g3 (.one z9f))) f3⟩
 | exit j => exact ⟨_, s', h1, ρ', D', w', tm', df', g1, g2, Arr.of_steps first (Arr.pass (by simp) (fun _ _ => rfl) (fun _ _ => rfl) g3)⟩
 | goto j => exact ⟨_, s', h1, ρ', D', w', tm', df', g1, g2, Arr.of_steps first (Arr.pass (by simp) (fun _ _ => rfl) (fun _ _ => rfl) g3)⟩
 | ret => exact ⟨_, s', h1, ρ', D', w', tm', df', g1, g2, Arr.of_steps first (Arr.pass (by simp) (fun _ _ => rfl) (fun _ _ => rfl) g3)⟩
theorem Gets.weak {c : Ctx} {x : Code} {s s' : St} {Q : Ex → St → Prop} (hs : q1O s s' = true) (h : Gets P G c x s' Q) : Gets P G c x s Q := by
 intro ρ D w tm df b k cs hS hR
 obtain ⟨g1, g2⟩ := q6M hs hS
 obtain ⟨e, s1, h1, ρ', D', w', tm', df', f1, f2, f3⟩ := h ρ D w tm df b k cs g1 hR
 exact ⟨e, s1, h1, ρ', D', w', tm', df', f1, ⟨f2.sub, Nat.le_trans g2 f2.next, fun b hb => (f2.new b hb).imp_right (Nat.le_trans g2)⟩, f3⟩
theorem Gets.code (TT : TabOk P G) {ov : Ov} (ho : OvOk P G ov) {m : Nat} {c : Ctx} {x : Code} {s : St} {l : List (Ex × St)} (h : z0p x (fnsO G ov m) G c s = some l) : Gets P G c x s fun e s' => (e, s') ∈ l :=
 Gets.of_reach fun ρ D w tm df b k cs hS hR => z7l TT ho m x c s l h ρ D w tm df b k cs hS hR
noncomputable def loopTo (r : St → Outs) (n : Nat) : St → Outs := Nat.rec (fun s => some [(.normal, s)]) (fun _ ih s => z1B (r s) (z3o ih)) n
theorem Gets.loopTo (TT : TabOk P G) {ov : Ov} (ho : OvOk P G ov) {m : Nat} {c : Ctx} {x : Code} {Q : Ex → St → Prop} : ∀ (n : Nat) (s : St) (l : List (Ex × St)), Sx.loopTo (z0p x (fnsO G ov m) G c) n s = some l →
  (∀ p ∈ l, p.1 = .normal ∧ Gets P G c (.loop x) p.2 Q) → Gets P G c (.loop x) s Q := by
 intro n
 induction n with
 | zero =>
  intro s l h hl
  have h : some [(Ex.normal, s)] = some l := h
  simp only [Option.some.injEq] at h; subst h
  exact (hl _ (List.mem_singleton.2 rfl)).2
 | succ n ih =>
  intro s l h hl
  have h : z1B (z0p x (fnsO G ov m) G c s) (z3o (Sx.loopTo (z0p x (fnsO G ov m) G c) n)) = some l := h
  obtain ⟨l1, h1, hin⟩ := z0w h
  refine Gets.loop1 ((Gets.code TT ho h1).mono fun e s1 hm => ?_)
  obtain ⟨z, hz, hzin⟩ := hin _ hm
  rcases z2H hz with ⟨e1, e2⟩ | ⟨e1, e2⟩
  ·simp only at e1 e2
   subst e1
   exact ih s1 z e2 fun p hp => hl p (hzin p hp)
  ·subst e2
   exact absurd (hl _ (hzin _ (List.mem_singleton.2 rfl))).1 e1
theorem Gets.loopSeg (TT : TabOk P G) {ov : Ov} (ho : OvOk P G ov) {m n : Nat} {c : Ctx} {x : Code} {s s' : St} {Q : Ex → St → Prop} (h : z1S s' (Sx.loopTo (z0p x (fnsO G ov m) G c) n s) = true) (hr : Gets P G c (.loop x) s' Q) : Gets P G c (.loop x) s Q := by
 cases ho' : Sx.loopTo (z0p x (fnsO G ov m) G c) n s with
 | none => rw [ho'] at h; simp [z1S] at h
 | some l =>
  rw [ho'] at h
  have hall := z5A (l := l) h
  exact Gets.loopTo TT ho n s l ho' fun p hp => ⟨(hall p hp).1, .weak (hall p hp).2 hr⟩
theorem Gets.segs (TT : TabOk P G) {ov : Ov} (ho : OvOk P G ov) {m : Nat} {c : Ctx} {Q : Ex → St → Prop} : ∀ (n : Nat) (x : Code) (s : St) (l : List (Ex × St)), z6F n x (fnsO G ov m) G c s = some l →
  (∀ p ∈ l, p.1 = .normal ∧ Gets P G c (z5f n x) p.2 Q) → Gets P G c x s Q := by
 intro n
 induction n with
 | zero =>
  intro x s l h hl
  have h : some [(Ex.normal, s)] = some l := h
  simp only [Option.some.injEq] at h; subst h
  exact (hl _ (List.mem_singleton.2 rfl)).2
 | succ n ih =>
  intro x s l h hl
  cases x with
  | seq a y =>
   have h : z1B (z0p a (fnsO G ov m) G c s) (z3o (z6F n y (fnsO G ov m) G c)) = some l := h
   obtain ⟨l1, h1, hin⟩ := z0w h
   refine Gets.seq ((Gets.code TT ho h1).mono fun e s1 hm => ?_)
   obtain ⟨z, hz, hzin⟩ := hin _ hm
   rcases z2H hz with ⟨e1, e2⟩ | ⟨e1, e2⟩
   ·simp only at e1 e2
    subst e1
    exact ih y s1 z e2 fun p hp => hl p (hzin p hp)
   ·subst e2
    exact absurd (hl _ (hzin _ (List.mem_singleton.2 rfl))).1 e1
  | _ => have h : (none : Outs) = some l := h; simp at h
theorem Gets.seg (TT : TabOk P G) {ov : Ov} (ho : OvOk P G ov) {m n : Nat} {c : Ctx} {x : Code} {s s' : St} {Q : Ex → St → Prop} (h : z1S s' (z6F n x (fnsO G ov m) G c s) = true) (hr : Gets P G c (z5f n x) s' Q) : Gets P G c x s Q := by
 cases ho' : z6F n x (fnsO G ov m) G c s with
 | none => rw [ho'] at h; simp [z1S] at h
 | some l =>
  rw [ho'] at h
  have hall := z5A (l := l) h
  exact Gets.segs TT ho n x s l ho' fun p hp => ⟨(hall p hp).1, .weak (hall p hp).2 hr⟩
theorem Gets.endOk (TT : TabOk P G) {ov : Ov} (ho : OvOk P G ov) {m : Nat} {c : Ctx} {x : Code} {s : St} {H : Heap} {rs : List ResultVar} {v : AV} (he : Sx.endOk H G rs v (z0p x (fnsO G ov m) G c s) = true) (hN : Neat H) (hv : ltV H.next v) :
  Gets P G c x s fun e s' => z1I e = true ∧ s'.df = [] ∧ ∃ vs, z0C G s'.tm s'.h rs = some vs ∧ ∃ p ∈ [(v, H)], Cut H p (z2a vs) s'.h := by
 cases ho' : z0p x (fnsO G ov m) G c s with
 | none => rw [ho'] at he; simp [Sx.endOk] at he
 | some l =>
  rw [ho'] at he
  have hall := z7v (show q4f H G rs v l = true from he)
  refine (Gets.code TT ho ho').mono fun e s' hm => ?_
  have h1 := hall _ hm
  obtain ⟨k1, h2⟩ := z0f h1
  obtain ⟨k2, h3⟩ := z0f h2
  obtain ⟨k3, h4⟩ := z0f h3
  obtain ⟨k4, k5⟩ := z0f h4
  have k2 : s'.df = [] := (z2v _).1 k2
  refine ⟨k1, k2, ?_⟩
  unfold j8w at k3
  split at k3
  ·rename_i u hu
   have k3 := AV.beq_eq _ _ k3
   subst k3
   exact ⟨[u], hu, (u, H), List.mem_singleton.2 rfl, .pure (z1h k4) (z6O k5) hN hv⟩
  ·simp at k3
theorem j8P (TT : TabOk P G) {f : FuncId} {fn : Func} {body : Code} (hf : P.funcs[f]? = some fn) (hb : fn.body = some body) (hn : (fn.name == "runtime.NumGoroutine") = false) {args : List AV} {H : Heap} {outs : List VH}
  (hg : Gets P G ⟨none, args.length + (fn.ntmps - args.length)⟩ body ⟨q0O args, H, []⟩ fun e s' =>
   z1I e = true ∧ s'.df = [] ∧ ∃ vs, z0C G s'.tm s'.h fn.results.toList = some vs ∧ (z2a vs, s'.h) ∈ outs) : CallTo P G f args H outs := by
 intro ρ D w kind cs hH ha
 refine ⟨⟨fn, body, hf, hb, hn⟩, ?_⟩
 obtain ⟨tm, e1, e2⟩ := z5x args .e 0 (id : T AV → T AV)
 have htm : q0O args = tm := e1
 rw [htm] at hg
 let b : Frame := { fn := f, tmps := #[], todo := [], defers := [], mode := .run, kind := kind.1 }
 have henter : Frame.enter P f (concL ρ args).toArray kind.1 = fat b ((concL ρ args).toArray ++ Array.replicate (fn.ntmps - (concL ρ args).toArray.size) undef) [] [.code body] := by
  simp [Frame.enter, fat, hf, hb, b]
 rw [henter]
 obtain ⟨e, s', ⟨q1, q2, vs, q3, hp⟩, ρ', D', w', tm', df', r1, r2, r3⟩ := hg ρ D w _ [] b [] cs ⟨hH, z3E ha e2, trivial⟩ rfl
 have hend : z2D (fnsO G (fun _ _ _ => none) 0) G fn.results.toList (e, s') = some [(z2a vs, s'.h)] := by
  obtain ⟨tm₀, h₀, df₀⟩ := s'
  simp only at q2 q3
  subst q2
  unfold z2D
  simp only [q1, cond_true]
  show z0b (z0C G tm₀ h₀ fn.results.toList) (fun vs => some [(z2a vs, h₀)]) = _
  rw [q3]; rfl
 obtain ⟨q, hq, ρ₂, D₂, w₂, todo, g1, g2, g3, g4, g5⟩ := z5y TT (z5g TT (fun _ _ _ _ h => by simp at h) 0) hend r1 b rfl cs (r3.of_steps z0D)
 simp only [List.mem_singleton] at hq
 subst hq
 exact ⟨_, hp, ρ₂, D₂, w₂, _, g1, r2.trans g2, g3, g4, rfl, rfl, rfl, rfl, fn, hf, g5⟩
theorem CallTo.more {f : FuncId} {args : List AV} {H H' : Heap} {outs : List VH} (h : CallTo P G f args H outs) (hs : ∀ b o, H.blks.get b = some o → H'.blks.get b = some o) (hn : H'.next ≤ H.next) : CallTo P G f args H' outs := by
 intro ρ D w kind cs hH ha
 obtain ⟨h0, p, hp, ρ', D', w', fr, h1, h2, h3⟩ := h ρ D w kind cs (hH.less hs hn) ha
 exact ⟨h0, p, hp, ρ', D', w', fr, h1, ⟨h2.sub, Nat.le_trans hn h2.next, fun b hb => (h2.new b hb).imp_right (Nat.le_trans hn)⟩, h3⟩
noncomputable def ovPt (f : FuncId) (args : List AV) (H : Heap) (out : VH) : Ov := fun f' args' H' =>
 bif Nat.beq f' f then (bif z1X AV.beq args' args then (bif z7j H.blks H'.blks then (bif Nat.ble H'.next H.next then some [out] else none) else none) else none) else none
theorem k3X {f : FuncId} {args : List AV} {H : Heap} {out : VH} (h : CallTo P G f args H [out]) : OvOk P G (ovPt f args H out) := by
 intro f' args' H' outs ho
 obtain ⟨h1, ho⟩ := z0c ho
 obtain ⟨h2, ho⟩ := z0c ho
 obtain ⟨h3, ho⟩ := z0c ho
 obtain ⟨h4, ho⟩ := z0c ho
 simp only [Option.some.injEq] at ho; subst ho
 have h1 := z0B h1
 have h2 := z4h (fun a b => AV.beq_eq a b) _ _ h2
 subst h1 h2
 exact h.more (z5z h3) (z1h h4)
noncomputable def ovOr (a b : Ov) : Ov := fun f args H => orOv (a f args H) (b f args H)
theorem k3Y {a b : Ov} (ha : OvOk P G a) (hb : OvOk P G b) : OvOk P G (ovOr a b) := by
 intro f args H outs h
 unfold ovOr orOv at h
 split at h
 ·rename_i l hl
  simp only [Option.some.injEq] at h; subst h
  exact ha _ _ _ _ hl
 ·exact hb _ _ _ _ h
theorem Gets.keep {c : Ctx} {x : Code} {s : St} {R Q : Ex → St → Prop} (h : Gets P G c x s R) (hw : ∀ e s1, R e s1 → ∃ H : Heap, (∀ b o, H.blks.get b = some o → s1.h.blks.get b = some o) ∧ s1.h.next ≤ H.next ∧ Q e ⟨s1.tm, H, s1.df⟩) : Gets P G c x s Q := by
 intro ρ D w tm df b k cs hS hR
 obtain ⟨e, s1, h1, ρ', D', w', tm', df', f1, f2, f3⟩ := h ρ D w tm df b k cs hS hR
 obtain ⟨H, q1, q2, q3⟩ := hw e s1 h1
 exact ⟨e, _, q3, ρ', D', w', tm', df', ⟨f1.h.less q1 q2, f1.t, f1.d⟩, ⟨f2.sub, Nat.le_trans f2.next q2, f2.new⟩, f3⟩
noncomputable def j1Q (j : Nat) (e : Ex) : Bool :=
 match e with
 | .exit k => Nat.beq k j
 | _ => false
noncomputable def q2n (j : Nat) (s' : St) (l : List (Ex × St)) : Bool := List.rec true (fun p _ ih => bif j1Q j p.1 then (bif q1O p.2 s' then ih else false) else false) l
noncomputable def q5M (j : Nat) (s' : St) (o : Outs) : Bool :=
 match o with
 | none => false
 | some l => q2n j s' l
theorem q5N {j : Nat} {s' : St} : ∀ {l : List (Ex × St)}, q2n j s' l = true → ∀ p ∈ l, p.1 = .exit j ∧ q1O p.2 s' = true := by
 intro l
 induction l with
 | nil => intro _ p hp; simp at hp
 | cons a l ih =>
  intro h p hp
  have h : (bif j1Q j a.1 then (bif q1O a.2 s' then q2n j s' l else false) else false) = true := h
  obtain ⟨h1, h2⟩ := z0f h
  obtain ⟨h2, h3⟩ := z0f h2
  rcases List.mem_cons.1 hp with rfl | hp
  ·refine ⟨?_, h2⟩
   cases hp1 : p.1 <;> rw [hp1] at h1 <;> simp [j1Q] at h1 ⊢
   exact h1
  ·exact ih h3 p hp
theorem z9P {s s' : St} (h : q1O s s' = true) : s' = ⟨s.tm, s'.h, s.df⟩ ∧ (∀ b o, s'.h.blks.get b = some o → s.h.blks.get b = some o) ∧ s.h.next ≤ s'.h.next := by
 obtain ⟨h1, h⟩ := z0f h
 obtain ⟨h2, h⟩ := z0f h
 obtain ⟨h3, h⟩ := z0f h
 obtain ⟨h4, h5⟩ := z0f h
 have h1 := T.beq_eq AV.beq_eq _ _ h1
 have h4 := (z2v _).1 h4
 have h5 := (z2v _).1 h5
 refine ⟨?_, z5z h2, z1h h3⟩
 cases s; cases s'; simp_all
theorem Gets.loopExit (TT : TabOk P G) {ov : Ov} (ho : OvOk P G ov) {m j : Nat} {c : Ctx} {x : Code} {s s' : St} {Q : Ex → St → Prop} (h : q5M j s' (z0p x (fnsO G ov m) G c s) = true) (hq : Q (.exit j) s') : Gets P G c (.loop x) s Q := by
 cases ho' : z0p x (fnsO G ov m) G c s with
 | none => rw [ho'] at h; simp [q5M] at h
 | some l =>
  rw [ho'] at h
  have hall := q5N (l := l) h
  refine Gets.loop1 ((Gets.code TT ho ho').keep fun e s1 hm => ?_)
  obtain ⟨h1, h2⟩ := hall _ hm
  obtain ⟨h3, h4, h5⟩ := z9P h2
  simp only at h1
  subst h1
  exact ⟨s'.h, h4, h5, by show Q (.exit j) _; rw [← h3]; exact hq⟩
noncomputable def k1l (v : AV) (o : Option (List AV)) : Bool :=
 match o with
 | some vs => AV.beq (z2a vs) v
 | none => false
noncomputable def q5O (G : Tab) (rs : List ResultVar) (v : AV) (H : Heap) (p : Ex × St) : Bool :=
 bif z1I p.1 then (bif z5I p.2.df then (bif k1l v (z0C G p.2.tm H rs) then (bif z7j H.blks p.2.h.blks then Nat.ble p.2.h.next H.next else false) else false) else false) else false
noncomputable def q2o (G : Tab) (rs : List ResultVar) (v : AV) (H : Heap) (l : List (Ex × St)) : Bool := List.rec true (fun p _ ih => bif q5O G rs v H p then ih else false) l
noncomputable def endAll (G : Tab) (rs : List ResultVar) (v : AV) (H : Heap) (o : Outs) : Bool :=
 match o with
 | none => false
 | some l => q2o G rs v H l
theorem z9Q {rs : List ResultVar} {v : AV} {H : Heap} : ∀ {l : List (Ex × St)}, q2o G rs v H l = true → ∀ p ∈ l, q5O G rs v H p = true
 | [], _, p, hp => by simp at hp
 | x :: l, h, p, hp => by
  have h : (bif q5O G rs v H x then q2o G rs v H l else false) = true := h
  obtain ⟨h1, h2⟩ := z0f h
  rcases List.mem_cons.1 hp with rfl | hp
  ·exact h1
  ·exact z9Q h2 p hp
theorem Gets.endAll (TT : TabOk P G) {ov : Ov} (ho : OvOk P G ov) {m : Nat} {c : Ctx} {x : Code} {s : St} {H : Heap} {rs : List ResultVar} {v : AV} (he : Sx.endAll G rs v H (z0p x (fnsO G ov m) G c s) = true) :
  Gets P G c x s fun e s' => z1I e = true ∧ s'.df = [] ∧ ∃ vs, z0C G s'.tm s'.h rs = some vs ∧ (z2a vs, s'.h) ∈ [(v, H)] := by
 cases ho' : z0p x (fnsO G ov m) G c s with
 | none => rw [ho'] at he; simp [Sx.endAll] at he
 | some l =>
  rw [ho'] at he
  have hall := z9Q (show q2o G rs v H l = true from he)
  refine (Gets.code TT ho ho').keep fun e s1 hm => ?_
  have h1 := hall _ hm
  obtain ⟨k1, h2⟩ := z0f h1
  obtain ⟨k2, h3⟩ := z0f h2
  obtain ⟨k3, h4⟩ := z0f h3
  obtain ⟨k4, k5⟩ := z0f h4
  refine ⟨H, z5z k4, z1h k5, k1, (z2v _).1 k2, ?_⟩
  unfold k1l at k3
  split at k3
  ·rename_i vs hu
   have k3 := AV.beq_eq _ _ k3
   exact ⟨vs, hu, by rw [← k3]; exact List.mem_singleton.2 rfl⟩
  ·simp at k3
def w2t (x : Code) : Code := match x with | .seq (.block _ (.loop b)) _ => b | _ => .skip
end
end Go.Sx
namespace Go.Sx
noncomputable section
abbrev PFn := FuncId → List AV → Heap → Option VH
structure PSt where
 v : AV
 h : Heap
 tm : Option (T AV)
 df : List ADefer
def q2p (v : AV) : Bool :=
 match v with
 | .iface _ _ => true
 | _ => false
def q6X (Q : PFn) (args : List AV) (H : Heap) (v : AV) : Option VH :=
 match v with
 | .func (.func f) first cap => Q f (app first (app args cap)) H
 | _ => none
def j8y (Q : PFn) (G : Tab) (tm : T AV) (H : Heap) (cl : Call) : Option VH :=
 z0b (z6b cl.callee) fun f => z0b (aev G tm f) fun v => z0b (aevs G tm cl.args.toList) fun args => q6X Q args H v
def opP (Q : PFn) (G : Tab) (tm : T AV) (H : Heap) (o : Op) : Option VH :=
 match o with
 | .panic x => z0b (aev G tm x) fun v => bif q2p v then some (v, H) else none
 | .call cl => j8y Q G tm H cl
 | _ => none
def k1m (Q : PFn) (G : Tab) (all : List Oper) (o : Oper) (s : St) : Option PSt :=
 bif z0s all o.guard s.tm then z0b (opP Q G s.tm s.h o.op) fun p => some ⟨p.1, p.2, some s.tm, s.df⟩ else none
def one1 : Run := fun _ _ _ _ s => some [s]
def j4j (r : Option (List St)) (ih : St → Option PSt) (e : Unit → Option PSt) : Option PSt :=
 match r with
 | some [s] => ih s
 | some _ => none
 | none => e ()
def seqP (F : Fns) (Q : PFn) (G : Tab) (c : Ctx) (all l : List Oper) : St → Option PSt :=
 List.rec (fun _ => none) (fun o _ ih s => j4j (z3A o one1 F G c all s) ih fun _ => k1m Q G all o s) l
def encP (df : List ADefer) (p : Option VH) : Option (List St) := z0b p fun p => some [⟨.n .e (some p.1) .e, p.2, df⟩]
def j1R (Q : PFn) (G : Tab) (all : List Oper) (rs : List RO) (d : DS) (o : Option RO) : Option (List St) :=
 match o with
 | none => none
 | some r => bif sub r.pre d.done then (bif z0l r d.done rs then (bif z0s all r.o.guard d.s.tm then encP d.s.df (opP Q G d.s.tm d.s.h r.o.op) else none) else none) else none
def q6Y (Q : PFn) (G : Tab) (all : List Oper) (rs : List RO) : DK := fun d =>
 bif z2s G rs 0 d then j1R Q G all rs d (z0v d.done rs) else none
def decS (s : St) : Option PSt := z0b (s.tm.get 0) fun v => some ⟨v, s.h, none, s.df⟩
def decP (o : Option (List St)) : Option PSt :=
 match o with
 | some [s] => decS s
 | _ => none
def k1n (Q : PFn) (G : Tab) (c : Ctx) (all : List Oper) (s : St) (rs : List RO) : Option (List St) :=
 bif z3c all rs rs then z0O G c all rs (q6Y Q G all rs) ⟨0, s, []⟩ else none
def drawP (Q : PFn) (G : Tab) (c : Ctx) (all : List Oper) (s : St) : Option PSt :=
 decP (z0b (bif z5K all then z6Y all 0 .e else z2R all 0 .e) (k1n Q G c all s))
def regP (F : Fns) (Q : PFn) (G : Tab) (c : Ctx) (ops : List Oper) (draw : Bool) (s : St) : Option PSt :=
 bif draw then drawP Q G c ops s else seqP F Q G c ops ops s
def j4k (o : Outs) (b : St → Option PSt) (a : Unit → Option PSt) : Option PSt :=
 match o with
 | some [(.normal, s)] => b s
 | some _ => none
 | none => a ()
def j8z (a b : St → Option PSt) (s : St) (v : AV) : Option PSt :=
 match v with
 | .bool true => a s
 | .bool false => b s
 | _ => none
def noP (_ : St) : Option PSt := none
def q2q (F : Fns) (Q : PFn) (G : Tab) (c : Ctx) (x : Code) : St → Option PSt :=
 Code.rec noP (fun _ ops draw s => regP F Q G c ops.toList draw s) (fun x _ a b s => j4k (z0p x F G c s) b fun _ => a s)
  (fun x _ _ a b s => z0b (aev G s.tm x) (j8z a b s)) (fun _ _ b => b) (fun _ _ => noP)
  (fun _ _ _ _ _ _ => noP) (fun _ => noP) (fun _ _ => noP) (fun _ => noP) (fun _ => noP) noP (fun _ => noP) x
def j4l (d : ADefer) (ih : Heap → Option Heap) (H : Heap) : Option Heap :=
 match d with
 | .collected r => (match H.blks.get r with
  | some .deferred => ih (z9T H r)
  | _ => none)
 | _ => none
def q2r (l : List ADefer) : Heap → Option Heap := List.rec (fun H => some H) (fun d _ ih H => j4l d ih H) l
def j4W (p : PSt) : Option VH := z0b (q2r p.df p.h) fun h => some (p.v, h)
def j4X (F : Fns) (Q : PFn) (G : Tab) (f : FuncId) (args : List AV) (H : Heap) : Option VH :=
 z0b (G.funcs.get f) fun fn => z0b fn.body fun body => z7V args .e 0 fun tm => z0G (len args + (fn.ntmps - len args)) fun N =>
  z0b (q2q F Q G ⟨none, N⟩ body ⟨tm, H, []⟩) j4W
def z6Q (o : Oper) : Bool :=
 match o.guard, o.op with
 | none, .call cl => (match cl.callee with
  | .builtin .recover => true
  | _ => false)
 | _, _ => false
def q6Z (F : Fns) (G : Tab) (c : Ctx) (v : AV) (all : List Oper) (s : St) (l : List Oper) : Outs :=
 match l with
 | [] => none
 | o :: l => bif z6Q o then z0J c s.tm o.dst v fun tm => z1u (z0t l F G c all ⟨tm, s.h, s.df⟩) else none
def noR (_ : St) : Outs := none
def q7a (F : Fns) (G : Tab) (c : Ctx) (v : AV) (x : Code) : St → Outs :=
 Code.rec noR (fun _ ops draw s => bif draw then none else q6Z F G c v ops.toList s ops.toList) (fun _ y a _ s => z1B (a s) (z3o (z0p y F G c)))
  (fun _ _ _ _ _ => noR) (fun _ _ _ => noR) (fun _ _ => noR) (fun _ _ _ _ _ _ => noR) (fun _ => noR) (fun _ _ => noR) (fun _ => noR) (fun _ => noR) noR (fun _ => noR) x
def j4Y (G : Tab) (rs : List ResultVar) (p : Ex × St) : Option (List Heap) :=
 bif z1I p.1 then (bif z5I p.2.df then z0b (z0C G p.2.tm p.2.h rs) fun _ => some [p.2.h] else none) else none
def q2s (F : Fns) (G : Tab) (v : AV) (f : FuncId) (args : List AV) (H : Heap) : Option (List Heap) :=
 z0b (G.funcs.get f) fun fn => z0b fn.body fun body => z7V args .e 0 fun tm => z0G (len args + (fn.ntmps - len args)) fun N =>
  z1B (q7a F G ⟨none, N⟩ v body ⟨tm, H, []⟩) (j4Y G fn.results.toList)
def z6R (l : List ADefer) : Option (FuncId × List AV) :=
 match l with
 | [.call (.func (.func g) first cap) args] => some (g, app first (app args cap))
 | _ => none
def k3Z (F : Fns) (G : Tab) (rs : List ResultVar) (q : Ex × St) : Option (List VH) :=
 bif z1I q.1 then (bif z5I q.2.df then resOut G q.2.tm rs q.2.h else
  z0b (z6R q.2.df) fun d => z1B (q2s F G .nilIface d.1 d.2 q.2.h) (resOut G q.2.tm rs)) else none
def k4a (F : Fns) (G : Tab) (rs : List ResultVar) (p : PSt) : Option (List VH) :=
 z0b p.tm fun tm => z0b (z6R p.df) fun d => z1B (q2s F G p.v d.1 d.2 p.h) (resOut G tm rs)
def endR (F : Fns) (G : Tab) (rs : List ResultVar) (o : Outs) (p : Unit → Option PSt) : Option (List VH) :=
 match o with
 | some l => q8Y (k3Z F G rs) l
 | none => z0b (p ()) (k4a F G rs)
def q2t (F : Fns) (Q : PFn) (G : Tab) (f : FuncId) (args : List AV) (H : Heap) : Option (List VH) :=
 z0b (G.funcs.get f) fun fn => z0b fn.body fun body => z7V args .e 0 fun tm => z0G (len args + (fn.ntmps - len args)) fun N =>
  z7C H.next (endR F G fn.results.toList (z0p body F G ⟨none, N⟩ ⟨tm, H, []⟩) fun _ => q2q F Q G ⟨none, N⟩ body ⟨tm, H, []⟩)
structure PF where
 ov : Ov
 q : PFn
def pn (G : Tab) (R : List Nat) (base : Ov) (N n : Nat) : PF :=
 Nat.rec ⟨base, fun _ _ _ => none⟩ (fun _ ih =>
  ⟨fun f args H => orOv (base f args H) (bif z2j f R then q2t (fnsO G ih.ov N) ih.q G f args H else none), j4X (fnsO G ih.ov N) ih.q G⟩) n
end
end Go.Sx
namespace Go.Sx
section
variable {P : Program} {G : Tab} {F : Fns} {Q : PFn}
def pan (b : Frame) (tmps : Array Value) (df : List Deferred) (todo : List Item) (ch : List PanicEntry) : Frame :=
 { fn := b.fn, tmps, todo, defers := df, mode := .panicking ch, kind := b.kind, roundOf := b.roundOf }
def pe (v : Value) : List PanicEntry := [{ v, recovered := false }]
def pr (v : Value) : List PanicEntry := [{ v, recovered := true }]
theorem q5P {m : Machine} {fr : Frame} {cs : List Frame} {s : Sem Next} {w w' : World} {v : Value} (hst : Applies P m fr cs s w) (hr : s.run P w = .halt (.panic v) w') :
  step P m = .next (lone (fr.raise (pe v)) cs w') := hst _ _ _ (by simp [stepG.apply, hr, pe])
def q2u (P : Program) (G : Tab) (Q : PFn) : Prop :=
 ∀ f args H p, Q f args H = some p → ∀ (ρ : Env) (D : Nat → Prop) (w : World) (cs : List Frame), HRel G ρ D w H → okL ρ D args →
  (∃ fn body, P.funcs[f]? = some fn ∧ fn.body = some body ∧ (fn.name == "runtime.NumGoroutine") = false) ∧
  ∃ ρ' D' w' fr, HRel G ρ' D' w' p.2 ∧ Ext H ρ D p.2 ρ' D' ∧ okV ρ' D' p.1 ∧ Steps P (lone (Frame.enter P f (concL ρ args).toArray .normal) cs w) (lone fr cs w') ∧
   fr.fn = f ∧ fr.mode = .panicking (pe (conc ρ' p.1)) ∧ fr.defers = []
theorem q4g {v : AV} (h : q2p v = true) : ∃ t u, v = .iface t u := by
 cases v <;> simp [q2p] at h
 exact ⟨_, _, rfl⟩
theorem q4h {c : Callee} {f : Operand} (h : z6b c = some f) : c = .value f := by
 unfold z6b at h
 split at h
 ·simp only [Option.some.injEq] at h; subst h; rfl
 ·simp at h
theorem q5Q {args : List AV} {H : Heap} {v : AV} {p : VH} (h : q6X Q args H v = some p) : ∃ g first cap, v = .func (.func g) first cap ∧ Q g (first ++ (args ++ cap)) H = some p := by
 cases v with
 | func fn first cap =>
  cases fn with
  | func g =>
   have h : Q g (app first (app args cap)) H = some p := h
   rw [z1G, z1G] at h
   exact ⟨g, first, cap, rfl, h⟩
  | _ => simp [q6X] at h
 | _ => simp [q6X] at h
theorem j4Z (hQ : q2u P G Q) {ρ : Env} {D : Nat → Prop} {w : World} {tmA : T AV} {H : Heap} {o : Oper} {p : VH} (h : opP Q G tmA H o.op = some p) (hH : HRel G ρ D w H) {n : Nat} {tm : Array Value}
  (hT : TmRel ρ D n tmA tm) {b : Frame} {df : List Deferred} {ops : Array Oper} {i : Nat} {rest : List Nat} {k : List Item} {cs : List Frame} (ho : ops[i]? = some o) (hw : Region.wanted o (yielded ops tm) = true) :
  ∃ ρ' D' w', HRel G ρ' D' w' p.2 ∧ Ext H ρ D p.2 ρ' D' ∧ okV ρ' D' p.1 ∧
   Steps P (lone (fat b tm df (.inRegion ops (i :: rest) :: k)) cs w) (lone (pan b tm df (.inRegion ops (i :: rest) :: k) (pe (conc ρ' p.1))) cs w') := by
 have he : EvOk G ρ D tmA (fat b tm df []).eval := z1P (fr := fat b tm df []) hH hT
 generalize hev : (fat b tm df []).eval = ev at he
 obtain ⟨dst, op, type, pos, after, guard⟩ := o
 simp only at h
 cases op
 case panic x =>
  have h : z0b (aev G tmA x) (fun v => bif q2p v then some (v, H) else none) = some p := h
  obtain ⟨v, hv, h⟩ := z0a h
  obtain ⟨hi, h⟩ := z0c h
  simp only [Option.some.injEq] at h; subst h
  obtain ⟨t, u, rfl⟩ := q4g hi
  obtain ⟨e1, e2⟩ := he x _ hv
  refine ⟨ρ, D, w, hH, .refl _ _ _, e2, .one ?_⟩
  have hst := q3i (P := P) (b := b) (df := df) (rest := rest) (k := k) (cs := cs) (w := w) ho hw (.inr (by simp))
  exact q5P (v := conc ρ (.iface t u)) (w' := w) (.of hst) (by rw [hev]; simp only [execOp, e1, conc]; rfl)
 case call cl =>
  have h : j8y Q G tmA H cl = some p := h
  obtain ⟨f, hf, h⟩ := z0a h
  obtain ⟨v, hv, h⟩ := z0a h
  obtain ⟨args, ha, h⟩ := z0a h
  obtain ⟨e1, e2⟩ := he f v hv
  obtain ⟨e3, e4⟩ := z7g he ha
  have hc := q4h hf
  obtain ⟨g, first, cap, rfl, hq⟩ := q5Q h
  obtain ⟨⟨fn, body, q1, q2, q3⟩, ρ', D', w', fr, r1, r2, r3, r4, r5, r6, r7⟩ := hQ g _ H p hq ρ D w (fat b tm df (.inRegion ops (i :: rest) :: k) :: cs) hH (z0P e2.2.1 (z0P e4 e2.2.2))
  have hst := q3i (P := P) (b := b) (df := df) (rest := rest) (k := k) (cs := cs) (w := w) ho hw (.inr (by simp))
  have hrun : (execOp (fat b tm df []).eval ⟨dst, .call cl, type, pos, after, guard⟩).run P w = .ok (.enter g (concL ρ (first ++ (args ++ cap))).toArray) w := by
   rw [hev]
   rw [← z3D (args := (concL ρ (first ++ (args ++ cap))).toArray) (w := w) q1 q2 q3]
   simp only [execOp, resolve, hc, e1, e3, conc, Deferred.ofValue, Sem.run_bind, Sem.run_pure, Result.andThen_ok, invoke]
   congr 2
   simp [z0i, List.map_append]
  have hstep := z9g (P := P) q3h (.of hst) hrun
  exact ⟨ρ', D', w', r1, r2, r3, Steps.head hstep (r4.trans (.one (step_leave_panicked ⟨r6, r7, fn, by rw [r5]; exact q1⟩)))⟩
 all_goals simp [opP] at h
def j8A (P : Program) (G : Tab) (ρ : Env) (D : Nat → Prop) (size : Nat) (H : Heap) (m : Machine) (b : Frame) (cs : List Frame) (ops : Array Oper) (rest : List Nat) (k : List Item) (ss : List St) : Prop :=
 ∃ s ∈ ss, ∃ ρ' D' w' tm' df', SRel G ρ' D' w' size s tm' df' ∧ Ext H ρ D s.h ρ' D' ∧ Steps P m (lone (fat b tm' df' (.inRegion ops rest :: k)) cs w')
theorem k1o (TT : TabOk P G) (hF : FnsOk P G F) {c : Ctx} {ops : Array Oper} {b : Frame} {k : List Item} {cs : List Frame} {o : Oper} {i : Nat} {rest : List Nat} {s : St} {ss : List St} (ho : ops[i]? = some o)
  (h : z3A o one1 F G c ops.toList s = some ss) {ρ : Env} {D : Nat → Prop} {w : World} {tm : Array Value} {df : List Deferred} (hS : SRel G ρ D w c.size s tm df) (hR : RndRel ρ D c.rnd b.roundOf) :
  j8A P G ρ D c.size s.h (lone (fat b tm df (.inRegion ops (i :: rest) :: k)) cs w) b cs ops rest k ss := by
 have go : ∀ {eo : List EOut}, OpTo P G ρ D w s.h b tm df ops i rest k cs o.dst eo →
   (∀ p ∈ eo, ∃ x, (z0J c s.tm o.dst p.1 fun tm => one1 F G c ops.toList ⟨tm, p.2.2, p.2.1⟩) = some x ∧ ∀ y ∈ x, y ∈ ss) →
   j8A P G ρ D c.size s.h (lone (fat b tm df (.inRegion ops (i :: rest) :: k)) cs w) b cs ops rest k ss := by
  intro eo hop hall
  obtain ⟨p, hp, ρ', D', w', df', r1, r2, r3, r4, r5⟩ := hop
  obtain ⟨x, hx, hin⟩ := hall p hp
  obtain ⟨tm', hx', hT⟩ := z6y hx (hS.t.sub r2.sub) r3
  have hx' : some [(⟨tm', p.2.2, p.2.1⟩ : St)] = some x := hx'
  simp only [Option.some.injEq] at hx'; subst hx'
  exact ⟨_, hin _ (List.mem_singleton.2 rfl), ρ', D', w', _, df', ⟨r1, hT, r4⟩, r2, r5⟩
 unfold z3A at h
 have hwe := z3t hS.t ops o
 rcases z0Z h with ⟨h0, h'⟩ | ⟨h0, h'⟩
 ·rw [h0] at hwe
  have hN : ∀ (hk : z0b (opN o.op G s.tm s.h) (fun p => z0J c s.tm o.dst p.1 fun tm => one1 F G c ops.toList ⟨tm, p.2, s.df⟩) = some ss),
    j8A P G ρ D c.size s.h (lone (fat b tm df (.inRegion ops (i :: rest) :: k)) cs w) b cs ops rest k ss := fun hk => by
   obtain ⟨p, hp, hk⟩ := z0a hk
   have hg := q6E (P := P) (w := w) (o := o) TT hS.h (z1P (fr := fat b tm df []) hS.h hS.t) hp
   exact go (hg.opTo ho hwe (.inr (z4B hp)) hS.d) fun q hq => by
    simp only [List.mem_singleton] at hq; subst hq
    exact ⟨ss, hk, fun _ h => h⟩
  cases hk : kindOf o.op with
  | eff =>
   rw [hk] at h'
   have h' : z1B (opE o.op F G c s.tm s.df s.h) (fun p => z0J c s.tm o.dst p.1 fun tm => one1 F G c ops.toList ⟨tm, p.2.2, p.2.1⟩) = some ss := h'
   obtain ⟨eo, he, hall⟩ := z0w h'
   exact go (j0n TT hF he hS hR ho hwe) hall
  | _ => rw [hk] at h'; exact hN h'
 ·rw [h0] at hwe
  obtain ⟨tm', hx', hT⟩ := z6y h' hS.t (v := z0A) trivial
  have hx' : some [(⟨tm', s.h, s.df⟩ : St)] = some ss := hx'
  simp only [Option.some.injEq] at hx'; subst hx'
  exact ⟨_, List.mem_singleton.2 rfl, ρ, D, w, _, df, ⟨hS.h, hT, hS.d⟩, .refl _ _ _, .one (z5v ho hwe)⟩
def PTo (P : Program) (G : Tab) (ρ : Env) (D : Nat → Prop) (size : Nat) (H : Heap) (m : Machine) (b : Frame) (cs : List Frame) (p : PSt) : Prop :=
 ∃ ρ' D' w' tm' df' todo, HRel G ρ' D' w' p.h ∧ Ext H ρ D p.h ρ' D' ∧ okV ρ' D' p.v ∧ DfRel ρ' D' p.df df' ∧ (∀ t, p.tm = some t → TmRel ρ' D' size t tm') ∧
  Steps P m (lone (pan b tm' df' todo (pe (conc ρ' p.v))) cs w')
theorem PTo.of_steps {ρ : Env} {D : Nat → Prop} {size : Nat} {H : Heap} {m m₁ : Machine} {b : Frame} {cs : List Frame} {p : PSt} (h : Steps P m m₁) (h' : PTo P G ρ D size H m₁ b cs p) : PTo P G ρ D size H m b cs p := by
 obtain ⟨ρ', D', w', tm', df', todo, r1, r2, r3, r4, r5, r6⟩ := h'
 exact ⟨ρ', D', w', tm', df', todo, r1, r2, r3, r4, r5, h.trans r6⟩
theorem PTo.ext {ρ ρ₁ : Env} {D D₁ : Nat → Prop} {size : Nat} {H H₁ : Heap} {m : Machine} {b : Frame} {cs : List Frame} {p : PSt} (h : Ext H ρ D H₁ ρ₁ D₁) (h' : PTo P G ρ₁ D₁ size H₁ m b cs p) : PTo P G ρ D size H m b cs p := by
 obtain ⟨ρ', D', w', tm', df', todo, r1, r2, r3⟩ := h'
 exact ⟨ρ', D', w', tm', df', todo, r1, h.trans r2, r3⟩
theorem q8s {r : Option (List St)} {ih : St → Option PSt} {e : Unit → Option PSt} {p : PSt} (h : j4j r ih e = some p) : (∃ s, r = some [s] ∧ ih s = some p) ∨ e () = some p := by
 unfold j4j at h
 split at h
 ·exact .inl ⟨_, rfl, h⟩
 ·simp at h
 ·exact .inr h
theorem j8B (TT : TabOk P G) (hF : FnsOk P G F) (hQ : q2u P G Q) {c : Ctx} {ops : Array Oper} {b : Frame} {k : List Item} {cs : List Frame} : ∀ (l : List Oper) (i : Nat) (s : St) (p : PSt), ops.toList.drop i = l →
  seqP F Q G c ops.toList l s = some p → ∀ (ρ : Env) (D : Nat → Prop) (w : World) (tm : Array Value) (df : List Deferred), SRel G ρ D w c.size s tm df → RndRel ρ D c.rnd b.roundOf →
  PTo P G ρ D c.size s.h (lone (fat b tm df (.inRegion ops (List.range' i l.length) :: k)) cs w) b cs p := by
 intro l
 induction l with
 | nil => intro i s p _ h; have h : none = some p := h; simp at h
 | cons o l ih =>
  intro i s p hdrop h ρ D w tm df hS hR
  have ho : ops[i]? = some o := by
   have : (ops.toList.drop i)[0]? = some o := by rw [hdrop]; rfl
   simpa using this
  have hnext : ops.toList.drop (i + 1) = l := by
   have : (ops.toList.drop i).drop 1 = l := by rw [hdrop]; rfl
   rw [List.drop_drop] at this; simpa using this
  have hr : List.range' i (o :: l).length = i :: List.range' (i + 1) l.length := by simp [List.range'_succ]
  rw [hr]
  have h : j4j (z3A o one1 F G c ops.toList s) (seqP F Q G c ops.toList l) (fun _ => k1m Q G ops.toList o s) = some p := h
  rcases q8s h with ⟨s₁, h1, h2⟩ | h1
  ·obtain ⟨s', hs', ρ₁, D₁, w₁, tm₁, df₁, g1, g2, g3⟩ := k1o TT hF ho h1 hS hR (b := b) (rest := List.range' (i + 1) l.length) (k := k) (cs := cs)
   simp only [List.mem_singleton] at hs'
   subst hs'
   exact PTo.of_steps g3 (PTo.ext g2 (ih (i + 1) s' p hnext h2 ρ₁ D₁ w₁ tm₁ df₁ g1 (hR.sub g2.sub)))
  ·obtain ⟨h0, h1⟩ := z0c h1
   obtain ⟨q, hq, h1⟩ := z0a h1
   simp only [Option.some.injEq] at h1; subst h1
   have hwe := z3t hS.t ops o
   rw [h0] at hwe
   obtain ⟨ρ', D', w', r1, r2, r3, r4⟩ := j4Z hQ hq hS.h hS.t ho hwe (b := b) (df := df) (rest := List.range' (i + 1) l.length) (k := k) (cs := cs)
   exact ⟨ρ', D', w', tm, df, _, r1, r2, r3, hS.d.sub r2.sub, fun t ht => by simp only [Option.some.injEq] at ht; subst ht; exact hS.t.sub r2.sub, r4⟩
theorem j1S {tm tm' : T AV} {op : Op} (h : ∀ x ∈ op.operands, aev G tm x = aev G tm' x) (H : Heap) : opP Q G tm H op = opP Q G tm' H op := by
 cases op
 case panic x => simp only [opP]; rw [h x (by simp [Op.operands])]
 case call cl =>
  have ha := z3j (tm := tm) (tm' := tm') (l := cl.args.toList) fun x hx => h x (by simp only [Op.operands, Call.operands]; exact Array.mem_append.2 (.inr (by simpa using hx)))
  simp only [opP, j8y]
  rw [ha]
  cases hf : cl.callee with
  | value f =>
   have hf' := h f (by simp [Op.operands, Call.operands, hf])
   simp only [z6b, z0b, hf']
  | invoke r n => rfl
  | builtin b => rfl
 all_goals rfl
section
variable {c : Ctx} {ops : Array Oper} {rs : List RO} {tm0 : T AV} {H0 : Heap} {ρ0 : Env} {D0 : Nat → Prop} {rnd : Option Nat}
theorem q8t (TT : TabOk P G) (hQ : q2u P G Q) (hs : Sane ops rs) {b : Frame} {k : List Item} {cs : List Frame} : ∀ {S : Nat → Prop} {l : List Nat}, Ord ops S l →
  ∀ (V : Nat → AV) (d : DS) (ρ : Env) (D : Nat → Prop) (w : World) (tmR : T AV) (tm : Array Value) (df : List Deferred) (e : RO) (p : VH),
  Inv P G c ops rs tm0 H0 ρ0 D0 rnd S V d ρ D w tmR tm df → z2s G rs 0 d = true → z0v d.done rs = some e → z0l e d.done rs = true →
  z0s ops.toList e.o.guard d.s.tm = true → opP Q G d.s.tm d.s.h e.o.op = some p →
  PTo P G ρ0 D0 c.size H0 (lone (fat b tm df (.inRegion ops l :: k)) cs w) b cs ⟨p.1, p.2, none, d.s.df⟩ := by
 intro S l ho
 induction ho with
 | nil hall =>
  intro V d ρ D w tmR tm df e p I hst hn hoa hwt hop
  obtain ⟨h1, _, h3⟩ := z3G hn
  exact absurd (I.sub _ (hall _ (hs.pre.mem h1).2.2.2)) h3
 | @cons S i o l hio hi hon _ ih =>
  intro V d ρ D w tmR tm df e p I hst hn hoa hwt hop
  obtain ⟨r, hr, hri⟩ := hs.pre.get (Array.getElem?_eq_some_iff.1 hio).1
  subst hri
  have hro : r.o = o := by
   have := (hs.pre.mem hr).2.1
   rw [hio] at this; exact (Option.some.inj this).symm
  subst hro
  have hpS := hs.pre.pre_in I.shutS hr hon
  by_cases hd : bits d.done r.i
  ·obtain ⟨ρ', D', w', tm', df', I', hsteps⟩ := I.late TT hs hst (fun j hj => by simp [bits] at hj) hr hd hi hpS (b := b) (rest := l) (k := k) (cs := cs)
   exact PTo.of_steps hsteps (ih V d ρ' D' w' _ tm' df' e p I' hst hn hoa hwt hop)
  ·obtain ⟨hnr, _⟩ := z0f (a := z0e d.done rs) (b := z6o G d.s.h 0 d.kept) hst
   have hnr := z6E hnr r hr
   have heff : z0K r.kind = true := by
    cases he : z0K r.kind
    ·rw [q6K he hd fun j hj => I.sub j (hpS j hj)] at hnr; simp at hnr
    ·rfl
   obtain ⟨e1, e2, e3⟩ := z3G hn
   have her : r.i = e.i := by
    have := z6g (f := fun r => q2N e r d.done) hoa r hr
    unfold q2N at this
    have hd' : Nat.testBit d.done r.i = false := by simpa [bits] using hd
    rw [heff, hd'] at this
    simp only [cond_true, cond_false] at this
    by_cases he : r.i = e.i
    ·exact he
    ·rw [z0E he] at this
     simp only [cond_false] at this
     exact absurd (I.sub _ (hpS _ this)) e3
   have : r = e := by
    have h1 := (hs.pre.mem hr).1
    rw [her, (hs.pre.mem e1).1] at h1
    exact (Option.some.inj h1).symm
   subst this
   have hal := hs.alike hr I.shutS I.shutD hi hd hpS (fun j hj => I.sub j (hpS j hj)) I.slotsS I.slotsD
   have hw := z3t I.trel ops r.o
   rw [hal.wanted, hwt] at hw
   rw [← j1S hal.aev] at hop
   obtain ⟨ρ', D', w', r1, r2, r3, r4⟩ := j4Z hQ hop I.heap I.trel hio hw (b := b) (df := df) (rest := l) (k := k) (cs := cs)
   exact ⟨ρ', D', w', tm, df, _, r1, I.ext.trans r2, r3, I.drel.sub r2.sub, fun t ht => by simp at ht, r4⟩
end
theorem j1T {o : Option (List St)} {p : PSt} (h : decP o = some p) : ∃ s, o = some [s] ∧ decS s = some p := by
 unfold decP at h
 split at h
 ·exact ⟨_, rfl, h⟩
 ·simp at h
theorem j4m (TT : TabOk P G) (hQ : q2u P G Q) {c : Ctx} {ops : Array Oper} {s : St} {p : PSt} (h : drawP Q G c ops.toList s = some p) (t : Nat) (b : Frame) (k : List Item) (cs : List Frame) (ρ : Env) (D : Nat → Prop)
  (w : World) (tm : Array Value) (df : List Deferred) (hS : SRel G ρ D w c.size s tm df) (hR : RndRel ρ D c.rnd b.roundOf) :
  PTo P G ρ D c.size s.h (lone (fat b tm df (.inRegion ops (Region.linearise .any ops t) :: k)) cs w) b cs p := by
 obtain ⟨q, h, hdec⟩ := j1T h
 obtain ⟨rs, hs, h⟩ : ∃ rs, Sane ops rs ∧ z0O G c ops.toList rs (q6Y Q G ops.toList rs) ⟨0, s, []⟩ = some [q] := by
  obtain ⟨rs, hrs, h⟩ := z0a h
  obtain ⟨hall, h⟩ := z0c h
  rcases z0Z hrs with ⟨_, hrs⟩ | ⟨_, hrs⟩
  ·exact ⟨rs, q1K (q6I hrs) hall, h⟩
  ·exact ⟨rs, q1K (j0w hrs) hall, h⟩
 have h0 : ∀ i, ¬ bits 0 i := fun i => by simp [bits]
 have he : Shut rs (fun _ => False) := fun _ _ h => h.elim
 have I : Inv P G c ops rs s.tm s.h ρ D b.roundOf (fun _ => False) (fun _ => z0A) ⟨0, s, []⟩ ρ D w s.tm tm df :=
  ⟨fun _ h => h.elim, fun i hi => absurd hi (h0 i), he, fun r _ hi => absurd hi (h0 _), hS.h, .refl _ _ _, ?_, ?_, hS.t, hS.d, hR, fun r _ hi => absurd hi (h0 _), fun r _ s _ hi => absurd hi (h0 _)⟩
 ·obtain ⟨V', d', I', h'⟩ := q1L TT hs (fun _ h => h) I h
  obtain ⟨hst, h'⟩ := z0c h'
  cases hn : z0v d'.done rs with
  | none => rw [hn] at h'; simp [j1R] at h'
  | some e =>
   rw [hn] at h'
   have h' : (bif sub e.pre d'.done then (bif z0l e d'.done rs then (bif z0s ops.toList e.o.guard d'.s.tm then encP d'.s.df (opP Q G d'.s.tm d'.s.h e.o.op) else none) else none) else none) = some [q] := h'
   obtain ⟨_, h'⟩ := z0c h'
   obtain ⟨hoa, h'⟩ := z0c h'
   obtain ⟨hwt, h'⟩ := z0c h'
   obtain ⟨x, hx, h'⟩ := z0a h'
   simp only [Option.some.injEq, List.cons.injEq, and_true] at h'
   subst h'
   have hdec : some (⟨x.1, x.2, none, d'.s.df⟩ : PSt) = some p := hdec
   simp only [Option.some.injEq] at hdec; subst hdec
   exact q8t TT hQ hs (z6D hs.pre t) V' d' ρ D w s.tm tm df e x I' hst hn hoa hwt hx
 all_goals
  intro i
  have key : ∀ (X : Nat → Prop) n, (∀ j, ¬ X j) → z4H ops (fun _ => z0A) s.tm X n i = slot s.tm i := fun X n hX => by
   induction n with
   | zero => rfl
   | succ n ih => simp only [z4H]; rw [if_neg fun e => hX n e.1, ih]
 ·exact (key _ _ h0).symm
 ·exact (key _ _ fun _ h => h).symm
theorem q8u {o : Outs} {b : St → Option PSt} {a : Unit → Option PSt} {p : PSt} (h : j4k o b a = some p) : (∃ s, o = some [(.normal, s)] ∧ b s = some p) ∨ a () = some p := by
 unfold j4k at h
 split at h
 ·exact .inl ⟨_, rfl, h⟩
 ·simp at h
 ·exact .inr h
theorem q7b (TT : TabOk P G) (hF : FnsOk P G F) (hB : ∀ x : Code, z1i P G (z0p x F G) x) (hQ : q2u P G Q) {c : Ctx} : ∀ (x : Code) (s : St) (p : PSt), q2q F Q G c x s = some p →
  ∀ (ρ : Env) (D : Nat → Prop) (w : World) (tm : Array Value) (df : List Deferred) (b : Frame) (k : List Item) (cs : List Frame), SRel G ρ D w c.size s tm df → RndRel ρ D c.rnd b.roundOf →
  PTo P G ρ D c.size s.h (lone (fat b tm df (.code x :: k)) cs w) b cs p := by
 intro x
 induction x with
 | region id ops draw =>
  intro s p h ρ D w tm df b k cs hS hR
  have h : regP F Q G c ops.toList draw s = some p := h
  cases draw with
  | true =>
   have h : drawP Q G c ops.toList s = some p := h
   refine PTo.of_steps (.one z5R) ?_
   have hw : Like { w with drawn := w.drawn + 1 } w := ⟨rfl, rfl, rfl, rfl⟩
   have hsch : ∀ t, Region.schedule (P.follows .mixedOrders) ops t = Region.linearise .any ops t := fun t => by simp [Region.schedule, TT.mixed]
   rw [hsch]
   exact j4m TT hQ h _ b k cs ρ D _ tm df ⟨hS.h.same hw, hS.t, hS.d⟩ hR
  | false =>
   have h : seqP F Q G c ops.toList ops.toList s = some p := h
   refine PTo.of_steps (.one z9h) ?_
   have := j8B (b := b) (k := k) (cs := cs) TT hF hQ ops.toList 0 s p rfl h ρ D w tm df hS hR
   rw [List.range_eq_range']
   simpa using this
 | seq x y ihx ihy =>
  intro s p h ρ D w tm df b k cs hS hR
  have h : j4k (z0p x F G c s) (q2q F Q G c y) (fun _ => q2q F Q G c x s) = some p := h
  refine PTo.of_steps (.one q3d) ?_
  rcases q8u h with ⟨s₁, h1, h2⟩ | h1
  ·obtain ⟨q, hq, ρ₁, D₁, w₁, tm₁, df₁, g1, g2, g3⟩ := hB x c s _ h1 ρ D w tm df b (.code y :: k) cs hS hR
   simp only [List.mem_singleton] at hq
   subst hq
   exact PTo.of_steps (z0D.trans g3) (PTo.ext g2 (ihy s₁ p h2 ρ₁ D₁ w₁ tm₁ df₁ b k cs g1 (hR.sub g2.sub)))
  ·exact ihx s p h1 ρ D w tm df b (.code y :: k) cs hS hR
 | cond x a y iha ihy =>
  intro s p h ρ D w tm df b k cs hS hR
  have h : z0b (aev G s.tm x) (j8z (q2q F Q G c a) (q2q F Q G c y) s) = some p := h
  obtain ⟨v, hv, h⟩ := z0a h
  obtain ⟨e1, e2⟩ := z1P (fr := fat b tm df k) hS.h hS.t x v hv
  unfold j8z at h
  split at h
  ·exact PTo.of_steps (.one (z9e (t := true) (by rw [e1]; rfl))) (iha s p h ρ D w tm df b k cs hS hR)
  ·exact PTo.of_steps (.one (z9e (t := false) (by rw [e1]; rfl))) (ihy s p h ρ D w tm df b k cs hS hR)
  ·simp at h
 | block id x ih =>
  intro s p h ρ D w tm df b k cs hS hR
  exact PTo.of_steps (.one q1F) (ih s p h ρ D w tm df b (.inBlock id :: k) cs hS hR)
 | _ => intro s p h; first | (have h : noP s = some p := h; simp [noP] at h)
theorem z8c {b : Frame} {tm : Array Value} {df : List Deferred} {k : List Item} {cs : List Frame} {w : World} {r : Nat} {args : Array Value} {ch : List PanicEntry} (h : w.heap[r]? = some (.deferred (some []))) :
  step P (lone (pan b tm ({ target := .collected r, args := args } :: df) k ch) cs w) = .next (lone (pan b tm df k ch) cs { w with heap := w.heap.setIfInBounds r (.deferred none) }) := by
 have e : (Instr.takeDeferred r).run P w = .ok [] { w with heap := w.heap.setIfInBounds r (.deferred none) } := by
  simp only [Instr.takeDeferred, Sem.run_bind, z5S h, Result.andThen_ok, z5T h, Sem.run_pure]
 exact step_lone_go (by simp [Go.stepG, Go.unwind, pan, e])
theorem q5R (b : Frame) (tm : Array Value) (k : List Item) (cs : List Frame) (ch : List PanicEntry) : ∀ (l : List ADefer) (df : List Deferred) (H H' : Heap), q2r l H = some H' →
  ∀ (ρ : Env) (D : Nat → Prop) (w : World), HRel G ρ D w H → DfRel ρ D l df →
  ∃ w', HRel G ρ D w' H' ∧ Ext H ρ D H' ρ D ∧ Steps P (lone (pan b tm df k ch) cs w) (lone (pan b tm [] k ch) cs w') := by
 intro l
 induction l with
 | nil =>
  intro df H H' h ρ D w hH hd
  have h : some H = some H' := h
  simp only [Option.some.injEq] at h; subst h
  cases df with
  | nil => exact ⟨w, hH, .refl _ _ _, .refl _ _⟩
  | cons d df => exact hd.elim
 | cons a l ih =>
  intro df H H' h ρ D w hH hd
  cases df with
  | nil => exact hd.elim
  | cons d df =>
   cases a with
   | call v args => have h : (none : Option Heap) = some H' := h; simp at h
   | collected r =>
    obtain ⟨⟨hr, rfl⟩, hd⟩ := hd
    have h : (match H.blks.get r with | some .deferred => q2r l (z9T H r) | _ => none) = some H' := h
    split at h
    ·rename_i hg
     have hb : w.heap[ρ.blk r]? = some (.deferred (some [])) := hH.blk r _ hr hg
     have h1 := hH.lose (w' := { w with heap := w.heap.setIfInBounds (ρ.blk r) (.deferred none) }) hr hg (fun j hj => by simp [Array.getElem?_setIfInBounds_ne (Ne.symm hj)]) (fun h => h)
     obtain ⟨w', g1, g2, g3⟩ := ih df _ H' h ρ D _ h1 hd
     exact ⟨w', g1, (Ext.same _ _ (Heap.next_put _ _ _)).trans g2, Steps.head (z8c hb) g3⟩
    ·simp at h
theorem j1U (TT : TabOk P G) (hF : FnsOk P G F) (hB : ∀ x : Code, z1i P G (z0p x F G) x) (hQ : q2u P G Q) : q2u P G (j4X F Q G) := by
 intro f args H p h ρ D w cs hH ha
 obtain ⟨fn, hfn, h⟩ := z0a h
 obtain ⟨hf, hn⟩ := TT.funcs f fn hfn
 obtain ⟨body, hbody, h⟩ := z0a h
 refine ⟨⟨fn, body, hf, hbody, hn⟩, ?_⟩
 obtain ⟨tm, e1, e2⟩ := z5x args .e 0 (fun tm => z0G (len args + (fn.ntmps - len args)) fun N => z0b (q2q F Q G ⟨none, N⟩ body ⟨tm, H, []⟩) j4W)
 rw [e1, z0h, z0S] at h
 obtain ⟨q, hq, h⟩ := z0a h
 obtain ⟨Hz, hz, h⟩ := z0a h
 simp only [Option.some.injEq] at h; subst h
 let b : Frame := { fn := f, tmps := #[], todo := [], defers := [], mode := .run, kind := .normal }
 have henter : Frame.enter P f (concL ρ args).toArray .normal = fat b ((concL ρ args).toArray ++ Array.replicate (fn.ntmps - (concL ρ args).toArray.size) undef) [] [.code body] := by
  simp [Frame.enter, fat, hf, hbody, b]
 rw [henter]
 obtain ⟨ρ', D', w', tm', df', todo, r1, r2, r3, r4, r5, r6⟩ := q7b TT hF hB hQ body _ q hq ρ D w _ [] b [] cs ⟨hH, z3E ha e2, trivial⟩ rfl
 obtain ⟨w₂, g1, g2, g3⟩ := q5R b tm' todo cs (pe (conc ρ' q.v)) q.df df' q.h Hz hz ρ' D' w' r1 r4
 exact ⟨ρ', D', w₂, _, g1, r2.trans g2, r3, r6.trans g3, rfl, rfl, rfl⟩
theorem q0j {o : Oper} (h : z6Q o = true) : o.guard = none ∧ ∃ cl, o.op = .call cl ∧ cl.callee = .builtin .recover := by
 unfold z6Q at h
 split at h
 ·rename_i cl hg hop
  split at h
  ·rename_i hc
   exact ⟨hg, cl, hop, hc⟩
  ·simp at h
 ·simp at h
def q5S (c₀ c₁ : Frame) (v : Value) : Prop := ∀ cs, recoverD (c₀ :: cs) = some (v, c₁ :: cs) ∨ (recoverD (c₀ :: cs) = none ∧ v = .nilIface ∧ c₁ = c₀)
theorem q2v {m : Machine} {fr c₀ c₁ : Frame} {cs : List Frame} {s : Sem Next} {w w' : World} {v : Value} (hk : fr.kind = .deferred) (hr0 : fr.roundOf = none) (hc : q5S c₀ c₁ v)
  (hst : Applies P m fr (c₀ :: cs) s w) (hr : s.run P w = .ok .recover w')
  (hg : ∀ fr' cs' w', (stepG.apply P true fr (c₀ :: cs) none s w).bare = .go { frame := fr', callers := cs', status := .running, dying := none } w' → step P m = .next (lone fr' cs' w')) :
  step P m = .next (lone (fr.finish v) (c₁ :: cs) w') := by
 have htr := tryRecover_deferred hk (c₀ :: cs)
 rcases hc cs with h | ⟨h, rfl, rfl⟩
 ·rw [h] at htr
  exact hg _ _ _ (by simp [stepG.apply, hr, hr0, htr])
 ·rw [h] at htr
  exact hg _ _ _ (by simp [stepG.apply, hr, hr0, htr])
theorem j1V (TT : TabOk P G) (hF : FnsOk P G F) {c : Ctx} {v : AV} {ops : Array Oper} {s : St} {outs : List (Ex × St)} (h : q6Z F G c v ops.toList s ops.toList = some outs) {ρ : Env} {D : Nat → Prop} {w : World}
  {tm : Array Value} {df : List Deferred} {b : Frame} {k : List Item} {c₀ c₁ : Frame} {cs : List Frame} (hS : SRel G ρ D w c.size s tm df) (hR : RndRel ρ D c.rnd b.roundOf) (hk : b.kind = .deferred) (hb : b.roundOf = none)
  (hv : okV ρ D v) (hc : q5S c₀ c₁ (conc ρ v)) :
  Lands P G ρ D c.size s.h (lone (fat b tm df (.inRegion ops (List.range ops.size) :: k)) (c₀ :: cs) w) b (c₁ :: cs) k outs := by
 rw [List.range_eq_range']
 have hsz : ops.size = ops.toList.length := by simp
 rw [hsz]
 generalize hl : ops.toList = l at h
 cases l with
 | nil => simp [q6Z] at h
 | cons o l =>
  have h : (bif z6Q o then z0J c s.tm o.dst v fun tm => z1u (z0t l F G c (o :: l) ⟨tm, s.h, s.df⟩) else none) = some outs := h
  obtain ⟨h0, h⟩ := z0c h
  obtain ⟨hg, cl, hop, hcl⟩ := q0j h0
  obtain ⟨tm', h, hT⟩ := z6y h hS.t hv
  obtain ⟨ss, hss, hin⟩ := z7M h
  have ho : ops[0]? = some o := by
   have : ops.toList[0]? = some o := by rw [hl]; rfl
   simpa using this
  have hw : Region.wanted o (yielded ops tm) = true := by
   rw [z3t hS.t ops o, hg]; rfl
  have hr : List.range' 0 (o :: l).length = 0 :: List.range' (0 + 1) l.length := by simp [List.range'_succ]
  rw [hr]
  have hst := q3i (P := P) (b := b) (df := df) (rest := List.range' (0 + 1) l.length) (k := k) (cs := c₀ :: cs) (w := w) ho hw (.inl hb)
  have hstep := q2v (P := P) (fr := fat b tm df (.inRegion ops (0 :: List.range' (0 + 1) l.length) :: k)) (w' := w) hk hb hc (.of hst) (by
   simp only [execOp, hop, resolve, hcl, Sem.run_bind, Sem.run_pure, Result.andThen_ok, invoke]
   rfl) (fun _ _ _ g => step_lone_go (by rw [hst]; exact g))
  rw [z2I ho] at hstep
  rw [← hl] at hss
  obtain ⟨s', hs', ρ', D', w', tm₁, df₁, r1, r2, r3⟩ := q3k (P := P) (b := b) (k := k) (cs := c₁ :: cs) TT hF l 1 ⟨tm', s.h, s.df⟩ ss (by rw [hl]; rfl) hss ρ D w _ df ⟨hS.h, hT, hS.d⟩ hR
  exact ⟨_, hin s' hs', ρ', D', w', tm₁, df₁, r1, r2, Steps.trans (.one hstep) (r3.trans (.one z6x))⟩
theorem j1W (TT : TabOk P G) (hF : FnsOk P G F) (hB : ∀ x : Code, z1i P G (z0p x F G) x) {c : Ctx} {v : AV} : ∀ (x : Code) (s : St) (outs : List (Ex × St)), q7a F G c v x s = some outs → ∀ {ρ : Env} {D : Nat → Prop} {w : World}
  {tm : Array Value} {df : List Deferred} {b : Frame} {k : List Item} {c₀ c₁ : Frame} {cs : List Frame}, SRel G ρ D w c.size s tm df → RndRel ρ D c.rnd b.roundOf → b.kind = .deferred → b.roundOf = none →
  okV ρ D v → q5S c₀ c₁ (conc ρ v) → Lands P G ρ D c.size s.h (lone (fat b tm df (.code x :: k)) (c₀ :: cs) w) b (c₁ :: cs) k outs := by
 intro x
 induction x with
 | region id ops draw =>
  intro s outs h ρ D w tm df b k c₀ c₁ cs hS hR hk hb hv hc
  have h : (bif draw then none else q6Z F G c v ops.toList s ops.toList) = some outs := h
  obtain ⟨hd, h⟩ := z1J h
  subst hd
  exact Lands.of_steps (.one z9h) (j1V TT hF h hS hR hk hb hv hc)
 | seq x y ihx _ =>
  intro s outs h ρ D w tm df b k c₀ c₁ cs hS hR hk hb hv hc
  have h : z1B (q7a F G c v x s) (z3o (z0p y F G c)) = some outs := h
  obtain ⟨l, hl, hall⟩ := z0w h
  refine Lands.of_steps (.one q3d) ?_
  refine (ihx s l hl (k := .code y :: k) hS hR hk hb hv hc).then hall fun p z hp hz ρ' D' w' tm' df' h1 h2 h3 => ?_
  rcases z2H hz with ⟨e1, e2⟩ | ⟨e1, e2⟩
  ·rw [e1] at h3
   exact Lands.of_steps (Steps.trans h3 z0D) (Lands.ext h2 (hB y c p.2 z e2 ρ' D' w' tm' df' b k (c₁ :: cs) h1 (hR.sub h2.sub)))
  ·subst e2
   exact ⟨_, List.mem_singleton.2 rfl, ρ', D', w', tm', df', h1, h2, h3.pass e1 (fun _ _ => rfl) (fun _ _ => rfl)⟩
 | _ => intro s outs h; first | (have h : noR s = some outs := h; simp [noR] at h)
theorem q8v (TT : TabOk P G) (hF : FnsOk P G F) (hB : ∀ x : Code, z1i P G (z0p x F G) x) {v : AV} {f : FuncId} {args : List AV} {H : Heap} {Hs : List Heap} (h : q2s F G v f args H = some Hs) {ρ : Env} {D : Nat → Prop}
  {w : World} (hH : HRel G ρ D w H) (ha : okL ρ D args) (hv : okV ρ D v) {c₀ c₁ : Frame} {cs : List Frame} (hc : q5S c₀ c₁ (conc ρ v)) :
  (∃ fn body, P.funcs[f]? = some fn ∧ fn.body = some body ∧ (fn.name == "runtime.NumGoroutine") = false) ∧
  ∃ H' ∈ Hs, ∃ ρ' D' w', HRel G ρ' D' w' H' ∧ Ext H ρ D H' ρ' D' ∧ Steps P (lone (Frame.enter P f (concL ρ args).toArray .deferred) (c₀ :: cs) w) (lone { c₁ with mode := settle c₁.mode } cs w') := by
 obtain ⟨fn, hfn, h⟩ := z0a h
 obtain ⟨hf, hn⟩ := TT.funcs f fn hfn
 obtain ⟨body, hbody, h⟩ := z0a h
 refine ⟨⟨fn, body, hf, hbody, hn⟩, ?_⟩
 obtain ⟨tm, e1, e2⟩ := z5x args .e 0 (fun tm => z0G (len args + (fn.ntmps - len args)) fun N => z1B (q7a F G ⟨none, N⟩ v body ⟨tm, H, []⟩) (j4Y G fn.results.toList))
 rw [e1, z0h, z0S] at h
 obtain ⟨l, hl, hall⟩ := z0w h
 let b : Frame := { fn := f, tmps := #[], todo := [], defers := [], mode := .run, kind := .deferred }
 have henter : Frame.enter P f (concL ρ args).toArray .deferred = fat b ((concL ρ args).toArray ++ Array.replicate (fn.ntmps - (concL ρ args).toArray.size) undef) [] [.code body] := by
  simp [Frame.enter, fat, hf, hbody, b]
 rw [henter]
 obtain ⟨p, hp, ρ', D', w', tm', df', r1, r2, r3⟩ := j1W TT hF hB body _ l hl (df := []) (b := b) (k := []) (c₀ := c₀) (c₁ := c₁) (cs := cs) ⟨hH, z3E ha e2, trivial⟩ rfl rfl rfl hv hc
 obtain ⟨x, hx, hin⟩ := hall p hp
 obtain ⟨q1, hx⟩ := z0c hx
 obtain ⟨q2, hx⟩ := z0c hx
 obtain ⟨vs, hvs, hx⟩ := z0a hx
 simp only [Option.some.injEq] at hx; subst hx
 have q2 := (z2v _).1 q2
 have hdf := r1.d
 rw [q2] at hdf
 have hdf' : df' = [] := by
  cases df' with
  | nil => rfl
  | cons d df => exact hdf.elim
 subst hdf'
 obtain ⟨todo, hst⟩ : ∃ todo, Steps P (lone (fat b ((concL ρ args).toArray ++ Array.replicate (fn.ntmps - (concL ρ args).toArray.size) undef) [] [.code body]) (c₀ :: cs) w) (lone (ret b tm' [] todo) (c₁ :: cs) w') := by
  obtain ⟨e, s⟩ := p
  cases e with
  | normal => exact ⟨[], Steps.trans r3 (.one (j0e rfl))⟩
  | ret => obtain ⟨k', hs⟩ := r3; exact ⟨_, hs.trans (.one (j0d rfl))⟩
  | exit id => simp [z1I] at q1
  | goto id => simp [z1I] at q1
 obtain ⟨e3, _⟩ := z7h (P := P) TT r1.h r1.t hvs
 refine ⟨_, hin _ (List.mem_singleton.2 rfl), ρ', D', w', r1.h, r2, hst.trans (.one ?_)⟩
 exact step_going_returned rfl ⟨rfl, rfl, fn, hf, e3⟩
theorem q2w {l : List ADefer} {d : FuncId × List AV} (h : z6R l = some d) : ∃ first cap args, l = [.call (.func (.func d.1) first cap) args] ∧ d.2 = first ++ (args ++ cap) := by
 unfold z6R at h
 split at h
 ·rename_i g first cap args
  simp only [Option.some.injEq, z1G] at h; subst h
  exact ⟨first, cap, args, rfl, rfl⟩
 ·simp at h
theorem q4i (TT : TabOk P G) (hF : FnsOk P G F) (hB : ∀ x : Code, z1i P G (z0p x F G) x) {v : AV} {l : List ADefer} {d : FuncId × List AV} (hd : z6R l = some d) {H : Heap} {Hs : List Heap} (h : q2s F G v d.1 d.2 H = some Hs)
  {ρ : Env} {D : Nat → Prop} {w : World} (hH : HRel G ρ D w H) (hv : okV ρ D v) {df : List Deferred} (hdf : DfRel ρ D l df) {fr c₁ : Frame} (hfd : fr.defers = df) (hm : fr.mode ≠ .run)
  (hc : q5S { fr with defers := [] } c₁ (conc ρ v)) (cs : List Frame) :
  ∃ H' ∈ Hs, ∃ ρ' D' w', HRel G ρ' D' w' H' ∧ Ext H ρ D H' ρ' D' ∧ Steps P (lone fr cs w) (lone { c₁ with mode := settle c₁.mode } cs w') := by
 obtain ⟨g, as⟩ := d
 obtain ⟨first, cap, args, rfl, hargs⟩ := q2w hd
 simp only at hargs h
 subst hargs
 cases df with
 | nil => exact hdf.elim
 | cons d df =>
  obtain ⟨⟨hfv, ha, hdv⟩, hrest⟩ := hdf
  have hnil : df = [] := by
   cases df with
   | nil => rfl
   | cons x y => exact hrest.elim
  subst hnil
  have hd' : d = { target := .fn (.func g) (concL ρ cap).toArray, args := (concL ρ first).toArray ++ (concL ρ args).toArray } := by
   have := congrArg (fun s => s.run P w) hdv
   simp only [conc, Deferred.ofValue, Sem.run_pure, Result.ok.injEq, and_true] at this
   exact this.symm
  subst hd'
  obtain ⟨⟨fn, body, q1, q2, q3⟩, H', hin, ρ', D', w', r1, r2, r3⟩ := q8v TT hF hB h hH (z0P hfv.2.1 (z0P ha hfv.2.2)) hv hc (cs := cs)
  refine ⟨H', hin, ρ', D', w', r1, r2, Steps.head (step_defer (f := g) (args := (concL ρ (first ++ (args ++ cap))).toArray) hm hfd rfl ?_) r3⟩
  have e : (concL ρ first).toArray ++ (concL ρ args).toArray ++ (concL ρ cap).toArray = (concL ρ (first ++ (args ++ cap))).toArray := by simp [z0i]
  show (callFunc g _).run P w = _
  rw [e]
  exact z3D q1 q2 q3
theorem z9R {ρ : Env} {fr : Frame} (h : fr.mode = .returning) : q5S fr fr (conc ρ .nilIface) := by
 intro cs
 exact .inr ⟨by simp [recoverD, h], rfl, rfl⟩
theorem z9S {fr : Frame} {v : Value} (h : fr.mode = .panicking (pe v)) : q5S fr { fr with mode := .panicking (pr v) } v := by
 intro cs
 exact .inl (by simp [recoverD, h, pe, pr])
theorem j1X (v : Value) : settle (.panicking (pr v)) = .returning := by simp [settle, pr]
theorem q8w (TT : TabOk P G) (hF : FnsOk P G F) (hB : ∀ x : Code, z1i P G (z0p x F G) x) (hQ : q2u P G Q) {f : FuncId} {args : List AV} {H : Heap} {outs : List VH} (h : q2t F Q G f args H = some outs) : CallTo P G f args H outs := by
 intro ρ D w kind cs hH ha
 obtain ⟨fn, hfn, h⟩ := z0a h
 obtain ⟨hf, hn⟩ := TT.funcs f fn hfn
 obtain ⟨body, hbody, h⟩ := z0a h
 refine ⟨⟨fn, body, hf, hbody, hn⟩, ?_⟩
 obtain ⟨tm, e1, e2⟩ := z5x args .e 0 (fun tm => z0G (len args + (fn.ntmps - len args)) fun N => z7C H.next (endR F G fn.results.toList (z0p body F G ⟨none, N⟩ ⟨tm, H, []⟩) fun _ => q2q F Q G ⟨none, N⟩ body ⟨tm, H, []⟩))
 rw [e1, z0h, z0S] at h
 obtain ⟨m, hm, rfl⟩ := z9j h
 let b : Frame := { fn := f, tmps := #[], todo := [], defers := [], mode := .run, kind := kind.1 }
 have henter : Frame.enter P f (concL ρ args).toArray kind.1 = fat b ((concL ρ args).toArray ++ Array.replicate (fn.ntmps - (concL ρ args).toArray.size) undef) [] [.code body] := by
  simp [Frame.enter, fat, hf, hbody, b]
 rw [henter]
 -- a frame without deferred calls, and the results
 have fin : ∀ {Hp H' : Heap} {tmA : T AV} {y : List VH}, resOut G tmA fn.results.toList H' = some y → (∀ q ∈ y, q ∈ m) → ∀ {ρ₁ : Env} {D₁ : Nat → Prop} {ρ' : Env} {D' : Nat → Prop} {w' : World} {tm' : Array Value} {todo : List Item} {n : Nat},
   TmRel ρ₁ D₁ n tmA tm' → Ext H ρ D Hp ρ₁ D₁ → HRel G ρ' D' w' H' → Ext Hp ρ₁ D₁ H' ρ' D' →
   Steps P (lone (fat b ((concL ρ args).toArray ++ Array.replicate (fn.ntmps - (concL ρ args).toArray.size) undef) [] [.code body]) cs w) (lone (ret b tm' [] todo) cs w') →
   ∃ p ∈ z4W H.next m, ∃ ρ' D' w' fr, HRel G ρ' D' w' p.2 ∧ Ext H ρ D p.2 ρ' D' ∧ okV ρ' D' p.1 ∧
    Steps P (lone (fat b ((concL ρ args).toArray ++ Array.replicate (fn.ntmps - (concL ρ args).toArray.size) undef) [] [.code body]) cs w) (lone fr cs w') ∧
    fr.fn = f ∧ fr.mode = .returning ∧ fr.defers = [] ∧ fr.kind = kind.1 ∧ ∃ fn, P.funcs[f]? = some fn ∧ (results fn fr.tmps).run P w' = .ok (conc ρ' p.1) w' := by
  intro Hp H' tmA y hy hin ρ₁ D₁ ρ' D' w' tm' todo n hT hE1 hH' hE2 hs
  obtain ⟨vs, hvs, hy⟩ := z0a hy
  simp only [Option.some.injEq] at hy; subst hy
  obtain ⟨r1, r2⟩ := z7h (P := P) TT hH' (hT.sub hE2.sub) hvs
  obtain ⟨z, hz, z1, z2, z3⟩ := z7N (b := H.next) (hin _ (List.mem_singleton.2 rfl)) hH'
  exact ⟨z, hz, ρ', D', w', _, z2, (hE1.trans hE2).trans (.same _ _ z3), by rw [z1]; exact r2, hs, rfl, rfl, rfl, rfl, fn, hf, by rw [z1]; exact r1⟩
 unfold endR at hm
 split at hm
 ·rename_i l hl
  obtain ⟨p, hp, ρ', D', w', tm', df', r1, r2, r3⟩ := hB body ⟨none, args.length + (fn.ntmps - args.length)⟩ ⟨tm, H, []⟩ l hl ρ D w _ [] b [] cs ⟨hH, z3E ha e2, trivial⟩ rfl
  have r3 := Arr.of_steps (P := P) z0D r3
  obtain ⟨x, hx, hin⟩ := q0B hm p hp
  obtain ⟨q1, hx⟩ := z0c hx
  obtain ⟨todo, hst⟩ : ∃ todo, Steps P (lone (fat b ((concL ρ args).toArray ++ Array.replicate (fn.ntmps - (concL ρ args).toArray.size) undef) [] [.code body]) cs w) (lone (ret b tm' df' todo) cs w') := by
   obtain ⟨e, s⟩ := p
   cases e with
   | normal => exact ⟨[], Steps.trans r3 (.one (j0e rfl))⟩
   | ret => obtain ⟨k', hs⟩ := r3; exact ⟨_, hs.trans (.one (j0d rfl))⟩
   | exit id => simp [z1I] at q1
   | goto id => simp [z1I] at q1
  rcases z0Z hx with ⟨h0, hx⟩ | ⟨h0, hx⟩
  ·have hd := r1.d
   rw [(z2v _).1 h0] at hd
   have hdf' : df' = [] := by
    cases df' with
    | nil => rfl
    | cons d df => exact hd.elim
   subst hdf'
   exact fin hx hin r1.t r2 r1.h (.refl _ _ _) hst
  ·obtain ⟨d, hd, hx⟩ := z0a hx
   obtain ⟨Hs, hHs, hall⟩ := z0w hx
   obtain ⟨H', hm', ρ₂, D₂, w₂, g1, g2, g3⟩ := q4i TT hF hB hd hHs r1.h (v := .nilIface) trivial r1.d (fr := ret b tm' df' todo) (c₁ := ret b tm' [] todo) rfl (by simp [ret]) (z9R rfl) cs
   obtain ⟨y, hy, hin'⟩ := hall H' hm'
   exact fin hy (fun q hq => hin q (hin' q hq)) r1.t r2 g1 g2 (hst.trans g3)
 ·rename_i hl
  obtain ⟨p, hp, hm⟩ := z0a hm
  obtain ⟨tmA, htm, hm⟩ := z0a hm
  obtain ⟨d, hd, hm⟩ := z0a hm
  obtain ⟨Hs, hHs, hall⟩ := z0w hm
  obtain ⟨ρ', D', w', tm', df', todo, r1, r2, r3, r4, r5, r6⟩ := q7b TT hF hB hQ body _ p hp ρ D w _ [] b [] cs ⟨hH, z3E ha e2, trivial⟩ rfl
  obtain ⟨H', hm', ρ₂, D₂, w₂, g1, g2, g3⟩ := q4i TT hF hB hd hHs r1 r3 r4 (fr := pan b tm' df' todo (pe (conc ρ' p.v))) (c₁ := pan b tm' [] todo (pr (conc ρ' p.v))) rfl (by simp [pan]) (z9S rfl) cs
  have e : ({ pan b tm' [] todo (pr (conc ρ' p.v)) with mode := settle (pan b tm' [] todo (pr (conc ρ' p.v))).mode } : Frame) = ret b tm' [] todo := by
   show ({ pan b tm' [] todo (pr (conc ρ' p.v)) with mode := settle (.panicking (pr (conc ρ' p.v))) } : Frame) = _
   rw [j1X]; rfl
  rw [e] at g3
  obtain ⟨y, hy, hin'⟩ := hall H' hm'
  exact fin hy hin' (r5 tmA htm) r2 g1 g2 (r6.trans g3)
theorem k4b (TT : TabOk P G) {R : List Nat} {base : Ov} (hb : OvOk P G base) {N : Nat} : ∀ n, OvOk P G (pn G R base N n).ov ∧ q2u P G (pn G R base N n).q := by
 intro n
 induction n with
 | zero => exact ⟨hb, fun f args H p h => by have h : (none : Option VH) = some p := h; simp at h⟩
 | succ n ih =>
  have hF := z5g TT ih.1 N
  have hB := z7l TT ih.1 N
  refine ⟨fun f args H outs h => ?_, j1U TT hF hB ih.2⟩
  have h : orOv (base f args H) (bif z2j f R then q2t (fnsO G (pn G R base N n).ov N) (pn G R base N n).q G f args H else none) = some outs := h
  cases hbase : base f args H with
  | some l =>
   rw [hbase] at h
   have h : some l = some outs := h
   simp only [Option.some.injEq] at h; subst h
   exact hb _ _ _ _ hbase
  | none =>
   rw [hbase] at h
   have h : (bif z2j f R then q2t (fnsO G (pn G R base N n).ov N) (pn G R base N n).q G f args H else none) = some outs := h
   obtain ⟨_, h⟩ := z0c h
   exact q8w TT hF hB ih.2 h
theorem Gets.step (TT : TabOk P G) {ov : Ov} (ho : OvOk P G ov) {m : Nat} {c : Ctx} {x : Code} {s s' : St} {Q : Ex → St → Prop} (h : z1S s' (z0p x (fnsO G ov m) G c s) = true) (hq : Q .normal s') : Gets P G c x s Q := by
 cases ho' : z0p x (fnsO G ov m) G c s with
 | none => rw [ho'] at h; simp [z1S] at h
 | some l =>
  rw [ho'] at h
  have hall := z5A (l := l) h
  refine (Gets.code TT ho ho').keep fun e s1 hm => ?_
  obtain ⟨h1, h2⟩ := hall _ hm
  obtain ⟨h3, h4, h5⟩ := z9P h2
  simp only at h1
  subst h1
  exact ⟨s'.h, h4, h5, by show Q .normal _; rw [← h3]; exact hq⟩
end
end Go.Sx
namespace Go.Sx
open Go Go.RowKit
section
variable {P : Program} {G : Tab}
theorem HRel.below {ρ : Env} {D : Nat → Prop} {w w' : World} {H : Heap} (hH : HRel G ρ D w H) (hb : Below w.heap.size w w') : HRel G ρ D w' H :=
 ⟨hH.lt, hH.glob, hH.inj, fun b o hD ho => (hH.blk b o hD ho).sub (.refl _ _) hD (hb.block _ (hH.blk b o hD ho).stands),
  fun i o hi => ⟨by
   have h1 := (hH.rest i o hi).1
   rw [hb.block i (Array.getElem?_eq_some_iff.1 h1).1]; exact h1, (hH.rest i o hi).2⟩, hH.kin.trans ⟨hb.os, hb.tape, hb.output, hb.size⟩⟩
theorem CallTo.of_calls {f : FuncId} {args : List AV} {H : Heap} {v : AV} (hf : ∃ fn body, P.funcs[f]? = some fn ∧ fn.body = some body ∧ (fn.name == "runtime.NumGoroutine") = false)
  (h : ∀ (ρ : Env) (D : Nat → Prop) (w : World), HRel G ρ D w H → okL ρ D args → okV ρ D v ∧ Calls P f (concL ρ args).toArray w fun e w' => e = .returned (conc ρ v) ∧ Below w.heap.size w w') :
  CallTo P G f args H [(v, H)] := by
 intro ρ D w kind cs hH ha
 refine ⟨hf, (v, H), List.mem_singleton.2 rfl, ?_⟩
 obtain ⟨hv, hc⟩ := h ρ D w hH ha
 obtain ⟨e, w', fr, ⟨rfl, hb⟩, hs, h1, h2⟩ := hc cs
 obtain ⟨k, hk⟩ := kind
 subst hk
 obtain ⟨m1, m2, m3, fn, m4, m5⟩ := h2
 exact ⟨ρ, D, w', fr, hH.below hb, .refl _ _ _, hv, hs, h1, m1, m2, m3, fn, by rw [← h1]; exact m4, m5⟩
end
end Go.Sx
namespace Go.Sx
open Go Go.RowKit
section
variable {P : Program} {G : Tab}
theorem j8Q {W : World} {l : List (String × DataW Unit)} (h : laidMet P l W) {n : String} {g t e : Nat} {k : IntKind} {xs : List Int}
  (hm : (n, DataW.agg (xs.map fun x => .lit (.int k x))) ∈ l) (hg : P.globalNamed n = some g) (ht : (P.globals[g]?).map (·.type) = some t) (hu : P.underlying t = some (.array xs.length e)) (hc : P.cellsOf e = 1)
  (hi : P.underlying e = some (.int k)) (hne : xs ≠ []) (hct : P.cellsOf t = xs.length) :
  ∃ el : TypeId, W.heap[g]? = some (.cells (xs.map fun x => Value.int k x).toArray el (0, 0)) := by
 obtain ⟨arr, el, h1, h2, h3⟩ := q3t h hm hg ht hu hc hi hne
 obtain ⟨ps, hv, _, hps⟩ := h
 obtain ⟨g', t', cs, fuel, p, k1, k2, k3, k4, k5⟩ := z3H hv n _ hm
 obtain rfl : g' = g := Option.some.inj (k1.symm.trans hg)
 obtain rfl : t' = t := Option.some.inj (k2.symm.trans ht)
 obtain ⟨_, _, _, _, hl, _, _⟩ := DataW.trod_array hu k4
 have hcs : arr = cs := by
  unfold World.var? at k3
  rw [k1] at k3
  simp only [Option.bind_some, h1, Option.some.injEq] at k3
  exact k3
 subst hcs
 rw [hct] at hl
 refine ⟨el, ?_⟩
 rw [h1]
 have he : arr = (xs.map fun x => Value.int k x).toArray := by
  apply Array.ext'
  apply List.ext_getElem?
  intro i
  rw [Array.getElem?_toList, List.getElem?_map]
  by_cases hi' : i < xs.length
  ·rw [List.getElem?_eq_getElem hi', h3 i _ (List.getElem?_eq_getElem hi')]; rfl
  ·rw [List.getElem?_eq_none (by omega), Array.getElem?_eq_none (by rw [← Array.length_toList, hl]; omega)]; rfl
 rw [he]
theorem j8R {W : World} {H : Heap} (hn : G.nglob ≤ H.next) (hlt : ∀ x o, H.blks.get x = some o → x < H.next)
  (hget : ∀ x o, H.blks.get x = some o → (∃ (t : TypeId) (k : IntKind) (xs : List Int) (el : TypeId) (arr : Array Value), o = .big t xs.length (xs.map fun x => .int k x) ∧ W.heap[x]? = some (.cells arr el (0, 0)) ∧ xs.length ≤ arr.size ∧ ∀ (i : Nat) (y : Int), xs[i]? = some y → arr[i]? = some (Value.int k y)) ∨
   (∃ (t : TypeId) (k : IntKind) (xs : List Int) (el : TypeId), o = .fix t (xs.map fun x => .int k x) ∧ W.heap[x]? = some (.cells (xs.map fun x => Value.int k x).toArray el (0, 0)))) :
  HRel G (q3u W) (fun x => x < H.next) W H := by
 refine ⟨fun x hx => hx, fun x hx => ⟨Nat.lt_of_lt_of_le hx hn, rfl, rfl⟩, fun x y p q hx hy hox hoy hxy => .inl hxy, fun x o hx hox => ?_, fun i o hi => ⟨hi, fun x hx _ => ?_⟩, .refl _⟩
 ·rcases hget x o hox with ⟨t, k, xs, el, arr, rfl, hg, hsz, harr⟩ | ⟨t, k, xs, el, rfl, hg⟩
  ·refine ⟨z0z.2 fun v hv => ?_, _, _, _, hg, by show 0 + xs.length ≤ arr.size; omega, fun i v hi hv => ?_⟩
   ·obtain ⟨x, _, rfl⟩ := List.mem_map.1 hv; trivial
   ·rw [List.length_map, Nat.mod_eq_of_lt hi, List.getElem?_map] at hv
    obtain ⟨x, hx, rfl⟩ := Option.map_eq_some_iff.1 hv
    show arr[0 + i]? = _
    rw [Nat.zero_add]
    exact harr i x hx
  ·refine ⟨z0z.2 fun v hv => ?_, el, (0, 0), ?_⟩
   ·obtain ⟨x, _, rfl⟩ := List.mem_map.1 hv; trivial
   ·show W.heap[x]? = _
    rw [hg, z0i, List.map_map]; rfl
 ·cases ho : H.blks.get x with
  | none => trivial
  | some o => rcases hget x o ho with ⟨_, _, _, _, _, rfl, _⟩ | ⟨_, _, _, _, rfl, _⟩ <;> trivial
theorem j8S {ρ : Env} {D : Nat → Prop} {w : World} {H : Heap} (hH : HRel G ρ D w H) {n : String} {g : Nat} {t : TypeId} {k : IntKind} {xs : List Int} (hg : P.globalNamed n = some g) (hgl : g < G.nglob)
  (hb : H.blks.get g = some (.fix t (xs.map fun x => .int k x))) : Lib.TabIs P w n k xs := by
 obtain ⟨d1, d2, d3⟩ := hH.glob g hgl
 obtain ⟨_, el, fz, h2⟩ := hH.blk g _ d1 hb
 rw [d2] at h2
 unfold Lib.TabIs World.var?
 rw [hg]
 simp only [Option.bind_some, h2]
 rw [z0i, List.map_map]; rfl
end
end Go.Sx
