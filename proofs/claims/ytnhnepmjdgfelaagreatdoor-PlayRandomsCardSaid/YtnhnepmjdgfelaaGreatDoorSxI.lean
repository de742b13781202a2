/-
  Runs whose end is known ahead; rows in cells; what a call leaves, said by a law.
-/
import Derived.Test.YtnhnepmjdgfelaaGreatDoorSxH
import Derived.Test.YtnhnepmjdgfelaaGreatDoorSxF
set_option linter.unusedSimpArgs false
set_option linter.unusedVariables false
namespace Go.Sx
open Go
theorem m_kStore (t : TypeId) (x y : Operand) : kindOf (.store t x y) = .eff := rfl
theorem m_kMap (t : TypeId) (x y z : Operand) : kindOf (.mapUpdate t x y z) = .eff := rfl
theorem m_kConv (a b : TypeId) (x : Operand) : kindOf (.convert a b x) = .eff := rfl
theorem m_kCallV (x : Operand) : kindC (.value x) = .eff := rfl
theorem m_kBappend : kindB .append = .eff := rfl
theorem m_kBcopy : kindB .copy = .eff := rfl
theorem m_kBdelete : kindB .delete = .eff := rfl
theorem m_kBclear : kindB .clear = .eff := rfl
theorem m_kBpanic : kindB .panic = .eff := rfl
theorem m_vInt (k : IntKind) (n : Int) : ofValue (.int k n) = some (.int k n) := rfl
theorem m_vBool (b : Bool) : ofValue (.bool b) = some (.bool b) := rfl
theorem m_vStr (s : ByteArray) : ofValue (.string s) = some (.str s.data.toList) := rfl
theorem m_vNp : ofValue (.pointer none) = some .nilptr := rfl
theorem m_vNs : ofValue (.slice none 0 0) = some .nilslice := rfl
theorem m_vNm : ofValue (.map none) = some .nilmap := rfl
theorem m_vNf : ofValue .nilFunc = some .nilFunc := rfl
theorem m_vNi : ofValue .nilIface = some .nilIface := rfl
theorem m_iadd (k : IntKind) (a b : Int) : intBin .add k a k b = some (.int k (awrap k (a + b))) := if_pos rfl
theorem m_isub (k : IntKind) (a b : Int) : intBin .sub k a k b = some (.int k (awrap k (a - b))) := if_pos rfl
theorem m_imul (k : IntKind) (a b : Int) : intBin .mul k a k b = some (.int k (awrap k (a * b))) := if_pos rfl
theorem m_iquo (k : IntKind) (a b : Int) : intBin .quo k a k b = quoO k a b := if_pos rfl
theorem m_irem (k : IntKind) (a b : Int) : intBin .rem k a k b = remO k a b := if_pos rfl
theorem m_ieql (k : IntKind) (a b : Int) : intBin .eql k a k b = boolO (ibeq a b) := if_pos rfl
theorem m_ineq (k : IntKind) (a b : Int) : intBin .neq k a k b = boolO (bnot (ibeq a b)) := if_pos rfl
theorem m_ilss (k : IntKind) (a b : Int) : intBin .lss k a k b = boolO (iblt a b) := if_pos rfl
theorem m_ileq (k : IntKind) (a b : Int) : intBin .leq k a k b = boolO (bnot (iblt b a)) := if_pos rfl
theorem m_igtr (k : IntKind) (a b : Int) : intBin .gtr k a k b = boolO (iblt b a) := if_pos rfl
theorem m_igeq (k : IntKind) (a b : Int) : intBin .geq k a k b = boolO (bnot (iblt a b)) := if_pos rfl
theorem m_iand (k : IntKind) (a b : Int) : intBin .and k a k b = bitO k Nat.land a b := if_pos rfl
theorem m_ior (k : IntKind) (a b : Int) : intBin .or k a k b = bitO k Nat.lor a b := if_pos rfl
theorem m_ixor (k : IntKind) (a b : Int) : intBin .xor k a k b = bitO k Nat.xor a b := if_pos rfl
theorem m_kRange (t : TypeId) (x : Operand) : kindOf (.range t x) = .eff := rfl
theorem m_kNext (x : Operand) (b : Bool) : kindOf (.next x b) = .eff := rfl
theorem q_next (H : Heap) (o : ABlk) : (H.push o).next = H.next + 1 := (s_push_next H o).trans (Eq.refl _)
theorem q_same (H : Heap) (o : ABlk) {b : Nat} (h : b = H.next) : (H.push o).blks.get b = some o := by subst h; exact s_push_same H o
set_option linter.defProp false in
def sxM := And.intro (And.intro sxL (And.intro @len_eq (And.intro @m_kRange (And.intro @m_kNext @q_same)))) (And.intro (And.intro (And.intro (And.intro (And.intro (And.intro @m_kStore (And.intro @m_kMap @m_kConv)) (And.intro @m_kCallV (And.intro @m_kBappend @m_kBcopy))) (And.intro (And.intro @m_kBdelete (And.intro @m_kBclear @m_kBpanic)) (And.intro (And.intro @m_vInt @m_vBool) (And.intro @m_vStr @m_vNp)))) (And.intro (And.intro (And.intro @m_vNs (And.intro @m_vNm @m_vNf)) (And.intro @m_vNi (And.intro @m_iadd @m_isub))) (And.intro (And.intro @m_imul (And.intro @m_iquo @m_irem)) (And.intro (And.intro @m_ieql @m_ineq) (And.intro @m_ilss @m_ileq))))) (And.intro (And.intro (And.intro (And.intro @m_igtr (And.intro @m_igeq @m_iand)) (And.intro @m_ior (And.intro @m_ixor @kindOf.eq_1))) (And.intro (And.intro @kindOf.eq_2 (And.intro @kindOf.eq_3 @kindOf.eq_4)) (And.intro (And.intro @kindOf.eq_5 @kindOf.eq_6) (And.intro @kindOf.eq_7 @kindOf.eq_8)))) (And.intro (And.intro (And.intro @kindOf.eq_9 (And.intro @kindOf.eq_10 @kindOf.eq_11)) (And.intro @kindOf.eq_12 (And.intro @kindOf.eq_13 @kindOf.eq_14))) (And.intro (And.intro @kindOf.eq_15 (And.intro @kindOf.eq_16 @kindOf.eq_17)) (And.intro (And.intro @kindOf.eq_18 @kindOf.eq_19) (And.intro @kindOf.eq_20 @kindOf.eq_21)))))) (And.intro (And.intro (And.intro (And.intro (And.intro @kindOf.eq_22 (And.intro @kindOf.eq_23 @kindOf.eq_24)) (And.intro @kindOf.eq_25 (And.intro @kindC.eq_1 @kindB.eq_1))) (And.intro (And.intro @kindB.eq_2 (And.intro @kindB.eq_3 @kindB.eq_4)) (And.intro (And.intro @kindB.eq_5 @unA.eq_1) (And.intro @unA.eq_2 @unA.eq_3)))) (And.intro (And.intro (And.intro @boxA.eq_1 (And.intro @loadPtr.eq_1 @nilCheckA.eq_1)) (And.intro @nilCheckA.eq_2 (And.intro @nilCheckA.eq_3 @nilCheckA.eq_4))) (And.intro (And.intro @fst1.eq_1 (And.intro @fst1.eq_2 @ofValue.eq_1)) (And.intro (And.intro @ofValue.eq_2 @ofScalar.eq_1) (And.intro @ofScalar.eq_2 @ofScalar.eq_3))))) (And.intro (And.intro (And.intro (And.intro @ofScalar.eq_4 (And.intro @ofScalar.eq_5 @ofScalar.eq_6)) (And.intro @ofScalar.eq_7 (And.intro @ofScalar.eq_8 @intBin.eq_1))) (And.intro (And.intro @intBin.eq_2 (And.intro @boolO.eq_1 @guardA.eq_1)) (And.intro (And.intro @cCond.eq_1 @condV.eq_1) (And.intro @condV.eq_2 @cRet.eq_1)))) (And.intro (And.intro (And.intro @cExit.eq_1 (And.intro @cSkip.eq_1 @resOut.eq_1)) (And.intro (And.intro @resultA.eq_1 @resultA.eq_2) (And.intro @extractA.eq_1 @tupleO.eq_1))) (And.intro (And.intro @tupleO.eq_2 (And.intro @s_castN @s_cells_one)) (And.intro (And.intro @noOv.eq_1 @callFn.eq_1) (And.intro @s_one_map @s_one_slice)))))))
theorem Gets.l0 {P : Program} {G : Tab} {c : Ctx} {s s' : St} {Q : Ex → St → Prop} (TT : TabOk P G) {x : Code} (h : codeB x (fnsO G noOv 8) G c s = some [(.normal, s')]) (h' : Q .normal s') : Gets P G c x s Q := Gets.last TT noOv_ok 8 h h'
theorem pd_ {l : List Oper} (h : plainDraw l = true) : plainDraw l = true := h
theorem md_ {l : List Oper} (h : makeDraw l = true) : makeDraw l = true := h
theorem xd_ {l : List Oper} (h : multiDraw l = true) : multiDraw l = true := h
end Go.Sx
namespace Go.Sx
open Go
section
variable {P : Program} {G : Tab} {c : Ctx} {s s' : St} {Q : Ex → St → Prop}
def GetsE (P : Program) (G : Tab) (c : Ctx) (x : Code) (s : St) (Q : Ex → St → Prop) : Prop := ∃ e s', Q e s' ∧ Gets P G c x s fun e1 s1 => e1 = e ∧ s1 = s'
theorem GetsE.mono {x : Code} {Q' : Ex → St → Prop} (h : GetsE P G c x s Q) (hq : ∀ e s', Q e s' → Q' e s') : GetsE P G c x s Q' := by
 obtain ⟨e, s', q, g⟩ := h
 exact ⟨e, s', hq e s' q, g⟩
theorem GetsE.one {x : Code} {e : Ex} (g : ∀ Q : Ex → St → Prop, Q e s' → Gets P G c x s Q) (hQ : Q e s') : GetsE P G c x s Q := ⟨e, s', hQ, g _ ⟨rfl, rfl⟩⟩
theorem GetsE.last (TT : TabOk P G) {ov : Ov} (ho : OvOk P G ov) (n : Nat) {x : Code} {s' : St} (h : codeB x (fnsO G ov n) G c s = some [(.normal, s')]) (h' : Q .normal s') : GetsE P G c x s Q :=
 GetsE.one (fun _ hq => Gets.last TT ho n h hq) h'
theorem GetsE.l0 (TT : TabOk P G) {x : Code} {s' : St} (h : codeB x (fnsO G noOv 8) G c s = some [(.normal, s')]) (h' : Q .normal s') : GetsE P G c x s Q := GetsE.last TT noOv_ok 8 h h'
theorem GetsE.skip (TT : TabOk P G) (h : Q .normal s) : GetsE P G c .skip s Q := GetsE.one (fun _ hq => Gets.skip TT hq) h
theorem GetsE.ret (TT : TabOk P G) (h : Q .ret s) : GetsE P G c .ret s Q := GetsE.one (fun _ hq => Gets.ret TT hq) h
theorem GetsE.exit (TT : TabOk P G) {i : Nat} (h : Q (.exit i) s) : GetsE P G c (.exit i) s Q := GetsE.one (fun _ hq => Gets.exit TT hq) h
theorem GetsE.condT {v : Operand} {x y : Code} (hv : aev G s.tm v = some (.bool true)) (h : GetsE P G c x s Q) : GetsE P G c (.cond v x y) s Q := by
 obtain ⟨e, s', q, g⟩ := h
 exact ⟨e, s', q, Gets.condT hv g⟩
theorem GetsE.condF {v : Operand} {x y : Code} (hv : aev G s.tm v = some (.bool false)) (h : GetsE P G c y s Q) : GetsE P G c (.cond v x y) s Q := by
 obtain ⟨e, s', q, g⟩ := h
 exact ⟨e, s', q, Gets.condF hv g⟩
theorem GetsE.seq {x y : Code} (h : GetsE P G c x s fun e s' => match e with | .normal => GetsE P G c y s' Q | e => Q e s') : GetsE P G c (.seq x y) s Q := by
 obtain ⟨e, s1, q, g⟩ := h
 cases e with
 | normal =>
  obtain ⟨e2, s2, q2, g2⟩ := q
  exact ⟨e2, s2, q2, Gets.seq (g.mono fun e' s' hh => by obtain ⟨rfl, rfl⟩ := hh; exact g2)⟩
 | exit j => exact ⟨_, s1, q, Gets.seq (g.mono fun e' s' hh => by obtain ⟨rfl, rfl⟩ := hh; exact ⟨rfl, rfl⟩)⟩
 | goto j => exact ⟨_, s1, q, Gets.seq (g.mono fun e' s' hh => by obtain ⟨rfl, rfl⟩ := hh; exact ⟨rfl, rfl⟩)⟩
 | ret => exact ⟨_, s1, q, Gets.seq (g.mono fun e' s' hh => by obtain ⟨rfl, rfl⟩ := hh; exact ⟨rfl, rfl⟩)⟩
theorem GetsE.blk {id : Nat} {x : Code} (h : GetsE P G c x s (InBlk id Q)) : GetsE P G c (.block id x) s Q := by
 obtain ⟨e, s1, q, g⟩ := h
 cases e with
 | exit j =>
  by_cases hj : j = id
  ·subst hj
   have q' : (if j = j then Q .normal s1 else Q (.exit j) s1) := q
   rw [if_pos rfl] at q'
   exact ⟨.normal, s1, q', Gets.blk (g.mono fun e' s' hh => by obtain ⟨rfl, rfl⟩ := hh; exact inBlk_exit ⟨rfl, rfl⟩)⟩
  ·have q' : (if j = id then Q .normal s1 else Q (.exit j) s1) := q
   rw [if_neg hj] at q'
   exact ⟨.exit j, s1, q', Gets.blk (g.mono fun e' s' hh => by obtain ⟨rfl, rfl⟩ := hh; exact inBlk_other hj ⟨rfl, rfl⟩)⟩
 | normal => exact ⟨.normal, s1, q, Gets.blk (g.mono fun e' s' hh => by obtain ⟨rfl, rfl⟩ := hh; exact inBlk_normal ⟨rfl, rfl⟩)⟩
 | ret => exact ⟨.ret, s1, q, Gets.blk (g.mono fun e' s' hh => by obtain ⟨rfl, rfl⟩ := hh; exact inBlk_ret ⟨rfl, rfl⟩)⟩
 | goto j => exact ⟨.goto j, s1, q, Gets.blk (g.mono fun e' s' hh => by obtain ⟨rfl, rfl⟩ := hh; exact ⟨rfl, rfl⟩)⟩
inductive Rounds (P : Program) (G : Tab) (c : Ctx) (x : Code) (e2 : Ex) (s2 : St) : Nat → St → Prop
 | stop {m : Nat} {s : St} (he : e2 ≠ .normal) (g : Gets P G c x s fun e1 s1 => e1 = e2 ∧ s1 = s2) : Rounds P G c x e2 s2 m s
 | next {m m' : Nat} {s s1 : St} (hm : m' < m) (g : Gets P G c x s fun e1 s' => e1 = .normal ∧ s' = s1) (r : Rounds P G c x e2 s2 m' s1) : Rounds P G c x e2 s2 m s
theorem rounds_run {x : Code} {e2 : Ex} {s2 : St} : ∀ m s, Rounds P G c x e2 s2 m s → Gets P G c (.loop x) s fun e1 s1 => e1 = e2 ∧ s1 = s2 :=
 Gets.loop (I := Rounds P G c x e2 s2) fun m s r => by
  cases r with
  | stop he g =>
   refine g.mono fun e' s' hh => ?_
   obtain ⟨rfl, rfl⟩ := hh
   cases e' with
   | normal => exact absurd rfl he
   | exit j => exact ⟨rfl, rfl⟩
   | goto j => exact ⟨rfl, rfl⟩
   | ret => exact ⟨rfl, rfl⟩
  | next hm g r =>
   refine g.mono fun e' s' hh => ?_
   obtain ⟨rfl, rfl⟩ := hh
   exact ⟨_, hm, r⟩
theorem GetsE.loop {x : Code} {I : Nat → St → Prop}
  (h : ∀ m s, I m s → GetsE P G c x s fun e s' => match e with | .normal => ∃ m', m' < m ∧ I m' s' | e => Q e s') : ∀ m s, I m s → GetsE P G c (.loop x) s Q := by
 have key : ∀ m s, I m s → ∃ e2 s2, Q e2 s2 ∧ Rounds P G c x e2 s2 m s := by
  intro m
  induction m using Nat.strongRecOn with
  | _ m ih =>
   intro s hI
   obtain ⟨e, s1, q, g⟩ := h m s hI
   cases e with
   | normal =>
    obtain ⟨m', hm, hI'⟩ := q
    obtain ⟨e2, s2, q2, r⟩ := ih m' hm s1 hI'
    exact ⟨e2, s2, q2, .next hm g r⟩
   | exit j => exact ⟨_, s1, q, .stop (by simp) g⟩
   | goto j => exact ⟨_, s1, q, .stop (by simp) g⟩
   | ret => exact ⟨_, s1, q, .stop (by simp) g⟩
 intro m s hI
 obtain ⟨e2, s2, q, r⟩ := key m s hI
 exact ⟨e2, s2, q, rounds_run m s r⟩
theorem GetsE.forI {id : Nat} {x : Code} (I : Nat → St → Prop) (m : Nat) (h0 : I m s) (h : ∀ m s, I m s → GetsE P G c x s (InLoop I m (InBlk id Q))) : GetsE P G c (.block id (.loop x)) s Q :=
 GetsE.blk (GetsE.loop (I := I) (fun m s hI => (h m s hI).mono fun e s' h => by cases e <;> exact h) m s h0)
theorem GetsE.upto {id : Nat} {x : Code} {H : Heap} (n : Nat) (I : Nat → T AV → Prop) {tm : T AV} (h0 : I 0 tm)
  (h : ∀ i tm, i ≤ n → I i tm → GetsE P G c x ⟨tm, H, []⟩ fun e s' => match e with
   | .normal => ∃ tm', s' = ⟨tm', H, []⟩ ∧ i < n ∧ I (i + 1) tm'
   | e => InBlk id Q e s') : GetsE P G c (.block id (.loop x)) ⟨tm, H, []⟩ Q :=
 GetsE.forI (I := fun m s => ∃ i tm, i ≤ n ∧ m = n - i ∧ s = ⟨tm, H, []⟩ ∧ I i tm) n ⟨0, tm, Nat.zero_le _, rfl, rfl, h0⟩ fun m s ⟨i, tm, hi, hm, hs, hI⟩ => by
  subst hs
  refine (h i tm hi hI).mono fun e s' h => ?_
  cases e with
  | normal =>
   obtain ⟨tm', rfl, hlt, hI'⟩ := h
   exact ⟨n - (i + 1), by omega, i + 1, tm', hlt, rfl, rfl, hI'⟩
  | _ => exact h
theorem GetsE.uptoH {id : Nat} {x : Code} (n : Nat) (I : Nat → T AV → Heap → Prop) {tm : T AV} {H : Heap} (h0 : I 0 tm H)
  (h : ∀ i tm H, i ≤ n → I i tm H → GetsE P G c x ⟨tm, H, []⟩ fun e s' => match e with
   | .normal => ∃ tm' H', s' = ⟨tm', H', []⟩ ∧ i < n ∧ I (i + 1) tm' H'
   | e => InBlk id Q e s') : GetsE P G c (.block id (.loop x)) ⟨tm, H, []⟩ Q :=
 GetsE.forI (I := fun m s => ∃ i tm H, i ≤ n ∧ m = n - i ∧ s = ⟨tm, H, []⟩ ∧ I i tm H) n ⟨0, tm, H, Nat.zero_le _, rfl, rfl, h0⟩ fun m s ⟨i, tm, H, hi, hm, hs, hI⟩ => by
  subst hs
  refine (h i tm H hi hI).mono fun e s' h => ?_
  cases e with
  | normal =>
   obtain ⟨tm', H', rfl, hlt, hI'⟩ := h
   exact ⟨n - (i + 1), by omega, i + 1, tm', H', hlt, rfl, rfl, hI'⟩
  | _ => exact h
theorem GetsE.drawK (TT : TabOk P G) {ov : Ov} (ho : OvOk P G ov) (n : Nat) {i : Nat} {all : List Oper} (p : List PStep) (hp : planOk all p = true) (hN : Neat s.h)
  (h : runK (fnsO G ov n) G c all p s [] = some [s']) (hQ : Q .normal s') : GetsE P G c (.region i all.toArray true) s Q :=
 GetsE.one (fun _ hq => Gets.drawK TT ho n p hp hN h hq) hQ
theorem GetsE.midH {x : Code} {I : T AV → Heap → Prop} (h : GetsE P G c x s fun e s' => e = .normal ∧ ∃ tm H, s' = ⟨tm, H, []⟩ ∧ I tm H) (h' : ∀ tm H, I tm H → Q .normal ⟨tm, H, []⟩) : GetsE P G c x s Q :=
 h.mono fun e s' h => by obtain ⟨rfl, tm, H, rfl, h⟩ := h; exact h' tm H h
theorem s_push_same3 (H : Heap) (o : ABlk) {b : Nat} (h : b = H.next) : (H.push o).blks.get b = some o := by subst h; exact s_push_same H o
theorem s_put_same3 (H : Heap) (b : Nat) (o : Option ABlk) {x : Nat} (h : x = b) : (putBlk H b o).blks.get x = o := by subst h; exact s_put_same H x o
theorem Gets.ofH {x : Code} {tm : T AV} {H : Heap} {df : List ADefer} (I : Heap → Prop) (hI : I H) (h : ∀ h, I h → Gets P G c x ⟨tm, h, df⟩ Q) : Gets P G c x ⟨tm, H, df⟩ Q := h H hI
theorem GetsE.ofH {x : Code} {tm : T AV} {H : Heap} {df : List ADefer} (I : Heap → Prop) (hI : I H) (h : ∀ h, I h → GetsE P G c x ⟨tm, h, df⟩ Q) : GetsE P G c x ⟨tm, H, df⟩ Q := h H hI
theorem Gets.ofS {x : Code} {tm : T AV} {H : Heap} {df : List ADefer} (I : T AV → Heap → Prop) (hI : I tm H) (h : ∀ tm h, I tm h → Gets P G c x ⟨tm, h, df⟩ Q) : Gets P G c x ⟨tm, H, df⟩ Q := h tm H hI
theorem GetsE.ofS {x : Code} {tm : T AV} {H : Heap} {df : List ADefer} (I : T AV → Heap → Prop) (hI : I tm H) (h : ∀ tm h, I tm h → GetsE P G c x ⟨tm, h, df⟩ Q) : GetsE P G c x ⟨tm, H, df⟩ Q := h tm H hI
def keptP (H h : Heap) (b : Nat) : Prop := ∀ o, h.blks.get b = some o → (b < H.next ∧ H.blks.get b = some o) ∨ ltB h.next o
open Classical in
noncomputable def keepT (H h : Heap) : Nat → T ABlk
 | 0 => .e
 | n + 1 => if keptP H h n then (keepT H h n).set n (h.blks.get n) else keepT H h n
open Classical in
theorem keepT_get (H h : Heap) : ∀ n b, (keepT H h n).get b = if b < n ∧ keptP H h b then h.blks.get b else none
 | 0, b => by
  rw [if_neg fun e => absurd e.1 (Nat.not_lt_zero _)]
  show (T.e : T ABlk).get b = none
  rw [T.get_e]
 | n + 1, b => by
  unfold keepT
  by_cases hk : keptP H h n
  ·rw [if_pos hk, T.get_set]
   by_cases hb : b = n
   ·subst hb
    rw [if_pos rfl, if_pos ⟨by omega, hk⟩]
   ·rw [if_neg hb, keepT_get H h n b]
    by_cases hh : b < n ∧ keptP H h b
    ·rw [if_pos hh, if_pos ⟨by omega, hh.2⟩]
    ·rw [if_neg hh, if_neg fun e => hh ⟨by omega, e.2⟩]
  ·rw [if_neg hk, keepT_get H h n b]
   by_cases hh : b < n ∧ keptP H h b
   ·rw [if_pos hh, if_pos ⟨by omega, hh.2⟩]
   ·rw [if_neg hh, if_neg fun e => hh ⟨by
     by_cases hb : b = n
     ·subst hb; exact absurd e.2 hk
     ·omega, e.2⟩]
noncomputable def keepH (H h : Heap) : Heap := ⟨h.next, keepT H h h.next⟩
theorem keep_next (H h : Heap) : (keepH H h).next = h.next := rfl
theorem keep_neat (H h : Heap) : Neat (keepH H h) := fun b o ho => by
 have ho : (keepT H h h.next).get b = some o := ho
 rw [keepT_get] at ho
 split at ho
 ·rename_i hh; exact hh.1
 ·simp at ho
theorem keep_old {H h : Heap} {b : Nat} (hb : b < H.next) (hle : H.next ≤ h.next) (he : h.blks.get b = H.blks.get b) : (keepH H h).blks.get b = H.blks.get b := by
 show (keepT H h h.next).get b = _
 rw [keepT_get, if_pos ⟨by omega, fun o ho => .inl ⟨hb, by rw [← he]; exact ho⟩⟩, he]
theorem keep_new {H h : Heap} {b : Nat} {o : ABlk} (hN : Neat h) (hb : h.blks.get b = some o) (hl : ltB h.next o) : (keepH H h).blks.get b = some o := by
 show (keepT H h h.next).get b = _
 rw [keepT_get, if_pos ⟨hN b o hb, fun o' ho => .inr (by rw [hb] at ho; cases ho; exact hl)⟩, hb]
theorem keep_cut {H h : Heap} {v : AV} (hle : H.next ≤ h.next) (hv : ltV h.next v) : Cut H (v, keepH H h) v h :=
 ⟨rfl, Nat.le_refl _, hle, fun b o ho => by
  have ho : (keepT H h h.next).get b = some o := ho
  rw [keepT_get] at ho
  split at ho
  ·rename_i hh; exact ⟨ho, hh.2 o ho⟩
  ·simp at ho, hv⟩
theorem callE_of (TT : TabOk P G) {f : FuncId} {fn : Func} {body : Code} (hf : P.funcs[f]? = some fn) (hb : fn.body = some body) (hn : (fn.name == "runtime.NumGoroutine") = false) {args : List AV} {H : Heap} {R : AV → Heap → Prop}
  (hg : GetsE P G ⟨none, args.length + (fn.ntmps - args.length)⟩ body ⟨argsTm args, H, []⟩ fun e s' =>
   leaves e = true ∧ s'.df = [] ∧ ∃ vs, resultsA G s'.tm s'.h fn.results.toList = some vs ∧ H.next ≤ s'.h.next ∧ ltV s'.h.next (oneOf vs) ∧ R (oneOf vs) s'.h) :
  ∃ v h, R v h ∧ H.next ≤ h.next ∧ CallTo P G f args H [(v, keepH H h)] := by
 obtain ⟨e, s', ⟨q1, q2, vs, q3, q4, q5, q6⟩, g⟩ := hg
 exact ⟨oneOf vs, s'.h, q6, q4, callTo_of TT hf hb hn (g.mono fun e1 s1 hh => by obtain ⟨rfl, rfl⟩ := hh; exact ⟨q1, q2, vs, q3, _, List.mem_singleton.2 rfl, keep_cut q4 q5⟩)⟩
theorem fin_E {H : Heap} {s : St} {vs : List AV} {rs : List ResultVar} {R : AV → Heap → Prop} (hd : s.df = []) (hr : resultsA G s.tm s.h rs = some vs) (hn : H.next ≤ s.h.next) (hv : ltV s.h.next (oneOf vs)) (hR : R (oneOf vs) s.h) :
  leaves .ret = true ∧ s.df = [] ∧ ∃ vs, resultsA G s.tm s.h rs = some vs ∧ H.next ≤ s.h.next ∧ ltV s.h.next (oneOf vs) ∧ R (oneOf vs) s.h := ⟨rfl, hd, vs, hr, hn, hv, hR⟩
structure GrowsP (p : Nat) (H H' : Heap) : Prop where
 next : H.next ≤ H'.next
 get : ∀ b, b < H.next → b ≠ p → H'.blks.get b = H.blks.get b
theorem GrowsP.refl (p : Nat) (H : Heap) : GrowsP p H H := ⟨Nat.le_refl _, fun _ _ _ => rfl⟩
theorem GrowsP.trans {p : Nat} {a b c : Heap} (h : GrowsP p a b) (h' : GrowsP p b c) : GrowsP p a c :=
 ⟨Nat.le_trans h.next h'.next, fun x hx hp => (h'.get x (Nat.lt_of_lt_of_le hx h.next) hp).trans (h.get x hx hp)⟩
theorem GrowsP.push (p : Nat) (H : Heap) (o : ABlk) : GrowsP p H (H.push o) := ⟨Nat.le_succ _, fun b hb _ => s_push_other H o (Nat.ne_of_lt hb)⟩
theorem GrowsP.put (p : Nat) (H : Heap) (o : Option ABlk) : GrowsP p H (putBlk H p o) := ⟨by rw [s_put_next]; exact Nat.le_refl _, fun b _ hp => s_put_other _ _ _ hp⟩
theorem GrowsP.new {p : Nat} {a b : Heap} (h : GrowsP p a b) {d : Nat} (hd : a.next ≤ d) (o : Option ABlk) : GrowsP p a (putBlk b d o) :=
 ⟨by rw [s_put_next]; exact h.next, fun x hx hp => by rw [s_put_other _ _ _ (by omega)]; exact h.get x hx hp⟩
theorem GrowsP.keep {p : Nat} {H h : Heap} (h' : GrowsP p H h) : GrowsP p H (keepH H h) :=
 ⟨h'.next, fun b hb hp => keep_old hb h'.next (h'.get b hb hp)⟩
theorem GrowsP.some_ {p : Nat} {H h : Heap} (g : GrowsP p H h) (hN : Neat H) {b : Nat} {o : ABlk} (hb : H.blks.get b = some o) (hp : b ≠ p) : h.blks.get b = some o := by rw [g.get b (hN b o hb) hp]; exact hb
theorem ne_of_blk {H : Heap} {b b' : Nat} {o o' : ABlk} (h : H.blks.get b = some o) (h' : H.blks.get b' = some o') (hne : o ≠ o') : b ≠ b' := fun e => by
 subst e
 rw [h] at h'
 exact hne (Option.some.inj h')
noncomputable def stC (H : Heap) (b off : Nat) (l : List AV) (z : Option Nat) : Option Heap := bindO z fun s => bif Nat.beq (len l) s then storeCellsA H b off l else none
theorem t_store (H : Heap) (t : TypeId) (b off : Nat) (v : AV) : storePtr G H t (.ptr b off) v = stC H b off v.cells (G.size t) := rfl
theorem t_c1 (H : Heap) (b off : Nat) (x : AV) : stC H b off [x] (some 1) = storeIn H b off [x] (H.blks.get b) := rfl
theorem t_c2 (H : Heap) (b off : Nat) (x y : AV) : stC H b off [x, y] (some 2) = storeIn H b off [x, y] (H.blks.get b) := rfl
theorem t_c4 (H : Heap) (b off : Nat) (x y z w : AV) : stC H b off [x, y, z, w] (some 4) = storeIn H b off [x, y, z, w] (H.blks.get b) := rfl
theorem t_c10 (H : Heap) (b off : Nat) (x0 x1 x2 x3 x4 x5 x6 x7 x8 x9 : AV) : stC H b off [x0, x1, x2, x3, x4, x5, x6, x7, x8, x9] (some 10) = storeIn H b off [x0, x1, x2, x3, x4, x5, x6, x7, x8, x9] (H.blks.get b) := rfl
noncomputable def stO (k : Bool) (H : Heap) (b : Nat) (e : TypeId) (x : Bool) (o : Option (List AV)) : Option Heap := bif k then putCells H b e x o else none
theorem t_in (H : Heap) (b off : Nat) (l : List AV) (e : TypeId) (x : Bool) (old : List AV) : storeIn H b off l (some (.cells e x old)) = stO (allOne l) H b e x (spliceN l old off) := rfl
theorem t_stO (H : Heap) (b : Nat) (e : TypeId) (x : Bool) (l : List AV) : stO true H b e x (some l) = some (putBlk H b (some (.cells e x l))) := by
 show forceVs l (fun l => putBlkK H b (some (.cells e x l)) some) = _
 rw [forceVs_eq]
 unfold putBlkK putBlk
 rw [T.setK_eq, T.setK_eq]
theorem t_sp0 {α : Type} (w : List α) (a : α) (l : List α) : spliceN w (a :: l) 0 = overN w (a :: l) := rfl
theorem t_spS {α : Type} (w : List α) (a : α) (l : List α) (k : Nat) : spliceN w (a :: l) (k + 1) = consO a (spliceN w l k) := rfl
theorem t_ov0 {α : Type} (l : List α) : overN [] l = some l := rfl
theorem t_ovS {α : Type} (x : α) (w : List α) (o : α) (l : List α) : overN (x :: w) (o :: l) = consO x (overN w l) := rfl
theorem t_consO {α : Type} (a : α) (l : List α) : consO a (some l) = some (a :: l) := rfl
theorem t_r2 (e : TypeId) (x : Bool) (a b : AV) : cellsIn (some (.cells e x [a, b])) 0 2 = some [a, b] := rfl
theorem t_r4 (e : TypeId) (x : Bool) (a b c d : AV) : cellsIn (some (.cells e x [a, b, c, d])) 0 4 = some [a, b, c, d] := rfl
theorem t_r10 (e : TypeId) (x : Bool) (x0 x1 x2 x3 x4 x5 x6 x7 x8 x9 : AV) : cellsIn (some (.cells e x [x0, x1, x2, x3, x4, x5, x6, x7, x8, x9])) 0 10 = some [x0, x1, x2, x3, x4, x5, x6, x7, x8, x9] := rfl
theorem t_r10a (e : TypeId) (x : Bool) (x0 x1 x2 x3 x4 x5 x6 x7 x8 x9 : AV) : cellsIn (some (.cells e x [x0, x1, x2, x3, x4, x5, x6, x7, x8, x9])) 4 2 = some [x4, x5] := rfl
theorem t_r10b (e : TypeId) (x : Bool) (x0 x1 x2 x3 x4 x5 x6 x7 x8 x9 : AV) : cellsIn (some (.cells e x [x0, x1, x2, x3, x4, x5, x6, x7, x8, x9])) 6 4 = some [x6, x7, x8, x9] := rfl
set_option linter.defProp false in
def stL := And.intro (And.intro (And.intro (And.intro @t_store @t_c1) (And.intro @t_c2 @t_c4)) (And.intro (And.intro @t_c10 @t_in) (And.intro @t_stO @t_sp0))) (And.intro (And.intro (And.intro @t_spS @t_ov0) (And.intro @t_ovS @t_consO)) (And.intro (And.intro @t_r2 @t_r4) (And.intro @t_r10 (And.intro @s_push_same3 @s_put_same3))))
set_option linter.defProp false in
def foL := And.intro (And.intro (And.intro @s_put_same @s_put_other) (And.intro @s_push_same (And.intro @s_push_same2 (And.intro @s_push_same3 @s_put_same3)))) (And.intro @s_push_other (And.intro @s_push_next @s_put_next))
end
end Go.Sx
namespace Go.Sx
open Go
section
variable {α : Type} {P : Program} {G : Tab}
theorem over_mid {β : Type} : ∀ (w old S : List β), old.length = w.length → overN w (old ++ S) = some (w ++ S)
 | [], [], S, _ => rfl
 | [], _ :: _, _, h => by simp at h
 | _ :: _, [], _, h => by simp at h
 | a :: w, o :: old, S, h => by
  show consO a (overN w (old ++ S)) = _
  rw [over_mid w old S (by simpa using h)]; rfl
theorem splice_mid {β : Type} (w old S : List β) (hl : old.length = w.length) (hne : w ≠ []) : ∀ (Q : List β), spliceN w (Q ++ (old ++ S)) Q.length = some (Q ++ (w ++ S))
 | [] => by
  cases old with
  | nil => cases w with
   | nil => exact absurd rfl hne
   | cons _ _ => simp at hl
  | cons o old => exact over_mid w (o :: old) S hl
 | a :: Q => by
  show consO a (spliceN w (Q ++ (old ++ S)) Q.length) = _
  rw [splice_mid w old S hl hne Q]; rfl
theorem splice_row {f : α → List AV} {k : Nat} (hf : ∀ a, (f a).length = k) (hk : 0 < k) (A B : List α) (a a' : α) {i : Nat} (hi : i = A.length * k) : spliceN (f a') ((A ++ a :: B).flatMap f) i = some ((A ++ a' :: B).flatMap f) := by
 rw [List.flatMap_append, List.flatMap_cons, List.flatMap_append, List.flatMap_cons, hi, ← flat_len hf A]
 exact splice_mid (f a') (f a) _ (by rw [hf, hf]) (fun e => by have := hf a'; rw [e] at this; simp at this; omega) _
theorem allOne_flat {f : α → List AV} {l : List α} (h : ∀ a ∈ l, allOne (f a) = true) : allOne (l.flatMap f) = true :=
 allOne_iff.2 fun v hv => by
  obtain ⟨a, ha, hv⟩ := List.mem_flatMap.1 hv
  exact allOne_iff.1 (h a ha) v hv
theorem allOne_app {l m : List AV} (h : allOne l = true) (h' : allOne m = true) : allOne (l ++ m) = true :=
 allOne_iff.2 fun v hv => (List.mem_append.1 hv).elim (allOne_iff.1 h v) (allOne_iff.1 h' v)
def CellsAt (e : Nat) (f : α → List AV) (H : Heap) (v : AV) (l : List α) : Prop :=
 (v = .nilslice ∧ l = []) ∨ ∃ b q c x, v = .slice b 0 l.length q c ∧ H.blks.get b = some (.cells e x (l.flatMap f))
variable {e k t : Nat} {f : α → List AV} {H H' : Heap} {v : AV} {l : List α}
theorem CellsAt.one (h : CellsAt e f H v l) : oneCell v = true := by
 rcases h with ⟨rfl, _⟩ | ⟨b, q, c, x, rfl, _⟩ <;> rfl
theorem CellsAt.len (h : CellsAt e f H v l) (hu : G.und t = some (.slice e)) (H' : Heap) : lenA G H' t v = some (.int .i64 (l.length : Int)) := by
 rcases h with ⟨rfl, rfl⟩ | ⟨b, q, c, x, rfl, _⟩
 ·exact s_lenNil hu H'
 ·exact s_lenSlice hu H' ..
theorem CellsAt.lt (h : CellsAt e f H v l) (hN : Neat H) : ltV H.next v := by
 rcases h with ⟨rfl, rfl⟩ | ⟨b, q, c, x, rfl, hb⟩
 ·trivial
 ·exact hN b _ hb
theorem CellsAt.to (h : CellsAt e f H v l) (hh : ∀ b x y, H.blks.get b = some (.cells e x y) → H'.blks.get b = some (.cells e x y)) : CellsAt e f H' v l := by
 rcases h with h | ⟨b, q, c, x, h1, hb⟩
 ·exact .inl h
 ·exact .inr ⟨b, q, c, x, h1, hh _ _ _ hb⟩
theorem CellsAt.growP (h : CellsAt e f H v l) (hN : Neat H) {p : Nat} (hg : GrowsP p H H') {o : ABlk} (hp : H.blks.get p = some o) (ho : ∀ x y, o ≠ .cells e x y) : CellsAt e f H' v l :=
 h.to fun b x y hb => hg.some_ hN hb fun e => by
  subst e
  rw [hp] at hb
  exact ho _ _ (Option.some.inj hb)
theorem CellsAt.keep {H h : Heap} (hc : CellsAt e f h v l) (hN : Neat h) (hf : ∀ a ∈ l, ltL h.next (f a)) : CellsAt e f (keepH H h) v l := by
 rcases hc with h1 | ⟨b, q, c, x, h1, hb⟩
 ·exact .inl h1
 ·refine .inr ⟨b, q, c, x, h1, keep_new hN hb ?_⟩
  show ltL h.next (l.flatMap f)
  refine ltL_iff.2 fun v hv => ?_
  obtain ⟨a, ha, hv⟩ := List.mem_flatMap.1 hv
  exact ltL_iff.1 (hf a ha) v hv
theorem CellsAt.row (h : CellsAt e f H v l) (hu : G.und t = some (.slice e)) (hz : G.size e = some k) (hf : ∀ a, (f a).length = k) {i : Nat} {a : α} (ha : l[i]? = some a) :
  ∃ b, indexAddrA G t v (.int .i64 (i : Int)) = some (.ptr b (i * k)) ∧ (∀ j, j < k → cellIn (H.blks.get b) (i * k + j) = (f a)[j]?) ∧
   ∀ j r, j + r ≤ k → cellsIn (H.blks.get b) (i * k + j) r = some (((f a).drop j).take r) := by
 have hi : i < l.length := (List.getElem?_eq_some_iff.1 ha).1
 rcases h with ⟨_, rfl⟩ | ⟨b, q, c, x, rfl, hb⟩
 ·simp at ha
 ·have hlen := flat_len hf l
  have hik : (i + 1) * k ≤ l.length * k := Nat.mul_le_mul_right k hi
  rw [Nat.succ_mul] at hik
  refine ⟨b, ?_, fun j hj => ?_, fun j r hj => ?_⟩
  ·rw [s_indexSlice hu hz, if_pos ⟨by omega, by omega⟩]; simp
  ·rw [hb]
   show nth (l.flatMap f) (i * k + j) = _
   rw [nth_eq, flat_at hf ha hj]
  ·rw [hb]
   show takeN (dropN (l.flatMap f) (i * k + j)) r = _
   rw [dropN_eq, takeN_eq, if_pos (by rw [List.length_drop, hlen]; omega)]
   congr 1
   apply List.ext_getElem?
   intro q
   rw [List.getElem?_take, List.getElem?_take]
   by_cases hq : q < r
   ·rw [if_pos hq, if_pos hq, List.getElem?_drop, List.getElem?_drop, Nat.add_assoc, flat_at hf ha (by omega)]
   ·rw [if_neg hq, if_neg hq]
def GrownAt (n0 e : Nat) (f : α → List AV) (H : Heap) (v : AV) (l : List α) : Prop :=
 (v = .nilslice ∧ l = []) ∨ ∃ b, n0 ≤ b ∧ v = .slice b 0 l.length true 0 ∧ H.blks.get b = some (.cells e false (l.flatMap f)) ∧ l ≠ []
theorem GrownAt.cells {n0 : Nat} (h : GrownAt n0 e f H v l) : CellsAt e f H v l := by
 rcases h with h | ⟨b, h0, h1, h2, h3⟩
 ·exact .inl h
 ·exact .inr ⟨b, true, 0, false, h1, h2⟩
theorem GrownAt.to {n0 : Nat} (h : GrownAt n0 e f H v l) (hh : ∀ b x y, H.blks.get b = some (.cells e x y) → H'.blks.get b = some (.cells e x y)) : GrownAt n0 e f H' v l := by
 rcases h with h | ⟨b, h0, h1, h2, h3⟩
 ·exact .inl h
 ·exact .inr ⟨b, h0, h1, hh _ _ _ h2, h3⟩
theorem elemOf_of (hu : G.und t = some (.slice e)) : Sx.elemOf G t = some e := by
 unfold Sx.elemOf
 rw [hu]; rfl
theorem first_row {b : Nat} {r : List AV} (hb : H.blks.get b = some (.cells e true r)) (hr : r.length = k) (hk : 0 < k) : firstA H k 1 (.slice b 0 1 false 1) = some r := by
 show loadCellsA H b 0 (1 * k) = _
 rw [Nat.one_mul, s_loadC _ _ _ (by omega), hb]
 show takeN (dropN r 0) k = _
 rw [dropN_eq, takeN_eq, List.drop_zero, if_pos (Nat.le_of_eq hr.symm), List.take_of_length_le (Nat.le_of_eq hr)]
theorem grown_nil {i : TypeInfo} {zero : AV} (hu : G.und t = some (.slice e)) (hty : G.types.get e = some i) (hk : i.size = k) (hk0 : 0 < k) (hby : Nat.ble i.bytes 100000 = true) (hz : G.zero e = some zero) (hzl : zero.cells.length = k)
  {b : Nat} {r : List AV} (hb : H.blks.get b = some (.cells e true r)) (hr : r.length = k) (h1 : allOne r = true) :
  appendA G H [t, t] [.nilslice, .slice b 0 1 false 1] = some (.slice H.next 0 1 true 0, H.push (.cells e false r)) := by
 show bindO (Sx.elemOf G t) (fun e => bindO (G.und t) fun u => bif intD u then none else bindO (G.types.get e) (appendI G H e .nilslice (.slice b 0 1 false 1))) = _
 rw [elemOf_of hu, hu]
 show bindO (G.types.get e) (appendI G H e .nilslice (.slice b 0 1 false 1)) = _
 rw [hty]
 show bindO (G.zero e) (fun zero => bif Nat.beq i.size 0 then none else bif srcOk (.slice b 0 1 false 1) i.size then bif Nat.beq (len zero.cells) i.size then bif Nat.ble i.bytes 100000 then
  bif Nat.ble (0 + 1) 1000000 then bindO (firstA H i.size 1 (.slice b 0 1 false 1)) (appendTo H e i.size 1 .nilslice) else none else none else none else none) = _
 rw [hz, hby, hk]
 show (bif Nat.beq k 0 then none else bif Nat.beq (len zero.cells) k then bindO (firstA H k 1 (.slice b 0 1 false 1)) (appendTo H e k 1 .nilslice) else none) = _
 rw [beq_false (by omega : k ≠ 0), len_eq, hzl, beq_true rfl, cond_false, cond_true, first_row hb hr hk0]
 show growA H e 1 r = _
 unfold growA
 rw [s_newRowA, h1]; rfl
theorem grown_more {i : TypeInfo} {zero : AV} (hu : G.und t = some (.slice e)) (hty : G.types.get e = some i) (hk : i.size = k) (hk0 : 0 < k) (hby : Nat.ble i.bytes 100000 = true) (hz : G.zero e = some zero) (hzl : zero.cells.length = k)
  {b d n : Nat} {r y : List AV} (hb : H.blks.get b = some (.cells e true r)) (hr : r.length = k) (h1 : allOne r = true) (hd : H.blks.get d = some (.cells e false y)) (hy : y.length = n * k) (h2 : allOne y = true) (hn0 : 0 < n) (hn : n ≤ 100000) :
  appendA G H [t, t] [.slice d 0 n true 0, .slice b 0 1 false 1] = some (.slice H.next 0 (n + 1) true 0, (putBlk H d none).push (.cells e false (y ++ r))) := by
 show bindO (Sx.elemOf G t) (fun e => bindO (G.und t) fun u => bif intD u then none else bindO (G.types.get e) (appendI G H e (.slice d 0 n true 0) (.slice b 0 1 false 1))) = _
 rw [elemOf_of hu, hu]
 show bindO (G.types.get e) (appendI G H e (.slice d 0 n true 0) (.slice b 0 1 false 1)) = _
 rw [hty]
 show bindO (G.zero e) (fun zero => bif Nat.beq i.size 0 then none else bif srcOk (.slice b 0 1 false 1) i.size then bif Nat.beq (len zero.cells) i.size then bif Nat.ble i.bytes 100000 then
  bif Nat.ble (n + 1) 1000000 then bindO (firstA H i.size 1 (.slice b 0 1 false 1)) (appendTo H e i.size 1 (.slice d 0 n true 0)) else none else none else none else none) = _
 have h9 : Nat.ble (n + 1) 1000000 = true := Nat.ble_eq_true_of_le (by omega)
 rw [hz, hby, hk, h9]
 show (bif Nat.beq k 0 then none else bif Nat.beq (len zero.cells) k then bindO (firstA H k 1 (.slice b 0 1 false 1)) (appendTo H e k 1 (.slice d 0 n true 0)) else none) = _
 rw [beq_false (by omega : k ≠ 0), len_eq, hzl, beq_true rfl, cond_false, cond_true, first_row hb hr hk0]
 show bindO (knownIn e (H.blks.get d)) (fun kn => bif Nat.beq 0 (0 * k) then
   bif Nat.ble (0 + (n + 1) * k) kn then inPlace H d (0 + n * k) r (.slice d 0 (n + 1) true 0)
   else bindO (loadCellsA H d 0 (n * k)) fun old => putBlkK H d none fun H' => growA H' e (n + 1) (app old r)
  else none) = _
 have hkn : knownIn e (H.blks.get d) = some (n * k) := by
  rw [hd]
  show (bif Nat.beq e e then some (len y) else none) = _
  rw [beq_true rfl, cond_true, len_eq, hy]
 have hnk : 0 < n * k := Nat.mul_pos hn0 hk0
 have hb' : Nat.ble (0 + (n + 1) * k) (n * k) = false := by
  cases hh : Nat.ble (0 + (n + 1) * k) (n * k)
  ·rfl
  ·have := ble_le hh
   rw [Nat.succ_mul] at this
   omega
 rw [hkn]
 show (bif Nat.beq 0 (0 * k) then
   bif Nat.ble (0 + (n + 1) * k) (n * k) then inPlace H d (0 + n * k) r (.slice d 0 (n + 1) true 0)
   else bindO (loadCellsA H d 0 (n * k)) fun old => putBlkK H d none fun H' => growA H' e (n + 1) (app old r)
  else none) = _
 rw [hb', cond_false, beq_true (Nat.zero_mul k).symm, cond_true]
 have hld : loadCellsA H d 0 (n * k) = some y := by
  rw [s_loadC _ _ _ (by omega), hd]
  show takeN (dropN y 0) (n * k) = _
  rw [dropN_eq, takeN_eq, List.drop_zero, if_pos (Nat.le_of_eq hy.symm), List.take_of_length_le (Nat.le_of_eq hy)]
 rw [hld]
 show putBlkK H d none (fun H' => growA H' e (n + 1) (app y r)) = _
 have e1 : putBlkK H d none (fun H' => growA H' e (n + 1) (app y r)) = growA (putBlk H d none) e (n + 1) (app y r) := by
  unfold putBlkK putBlk
  rw [T.setK_eq, T.setK_eq]
 rw [e1, app_eq]
 unfold growA
 rw [s_newRowA, allOne_app h2 h1]
 show some (AV.slice (putBlk H d none).next 0 (n + 1) true 0, _) = _
 rw [s_put_next]
theorem neat_none {h : Heap} (hN : Neat h) (d : Nat) : Neat (putBlk h d none) := fun x o hx => by
 rw [Heap.get_put] at hx
 rw [Heap.next_put]
 split at hx
 ·simp at hx
 ·exact hN x o hx
theorem grown_app {n0 : Nat} {i : TypeInfo} {zero : AV} (hu : G.und t = some (.slice e)) (hty : G.types.get e = some i) (hk : i.size = k) (hk0 : 0 < k) (hby : Nat.ble i.bytes 100000 = true) (hz : G.zero e = some zero) (hzl : zero.cells.length = k)
  (hf : ∀ a, (f a).length = k) (h : GrownAt n0 e f H v l) (hN : Neat H) (hn0 : n0 ≤ H.next) (hl : l.length ≤ 100000) (hone : ∀ a ∈ l, allOne (f a) = true) {b : Nat} {a : α} (hb : H.blks.get b = some (.cells e true (f a))) (h1 : allOne (f a) = true) :
  ∃ v' H', appendA G H [t, t] [v, .slice b 0 1 false 1] = some (v', H') ∧ GrownAt n0 e f H' v' (l ++ [a]) ∧ Neat H' ∧ H'.next = H.next + 1 ∧ (∀ x o, H.blks.get x = some o → (∀ y, o ≠ .cells e false y) → H'.blks.get x = some o) ∧
   ∀ x, x < n0 → H'.blks.get x = H.blks.get x := by
 rcases h with ⟨rfl, rfl⟩ | ⟨d, h0, rfl, h2, h3⟩
 ·refine ⟨_, _, grown_nil hu hty hk hk0 hby hz hzl hb (hf a) h1, .inr ⟨H.next, hn0, rfl, ?_, by simp⟩, hN.push _, rfl, fun x o hx _ => ?_, fun x hx => s_push_other _ _ (by omega)⟩
  ·rw [s_push_same]; simp
  ·rw [s_push_other _ _ (Nat.ne_of_lt (hN x o hx))]; exact hx
 ·have hpos : 0 < l.length := List.length_pos_iff.2 h3
  have hnx : (putBlk H d none).next = H.next := s_put_next _ _ _
  refine ⟨_, _, grown_more hu hty hk hk0 hby hz hzl hb (hf a) h1 h2 (flat_len hf l) (allOne_flat hone) hpos hl, .inr ⟨H.next, hn0, by rw [List.length_append]; rfl, ?_, by simp⟩, (neat_none hN d).push _, by rw [s_push_next, hnx], fun x o hx ho => ?_, fun x hx => ?_⟩
  ·have := s_push_same (putBlk H d none) (.cells e false (l.flatMap f ++ f a))
   rw [hnx] at this
   rw [this]; simp
  ·rw [s_push_other _ _ (by rw [hnx]; exact Nat.ne_of_lt (hN x o hx)), s_put_other _ _ _ (fun e' => by subst e'; rw [h2] at hx; exact ho _ (Option.some.inj hx).symm)]
   exact hx
  ·rw [s_push_other _ _ (by rw [hnx]; omega), s_put_other _ _ _ (by omega)]
theorem build_row {zero : AV} (hu : G.und t = some (.slice e)) (hz : G.size e = some k) (hzero : G.zero e = some zero) (hzl : zero.cells.length = k) (hk : Nat.ble (1 * k) 10000 = true) (hk0 : 0 < k) (cs : List AV) (hcl : cs.length = k) (h1 : allOne cs = true) :
  buildSliceA G H t 1 [(0, .agg cs)] = some (.slice H.next 0 1 false 1, H.push (.cells e true cs)) := by
 show bindO (Sx.elemOf G t) (fun e => bindO (G.size e) fun z => bindO (G.zero e) fun zero =>
  bif Nat.ble (1 * z) 10000 then
   bif Nat.beq (len zero.cells) z then bindO (bindO (some (0 * z, z)) fun q => bindO (fillOne (repeatL zero.cells 1) (.agg cs) q) fun c => some c) (newSlice H e 1 1) else none
  else none) = _
 rw [elemOf_of hu]
 show bindO (G.size e) (fun z => bindO (G.zero e) fun zero =>
  bif Nat.ble (1 * z) 10000 then
   bif Nat.beq (len zero.cells) z then bindO (bindO (some (0 * z, z)) fun q => bindO (fillOne (repeatL zero.cells 1) (.agg cs) q) fun c => some c) (newSlice H e 1 1) else none
  else none) = _
 rw [hz, hzero]
 show (bif Nat.ble (1 * k) 10000 then
   bif Nat.beq (len zero.cells) k then bindO (bindO (fillOne (app zero.cells []) (.agg cs) (0 * k, k)) fun c => some c) (newSlice H e 1 1) else none
  else none) = _
 rw [hk, len_eq, hzl, beq_true rfl, cond_true, cond_true, app_eq, List.append_nil, Nat.zero_mul]
 have hs : fillOne zero.cells (.agg cs) (0, k) = some cs := by
  show (bif Nat.beq (len cs) k then spliceN cs zero.cells 0 else none) = _
  rw [len_eq, hcl, beq_true rfl, cond_true]
  have := splice_mid cs zero.cells [] (by rw [hzl, hcl]) (fun e => by rw [e] at hcl; simp at hcl; omega) []
  simpa using this
 rw [hs]
 show newSlice H e 1 1 cs = _
 unfold newSlice
 rw [s_newRowA, h1]; rfl
theorem repeat_rows (z : α) (n : Nat) : repeatL (f z) n = (List.replicate n z).flatMap f := by
 induction n with
 | zero => rfl
 | succ n ih =>
  show app (f z) (repeatL (f z) n) = _
  rw [app_eq, ih, List.replicate_succ, List.flatMap_cons]
theorem make_rows {i : TypeInfo} {zero : AV} (hu : G.und t = some (.slice e)) (hty : G.types.get e = some i) (hk : i.size = k) (hby : Nat.ble i.bytes 100000 = true) (hz : G.zero e = some zero) (z : α) (hz0 : zero.cells = f z) (hzl : (f z).length = k) (h1 : allOne (f z) = true) (n : Nat) (hn : n ≤ 1000) (hnk : n * k ≤ 1000) :
  makeSliceA G H t (.int .i64 (n : Int)) (.int .i64 (n : Int)) = some (.slice H.next 0 n false n, H.push (.cells e true ((List.replicate n z).flatMap f))) := by
 show bindO (Sx.elemOf G t) (fun e => bindO (G.types.get e) (makeSliceI G H e n n)) = _
 rw [elemOf_of hu]
 show bindO (G.types.get e) (makeSliceI G H e n n) = _
 rw [hty]
 show makeSliceI G H e n n i = _
 unfold makeSliceI
 rw [hz]
 show (bif Nat.ble n n then bif Nat.ble (n * (i.bytes + 1)) 1000000000 then bif Nat.beq (len zero.cells) i.size then bif Nat.ble (n * i.size) 1000 then newSlice H e n n (repeatL zero.cells n) else _ else none else none else none) = _
 have b2 : Nat.ble (n * (i.bytes + 1)) 1000000000 = true := Nat.ble_eq_true_of_le (Nat.le_trans (Nat.mul_le_mul hn (Nat.succ_le_succ (ble_le hby))) (by omega))
 rw [Nat.ble_eq_true_of_le (Nat.le_refl n), b2, len_eq, hz0, hzl, hk, beq_true rfl, Nat.ble_eq_true_of_le hnk, repeat_rows]
 show newSlice H e n n ((List.replicate n z).flatMap f) = _
 unfold newSlice
 rw [s_newRowA, allOne_flat (fun a ha => by rw [(List.mem_replicate.1 ha).2]; exact h1)]; rfl
end
end Go.Sx
namespace Go.Sx
section
variable {P : Program} {G : Tab}
theorem Gets.of_reach {c : Ctx} {x : Code} {s : St} {outs : List (Ex × St)} (h : Reaches P G c x s outs) : Gets P G c x s fun e s' => (e, s') ∈ outs :=
 fun ρ D w tm df b k cs hS hR => by
  obtain ⟨p, hp, ρ', D', w', tm', df', h1, h2, h3⟩ := h ρ D w tm df b k cs hS hR
  exact ⟨p.1, p.2, hp, ρ', D', w', tm', df', h1, h2, h3⟩
noncomputable def oneIs (v : AV) (o : Option (List AV)) : Bool :=
 match o with
 | some [u] => AV.beq u v
 | _ => false
noncomputable def endOk1 (H : Heap) (G : Tab) (rs : List ResultVar) (v : AV) (p : Ex × St) : Bool :=
 bif leaves p.1 then (bif isNil p.2.df then (bif oneIs v (resultsA G p.2.tm p.2.h rs) then (bif Nat.ble H.next p.2.h.next then sameTo p.2.h.blks H.blks H.next else false) else false) else false) else false
noncomputable def endOkL (H : Heap) (G : Tab) (rs : List ResultVar) (v : AV) (l : List (Ex × St)) : Bool := List.rec true (fun p _ ih => bif endOk1 H G rs v p then ih else false) l
noncomputable def endOk (H : Heap) (G : Tab) (rs : List ResultVar) (v : AV) (o : Outs) : Bool :=
 match o with
 | none => false
 | some l => endOkL H G rs v l
theorem endOkL_mem {H : Heap} {rs : List ResultVar} {v : AV} : ∀ {l : List (Ex × St)}, endOkL H G rs v l = true → ∀ p ∈ l, endOk1 H G rs v p = true
 | [], _, p, hp => by simp at hp
 | x :: l, h, p, hp => by
  have h : (bif endOk1 H G rs v x then endOkL H G rs v l else false) = true := h
  obtain ⟨h1, h2⟩ := band_true h
  rcases List.mem_cons.1 hp with rfl | hp
  ·exact h1
  ·exact endOkL_mem h2 p hp
theorem callTo_segs (TT : TabOk P G) {m : Nat} {f : FuncId} {fn : Func} {body rest : Code} (hf : P.funcs[f]? = some fn) (hb : fn.body = some body) (hn : (fn.name == "runtime.NumGoroutine") = false) {H : Heap} {s : St} {c : Ctx} (hc : c = ⟨none, fn.ntmps⟩)
  (hr : ∀ outs, Reaches P G c rest s outs → Reaches P G c body ⟨.e, H, []⟩ outs) {v : AV} (he : endOk H G fn.results.toList v (codeB rest (fns G m) G c s) = true) (hN : Neat H) (hv : ltV H.next v) : CallTo P G f [] H [(v, H)] := by
 subst hc
 cases ho : codeB rest (fns G m) G ⟨none, fn.ntmps⟩ s with
 | none => rw [ho] at he; simp [endOk] at he
 | some l =>
  rw [ho] at he
  have hall := endOkL_mem (show endOkL H G fn.results.toList v l = true from he)
  refine callTo_of TT hf hb hn ?_
  have hG := Gets.of_reach (hr l (reach_code TT ho))
  have e0 : ([] : List AV).length + (fn.ntmps - ([] : List AV).length) = fn.ntmps := by simp
  rw [e0]
  refine Gets.mono hG fun e s' hm => ?_
  have h1 := hall _ hm
  obtain ⟨k1, h2⟩ := band_true h1
  obtain ⟨k2, h3⟩ := band_true h2
  obtain ⟨k3, h4⟩ := band_true h3
  obtain ⟨k4, k5⟩ := band_true h4
  have k2 : s'.df = [] := (isNil_eq _).1 k2
  refine ⟨k1, k2, ?_⟩
  unfold oneIs at k3
  split at k3
  ·rename_i u hu
   have k3 := AV.beq_eq _ _ k3
   subst k3
   exact ⟨[u], hu, (u, H), List.mem_singleton.2 rfl, .pure (ble_le k4) (sameTo_ok k5) hN hv⟩
  ·simp at k3
end
end Go.Sx
