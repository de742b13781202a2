/-
  The plain law: the program's reading and merging are the document's; the law's own code, walked.
-/
import Derived.Test.YtdadmlonndnppaaGreatDoorMgE
set_option linter.unusedSimpArgs false
set_option linter.unusedVariables false
namespace Go.Proofs
open Go.Sx
/-! The plain law: the program's reading and merging are the document's. -/
theorem mUpd_new : ∀ (m : List (Int × Int)) (k v : Int), mGet m k = none → mUpd m k v = m ++ [(k, v)]
  | [], _, _, _ => rfl
  | (a, b) :: m, k, v, h => by
    by_cases ha : k = a
    · simp [mGet, ha] at h
    · simp only [mGet, ha, if_false] at h
      simp [mUpd, ha, mUpd_new m k v h]
/-- each key once -/
def Uq (m : List (Int × Int)) : Prop := (m.map (·.1)).Nodup
theorem mGet_none {m : List (Int × Int)} {k : Int} (h : mGet m k = none) : k ∉ m.map (·.1) := by
  induction m with
  | nil => simp
  | cons p m ih =>
    obtain ⟨a, b⟩ := p
    by_cases ha : k = a
    · simp [mGet, ha] at h
    · simp only [mGet, ha, if_false] at h
      simp only [List.map_cons, List.mem_cons, not_or]
      exact ⟨ha, ih h⟩
theorem keys_old : ∀ (m : List (Int × Int)) (k v w : Int), mGet m k = some w → (mUpd m k v).map (·.1) = m.map (·.1)
  | [], _, _, _, h => by simp [mGet] at h
  | (a, b) :: m, k, v, w, h => by
    by_cases ha : k = a
    · simp [mUpd, ha]
    · simp only [mGet, ha, if_false] at h
      simp [mUpd, ha, keys_old m k v w h]
theorem Uq.upd {m : List (Int × Int)} (h : Uq m) (k v : Int) : Uq (mUpd m k v) := by
  unfold Uq at h ⊢
  cases hg : mGet m k with
  | some w => rw [keys_old m k v w hg]; exact h
  | none =>
    rw [mUpd_new m k v hg, List.map_append, List.nodup_append]
    refine ⟨h, by simp, fun a ha b hb => ?_⟩
    simp only [List.map_cons, List.map_nil, List.mem_singleton] at hb
    subst hb
    exact fun e => mGet_none hg (e ▸ ha)
theorem Uq.get : ∀ {m : List (Int × Int)}, Uq m → ∀ p ∈ m, mGet m p.1 = some p.2
  | [], _, p, hp => by simp at hp
  | (a, b) :: m, h, p, hp => by
    simp only [Uq, List.map_cons, List.nodup_cons] at h
    rcases List.mem_cons.1 hp with rfl | hp
    · simp [mGet]
    · have hne : ¬ p.1 = a := fun e => h.1 (List.mem_map.2 ⟨p, hp, e⟩)
      simp only [mGet, hne, if_false]
      exact Uq.get h.2 p hp
theorem Uq.inc {m : List (Int × Int)} (h : Uq m) (told : Int → Bool) (k : Int) : Uq (incL told m k) := by
  unfold incL
  split
  · exact h.upd _ _
  · exact h
theorem Uq.leftL {told : Int → Bool} : ∀ (l : List Int) {m : List (Int × Int)}, Uq m → Uq (leftL told m l)
  | [], _, h => h
  | k :: l, m, h => Uq.leftL l (m := incL told m k) (h.inc told k)
theorem Uq.leftA {told : Int → Bool} : ∀ (logs : List (List Int)) {m : List (Int × Int)}, Uq m → Uq (leftA told m logs)
  | [], _, h => h
  | lg :: logs, m, h => Uq.leftA logs (m := Go.Proofs.leftL told m lg) (Uq.leftL lg h)
/-! what is found in a history -/
theorem findI_snoc {p : EvV → Bool} : ∀ (l : List EvV) (e : EvV) (i : Nat), findI p (l ++ [e]) i = if 0 ≤ findI p l i then findI p l i else if p e then ((i + l.length : Nat) : Int) else -1
  | [], e, i => by
    show (if p e then (i : Int) else -1) = _
    have : ¬ (0 : Int) ≤ findI p [] i := by show ¬ (0 : Int) ≤ -1; omega
    rw [if_neg this]; rfl
  | a :: l, e, i => by
    by_cases ha : p a = true
    · simp only [List.cons_append, findI, ha, if_true]
      rw [if_pos (by omega)]
    · simp only [List.cons_append, findI, ha, Bool.false_eq_true, if_false]
      rw [findI_snoc l e (i + 1)]
      simp only [List.length_cons, show i + 1 + l.length = i + (l.length + 1) by omega]
/-- a map holds what is found -/
def Holds (m : List (Int × Int)) (f : Int → Int) : Prop := ∀ k, (mGet m k = none ∧ f k = -1) ∨ ∃ v, mGet m k = some v ∧ f k = v ∧ 0 ≤ v
theorem Holds.some_ {m : List (Int × Int)} {f : Int → Int} (h : Holds m f) (k : Int) : (mGet m k).isSome = decide (0 ≤ f k) := by
  rcases h k with ⟨h1, h2⟩ | ⟨v, h1, h2, h3⟩
  · rw [h1, h2]; rfl
  · rw [h1, h2]; simp [h3]
theorem Holds.get {m : List (Int × Int)} {f : Int → Int} (h : Holds m f) {k : Int} (hk : 0 ≤ f k) : (mGet m k).getD 0 = f k := by
  rcases h k with ⟨h1, h2⟩ | ⟨v, h1, h2, h3⟩
  · omega
  · rw [h1, h2]; rfl
structure ReadOk (evs : List EvV) (i m : Nat) (c r : List (Int × Int)) : Prop where
  len : c.length = m
  keys : ∀ k, (mGet c k).isSome = true ↔ 1 ≤ k ∧ k ≤ (m : Int)
  call : Holds c fun k => findI (madeB k) (evs.take i) 0
  reply : Holds r fun k => findI (repB k) (evs.take i) 0
  told : ∀ k, (mGet r k).isSome = true → (mGet c k).isSome = true
theorem read_check (evs : List EvV) : ∀ (l : List EvV) (i m : Nat) (c r : List (Int × Int)), evs.drop i = l → ReadOk evs i m c r →
    (∃ c' r' m', readGo l i c r = .inl (c', r') ∧ chkGo evs l i m = none ∧ ReadOk evs evs.length m' c' r') ∨ (∃ j, readGo l i c r = .inr j ∧ chkGo evs l i m = some j) := by
  intro l
  induction l with
  | nil =>
    intro i m c r hd hR
    refine .inl ⟨c, r, m, rfl, rfl, ?_⟩
    have hi : evs.length ≤ i := List.drop_eq_nil_iff.1 hd
    have ht : evs.take i = evs := List.take_of_length_le hi
    have h1 := hR.call
    have h2 := hR.reply
    rw [ht] at h1 h2
    exact ⟨hR.len, hR.keys, by rw [List.take_length]; exact h1, by rw [List.take_length]; exact h2, hR.told⟩
  | cons e l ih =>
    intro i m c r hd hR
    have hi : i < evs.length := by
      have := congrArg List.length hd
      rw [List.length_drop, List.length_cons] at this; omega
    have he : evs[i]? = some e := by
      have := drop_cons (List.getElem?_eq_getElem hi)
      rw [hd] at this
      rw [List.getElem?_eq_getElem hi]; exact congrArg some (List.cons.inj this).1.symm
    have hd' : evs.drop (i + 1) = l := by
      have := drop_cons he
      rw [hd] at this
      exact (List.cons.inj this).2.symm
    have htk := take_snoc he
    have hlt : (evs.take i).length = i := by rw [List.length_take]; omega
    cases hrep : e.reply
    · -- a call
      have hB : isRep c r e = false := by simp [isRep, hrep]
      have hC : isCall c e = callR m e := by
        simp only [isCall, callR, hrep, Bool.not_false, Bool.true_and, hR.len]
        by_cases h1 : e.call = (m : Int) + 1
        · simp [h1]
        · simp [h1]
      cases hc : callR m e
      · exact .inr ⟨i, by simp [readGo, hB, hC, hc], by simp [chkGo, hrep, hc]⟩
      · have hcall : e.call = (m : Int) + 1 := by
          simp only [callR, Bool.and_eq_true, decide_eq_true_eq] at hc
          exact hc.1
        have hnone : mGet c e.call = none := by
          cases hg : mGet c e.call with
          | none => rfl
          | some v =>
            have := (hR.keys e.call).1 (by rw [hg]; rfl)
            omega
        have h1 : readGo (e :: l) i c r = readGo l (i + 1) (mUpd c e.call i) r := by simp [readGo, hB, hC, hc]
        have h2 : chkGo evs (e :: l) i m = chkGo evs l (i + 1) (m + 1) := by simp [chkGo, hrep, hc]
        rw [h1, h2]
        refine ih (i + 1) (m + 1) _ _ hd' ⟨by rw [mUpd_new c e.call i hnone]; simp [hR.len], fun k => ?_, fun k => ?_, fun k => ?_, fun k hk => ?_⟩
        · rw [mGet_upd]
          by_cases hk : k = e.call
          · simp only [hk, if_true, Option.isSome_some, true_iff]; omega
          · simp only [hk, if_false]
            rw [hR.keys k]; omega
        · dsimp only
          rw [mGet_upd, htk, findI_snoc]
          by_cases hk : k = e.call
          · subst hk
            have hf : findI (madeB e.call) (evs.take i) 0 = -1 := by
              rcases hR.call e.call with ⟨_, h⟩ | ⟨v, h, _⟩
              · exact h
              · rw [hnone] at h; cases h
            have hp : madeB e.call e = true := by simp [madeB, hrep]
            refine .inr ⟨(i : Int), by simp, ?_, by omega⟩
            rw [hf, if_neg (by omega), hp, if_pos rfl, hlt]; simp
          · have hp : madeB k e = false := by
              have : ¬ e.call = k := fun e' => hk e'.symm
              simp [madeB, this]
            simp only [hk, if_false, hp, Bool.false_eq_true]
            rcases hR.call k with ⟨h3, h4⟩ | ⟨v, h3, h4, h5⟩
            · dsimp only at h4
              exact .inl ⟨h3, by rw [h4]; rfl⟩
            · dsimp only at h4
              exact .inr ⟨v, h3, by rw [h4, if_pos h5], h5⟩
        · dsimp only
          rw [htk, findI_snoc]
          have hp : repB k e = false := by simp [repB, hrep]
          simp only [hp, Bool.false_eq_true, if_false]
          rcases hR.reply k with ⟨h3, h4⟩ | ⟨v, h3, h4, h5⟩
          · dsimp only at h4
            exact .inl ⟨h3, by rw [h4]; rfl⟩
          · dsimp only at h4
            exact .inr ⟨v, h3, by rw [h4, if_pos h5], h5⟩
        · rw [mGet_upd]
          split
          · rfl
          · exact hR.told k hk
    · -- a reply
      have hrr := hR.reply.some_ e.call
      have hB : isRep c r e = replyR evs i m e := by
        have hk := hR.keys e.call
        have hkb : (mGet c e.call).isSome = (!decide (e.call < 1) && !decide ((m : Int) < e.call)) := by
          rw [Bool.eq_iff_iff, hk]
          simp only [Bool.and_eq_true, Bool.not_eq_true', decide_eq_false_iff_not]
          omega
        have hnr : (!(mGet r e.call).isSome) = decide (findI (repB e.call) (evs.take i) 0 < 0) := by
          rw [hrr, Bool.eq_iff_iff]
          simp only [Bool.not_eq_true', decide_eq_false_iff_not, decide_eq_true_eq]
          omega
        simp only [isRep, replyR, hrep, Bool.true_and, hkb, hnr, Bool.and_assoc]
      have hC : isCall c e = false := by simp [isCall, hrep]
      cases hc : replyR evs i m e
      · exact .inr ⟨i, by simp [readGo, hB, hC, hc], by simp [chkGo, hrep, hc]⟩
      · have h1 : readGo (e :: l) i c r = readGo l (i + 1) c (mUpd r e.call i) := by simp [readGo, hB, hc]
        have h2 : chkGo evs (e :: l) i m = chkGo evs l (i + 1) m := by simp [chkGo, hrep, hc]
        have hcs : (mGet c e.call).isSome = true := by
          rw [← hB] at hc
          simp only [isRep, Bool.and_eq_true] at hc
          exact hc.2.1
        rw [h1, h2]
        refine ih (i + 1) m _ _ hd' ⟨hR.len, hR.keys, fun k => ?_, fun k => ?_, fun k hk => ?_⟩
        · dsimp only
          rw [htk, findI_snoc]
          have hp : madeB k e = false := by simp [madeB, hrep]
          simp only [hp, Bool.false_eq_true, if_false]
          rcases hR.call k with ⟨h3, h4⟩ | ⟨v, h3, h4, h5⟩
          · dsimp only at h4
            exact .inl ⟨h3, by rw [h4]; rfl⟩
          · dsimp only at h4
            exact .inr ⟨v, h3, by rw [h4, if_pos h5], h5⟩
        · dsimp only
          rw [mGet_upd, htk, findI_snoc]
          by_cases hk : k = e.call
          · subst hk
            have hf : ¬ 0 ≤ findI (repB e.call) (evs.take i) 0 := by
              rw [← hB] at hc
              simp only [isRep, Bool.and_eq_true, Bool.not_eq_true'] at hc
              have := hc.2.2.1
              rw [hrr] at this
              simpa using this
            have hp : repB e.call e = true := by simp [repB, hrep]
            refine .inr ⟨(i : Int), by simp, ?_, by omega⟩
            rw [if_neg hf, hp, if_pos rfl, hlt]; simp
          · have hp : repB k e = false := by
              have : ¬ e.call = k := fun e' => hk e'.symm
              simp [repB, this]
            simp only [hk, if_false, hp, Bool.false_eq_true]
            rcases hR.reply k with ⟨h3, h4⟩ | ⟨v, h3, h4, h5⟩
            · dsimp only at h4
              exact .inl ⟨h3, by rw [h4]; rfl⟩
            · dsimp only at h4
              exact .inr ⟨v, h3, by rw [h4, if_pos h5], h5⟩
        · rw [mGet_upd] at hk
          by_cases hke : k = e.call
          · rw [hke]; exact hcs
          · simp only [hke, if_false] at hk; exact hR.told k hk
theorem read_is (evs : List EvV) : (∃ c r m, readGo evs 0 [] [] = .inl (c, r) ∧ chkGo evs evs 0 0 = none ∧ ReadOk evs evs.length m c r) ∨ (∃ j, readGo evs 0 [] [] = .inr j ∧ chkGo evs evs 0 0 = some j) := by
  refine read_check evs evs 0 0 [] [] rfl ⟨rfl, fun k => ?_, fun k => .inl ⟨rfl, rfl⟩, fun k => .inl ⟨rfl, rfl⟩, fun k h => by simp [mGet] at h⟩
  simp only [mGet, Option.isSome_none, Bool.false_eq_true, false_iff]
  omega
theorem bf_is {evs : List EvV} {m : Nat} {c r : List (Int × Int)} (h : ReadOk evs evs.length m c r) (a b : Int) : bfB c r a b = befB evs a b := by
  have h1 := h.reply.some_ a
  have h2 := h.call.some_ b
  have g1 : 0 ≤ findI (repB a) evs 0 → (mGet r a).getD 0 = findI (repB a) evs 0 := fun hk => by have := h.reply.get (k := a) (by rw [List.take_length]; exact hk); rw [List.take_length] at this; exact this
  have g2 : 0 ≤ findI (madeB b) evs 0 → (mGet c b).getD 0 = findI (madeB b) evs 0 := fun hk => by have := h.call.get (k := b) (by rw [List.take_length]; exact hk); rw [List.take_length] at this; exact this
  rw [List.take_length] at h1 h2
  unfold bfB befB
  rw [h1, h2]
  by_cases k1 : 0 ≤ findI (repB a) evs 0
  · by_cases k2 : 0 ≤ findI (madeB b) evs 0
    · rw [g1 k1, g2 k2]
    · simp [k2]
  · simp [k1]
theorem mayL_false {p : Int → Bool} : ∀ {logs : List (List Int)} {at_ : List Nat}, mayL p logs at_ = false ↔ ∃ a, 0 < cntR a logs at_ ∧ p a = false
  | [], at_ => by simp [mayL, cntR]
  | _ :: _, [] => by simp [mayL, cntR]
  | lg :: logs, i :: at_ => by
    have ih := mayL_false (p := p) (logs := logs) (at_ := at_)
    simp only [mayL, Bool.and_eq_false_iff, cntR]
    rw [ih]
    constructor
    · rintro (h | ⟨a, h1, h2⟩)
      · obtain ⟨a, h1, h2⟩ := List.all_eq_false.1 h
        exact ⟨a, by have := List.count_pos_iff.2 h1; omega, by simpa using h2⟩
      · exact ⟨a, by omega, h2⟩
    · rintro ⟨a, h1, h2⟩
      by_cases hc : 0 < (lg.drop i).count a
      · exact .inl (List.all_eq_false.2 ⟨a, List.count_pos_iff.1 hc, by simp [h2]⟩)
      · exact .inr ⟨a, by omega, h2⟩
theorem may_is {evs : List EvV} {m : Nat} {c r : List (Int × Int)} (hR : ReadOk evs evs.length m c r) {logs : List (List Int)} {at_ : List Nat} {left : List (Int × Int)} (hL : LeftOk (fun k => (mGet r k).isSome) logs at_ left) (hU : Uq left) (lg : List Int) (i : Nat) :
    mayB (bfB c r) left lg i = qB evs logs at_ lg i := by
  cases hk : lg[i]? with
  | none => rw [mayB_none hk, qB_none hk]
  | some k =>
    rw [mayB_some hk, qB_some hk]
    have one : ∀ a, bfB c r a k = true → ¬ a = 0 ∧ ¬ k = 0 ∧ (mGet r a).isSome = true := fun a h => by
      simp only [bfB, Bool.and_eq_true] at h
      have h1 := (hR.keys k).1 h.2.1
      have h2 := (hR.keys a).1 (hR.told a h.1)
      exact ⟨by omega, by omega, h.1⟩
    cases hq : decide (k = 0) || mayL (stopB evs k) logs at_
    · simp only [Bool.or_eq_false_iff] at hq
      obtain ⟨a, h1, h2⟩ := mayL_false.1 hq.2
      have hbf : bfB c r a k = true := by
        rw [bf_is hR]
        simp only [stopB, Bool.not_eq_false', Bool.and_eq_true] at h2
        exact h2.2
      have hl := hL a (one a hbf).2.2
      cases hg : mGet left a with
      | none => rw [hg] at hl; simp at hl; omega
      | some v =>
        rw [hg] at hl
        simp only [Option.getD_some] at hl
        have hv : 0 < v := by omega
        exact List.all_eq_false.2 ⟨(a, v), mGet_mem hg, by simp [hbf, hv]⟩
    · rw [List.all_eq_true]
      intro p hp
      cases hpp : decide (0 < p.2) && bfB c r p.1 k
      · rfl
      · exfalso
        simp only [Bool.and_eq_true, decide_eq_true_eq] at hpp
        obtain ⟨o1, o2, o3⟩ := one p.1 hpp.2
        have hl := hL p.1 o3
        rw [hU.get p hp] at hl
        simp only [Option.getD_some] at hl
        have hf : mayL (stopB evs k) logs at_ = false := mayL_false.2 ⟨p.1, by omega, by
          have := hpp.2
          rw [bf_is hR] at this
          simp [stopB, o1, this]⟩
        rw [hf] at hq
        simp [o2] at hq
theorem next_is {bf : Int → Int → Bool} {left : List (Int × Int)} {q : List Int → Nat → Bool} (h : ∀ lg i, mayB bf left lg i = q lg i) : ∀ (logs : List (List Int)) (at_ : List Nat) (g : Nat), nextG bf left logs at_ g = nextRf q logs at_ g
  | [], _, _ => by cases ‹List Nat› <;> rfl
  | _ :: _, [], _ => rfl
  | lg :: logs, i :: at_, g => by
    simp only [nextG, nextRf, h]
    rw [next_is h logs at_ (g + 1)]
theorem merge_is {evs : List EvV} {m : Nat} {c r : List (Int × Int)} (hR : ReadOk evs evs.length m c r) {logs : List (List Int)} : ∀ (n : Nat) (at_ : List Nat) (left : List (Int × Int)), LeftOk (fun k => (mGet r k).isSome) logs at_ left → Uq left →
    mergeGo (bfB c r) logs n at_ left = refGo evs logs n at_ := by
  intro n
  induction n with
  | zero => intro at_ left _ _; rfl
  | succ n ih =>
    intro at_ left hL hU
    unfold mergeGo refGo
    rw [next_is (may_is hR hL hU) logs at_ 0]
    cases hg : nextRf (qB evs logs at_) logs at_ 0 with
    | none => rfl
    | some g =>
      obtain ⟨_, lg, i, h1, h2, h3⟩ := nextRf_some hg
      simp only [Nat.sub_zero] at h1 h2
      obtain ⟨k, hk⟩ : ∃ k, lg[i]? = some k := by
        cases hk : lg[i]? with
        | none => rw [qB_none hk] at h3; cases h3
        | some k => exact ⟨k, rfl⟩
      simp only [headK_eq h1 h2 hk, incAt_eq h2]
      rw [ih _ _ (hL.step h1 h2 hk) (hU.upd _ _)]
theorem mergeR_is {evs : List EvV} {m : Nat} {c r : List (Int × Int)} (hR : ReadOk evs evs.length m c r) (logs : List (List Int)) : mergeR c r logs = refR evs logs :=
  merge_is hR _ _ _ (fun a ha => by rw [leftA_get ha]; simp [mGet]) (Uq.leftA logs (by simp [Uq]))
end Go.Proofs

namespace Go.Proofs
open Go.Sx
set_option maxRecDepth 100000
theorem eqBool (k a b : Bool) : binA Tryz.tab .eql 4 k (.bool a) (.bool b) = some (.bool (decide (a = b))) := by
  cases k <;> cases a <;> cases b <;> kernel_rfl
theorem results_is (H : Heap) (d d' : Nat) (l : List LogV) (evs : List EvV) :
    (∃ e, MergeQ H d l evs = (.tuple [.nilslice, .bool false, .int .i64 e], H) ∧ ∀ H', RefQ H' d' l evs = (.tuple [.nilslice, .bool false, .int .i64 e], H')) ∨
    ∃ o, o.length ≤ totA (callsL l) ∧ MergeQ H d l evs = (.tuple [outV d (natL o), .bool true, .int .i64 0], outH H d (natL o)) ∧ ∀ H', RefQ H' d' l evs = (.tuple [outV d' (natL o), .bool true, .int .i64 0], outH H' d' (natL o)) := by
  rcases read_is evs with ⟨c, r, m, h1, h2, hR⟩ | ⟨j, h1, h2⟩
  · by_cases h8 : 8 < (l.length : Int)
    · exact .inl ⟨12, by simp only [MergeQ, h1, h8, if_true], fun H' => by simp only [RefQ, h2, h8, if_true]⟩
    · cases hM : mergeR c r (callsL l) with
      | none =>
        have hM' : refR evs (callsL l) = none := by rw [← mergeR_is hR]; exact hM
        exact .inl ⟨0, by simp only [MergeQ, h1, h8, if_false, hM], fun H' => by simp only [RefQ, h2, h8, if_false, hM']⟩
      | some o =>
        have hM' : refR evs (callsL l) = some o := by rw [← mergeR_is hR]; exact hM
        obtain ⟨ho, _⟩ := mergeR_ok hM
        exact .inr ⟨o, by omega, by simp only [MergeQ, h1, h8, if_false, hM], fun H' => by simp only [RefQ, h2, h8, if_false, hM']⟩
  · exact .inl ⟨10, by simp [MergeQ, h1], fun H' => by simp [RefQ, h2]⟩
theorem merges_run (hW : ∀ h, GlobAt h → CallTo Tryz.prog Tryz.tab 8 [] h [(.bool true, h)]) (H : Heap) (v w : AV) (l : List LogV) (evs : List EvV) (hv : LogsAt H v l) (hw : EvsAt H w evs) (hcap : ∀ b o n c, w = .slice b o n false c → n ≤ c) (hG : GlobAt H) (hN : Neat H) :
    CallTo Tryz.prog Tryz.tab 3 [v, w] H [(.bool true, H)] := by
  refine callTo_of Tryz.tabOk Tryz.func3 rfl rfl ?_
  show Gets Tryz.prog Tryz.tab ⟨none, 50⟩ _ _ _
  have hs := short_run evs 60 (by omega) w H hw hN
  have hf := few_run l v H hv hN
  have hW0 := hW H hG
  repeat refine Gets.seq ?_
  refine Gets.last Tryz.tabOk (ov := noOv) (noOv_ok) 8 (s' := ?sn1) ?hn1 ?kn1; (case hn1 => (simp -implicitDefEqProofs (disch := first | (simp only [ne_eq, Nat.reduceEqDiff, not_false_eq_true, Nat.reduceLT]; done) | assumption | (simp only [s_push_next, s_put_next, Nat.beq_refl]; done) | ((try simp only [s_push_next, s_put_next]) <;> omega) | exact s_one_map _ | exact s_one_slice _ _ _ _ _ | (refine (id ?_ : plainDraw _ = true); kernel_rfl) | fail) only [sxL, s_castN, s_cells_one, noOv, callFn, kindOf, kindC, kindB, unA, boxA, loadPtr, nilCheckA, fst1, ofValue, ofScalar, len, intBin, ibin, boolO, guardA, cCond, condV, cRet, cExit, cSkip, resOut, resultA, extractA, tupleO, Nat.reduceEqDiff, Nat.reduceAdd, Nat.reduceSub, Nat.reduceLT, Nat.reduceBEq, reduceCtorEq, Nat.reduceMod, Nat.reduceLeDiff, Int.reduceLT, Int.reduceAdd, Int.reduceEq, Int.reduceToNat, s_draw] <;> rfl)); (try (change Gets _ _ _ _ _ _; repeat refine Gets.seq ?_))
  by_cases hB : ¬ shortB evs 60 = true ∨ ¬ fewB l = true
  · refine Gets.midA (H := H) (I := fun tm => tm.get 18 = some (.bool true)) ?_ ?_
    · cases hsb : shortB evs 60
      · rw [hsb] at hs
        refine Gets.last Tryz.tabOk (ov := ptO (ptO noOv 6 [w, .int .i64 60] H [(.bool false, H)]) 7 [v] H [(.bool (fewB l), H)]) (ptO_ok (ptO_ok noOv_ok hs) hf) 8 (s' := ?sn2) ?hn2 ?kn2; (case hn2 => (simp -implicitDefEqProofs (disch := first | (simp only [ne_eq, Nat.reduceEqDiff, not_false_eq_true, Nat.reduceLT]; done) | assumption | (simp only [s_push_next, s_put_next, Nat.beq_refl]; done) | ((try simp only [s_push_next, s_put_next]) <;> omega) | exact s_one_map _ | exact s_one_slice _ _ _ _ _ | (refine (id ?_ : plainDraw _ = true); kernel_rfl) | fail) only [sxL, s_castN, s_cells_one, noOv, callFn, kindOf, kindC, kindB, unA, boxA, loadPtr, nilCheckA, fst1, ofValue, ofScalar, len, intBin, ibin, boolO, guardA, cCond, condV, cRet, cExit, cSkip, resOut, resultA, extractA, tupleO, Nat.reduceEqDiff, Nat.reduceAdd, Nat.reduceSub, Nat.reduceLT, Nat.reduceBEq, reduceCtorEq, Nat.reduceMod, Nat.reduceLeDiff, Int.reduceLT, Int.reduceAdd, Int.reduceEq, Int.reduceToNat, s_draw] <;> rfl)); (try (change Gets _ _ _ _ _ _; repeat refine Gets.seq ?_))
        exact ⟨rfl, _, rfl, by simp (disch := decide) only [sxL]⟩
      · have hfb : fewB l = false := by
          rcases hB with h | h
          · exact absurd hsb h
          · simpa using h
        rw [hsb] at hs
        rw [hfb] at hf
        refine Gets.last Tryz.tabOk (ov := ptO (ptO noOv 6 [w, .int .i64 60] H [(.bool true, H)]) 7 [v] H [(.bool false, H)]) (ptO_ok (ptO_ok noOv_ok hs) hf) 8 (s' := ?sn3) ?hn3 ?kn3; (case hn3 => (simp -implicitDefEqProofs (disch := first | (simp only [ne_eq, Nat.reduceEqDiff, not_false_eq_true, Nat.reduceLT]; done) | assumption | (simp only [s_push_next, s_put_next, Nat.beq_refl]; done) | ((try simp only [s_push_next, s_put_next]) <;> omega) | exact s_one_map _ | exact s_one_slice _ _ _ _ _ | (refine (id ?_ : plainDraw _ = true); kernel_rfl) | fail) only [sxL, s_castN, s_cells_one, noOv, callFn, kindOf, kindC, kindB, unA, boxA, loadPtr, nilCheckA, fst1, ofValue, ofScalar, len, intBin, ibin, boolO, guardA, cCond, condV, cRet, cExit, cSkip, resOut, resultA, extractA, tupleO, Nat.reduceEqDiff, Nat.reduceAdd, Nat.reduceSub, Nat.reduceLT, Nat.reduceBEq, reduceCtorEq, Nat.reduceMod, Nat.reduceLeDiff, Int.reduceLT, Int.reduceAdd, Int.reduceEq, Int.reduceToNat, s_draw] <;> rfl)); (try (change Gets _ _ _ _ _ _; repeat refine Gets.seq ?_))
        exact ⟨rfl, _, rfl, by simp (disch := decide) only [sxL]⟩
    rintro tm i18
    change Gets _ _ _ _ _ _
    refine Gets.condT (by simp (disch := decide) only [sxL, i18]) (Gets.seq ?_)
    refine Gets.last Tryz.tabOk (ov := ptO noOv 8 [] H [(.bool true, H)]) (ptO_ok noOv_ok hW0) 8 (s' := ?sn4) ?hn4 ?kn4; (case hn4 => (simp -implicitDefEqProofs (disch := first | (simp only [ne_eq, Nat.reduceEqDiff, not_false_eq_true, Nat.reduceLT]; done) | assumption | (simp only [s_push_next, s_put_next, Nat.beq_refl]; done) | ((try simp only [s_push_next, s_put_next]) <;> omega) | exact s_one_map _ | exact s_one_slice _ _ _ _ _ | (refine (id ?_ : plainDraw _ = true); kernel_rfl) | fail) only [sxL, s_castN, s_cells_one, noOv, callFn, kindOf, kindC, kindB, unA, boxA, loadPtr, nilCheckA, fst1, ofValue, ofScalar, len, intBin, ibin, boolO, guardA, cCond, condV, cRet, cExit, cSkip, resOut, resultA, extractA, tupleO, Nat.reduceEqDiff, Nat.reduceAdd, Nat.reduceSub, Nat.reduceLT, Nat.reduceBEq, reduceCtorEq, Nat.reduceMod, Nat.reduceLeDiff, Int.reduceLT, Int.reduceAdd, Int.reduceEq, Int.reduceToNat, s_draw] <;> rfl)); (try (change Gets _ _ _ _ _ _; repeat refine Gets.seq ?_))
    refine Gets.ret Tryz.tabOk ?_
    exact fin_pure rfl (by simp (disch := decide) only [sxL, Tryz.f3, resultA]) (.refl _) hN trivial
  have hsb : shortB evs 60 = true := by
    cases h : shortB evs 60
    · exact absurd (.inl (by simp [h])) hB
    · rfl
  have hfb : fewB l = true := by
    cases h : fewB l
    · exact absurd (.inr (by simp [h])) hB
    · rfl
  rw [hsb] at hs
  rw [hfb] at hf
  refine Gets.last Tryz.tabOk (ov := ptO (ptO noOv 6 [w, .int .i64 60] H [(.bool true, H)]) 7 [v] H [(.bool true, H)]) (ptO_ok (ptO_ok noOv_ok hs) hf) 8 (s' := ?sn5) ?hn5 ?kn5; (case hn5 => (simp -implicitDefEqProofs (disch := first | (simp only [ne_eq, Nat.reduceEqDiff, not_false_eq_true, Nat.reduceLT]; done) | assumption | (simp only [s_push_next, s_put_next, Nat.beq_refl]; done) | ((try simp only [s_push_next, s_put_next]) <;> omega) | exact s_one_map _ | exact s_one_slice _ _ _ _ _ | (refine (id ?_ : plainDraw _ = true); kernel_rfl) | fail) only [sxL, s_castN, s_cells_one, noOv, callFn, kindOf, kindC, kindB, unA, boxA, loadPtr, nilCheckA, fst1, ofValue, ofScalar, len, intBin, ibin, boolO, guardA, cCond, condV, cRet, cExit, cSkip, resOut, resultA, extractA, tupleO, Nat.reduceEqDiff, Nat.reduceAdd, Nat.reduceSub, Nat.reduceLT, Nat.reduceBEq, reduceCtorEq, Nat.reduceMod, Nat.reduceLeDiff, Int.reduceLT, Int.reduceAdd, Int.reduceEq, Int.reduceToNat, s_draw] <;> rfl)); (try (change Gets _ _ _ _ _ _; repeat refine Gets.seq ?_))
  refine Gets.condF (by simp (disch := decide) only [sxL]) (Gets.skip Tryz.tabOk ?_)
  change Gets _ _ _ _ _ _
  repeat refine Gets.seq ?_
  have hm := shortB_ok hsb
  obtain ⟨h8, h40⟩ := fewB_ok hfb
  have htot : totA (callsL l) ≤ 400 := by
    have h1 := totA_le (LogsAt.calls h40)
    have h2 : (callsL l).length = l.length := by simp [callsL]
    rw [h2] at h1
    have : l.length * 40 ≤ 10 * 40 := Nat.mul_le_mul_right 40 h8
    omega
  obtain ⟨d, hd, hmerge⟩ := Merge_run H v w l evs hv hw hG hN (by omega) h8 h40
  rcases results_is H d 0 l evs with ⟨e, hQ, _⟩ | ⟨o, ho, hQ, _⟩
  · rw [hQ] at hmerge
    obtain ⟨d', hd', href⟩ := refMerge_run H v w l evs hv hw hcap hN (by omega) h8 h40
    rcases results_is H d d' l evs with ⟨e', hQ', hr⟩ | ⟨o, _, hQ', _⟩
    · rw [hQ] at hQ'
      have he : e = e' := by
        have := congrArg Prod.fst hQ'
        simp only [AV.tuple.injEq, List.cons.injEq, AV.int.injEq, true_and, and_true] at this
        exact this
      subst he
      rw [hr H] at href
      have hi := ints44_run H 0 0 [] [] (fun h => absurd rfl h) (fun h => absurd rfl h) hN (by simp)
      have hi : CallTo Tryz.prog Tryz.tab 11 [.nilslice, .nilslice] H [(.bool true, H)] := hi
      refine Gets.last Tryz.tabOk (ov := ptO noOv 9 [v, w] H [(.tuple [.nilslice, .bool false, .int .i64 e], H)]) (ptO_ok noOv_ok hmerge) 8 (s' := ?sn6) ?hn6 ?kn6; (case hn6 => (simp -implicitDefEqProofs (disch := first | (simp only [ne_eq, Nat.reduceEqDiff, not_false_eq_true, Nat.reduceLT]; done) | assumption | (simp only [s_push_next, s_put_next, Nat.beq_refl]; done) | ((try simp only [s_push_next, s_put_next]) <;> omega) | exact s_one_map _ | exact s_one_slice _ _ _ _ _ | (refine (id ?_ : plainDraw _ = true); kernel_rfl) | fail) only [sxL, s_castN, s_cells_one, noOv, callFn, kindOf, kindC, kindB, unA, boxA, loadPtr, nilCheckA, fst1, ofValue, ofScalar, len, intBin, ibin, boolO, guardA, cCond, condV, cRet, cExit, cSkip, resOut, resultA, extractA, tupleO, Nat.reduceEqDiff, Nat.reduceAdd, Nat.reduceSub, Nat.reduceLT, Nat.reduceBEq, reduceCtorEq, Nat.reduceMod, Nat.reduceLeDiff, Int.reduceLT, Int.reduceAdd, Int.reduceEq, Int.reduceToNat, s_draw] <;> rfl)); (try (change Gets _ _ _ _ _ _; repeat refine Gets.seq ?_))
      refine Gets.last Tryz.tabOk (ov := ptO noOv 10 [v, w] H [(.tuple [.nilslice, .bool false, .int .i64 e], H)]) (ptO_ok noOv_ok href) 8 (s' := ?sn7) ?hn7 ?kn7; (case hn7 => (simp -implicitDefEqProofs (disch := first | (simp only [ne_eq, Nat.reduceEqDiff, not_false_eq_true, Nat.reduceLT]; done) | assumption | (simp only [s_push_next, s_put_next, Nat.beq_refl]; done) | ((try simp only [s_push_next, s_put_next]) <;> omega) | exact s_one_map _ | exact s_one_slice _ _ _ _ _ | (refine (id ?_ : plainDraw _ = true); kernel_rfl) | fail) only [sxL, s_castN, s_cells_one, noOv, callFn, kindOf, kindC, kindB, unA, boxA, loadPtr, nilCheckA, fst1, ofValue, ofScalar, len, intBin, ibin, boolO, guardA, cCond, condV, cRet, cExit, cSkip, resOut, resultA, extractA, tupleO, Nat.reduceEqDiff, Nat.reduceAdd, Nat.reduceSub, Nat.reduceLT, Nat.reduceBEq, reduceCtorEq, Nat.reduceMod, Nat.reduceLeDiff, Int.reduceLT, Int.reduceAdd, Int.reduceEq, Int.reduceToNat, s_draw] <;> rfl)); (try (change Gets _ _ _ _ _ _; repeat refine Gets.seq ?_))
      refine Gets.last Tryz.tabOk (ov := ptO (ptO noOv 11 [.nilslice, .nilslice] H [(.bool true, H)]) 8 [] H [(.bool true, H)]) (ptO_ok (ptO_ok noOv_ok hi) hW0) 8 (s' := ?sn8) ?hn8 ?kn8; (case hn8 => (simp -implicitDefEqProofs (disch := first | (simp only [ne_eq, Nat.reduceEqDiff, not_false_eq_true, Nat.reduceLT]; done) | assumption | (simp only [s_push_next, s_put_next, Nat.beq_refl]; done) | ((try simp only [s_push_next, s_put_next]) <;> omega) | exact s_one_map _ | exact s_one_slice _ _ _ _ _ | (refine (id ?_ : plainDraw _ = true); kernel_rfl) | fail) only [sxL, s_castN, s_cells_one, noOv, callFn, kindOf, kindC, kindB, unA, boxA, loadPtr, nilCheckA, fst1, ofValue, ofScalar, len, intBin, ibin, boolO, guardA, cCond, condV, cRet, cExit, cSkip, resOut, resultA, extractA, tupleO, Nat.reduceEqDiff, Nat.reduceAdd, Nat.reduceSub, Nat.reduceLT, Nat.reduceBEq, reduceCtorEq, Nat.reduceMod, Nat.reduceLeDiff, Int.reduceLT, Int.reduceAdd, Int.reduceEq, Int.reduceToNat, s_draw, eqBool] <;> rfl)); (try (change Gets _ _ _ _ _ _; repeat refine Gets.seq ?_))
      refine Gets.ret Tryz.tabOk ?_
      exact fin_pure rfl (by simp (disch := decide) only [sxL, Tryz.f3, resultA]) (.refl _) hN trivial
    · rw [hQ] at hQ'
      have := congrArg Prod.fst hQ'
      simp at this
  · rw [hQ] at hmerge
    have hg1 := outH_grows hd (natL o)
    have hN1 := outH_neat hN hd (natL o)
    have hd1 : natL o ≠ [] → (outH H d (natL o)).blks.get d = some (.cells 3 false (natL o)) ∧ d < (outH H d (natL o)).next := fun h => outH_get H d h
    obtain ⟨d', hd', href⟩ := refMerge_run (outH H d (natL o)) v w l evs (hv.grow hN hg1) (hw.grow hN hg1) hcap hN1 (by omega) h8 h40
    rcases results_is H d d' l evs with ⟨e', hQ', _⟩ | ⟨o', _, hQ', hr⟩
    · rw [hQ] at hQ'
      have := congrArg Prod.fst hQ'
      simp at this
    · have hoo : natL o = natL o' := by
        rw [hQ] at hQ'
        have h1 := congrArg Prod.fst hQ'
        have h2 := congrArg Prod.snd hQ'
        simp only [AV.tuple.injEq, List.cons.injEq, and_true, true_and] at h1
        simp only at h2
        cases ho : natL o with
        | nil => cases ho' : natL o' with
          | nil => rfl
          | cons a y => rw [ho, ho'] at h1; simp [outV] at h1
        | cons a x => cases ho' : natL o' with
          | nil => rw [ho, ho'] at h1; simp [outV] at h1
          | cons b y =>
            have g1 := outH_get H d (l := natL o) (by rw [ho]; simp)
            have g2 := outH_get H d (l := natL o') (by rw [ho']; simp)
            rw [h2] at g1
            have := g1.1.symm.trans g2.1
            simp only [Option.some.injEq, ABlk.cells.injEq, true_and] at this
            rw [← ho, ← ho', this]
      rw [hr (outH H d (natL o)), ← hoo] at href
      have hg2 := outH_grows hd' (natL o)
      have hN2 := outH_neat hN1 hd' (natL o)
      have hd2 : natL o ≠ [] → (outH (outH H d (natL o)) d' (natL o)).blks.get d' = some (.cells 3 false (natL o)) ∧ d' < (outH (outH H d (natL o)) d' (natL o)).next := fun h => outH_get _ d' h
      have hi := ints44_run (outH (outH H d (natL o)) d' (natL o)) d d' o o (fun h => by
        obtain ⟨q1, q2⟩ := hd1 h
        rw [hg2.get _ q2]; exact q1) (fun h => (hd2 h).1) hN2 (by omega)
      have hdec : decide (o = o) = true := by simp
      rw [hdec] at hi
      have hgrow := hg1.trans hg2
      have hWh := hW _ (hG.grow hN hgrow)
      generalize outH (outH H d (natL o)) d' (natL o) = H2 at *
      generalize outH H d (natL o) = H1 at *
      refine Gets.last Tryz.tabOk (ov := ptO noOv 9 [v, w] H [(.tuple [outV d (natL o), .bool true, .int .i64 0], H1)]) (ptO_ok noOv_ok hmerge) 8 (s' := ?sn9) ?hn9 ?kn9; (case hn9 => (simp -implicitDefEqProofs (disch := first | (simp only [ne_eq, Nat.reduceEqDiff, not_false_eq_true, Nat.reduceLT]; done) | assumption | (simp only [s_push_next, s_put_next, Nat.beq_refl]; done) | ((try simp only [s_push_next, s_put_next]) <;> omega) | exact s_one_map _ | exact s_one_slice _ _ _ _ _ | (refine (id ?_ : plainDraw _ = true); kernel_rfl) | fail) only [sxL, s_castN, s_cells_one, noOv, callFn, kindOf, kindC, kindB, unA, boxA, loadPtr, nilCheckA, fst1, ofValue, ofScalar, len, intBin, ibin, boolO, guardA, cCond, condV, cRet, cExit, cSkip, resOut, resultA, extractA, tupleO, Nat.reduceEqDiff, Nat.reduceAdd, Nat.reduceSub, Nat.reduceLT, Nat.reduceBEq, reduceCtorEq, Nat.reduceMod, Nat.reduceLeDiff, Int.reduceLT, Int.reduceAdd, Int.reduceEq, Int.reduceToNat, s_draw] <;> rfl)); (try (change Gets _ _ _ _ _ _; repeat refine Gets.seq ?_))
      refine Gets.last Tryz.tabOk (ov := ptO noOv 10 [v, w] H1 [(.tuple [outV d' (natL o), .bool true, .int .i64 0], H2)]) (ptO_ok noOv_ok href) 8 (s' := ?sn10) ?hn10 ?kn10; (case hn10 => (simp -implicitDefEqProofs (disch := first | (simp only [ne_eq, Nat.reduceEqDiff, not_false_eq_true, Nat.reduceLT]; done) | assumption | (simp only [s_push_next, s_put_next, Nat.beq_refl]; done) | ((try simp only [s_push_next, s_put_next]) <;> omega) | exact s_one_map _ | exact s_one_slice _ _ _ _ _ | (refine (id ?_ : plainDraw _ = true); kernel_rfl) | fail) only [sxL, s_castN, s_cells_one, noOv, callFn, kindOf, kindC, kindB, unA, boxA, loadPtr, nilCheckA, fst1, ofValue, ofScalar, len, intBin, ibin, boolO, guardA, cCond, condV, cRet, cExit, cSkip, resOut, resultA, extractA, tupleO, Nat.reduceEqDiff, Nat.reduceAdd, Nat.reduceSub, Nat.reduceLT, Nat.reduceBEq, reduceCtorEq, Nat.reduceMod, Nat.reduceLeDiff, Int.reduceLT, Int.reduceAdd, Int.reduceEq, Int.reduceToNat, s_draw] <;> rfl)); (try (change Gets _ _ _ _ _ _; repeat refine Gets.seq ?_))
      refine Gets.last Tryz.tabOk (ov := ptO (ptO noOv 11 [outV d (natL o), outV d' (natL o)] H2 [(.bool true, H2)]) 8 [] H2 [(.bool true, H2)]) (ptO_ok (ptO_ok noOv_ok hi) hWh) 8 (s' := ?sn11) ?hn11 ?kn11; (case hn11 => (simp -implicitDefEqProofs (disch := first | (simp only [ne_eq, Nat.reduceEqDiff, not_false_eq_true, Nat.reduceLT]; done) | assumption | (simp only [s_push_next, s_put_next, Nat.beq_refl]; done) | ((try simp only [s_push_next, s_put_next]) <;> omega) | exact s_one_map _ | exact s_one_slice _ _ _ _ _ | (refine (id ?_ : plainDraw _ = true); kernel_rfl) | fail) only [sxL, s_castN, s_cells_one, noOv, callFn, kindOf, kindC, kindB, unA, boxA, loadPtr, nilCheckA, fst1, ofValue, ofScalar, len, intBin, ibin, boolO, guardA, cCond, condV, cRet, cExit, cSkip, resOut, resultA, extractA, tupleO, Nat.reduceEqDiff, Nat.reduceAdd, Nat.reduceSub, Nat.reduceLT, Nat.reduceBEq, reduceCtorEq, Nat.reduceMod, Nat.reduceLeDiff, Int.reduceLT, Int.reduceAdd, Int.reduceEq, Int.reduceToNat, s_draw, eqBool] <;> rfl)); (try (change Gets _ _ _ _ _ _; repeat refine Gets.seq ?_))
      refine Gets.ret Tryz.tabOk ?_
      exact fin_pure rfl (by simp (disch := decide) only [sxL, Tryz.f3, resultA]) hgrow hN trivial
end Go.Proofs
