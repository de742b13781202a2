/-
  The plain law of merging; Short, few and what they call, walked.
-/
import Derived.Test.YtdadmlonndnppaaGreatDoorSxA
import Derived.Test.YtdadmlonndnppaaGreatDoorSxH
import Derived.Test.YtdadmlonndnppaaGreatDoorSxTab
set_option linter.unusedSimpArgs false
set_option linter.unusedVariables false
namespace Go.Proofs
/-! The plain law: how logs are merged. -/
def mGet : List (Int × Int) → Int → Option Int
  | [], _ => none
  | (a, b) :: m, k => if k = a then some b else mGet m k
def mUpd : List (Int × Int) → Int → Int → List (Int × Int)
  | [], k, v => [(k, v)]
  | (a, b) :: m, k, v => if k = a then (a, v) :: m else (a, b) :: mUpd m k v
theorem mGet_upd (m : List (Int × Int)) (k v x : Int) : mGet (mUpd m k v) x = if x = k then some v else mGet m x := by
  induction m with
  | nil => rfl
  | cons p m ih =>
    obtain ⟨a, b⟩ := p
    by_cases h : k = a
    · subst h
      by_cases hx : x = k <;> simp [mUpd, mGet, hx]
    · by_cases hx : x = a
      · subst hx
        have h' : ¬ x = k := fun e => h e.symm
        simp [mUpd, mGet, h, h']
      · simp [mUpd, mGet, h, hx, ih]
theorem mGet_mem {m : List (Int × Int)} {k v : Int} (h : mGet m k = some v) : (k, v) ∈ m := by
  induction m with
  | nil => simp [mGet] at h
  | cons p m ih =>
    obtain ⟨a, b⟩ := p
    by_cases hk : k = a
    · subst hk; simp [mGet] at h; simp [h]
    · simp [mGet, hk] at h; exact .tail _ (ih h)
/-- is a call before another one? -/
def bfB (c r : List (Int × Int)) (a b : Int) : Bool := (mGet r a).isSome && ((mGet c b).isSome && decide ((mGet r a).getD 0 < (mGet c b).getD 0))
/-- may the next command of a log come? -/
def mayB (bf : Int → Int → Bool) (left : List (Int × Int)) (lg : List Int) (i : Nat) : Bool :=
  match lg[i]? with
  | none => false
  | some k => left.all fun p => !(decide (0 < p.2) && bf p.1 k)
def nextG (bf : Int → Int → Bool) (left : List (Int × Int)) : List (List Int) → List Nat → Nat → Option Nat
  | lg :: logs, i :: at_, g => if mayB bf left lg i then some g else nextG bf left logs at_ (g + 1)
  | _, _, _ => none
def headK (logs : List (List Int)) (at_ : List Nat) (g : Nat) : Int := ((logs[g]?.getD [])[at_[g]?.getD 0]?).getD 0
def decK (left : List (Int × Int)) (k : Int) : List (Int × Int) := mUpd left k ((mGet left k).getD 0 - 1)
def incAt (at_ : List Nat) (g : Nat) : List Nat := at_.set g (at_[g]?.getD 0 + 1)
def mergeGo (bf : Int → Int → Bool) (logs : List (List Int)) : Nat → List Nat → List (Int × Int) → Option (List Nat)
  | 0, _, _ => some []
  | n + 1, at_, left => match nextG bf left logs at_ 0 with
    | none => none
    | some g => (mergeGo bf logs n (incAt at_ g) (decK left (headK logs at_ g))).map (g :: ·)
/-- how many commands of each call are to come -/
def incL (told : Int → Bool) (m : List (Int × Int)) (k : Int) : List (Int × Int) := if told k then mUpd m k ((mGet m k).getD 0 + 1) else m
def leftL (told : Int → Bool) (m : List (Int × Int)) (l : List Int) : List (Int × Int) := l.foldl (incL told) m
def leftA (told : Int → Bool) (m : List (Int × Int)) (logs : List (List Int)) : List (Int × Int) := logs.foldl (leftL told) m
def totA (logs : List (List Int)) : Nat := (logs.map List.length).sum
def mergeR (c r : List (Int × Int)) (logs : List (List Int)) : Option (List Nat) :=
  mergeGo (bfB c r) logs (totA logs) (logs.map fun _ => 0) (leftA (fun k => (mGet r k).isSome) [] logs)
/-- the calls of the commands in an order -/
def seqOf (logs : List (List Int)) : List Nat → List Nat → Option (List Int × List Nat)
  | [], at_ => some ([], at_)
  | g :: o, at_ => match logs[g]? with
    | none => none
    | some lg => match at_[g]? with
      | none => none
      | some i => match lg[i]? with
        | none => none
        | some k => (seqOf logs o (at_.set g (i + 1))).map fun p => (k :: p.1, p.2)

/-! what is to come -/
def cntR (a : Int) : List (List Int) → List Nat → Nat
  | lg :: logs, i :: at_ => (lg.drop i).count a + cntR a logs at_
  | _, _ => 0
def totR : List (List Int) → List Nat → Nat
  | lg :: logs, i :: at_ => (lg.length - i) + totR logs at_
  | _, _ => 0
theorem nextG_some {bf : Int → Int → Bool} {left : List (Int × Int)} : ∀ {logs : List (List Int)} {at_ : List Nat} {g0 g : Nat}, nextG bf left logs at_ g0 = some g →
    g0 ≤ g ∧ ∃ lg i k, logs[g - g0]? = some lg ∧ at_[g - g0]? = some i ∧ lg[i]? = some k ∧ ∀ p ∈ left, 0 < p.2 → bf p.1 k = false := by
  intro logs
  induction logs with
  | nil => intro at_ g0 g h; simp [nextG] at h
  | cons lg logs ih =>
    intro at_ g0 g h
    cases at_ with
    | nil => simp [nextG] at h
    | cons i at_ =>
      unfold nextG at h
      split at h
      · rename_i hm
        simp only [Option.some.injEq] at h; subst h
        simp only [mayB] at hm
        split at hm
        · simp at hm
        · rename_i k hk
          refine ⟨Nat.le_refl _, lg, i, k, by simp, by simp, hk, fun p hp hpos => ?_⟩
          have := List.all_eq_true.1 hm p hp
          simpa [hpos] using this
      · obtain ⟨h1, lg', i', k, h2, h3, h4, h5⟩ := ih h
        refine ⟨by omega, lg', i', k, ?_, ?_, h4, h5⟩
        · rw [show g - g0 = (g - (g0 + 1)) + 1 by omega, List.getElem?_cons_succ]; exact h2
        · rw [show g - g0 = (g - (g0 + 1)) + 1 by omega, List.getElem?_cons_succ]; exact h3
theorem cntR_set (a : Int) : ∀ {logs : List (List Int)} {at_ : List Nat} {g i : Nat} {lg : List Int} {k : Int}, logs[g]? = some lg → at_[g]? = some i → lg[i]? = some k →
    cntR a logs at_ = (if k = a then 1 else 0) + cntR a logs (at_.set g (i + 1)) := by
  intro logs
  induction logs with
  | nil => intro at_ g i lg k h; simp at h
  | cons l logs ih =>
    intro at_ g i lg k h1 h2 h3
    cases at_ with
    | nil => simp at h2
    | cons j at_ =>
      cases g with
      | zero =>
        simp only [List.getElem?_cons_zero, Option.some.injEq] at h1 h2
        subst h1; subst h2
        obtain ⟨hlt, he⟩ := List.getElem?_eq_some_iff.1 h3
        simp only [List.set_cons_zero, cntR]
        rw [List.drop_eq_getElem_cons hlt, he, List.count_cons]
        simp only [beq_iff_eq]
        omega
      | succ g =>
        simp only [List.getElem?_cons_succ] at h1 h2
        simp only [List.set_cons_succ, cntR]
        rw [ih h1 h2 h3]; omega
theorem totR_set : ∀ {logs : List (List Int)} {at_ : List Nat} {g i : Nat} {lg : List Int}, logs[g]? = some lg → at_[g]? = some i → i < lg.length →
    totR logs at_ = 1 + totR logs (at_.set g (i + 1)) := by
  intro logs
  induction logs with
  | nil => intro at_ g i lg h; simp at h
  | cons l logs ih =>
    intro at_ g i lg h1 h2 h3
    cases at_ with
    | nil => simp at h2
    | cons j at_ =>
      cases g with
      | zero =>
        simp only [List.getElem?_cons_zero, Option.some.injEq] at h1 h2
        subst h1; subst h2
        simp only [List.set_cons_zero, totR]
        omega
      | succ g =>
        simp only [List.getElem?_cons_succ] at h1 h2
        simp only [List.set_cons_succ, totR]
        rw [ih h1 h2 h3]; omega
/-- all positions lie in their logs -/
def AtIn (logs : List (List Int)) (at_ : List Nat) : Prop := at_.length = logs.length ∧ ∀ (g : Nat) (lg : List Int) (i : Nat), logs[g]? = some lg → at_[g]? = some i → i ≤ lg.length
theorem AtIn.set {logs : List (List Int)} {at_ : List Nat} (h : AtIn logs at_) {g i : Nat} {lg : List Int} (h1 : logs[g]? = some lg) (h3 : i < lg.length) : AtIn logs (at_.set g (i + 1)) := by
  refine ⟨by simp [h.1], fun g' lg' i' h4 h5 => ?_⟩
  rw [List.getElem?_set] at h5
  split at h5
  · rename_i e
    subst e
    split at h5
    · simp only [Option.some.injEq] at h5; subst h5
      rw [h1] at h4
      simp only [Option.some.injEq] at h4; subst h4; omega
    · simp at h5
  · exact h.2 g' lg' i' h4 h5
theorem totR_zero : ∀ {logs : List (List Int)} {at_ : List Nat}, totR logs at_ = 0 → AtIn logs at_ → ∀ (g : Nat) (lg : List Int) (i : Nat), logs[g]? = some lg → at_[g]? = some i → i = lg.length := by
  intro logs
  induction logs with
  | nil => intro at_ _ _ g lg i h; simp at h
  | cons l logs ih =>
    intro at_ h hA g lg i h1 h2
    cases at_ with
    | nil => simp at h2
    | cons j at_ =>
      simp only [totR] at h
      have hA' : AtIn logs at_ := ⟨by simpa using hA.1, fun g lg i h1 h2 => hA.2 (g + 1) lg i (by simpa using h1) (by simpa using h2)⟩
      cases g with
      | zero =>
        have := hA.2 0 l j (by simp) (by simp)
        simp only [List.getElem?_cons_zero, Option.some.injEq] at h1 h2
        subst h1; subst h2; omega
      | succ g => exact ih (by omega) hA' g lg i (by simpa using h1) (by simpa using h2)
/-- the numbers kept are right where calls were told -/
def LeftOk (told : Int → Bool) (logs : List (List Int)) (at_ : List Nat) (left : List (Int × Int)) : Prop := ∀ a, told a = true → (mGet left a).getD 0 = (cntR a logs at_ : Int)
theorem headK_eq {logs : List (List Int)} {at_ : List Nat} {g i : Nat} {lg : List Int} {k : Int} (h1 : logs[g]? = some lg) (h2 : at_[g]? = some i) (h3 : lg[i]? = some k) : headK logs at_ g = k := by
  simp [headK, h1, h2, h3]
theorem incAt_eq {at_ : List Nat} {g i : Nat} (h2 : at_[g]? = some i) : incAt at_ g = at_.set g (i + 1) := by simp [incAt, h2]
theorem LeftOk.step {told : Int → Bool} {logs : List (List Int)} {at_ : List Nat} {left : List (Int × Int)} (h : LeftOk told logs at_ left) {g i : Nat} {lg : List Int} {k : Int}
    (h1 : logs[g]? = some lg) (h2 : at_[g]? = some i) (h3 : lg[i]? = some k) : LeftOk told logs (at_.set g (i + 1)) (decK left k) := by
  intro a ha
  have e := h a ha
  rw [cntR_set a h1 h2 h3] at e
  unfold decK
  rw [mGet_upd]
  by_cases hk : a = k
  · subst hk
    simp only [if_true, Option.getD_some, e]; omega
  · have hk' : ¬ k = a := fun e => hk e.symm
    simp only [hk, if_false, e, hk']; omega
/-- THE LAW: an order that is found has each log's commands, and respects the history. -/
theorem mergeGo_ok {bf : Int → Int → Bool} {told : Int → Bool} (hbf : ∀ a b, bf a b = true → told a = true) {logs : List (List Int)} : ∀ (n : Nat) (at_ : List Nat) (left : List (Int × Int)) (o : List Nat),
    mergeGo bf logs n at_ left = some o → n = totR logs at_ → AtIn logs at_ → LeftOk told logs at_ left →
    o.length = n ∧ ∃ seq at', seqOf logs o at_ = some (seq, at') ∧ AtIn logs at' ∧ totR logs at' = 0 ∧ seq.length = o.length ∧ (∀ a, seq.count a ≤ cntR a logs at_) ∧ seq.Pairwise fun x y => bf y x = false := by
  intro n
  induction n with
  | zero =>
    intro at_ left o h hn hA hL
    simp only [mergeGo, Option.some.injEq] at h; subst h
    exact ⟨rfl, [], at_, rfl, hA, hn.symm, rfl, fun a => by simp, .nil⟩
  | succ n ih =>
    intro at_ left o h hn hA hL
    unfold mergeGo at h
    split at h
    · simp at h
    · rename_i g hg
      obtain ⟨_, lg, i, k, h1, h2, h3, h4⟩ := nextG_some hg
      simp only [Nat.sub_zero] at h1 h2
      rw [incAt_eq h2, headK_eq h1 h2 h3] at h
      obtain ⟨o', ho', e⟩ := Option.map_eq_some_iff.1 h
      subst e
      have hlt := (List.getElem?_eq_some_iff.1 h3).1
      have ht := totR_set h1 h2 hlt
      obtain ⟨q0, seq, at', q1, q2, q3, q4, q5, q6⟩ := ih _ _ _ ho' (by omega) (hA.set h1 hlt) (hL.step h1 h2 h3)
      refine ⟨by simp [q0], k :: seq, at', by simp [seqOf, h1, h2, h3, q1], q2, q3, by simp [q4], fun a => ?_, ?_⟩
      · have := q5 a
        rw [List.count_cons, cntR_set a h1 h2 h3]
        simp only [beq_iff_eq]
        omega
      · refine List.Pairwise.cons (fun y hy => ?_) q6
        cases hb : bf y k with
        | false => rfl
        | true =>
          have hty := hbf _ _ hb
          have hc : 0 < seq.count y := List.count_pos_iff.2 hy
          have hR : 0 < cntR y logs at_ := by have := q5 y; rw [cntR_set y h1 h2 h3]; omega
          have e := hL y hty
          cases hm : mGet left y with
          | none => rw [hm] at e; simp at e; omega
          | some v =>
            rw [hm] at e
            simp only [Option.getD_some] at e
            have := h4 (y, v) (mGet_mem hm) (by show 0 < v; omega)
            simp [hb] at this
theorem leftL_get {told : Int → Bool} {a : Int} (ha : told a = true) : ∀ (l : List Int) (m : List (Int × Int)), (mGet (leftL told m l) a).getD 0 = (mGet m a).getD 0 + (l.count a : Int) := by
  intro l
  induction l with
  | nil => intro m; simp [leftL]
  | cons k l ih =>
    intro m
    show (mGet (leftL told (incL told m k) l) a).getD 0 = _
    rw [ih, List.count_cons]
    unfold incL
    by_cases hk : told k = true
    · rw [if_pos hk, mGet_upd]
      by_cases hak : a = k
      · subst hak
        simp; omega
      · have hak' : ¬ k = a := fun e => hak e.symm
        simp [hak, hak']
    · rw [if_neg hk]
      have hak : ¬ k = a := fun e => hk (e ▸ ha)
      simp [hak]
theorem leftA_get {told : Int → Bool} {a : Int} (ha : told a = true) : ∀ (logs : List (List Int)) (m : List (Int × Int)), (mGet (leftA told m logs) a).getD 0 = (mGet m a).getD 0 + (cntR a logs (logs.map fun _ => 0) : Int) := by
  intro logs
  induction logs with
  | nil => intro m; simp [leftA, cntR]
  | cons lg logs ih =>
    intro m
    show (mGet (leftA told (leftL told m lg) logs) a).getD 0 = _
    rw [ih, leftL_get ha]
    simp only [List.map_cons, cntR, List.drop_zero]
    omega
theorem totR_start : ∀ (logs : List (List Int)), totR logs (logs.map fun _ => 0) = totA logs := by
  intro logs
  induction logs with
  | nil => rfl
  | cons lg logs ih => simp only [List.map_cons, totR, ih, totA, List.sum_cons, Nat.sub_zero]
theorem mergeR_ok {c r : List (Int × Int)} {logs : List (List Int)} {o : List Nat} (h : mergeR c r logs = some o) :
    o.length = totA logs ∧ ∃ seq at', seqOf logs o (logs.map fun _ => 0) = some (seq, at') ∧ at'.length = logs.length ∧ (∀ (g : Nat) (lg : List Int) (i : Nat), logs[g]? = some lg → at'[g]? = some i → i = lg.length) ∧ seq.length = o.length ∧
      seq.Pairwise fun x y => bfB c r y x = false := by
  have hA : AtIn logs (logs.map fun _ => 0) := ⟨by simp, fun g lg i h1 h2 => by
    rw [List.getElem?_map, h1] at h2
    simp at h2; omega⟩
  obtain ⟨q0, seq, at', q1, q2, q3, q4, _, q6⟩ := mergeGo_ok (bf := bfB c r) (told := fun k => (mGet r k).isSome) (fun a b h => by simp [bfB] at h; simpa using h.1) _ _ _ _ h (totR_start logs).symm hA
    (fun a ha => by rw [leftA_get ha]; simp [mGet])
  exact ⟨q0, seq, at', q1, q2.1, totR_zero q3 q2, q4, q6⟩
/-! bounds -/
def Bd (m : List (Int × Int)) (B : Nat) : Prop := ∀ a, -(B : Int) ≤ (mGet m a).getD 0 ∧ (mGet m a).getD 0 ≤ (B : Int)
theorem Bd.nil : Bd [] 0 := fun a => by simp [mGet]
theorem Bd.le {m : List (Int × Int)} {B B' : Nat} (h : Bd m B) (hb : B ≤ B') : Bd m B' := fun a => by have := h a; omega
theorem Bd.inc {m : List (Int × Int)} {B : Nat} (h : Bd m B) (told : Int → Bool) (k : Int) : Bd (incL told m k) (B + 1) := fun a => by
  unfold incL
  split
  · rw [mGet_upd]
    split
    · have := h k; simp only [Option.getD_some]; omega
    · have := h a; omega
  · have := h a; omega
theorem Bd.dec {m : List (Int × Int)} {B : Nat} (h : Bd m B) (k : Int) : Bd (decK m k) (B + 1) := fun a => by
  unfold decK
  rw [mGet_upd]
  split
  · have := h k; simp only [Option.getD_some]; omega
  · have := h a; omega
theorem take_snoc {α : Type} {l : List α} {i : Nat} {a : α} (h : l[i]? = some a) : l.take (i + 1) = l.take i ++ [a] := by
  rw [List.take_add_one, h]; rfl
theorem leftL_snoc {told : Int → Bool} {m : List (Int × Int)} {l : List Int} {i : Nat} {k : Int} (h : l[i]? = some k) : leftL told m (l.take (i + 1)) = incL told (leftL told m (l.take i)) k := by
  rw [take_snoc h]; simp [leftL]
theorem leftA_snoc {told : Int → Bool} {m : List (Int × Int)} {logs : List (List Int)} {g : Nat} {lg : List Int} (h : logs[g]? = some lg) : leftA told m (logs.take (g + 1)) = leftL told (leftA told m (logs.take g)) lg := by
  rw [take_snoc h]; simp [leftA]
theorem totA_snoc {logs : List (List Int)} {g : Nat} {lg : List Int} (h : logs[g]? = some lg) : totA (logs.take (g + 1)) = totA (logs.take g) + lg.length := by
  rw [take_snoc h]; simp [totA]
theorem totA_le {logs : List (List Int)} {B : Nat} (h : ∀ lg ∈ logs, lg.length ≤ B) : totA logs ≤ logs.length * B := by
  induction logs with
  | nil => simp [totA]
  | cons lg logs ih =>
    have h1 := h lg List.mem_cons_self
    have h2 := ih fun l hl => h l (List.mem_cons_of_mem _ hl)
    simp only [totA, List.map_cons, List.sum_cons, List.length_cons, Nat.succ_mul] at h2 ⊢
    omega
theorem drop_cons {α : Type} {l : List α} {i : Nat} {a : α} (h : l[i]? = some a) : l.drop i = a :: l.drop (i + 1) := by
  obtain ⟨h1, h2⟩ := List.getElem?_eq_some_iff.1 h
  rw [List.drop_eq_getElem_cons h1, h2]
theorem nextG_step {bf : Int → Int → Bool} {left : List (Int × Int)} {logs : List (List Int)} {at_ : List Nat} {g i : Nat} {lg : List Int} (h1 : logs[g]? = some lg) (h2 : at_[g]? = some i) :
    nextG bf left (logs.drop g) (at_.drop g) g = if mayB bf left lg i then some g else nextG bf left (logs.drop (g + 1)) (at_.drop (g + 1)) (g + 1) := by
  rw [drop_cons h1, drop_cons h2]; rfl
theorem nextG_end {bf : Int → Int → Bool} {left : List (Int × Int)} {logs : List (List Int)} {at_ : List Nat} : nextG bf left (logs.drop logs.length) (at_.drop logs.length) logs.length = none := by
  rw [List.drop_length]; rfl
theorem mayB_none {bf : Int → Int → Bool} {left : List (Int × Int)} {lg : List Int} {i : Nat} (h : lg[i]? = none) : mayB bf left lg i = false := by simp [mayB, h]
theorem mayB_some {bf : Int → Int → Bool} {left : List (Int × Int)} {lg : List Int} {i : Nat} {k : Int} (h : lg[i]? = some k) : mayB bf left lg i = left.all fun p => !(decide (0 < p.2) && bf p.1 k) := by simp [mayB, h]
theorem nodup_len : ∀ (n : Nat) (l : List Nat), l.Nodup → (∀ x ∈ l, x < n) → l.length ≤ n := by
  intro n
  induction n with
  | zero => intro l _ h; cases l with
    | nil => simp
    | cons a l => exact absurd (h a List.mem_cons_self) (Nat.not_lt_zero _)
  | succ n ih =>
    intro l hd h
    have h1 := ih (l.erase n) (hd.erase n) fun x hx => by
      have h2 := (hd.mem_erase_iff).1 hx
      have := h x h2.2
      omega
    by_cases hm : n ∈ l
    · have := List.length_erase_of_mem hm; omega
    · rw [List.erase_of_not_mem hm] at h1; omega
theorem seqOf_cons {logs : List (List Int)} {g : Nat} {o : List Nat} {at_ : List Nat} {q : List Int × List Nat} (h : seqOf logs (g :: o) at_ = some q) :
    ∃ lg i k s, logs[g]? = some lg ∧ at_[g]? = some i ∧ lg[i]? = some k ∧ seqOf logs o (at_.set g (i + 1)) = some (s, q.2) ∧ q.1 = k :: s := by
  unfold seqOf at h
  split at h
  · simp at h
  · rename_i lg h1
    split at h
    · simp at h
    · rename_i i h2
      split at h
      · simp at h
      · rename_i k h3
        obtain ⟨p, hp, e⟩ := Option.map_eq_some_iff.1 h
        subst e
        exact ⟨lg, i, k, p.1, h1, h2, h3, hp, rfl⟩
theorem pairwise_at {R : Int → Int → Prop} {l : List Int} (h : l.Pairwise R) {i j : Nat} {a b : Int} (hij : i < j) (ha : l[i]? = some a) (hb : l[j]? = some b) : R a b := by
  obtain ⟨h1, rfl⟩ := List.getElem?_eq_some_iff.1 ha
  obtain ⟨h2, rfl⟩ := List.getElem?_eq_some_iff.1 hb
  exact List.pairwise_iff_getElem.1 h i j h1 h2 hij
end Go.Proofs

namespace Go.Proofs
open Go.Sx
set_option maxRecDepth 100000
theorem get54 : Tryz.tab.funcs.get 54 = some Tryz.f54 := by kernel_rfl
theorem get38 : Tryz.tab.funcs.get 38 = some Tryz.f38 := by kernel_rfl
theorem fa49_0 (b o : Nat) : fieldAddrA Tryz.tab 49 0 (.ptr b o) = some (.ptr b (o + 0)) := by kernel_rfl
theorem ia28 : Tryz.tab.isAgg 28 = some false := by kernel_rfl
theorem sz28 : Tryz.tab.size 28 = some 1 := by kernel_rfl
theorem fa49_1 (b o : Nat) : fieldAddrA Tryz.tab 49 1 (.ptr b o) = some (.ptr b (o + 1)) := by kernel_rfl
theorem ia2 : Tryz.tab.isAgg 2 = some false := by kernel_rfl
theorem sz2 : Tryz.tab.size 2 = some 1 := by kernel_rfl
theorem fa49_2 (b o : Nat) : fieldAddrA Tryz.tab 49 2 (.ptr b o) = some (.ptr b (o + 2)) := by kernel_rfl
theorem ia9 : Tryz.tab.isAgg 9 = some false := by kernel_rfl
theorem sz9 : Tryz.tab.size 9 = some 1 := by kernel_rfl
theorem ud9 : Tryz.tab.und 9 = some .string := by kernel_rfl
theorem get55 : Tryz.tab.funcs.get 55 = some Tryz.f55 := by kernel_rfl
theorem ud27 : Tryz.tab.und 27 = some (.slice 3) := by kernel_rfl
theorem ia3 : Tryz.tab.isAgg 3 = some false := by kernel_rfl
theorem sz3 : Tryz.tab.size 3 = some 1 := by kernel_rfl
theorem get39 : Tryz.tab.funcs.get 39 = some Tryz.f39 := by kernel_rfl
theorem get53 : Tryz.tab.funcs.get 53 = some Tryz.f53 := by kernel_rfl
theorem fa40_0 (b o : Nat) : fieldAddrA Tryz.tab 40 0 (.ptr b o) = some (.ptr b (o + 0)) := by kernel_rfl
theorem fa40_1 (b o : Nat) : fieldAddrA Tryz.tab 40 1 (.ptr b o) = some (.ptr b (o + 1)) := by kernel_rfl
theorem fa40_2 (b o : Nat) : fieldAddrA Tryz.tab 40 2 (.ptr b o) = some (.ptr b (o + 2)) := by kernel_rfl
theorem fa40_3 (b o : Nat) : fieldAddrA Tryz.tab 40 3 (.ptr b o) = some (.ptr b (o + 3)) := by kernel_rfl
theorem ia38 : Tryz.tab.isAgg 38 = some false := by kernel_rfl
theorem sz38 : Tryz.tab.size 38 = some 1 := by kernel_rfl
theorem get77 : Tryz.tab.funcs.get 77 = some Tryz.f77 := by kernel_rfl
theorem ud38 : Tryz.tab.und 38 = some (.slice 95) := by kernel_rfl
theorem ia95 : Tryz.tab.isAgg 95 = some true := by kernel_rfl
theorem sz95 : Tryz.tab.size 95 = some 2 := by kernel_rfl
theorem get37 : Tryz.tab.funcs.get 37 = some Tryz.f37 := by kernel_rfl
theorem fa44_9 (b o : Nat) : fieldAddrA Tryz.tab 44 9 (.ptr b o) = some (.ptr b (o + 12)) := by kernel_rfl
theorem ia40 : Tryz.tab.isAgg 40 = some true := by kernel_rfl
theorem sz40 : Tryz.tab.size 40 = some 4 := by kernel_rfl
theorem fa44_3 (b o : Nat) : fieldAddrA Tryz.tab 44 3 (.ptr b o) = some (.ptr b (o + 3)) := by kernel_rfl
theorem ia35 : Tryz.tab.isAgg 35 = some true := by kernel_rfl
theorem sz35 : Tryz.tab.size 35 = some 3 := by kernel_rfl
theorem fa44_7 (b o : Nat) : fieldAddrA Tryz.tab 44 7 (.ptr b o) = some (.ptr b (o + 9)) := by kernel_rfl
theorem ia37 : Tryz.tab.isAgg 37 = some true := by kernel_rfl
theorem sz37 : Tryz.tab.size 37 = some 2 := by kernel_rfl
theorem fa44_10 (b o : Nat) : fieldAddrA Tryz.tab 44 10 (.ptr b o) = some (.ptr b (o + 16)) := by kernel_rfl
theorem ia42 : Tryz.tab.isAgg 42 = some true := by kernel_rfl
theorem sz42 : Tryz.tab.size 42 = some 6 := by kernel_rfl
theorem fa44_0 (b o : Nat) : fieldAddrA Tryz.tab 44 0 (.ptr b o) = some (.ptr b (o + 0)) := by kernel_rfl
theorem fa44_1 (b o : Nat) : fieldAddrA Tryz.tab 44 1 (.ptr b o) = some (.ptr b (o + 1)) := by kernel_rfl
theorem fa44_2 (b o : Nat) : fieldAddrA Tryz.tab 44 2 (.ptr b o) = some (.ptr b (o + 2)) := by kernel_rfl
theorem fa44_4 (b o : Nat) : fieldAddrA Tryz.tab 44 4 (.ptr b o) = some (.ptr b (o + 6)) := by kernel_rfl
theorem fa44_5 (b o : Nat) : fieldAddrA Tryz.tab 44 5 (.ptr b o) = some (.ptr b (o + 7)) := by kernel_rfl
theorem fa44_6 (b o : Nat) : fieldAddrA Tryz.tab 44 6 (.ptr b o) = some (.ptr b (o + 8)) := by kernel_rfl
theorem fa44_8 (b o : Nat) : fieldAddrA Tryz.tab 44 8 (.ptr b o) = some (.ptr b (o + 11)) := by kernel_rfl
theorem fa44_11 (b o : Nat) : fieldAddrA Tryz.tab 44 11 (.ptr b o) = some (.ptr b (o + 22)) := by kernel_rfl
theorem fa44_12 (b o : Nat) : fieldAddrA Tryz.tab 44 12 (.ptr b o) = some (.ptr b (o + 23)) := by kernel_rfl
theorem get30 : Tryz.tab.funcs.get 30 = some Tryz.f30 := by kernel_rfl
theorem fa80_2 (b o : Nat) : fieldAddrA Tryz.tab 80 2 (.ptr b o) = some (.ptr b (o + 2)) := by kernel_rfl
theorem ia78 : Tryz.tab.isAgg 78 = some false := by kernel_rfl
theorem sz78 : Tryz.tab.size 78 = some 1 := by kernel_rfl
theorem ud78 : Tryz.tab.und 78 = some (.map 3 3) := by kernel_rfl
theorem fa80_1 (b o : Nat) : fieldAddrA Tryz.tab 80 1 (.ptr b o) = some (.ptr b (o + 1)) := by kernel_rfl
theorem get40 : Tryz.tab.funcs.get 40 = some Tryz.f40 := by kernel_rfl
theorem ud33 : Tryz.tab.und 33 = some (.slice 44) := by kernel_rfl
theorem ia44 : Tryz.tab.isAgg 44 = some true := by kernel_rfl
theorem sz44 : Tryz.tab.size 44 = some 24 := by kernel_rfl
theorem get56 : Tryz.tab.funcs.get 56 = some Tryz.f56 := by kernel_rfl
theorem ud22 : Tryz.tab.und 22 = some (.slice 33) := by kernel_rfl
theorem ia33 : Tryz.tab.isAgg 33 = some false := by kernel_rfl
theorem sz33 : Tryz.tab.size 33 = some 1 := by kernel_rfl
theorem get41 : Tryz.tab.funcs.get 41 = some Tryz.f41 := by kernel_rfl
theorem get24 : Tryz.tab.funcs.get 24 = some Tryz.f24 := by kernel_rfl
theorem get23 : Tryz.tab.funcs.get 23 = some Tryz.f23 := by kernel_rfl
theorem ud23 : Tryz.tab.und 23 = some (.slice 51) := by kernel_rfl
theorem ia51 : Tryz.tab.isAgg 51 = some true := by kernel_rfl
theorem sz51 : Tryz.tab.size 51 = some 29 := by kernel_rfl
theorem fa51_0 (b o : Nat) : fieldAddrA Tryz.tab 51 0 (.ptr b o) = some (.ptr b (o + 0)) := by kernel_rfl
theorem fa51_1 (b o : Nat) : fieldAddrA Tryz.tab 51 1 (.ptr b o) = some (.ptr b (o + 1)) := by kernel_rfl
theorem ia4 : Tryz.tab.isAgg 4 = some false := by kernel_rfl
theorem sz4 : Tryz.tab.size 4 = some 1 := by kernel_rfl
theorem fa51_2 (b o : Nat) : fieldAddrA Tryz.tab 51 2 (.ptr b o) = some (.ptr b (o + 2)) := by kernel_rfl
theorem fa51_3 (b o : Nat) : fieldAddrA Tryz.tab 51 3 (.ptr b o) = some (.ptr b (o + 26)) := by kernel_rfl
theorem ia49 : Tryz.tab.isAgg 49 = some true := by kernel_rfl
theorem sz49 : Tryz.tab.size 49 = some 3 := by kernel_rfl
theorem ia27 : Tryz.tab.isAgg 27 = some false := by kernel_rfl
theorem sz27 : Tryz.tab.size 27 = some 1 := by kernel_rfl
theorem get42 : Tryz.tab.funcs.get 42 = some Tryz.f42 := by kernel_rfl
theorem ia22 : Tryz.tab.isAgg 22 = some false := by kernel_rfl
theorem sz22 : Tryz.tab.size 22 = some 1 := by kernel_rfl
theorem ia69 : Tryz.tab.isAgg 69 = some false := by kernel_rfl
theorem sz69 : Tryz.tab.size 69 = some 1 := by kernel_rfl
theorem get25 : Tryz.tab.funcs.get 25 = some Tryz.f25 := by kernel_rfl
theorem get9 : Tryz.tab.funcs.get 9 = some Tryz.f9 := by kernel_rfl
theorem get12 : Tryz.tab.funcs.get 12 = some Tryz.f12 := by kernel_rfl
theorem get22 : Tryz.tab.funcs.get 22 = some Tryz.f22 := by kernel_rfl
theorem fa37_0 (b o : Nat) : fieldAddrA Tryz.tab 37 0 (.ptr b o) = some (.ptr b (o + 0)) := by kernel_rfl
theorem fa37_1 (b o : Nat) : fieldAddrA Tryz.tab 37 1 (.ptr b o) = some (.ptr b (o + 1)) := by kernel_rfl
theorem fa95_0 (b o : Nat) : fieldAddrA Tryz.tab 95 0 (.ptr b o) = some (.ptr b (o + 0)) := by kernel_rfl
theorem get6 : Tryz.tab.funcs.get 6 = some Tryz.f6 := by kernel_rfl
theorem get7 : Tryz.tab.funcs.get 7 = some Tryz.f7 := by kernel_rfl
theorem get4 : Tryz.tab.funcs.get 4 = some Tryz.f4 := by kernel_rfl
end Go.Proofs

namespace Go.Proofs
open Go.Sx
set_option maxRecDepth 100000
noncomputable def numCheck (x : Int) : Int := if x < -1152921504606846976 then 7 else if 1152921504606846976 < x then 7 else 0
noncomputable def ov0 : Ov := fun _ _ _ => none
theorem ov0_ok : OvOk Tryz.prog Tryz.tab ov0 := fun _ _ _ _ h => by simp [ov0] at h
theorem numCheck_run (n : Nat) (x : Int) (H : Heap) : (fnsO Tryz.tab ov0 (n+2)).call 54 [.int .i64 x] H = some [(.int .i64 (numCheck x), H)] := by
  rw [s_callO, s_callB, get54]
  unfold numCheck
  by_cases h1 : x < -1152921504606846976 <;> by_cases h2 : 1152921504606846976 < x
  · exfalso; omega
  all_goals simp -implicitDefEqProofs (disch := first | (simp only [ne_eq, Nat.reduceEqDiff, not_false_eq_true, Nat.reduceLT]; done) | assumption | (simp only [s_push_next, s_put_next, Nat.beq_refl]; done) | ((try simp only [s_push_next, s_put_next]) <;> omega) | exact s_one_map _ | exact s_one_slice _ _ _ _ _ | (refine (id ?_ : plainDraw _ = true); kernel_rfl) | fail) only [sxL, s_castN, s_cells_one, noOv, callFn, kindOf, kindC, kindB, unA, boxA, loadPtr, nilCheckA, fst1, ofValue, ofScalar, len, intBin, ibin, boolO, guardA, cCond, condV, cRet, cExit, cSkip, resOut, resultA, extractA, tupleO, Nat.reduceEqDiff, Nat.reduceAdd, Nat.reduceSub, Nat.reduceLT, Nat.reduceBEq, reduceCtorEq, Nat.reduceMod, Nat.reduceLeDiff, Int.reduceLT, Int.reduceAdd, Int.reduceEq, Int.reduceToNat, Tryz.f54, h1, h2, ov0]
noncomputable def ovNum (args : List AV) (H : Heap) : Option (List VH) :=
  match args with
  | [.int .i64 x] => some [(.int .i64 (numCheck x), H)]
  | _ => none
theorem ovNum_ok (args : List AV) (H : Heap) (outs : List VH) (h : ovNum args H = some outs) : CallTo Tryz.prog Tryz.tab 54 args H outs := by
  unfold ovNum at h
  split at h
  · simp only [Option.some.injEq] at h; subst h
    exact callTo_run Tryz.tabOk ov0_ok (numCheck_run 0 _ H)
  · simp at h
noncomputable def ov1 : Ov := addOv ov0 54 ovNum
theorem ov1_ok : OvOk Tryz.prog Tryz.tab ov1 := addOv_ok ov0_ok ovNum_ok

noncomputable def checkReply (e n : Int) (s : List UInt8) : Int :=
  if e < 0 then 2 else if 18 < e then 2 else if ¬ numCheck n = 0 then 2 else if 65536 < (s.length : Int) then 2 else 0
theorem checkReply_run (m : Nat) (e n : Int) (s : List UInt8) (H : Heap) : (fnsO Tryz.tab ov1 (m+3)).call 38 [.agg [.int .i64 e, .int .i64 n, .str s]] H =
    some [(.int .i64 (checkReply e n s), H.push (.cells 49 true [.int .i64 e, .int .i64 n, .str s]))] := by
  rw [s_callO, s_callB, get38]
  unfold checkReply
  have hn : ovNum [.int .i64 n] (H.push (.cells 49 true [.int .i64 e, .int .i64 n, .str s])) = some [(.int .i64 (numCheck n), H.push (.cells 49 true [.int .i64 e, .int .i64 n, .str s]))] := rfl
  by_cases h1 : e < 0
  · simp -implicitDefEqProofs (disch := first | (simp only [ne_eq, Nat.reduceEqDiff, not_false_eq_true, Nat.reduceLT]; done) | assumption | (simp only [s_push_next, s_put_next, Nat.beq_refl]; done) | ((try simp only [s_push_next, s_put_next]) <;> omega) | exact s_one_map _ | exact s_one_slice _ _ _ _ _ | (refine (id ?_ : plainDraw _ = true); kernel_rfl) | fail) only [sxL, s_castN, s_cells_one, noOv, callFn, kindOf, kindC, kindB, unA, boxA, loadPtr, nilCheckA, fst1, ofValue, ofScalar, len, intBin, ibin, boolO, guardA, cCond, condV, cRet, cExit, cSkip, resOut, resultA, extractA, tupleO, Nat.reduceEqDiff, Nat.reduceAdd, Nat.reduceSub, Nat.reduceLT, Nat.reduceBEq, reduceCtorEq, Nat.reduceMod, Nat.reduceLeDiff, Int.reduceLT, Int.reduceAdd, Int.reduceEq, Int.reduceToNat, Tryz.f38, h1, ov0, ov1, fa49_0, fa49_1, fa49_2, s_varFalse ia28, s_varFalse ia2, s_varFalse ia9, s_lenStr ud9, hn]
  · by_cases h2 : 18 < e
    · simp -implicitDefEqProofs (disch := first | (simp only [ne_eq, Nat.reduceEqDiff, not_false_eq_true, Nat.reduceLT]; done) | assumption | (simp only [s_push_next, s_put_next, Nat.beq_refl]; done) | ((try simp only [s_push_next, s_put_next]) <;> omega) | exact s_one_map _ | exact s_one_slice _ _ _ _ _ | (refine (id ?_ : plainDraw _ = true); kernel_rfl) | fail) only [sxL, s_castN, s_cells_one, noOv, callFn, kindOf, kindC, kindB, unA, boxA, loadPtr, nilCheckA, fst1, ofValue, ofScalar, len, intBin, ibin, boolO, guardA, cCond, condV, cRet, cExit, cSkip, resOut, resultA, extractA, tupleO, Nat.reduceEqDiff, Nat.reduceAdd, Nat.reduceSub, Nat.reduceLT, Nat.reduceBEq, reduceCtorEq, Nat.reduceMod, Nat.reduceLeDiff, Int.reduceLT, Int.reduceAdd, Int.reduceEq, Int.reduceToNat, Tryz.f38, h1, h2, ov0, ov1, fa49_0, fa49_1, fa49_2, s_varFalse ia28, s_varFalse ia2, s_varFalse ia9, s_lenStr ud9, hn]
    · by_cases h3 : numCheck n = 0
      · by_cases h4 : 65536 < (s.length : Int)
        · simp -implicitDefEqProofs (disch := first | (simp only [ne_eq, Nat.reduceEqDiff, not_false_eq_true, Nat.reduceLT]; done) | assumption | (simp only [s_push_next, s_put_next, Nat.beq_refl]; done) | ((try simp only [s_push_next, s_put_next]) <;> omega) | exact s_one_map _ | exact s_one_slice _ _ _ _ _ | (refine (id ?_ : plainDraw _ = true); kernel_rfl) | fail) only [sxL, s_castN, s_cells_one, noOv, callFn, kindOf, kindC, kindB, unA, boxA, loadPtr, nilCheckA, fst1, ofValue, ofScalar, len, intBin, ibin, boolO, guardA, cCond, condV, cRet, cExit, cSkip, resOut, resultA, extractA, tupleO, Nat.reduceEqDiff, Nat.reduceAdd, Nat.reduceSub, Nat.reduceLT, Nat.reduceBEq, reduceCtorEq, Nat.reduceMod, Nat.reduceLeDiff, Int.reduceLT, Int.reduceAdd, Int.reduceEq, Int.reduceToNat, Tryz.f38, h1, h2, h3, h4, ov0, ov1, fa49_0, fa49_1, fa49_2, s_varFalse ia28, s_varFalse ia2, s_varFalse ia9, s_lenStr ud9, hn]
        · simp -implicitDefEqProofs (disch := first | (simp only [ne_eq, Nat.reduceEqDiff, not_false_eq_true, Nat.reduceLT]; done) | assumption | (simp only [s_push_next, s_put_next, Nat.beq_refl]; done) | ((try simp only [s_push_next, s_put_next]) <;> omega) | exact s_one_map _ | exact s_one_slice _ _ _ _ _ | (refine (id ?_ : plainDraw _ = true); kernel_rfl) | fail) only [sxL, s_castN, s_cells_one, noOv, callFn, kindOf, kindC, kindB, unA, boxA, loadPtr, nilCheckA, fst1, ofValue, ofScalar, len, intBin, ibin, boolO, guardA, cCond, condV, cRet, cExit, cSkip, resOut, resultA, extractA, tupleO, Nat.reduceEqDiff, Nat.reduceAdd, Nat.reduceSub, Nat.reduceLT, Nat.reduceBEq, reduceCtorEq, Nat.reduceMod, Nat.reduceLeDiff, Int.reduceLT, Int.reduceAdd, Int.reduceEq, Int.reduceToNat, Tryz.f38, h1, h2, h3, h4, ov0, ov1, fa49_0, fa49_1, fa49_2, s_varFalse ia28, s_varFalse ia2, s_varFalse ia9, s_lenStr ud9, hn]
      · simp -implicitDefEqProofs (disch := first | (simp only [ne_eq, Nat.reduceEqDiff, not_false_eq_true, Nat.reduceLT]; done) | assumption | (simp only [s_push_next, s_put_next, Nat.beq_refl]; done) | ((try simp only [s_push_next, s_put_next]) <;> omega) | exact s_one_map _ | exact s_one_slice _ _ _ _ _ | (refine (id ?_ : plainDraw _ = true); kernel_rfl) | fail) only [sxL, s_castN, s_cells_one, noOv, callFn, kindOf, kindC, kindB, unA, boxA, loadPtr, nilCheckA, fst1, ofValue, ofScalar, len, intBin, ibin, boolO, guardA, cCond, condV, cRet, cExit, cSkip, resOut, resultA, extractA, tupleO, Nat.reduceEqDiff, Nat.reduceAdd, Nat.reduceSub, Nat.reduceLT, Nat.reduceBEq, reduceCtorEq, Nat.reduceMod, Nat.reduceLeDiff, Int.reduceLT, Int.reduceAdd, Int.reduceEq, Int.reduceToNat, Tryz.f38, h1, h2, h3, ov0, ov1, fa49_0, fa49_1, fa49_2, s_varFalse ia28, s_varFalse ia2, s_varFalse ia9, s_lenStr ud9, hn]
end Go.Proofs

namespace Go.Proofs
open Go.Sx
structure CmdV where
  (kind call saga ef0 ef1 ef2 : Int) (key : List UInt8) (delta move : Int) (rf rt : List UInt8) (group : Int) (name : List UInt8) (retries deadline : Int) (steps : AV)
  (ie0 ie1 ie2 imove : Int) (iin : Bool) (igroup res : Int) (data : List UInt8)
def CmdV.cells (c : CmdV) : List AV :=
  [.int .i64 c.kind, .int .i64 c.call, .int .i64 c.saga, .int .i64 c.ef0, .int .i64 c.ef1, .int .i64 c.ef2, .str c.key, .int .i64 c.delta, .int .i64 c.move, .str c.rf, .str c.rt, .int .i64 c.group,
   .str c.name, .int .i64 c.retries, .int .i64 c.deadline, c.steps, .int .i64 c.ie0, .int .i64 c.ie1, .int .i64 c.ie2, .int .i64 c.imove, .bool c.iin, .int .i64 c.igroup, .int .i64 c.res, .str c.data]
/-- a slice of nothing -/
def NilS (v : AV) : Prop := v = .nilslice ∨ ∃ b o s c, v = .odd b o s c
theorem NilS.one {v : AV} (h : NilS v) : oneCell v = true := by rcases h with rfl | ⟨b, o, s, c, rfl⟩ <;> rfl
theorem NilS.lt {v : AV} (h : NilS v) (n : Nat) : ltV n v := by rcases h with rfl | ⟨b, o, s, c, rfl⟩ <;> trivial
theorem NilS.len {v : AV} (h : NilS v) {G : Tab} {t e : TypeId} (hu : G.und t = some (.slice e)) (H : Heap) : lenA G H t v = some (.int .i64 0) := by
  rcases h with rfl | ⟨b, o, s, c, rfl⟩
  · exact s_lenNil hu H
  · unfold lenA; rw [hu]; rfl
/-- the steps of a definition, and their keys -/
def StepsAt (H : Heap) (v : AV) (ks : List (List UInt8)) : Prop :=
  (NilS v ∧ ks = []) ∨ ∃ b c z, v = .slice b 0 ks.length false c ∧ H.blks.get b = some (.big 95 (2 * ks.length) z) ∧ z.length = 2 * ks.length ∧ ∀ i k, ks[i]? = some k → z[2 * i]? = some (.str k)
theorem StepsAt.one {H : Heap} {v : AV} {ks : List (List UInt8)} (h : StepsAt H v ks) : oneCell v = true := by
  rcases h with ⟨h, _⟩ | ⟨b, c, z, rfl, _⟩
  · exact h.one
  · rfl
theorem StepsAt.len {H : Heap} {v : AV} {ks : List (List UInt8)} (h : StepsAt H v ks) (H' : Heap) : lenA Tryz.tab H' 38 v = some (.int .i64 (ks.length : Int)) := by
  rcases h with ⟨h, rfl⟩ | ⟨b, c, z, rfl, _⟩
  · exact h.len ud38 H'
  · exact s_lenSlice ud38 H' ..
theorem StepsAt.grow {H H' : Heap} {v : AV} {ks : List (List UInt8)} (h : StepsAt H v ks) (hN : Neat H) (hg : Grows H H') : StepsAt H' v ks := by
  rcases h with h | ⟨b, c, z, h1, h2, h3⟩
  · exact .inl h
  · exact .inr ⟨b, c, z, h1, by rw [hg.get b (hN b _ h2)]; exact h2, h3⟩
theorem StepsAt.key {H : Heap} {v : AV} {ks : List (List UInt8)} (h : StepsAt H v ks) {i : Nat} {k : List UInt8} (hk : ks[i]? = some k) :
    ∃ b o, indexAddrA Tryz.tab 38 v (.int .i64 (i : Int)) = some (.ptr b o) ∧ cellIn (H.blks.get b) o = some (.str k) := by
  have hi : i < ks.length := (List.getElem?_eq_some_iff.1 hk).1
  rcases h with ⟨_, rfl⟩ | ⟨b, c, z, rfl, h2, h3, h4⟩
  · simp at hk
  · refine ⟨b, 0 + i * 2, ?_, ?_⟩
    · rw [s_indexSlice ud38 sz95, if_pos ⟨by omega, by omega⟩]; rfl
    · rw [h2, s_bigIn, if_pos (by omega), h3, Nat.mod_eq_of_lt (by omega), ← h4 i k hk]
      congr 1; omega
def headB (c : CmdV) (n : Nat) : Bool := (10 < (n : Int) : Bool) || ((40 < (c.name.length : Int) : Bool) || ((40 < (c.key.length : Int) : Bool) || ((40 < (c.rf.length : Int) : Bool) || ((40 < (c.rt.length : Int) : Bool) || (200 < (c.data.length : Int) : Bool)))))
def smallB (c : CmdV) (ks : List (List UInt8)) : Bool := !headB c ks.length && ks.all fun k => !(40 < (k.length : Int) : Bool)
set_option maxRecDepth 100000
theorem small_run (c : CmdV) (ks : List (List UInt8)) (H : Heap) (hs : StepsAt H c.steps ks) (hN : Neat H) : CallTo Tryz.prog Tryz.tab 22 [.agg c.cells] H [(.bool (smallB c ks), H)] := by
  refine callTo_of Tryz.tabOk Tryz.func22 rfl rfl ?_
  show Gets Tryz.prog Tryz.tab ⟨none, 59⟩ _ _ _
  have hone := hs.one
  have hlen := hs.len
  have hg : Grows H (H.push (.cells 44 true c.cells)) := .push _ _
  have hc : c.cells = [.int .i64 c.kind, .int .i64 c.call, .int .i64 c.saga, .int .i64 c.ef0, .int .i64 c.ef1, .int .i64 c.ef2, .str c.key, .int .i64 c.delta, .int .i64 c.move, .str c.rf, .str c.rt, .int .i64 c.group,
   .str c.name, .int .i64 c.retries, .int .i64 c.deadline, c.steps, .int .i64 c.ie0, .int .i64 c.ie1, .int .i64 c.ie2, .int .i64 c.imove, .bool c.iin, .int .i64 c.igroup, .int .i64 c.res, .str c.data] := rfl
  have hall : allOne c.cells = true := by rw [hc]; simp (disch := decide) only [sxL, hone]
  have hat : (H.push (.cells 44 true c.cells)).blks.get H.next = some (.cells 44 true c.cells) := s_push_same _ _
  have hnx : (H.push (.cells 44 true c.cells)).next = H.next + 1 := rfl
  generalize hH1 : H.push (.cells 44 true c.cells) = H1 at hg hat hnx
  repeat refine Gets.seq ?_
  refine Gets.last Tryz.tabOk (ov := noOv) (noOv_ok) 8 (s' := ?sn1) ?hn1 ?kn1; (case hn1 => (simp -implicitDefEqProofs (disch := first | (simp only [ne_eq, Nat.reduceEqDiff, not_false_eq_true, Nat.reduceLT]; done) | assumption | (simp only [s_push_next, s_put_next, Nat.beq_refl]; done) | ((try simp only [s_push_next, s_put_next]) <;> omega) | exact s_one_map _ | exact s_one_slice _ _ _ _ _ | (refine (id ?_ : plainDraw _ = true); kernel_rfl) | fail) only [sxL, s_castN, s_cells_one, noOv, callFn, kindOf, kindC, kindB, unA, boxA, loadPtr, nilCheckA, fst1, ofValue, ofScalar, len, intBin, ibin, boolO, guardA, cCond, condV, cRet, cExit, cSkip, resOut, resultA, extractA, tupleO, Nat.reduceEqDiff, Nat.reduceAdd, Nat.reduceSub, Nat.reduceLT, Nat.reduceBEq, reduceCtorEq, Nat.reduceMod, Nat.reduceLeDiff, Int.reduceLT, Int.reduceAdd, Int.reduceEq, Int.reduceToNat, s_draw, hall, hH1] <;> rfl)); (try (change Gets _ _ _ _ _ _; repeat refine Gets.seq ?_))
  refine Gets.midA (H := H1) (I := fun tm => tm.get 1 = some (.ptr H.next 0) ∧ tm.get 41 = some (.bool (headB c ks.length))) ?_ ?_
  · by_cases h1 : 10 < (ks.length : Int)
    · refine Gets.last Tryz.tabOk (ov := noOv) (noOv_ok) 8 (s' := ?sn2) ?hn2 ?kn2; (case hn2 => (simp -implicitDefEqProofs (disch := first | (simp only [ne_eq, Nat.reduceEqDiff, not_false_eq_true, Nat.reduceLT]; done) | assumption | (simp only [s_push_next, s_put_next, Nat.beq_refl]; done) | ((try simp only [s_push_next, s_put_next]) <;> omega) | exact s_one_map _ | exact s_one_slice _ _ _ _ _ | (refine (id ?_ : plainDraw _ = true); kernel_rfl) | fail) only [sxL, s_castN, s_cells_one, noOv, callFn, kindOf, kindC, kindB, unA, boxA, loadPtr, nilCheckA, fst1, ofValue, ofScalar, len, intBin, ibin, boolO, guardA, cCond, condV, cRet, cExit, cSkip, resOut, resultA, extractA, tupleO, Nat.reduceEqDiff, Nat.reduceAdd, Nat.reduceSub, Nat.reduceLT, Nat.reduceBEq, reduceCtorEq, Nat.reduceMod, Nat.reduceLeDiff, Int.reduceLT, Int.reduceAdd, Int.reduceEq, Int.reduceToNat, s_draw, fa44_9, fa40_3, fa40_0, fa44_4, fa44_7, fa37_0, fa37_1, fa44_12, hat, hc, s_varFalse ia38, s_varFalse ia9, s_lenStr ud9, hlen, h1] <;> rfl)); (try (change Gets _ _ _ _ _ _; repeat refine Gets.seq ?_))
      refine ⟨rfl, _, rfl, ?_, ?_⟩
      · simp (disch := decide) only [sxL]
      · simp only [headB, h1]
        simp (disch := decide) only [sxL]
    · by_cases h2 : 40 < (c.name.length : Int)
      · refine Gets.last Tryz.tabOk (ov := noOv) (noOv_ok) 8 (s' := ?sn3) ?hn3 ?kn3; (case hn3 => (simp -implicitDefEqProofs (disch := first | (simp only [ne_eq, Nat.reduceEqDiff, not_false_eq_true, Nat.reduceLT]; done) | assumption | (simp only [s_push_next, s_put_next, Nat.beq_refl]; done) | ((try simp only [s_push_next, s_put_next]) <;> omega) | exact s_one_map _ | exact s_one_slice _ _ _ _ _ | (refine (id ?_ : plainDraw _ = true); kernel_rfl) | fail) only [sxL, s_castN, s_cells_one, noOv, callFn, kindOf, kindC, kindB, unA, boxA, loadPtr, nilCheckA, fst1, ofValue, ofScalar, len, intBin, ibin, boolO, guardA, cCond, condV, cRet, cExit, cSkip, resOut, resultA, extractA, tupleO, Nat.reduceEqDiff, Nat.reduceAdd, Nat.reduceSub, Nat.reduceLT, Nat.reduceBEq, reduceCtorEq, Nat.reduceMod, Nat.reduceLeDiff, Int.reduceLT, Int.reduceAdd, Int.reduceEq, Int.reduceToNat, s_draw, fa44_9, fa40_3, fa40_0, fa44_4, fa44_7, fa37_0, fa37_1, fa44_12, hat, hc, s_varFalse ia38, s_varFalse ia9, s_lenStr ud9, hlen, h1, h2] <;> rfl)); (try (change Gets _ _ _ _ _ _; repeat refine Gets.seq ?_))
        refine ⟨rfl, _, rfl, ?_, ?_⟩
        · simp (disch := decide) only [sxL]
        · simp only [headB, h1, h2]
          simp (disch := decide) only [sxL]
      · by_cases h3 : 40 < (c.key.length : Int)
        · refine Gets.last Tryz.tabOk (ov := noOv) (noOv_ok) 8 (s' := ?sn4) ?hn4 ?kn4; (case hn4 => (simp -implicitDefEqProofs (disch := first | (simp only [ne_eq, Nat.reduceEqDiff, not_false_eq_true, Nat.reduceLT]; done) | assumption | (simp only [s_push_next, s_put_next, Nat.beq_refl]; done) | ((try simp only [s_push_next, s_put_next]) <;> omega) | exact s_one_map _ | exact s_one_slice _ _ _ _ _ | (refine (id ?_ : plainDraw _ = true); kernel_rfl) | fail) only [sxL, s_castN, s_cells_one, noOv, callFn, kindOf, kindC, kindB, unA, boxA, loadPtr, nilCheckA, fst1, ofValue, ofScalar, len, intBin, ibin, boolO, guardA, cCond, condV, cRet, cExit, cSkip, resOut, resultA, extractA, tupleO, Nat.reduceEqDiff, Nat.reduceAdd, Nat.reduceSub, Nat.reduceLT, Nat.reduceBEq, reduceCtorEq, Nat.reduceMod, Nat.reduceLeDiff, Int.reduceLT, Int.reduceAdd, Int.reduceEq, Int.reduceToNat, s_draw, fa44_9, fa40_3, fa40_0, fa44_4, fa44_7, fa37_0, fa37_1, fa44_12, hat, hc, s_varFalse ia38, s_varFalse ia9, s_lenStr ud9, hlen, h1, h2, h3] <;> rfl)); (try (change Gets _ _ _ _ _ _; repeat refine Gets.seq ?_))
          refine ⟨rfl, _, rfl, ?_, ?_⟩
          · simp (disch := decide) only [sxL]
          · simp only [headB, h1, h2, h3]
            simp (disch := decide) only [sxL]
        · by_cases h4 : 40 < (c.rf.length : Int)
          · refine Gets.last Tryz.tabOk (ov := noOv) (noOv_ok) 8 (s' := ?sn5) ?hn5 ?kn5; (case hn5 => (simp -implicitDefEqProofs (disch := first | (simp only [ne_eq, Nat.reduceEqDiff, not_false_eq_true, Nat.reduceLT]; done) | assumption | (simp only [s_push_next, s_put_next, Nat.beq_refl]; done) | ((try simp only [s_push_next, s_put_next]) <;> omega) | exact s_one_map _ | exact s_one_slice _ _ _ _ _ | (refine (id ?_ : plainDraw _ = true); kernel_rfl) | fail) only [sxL, s_castN, s_cells_one, noOv, callFn, kindOf, kindC, kindB, unA, boxA, loadPtr, nilCheckA, fst1, ofValue, ofScalar, len, intBin, ibin, boolO, guardA, cCond, condV, cRet, cExit, cSkip, resOut, resultA, extractA, tupleO, Nat.reduceEqDiff, Nat.reduceAdd, Nat.reduceSub, Nat.reduceLT, Nat.reduceBEq, reduceCtorEq, Nat.reduceMod, Nat.reduceLeDiff, Int.reduceLT, Int.reduceAdd, Int.reduceEq, Int.reduceToNat, s_draw, fa44_9, fa40_3, fa40_0, fa44_4, fa44_7, fa37_0, fa37_1, fa44_12, hat, hc, s_varFalse ia38, s_varFalse ia9, s_lenStr ud9, hlen, h1, h2, h3, h4] <;> rfl)); (try (change Gets _ _ _ _ _ _; repeat refine Gets.seq ?_))
            refine ⟨rfl, _, rfl, ?_, ?_⟩
            · simp (disch := decide) only [sxL]
            · simp only [headB, h1, h2, h3, h4]
              simp (disch := decide) only [sxL]
          · by_cases h5 : 40 < (c.rt.length : Int)
            · refine Gets.last Tryz.tabOk (ov := noOv) (noOv_ok) 8 (s' := ?sn6) ?hn6 ?kn6; (case hn6 => (simp -implicitDefEqProofs (disch := first | (simp only [ne_eq, Nat.reduceEqDiff, not_false_eq_true, Nat.reduceLT]; done) | assumption | (simp only [s_push_next, s_put_next, Nat.beq_refl]; done) | ((try simp only [s_push_next, s_put_next]) <;> omega) | exact s_one_map _ | exact s_one_slice _ _ _ _ _ | (refine (id ?_ : plainDraw _ = true); kernel_rfl) | fail) only [sxL, s_castN, s_cells_one, noOv, callFn, kindOf, kindC, kindB, unA, boxA, loadPtr, nilCheckA, fst1, ofValue, ofScalar, len, intBin, ibin, boolO, guardA, cCond, condV, cRet, cExit, cSkip, resOut, resultA, extractA, tupleO, Nat.reduceEqDiff, Nat.reduceAdd, Nat.reduceSub, Nat.reduceLT, Nat.reduceBEq, reduceCtorEq, Nat.reduceMod, Nat.reduceLeDiff, Int.reduceLT, Int.reduceAdd, Int.reduceEq, Int.reduceToNat, s_draw, fa44_9, fa40_3, fa40_0, fa44_4, fa44_7, fa37_0, fa37_1, fa44_12, hat, hc, s_varFalse ia38, s_varFalse ia9, s_lenStr ud9, hlen, h1, h2, h3, h4, h5] <;> rfl)); (try (change Gets _ _ _ _ _ _; repeat refine Gets.seq ?_))
              refine ⟨rfl, _, rfl, ?_, ?_⟩
              · simp (disch := decide) only [sxL]
              · simp only [headB, h1, h2, h3, h4, h5]
                simp (disch := decide) only [sxL]
            · by_cases h6 : 200 < (c.data.length : Int)
              · refine Gets.last Tryz.tabOk (ov := noOv) (noOv_ok) 8 (s' := ?sn7) ?hn7 ?kn7; (case hn7 => (simp -implicitDefEqProofs (disch := first | (simp only [ne_eq, Nat.reduceEqDiff, not_false_eq_true, Nat.reduceLT]; done) | assumption | (simp only [s_push_next, s_put_next, Nat.beq_refl]; done) | ((try simp only [s_push_next, s_put_next]) <;> omega) | exact s_one_map _ | exact s_one_slice _ _ _ _ _ | (refine (id ?_ : plainDraw _ = true); kernel_rfl) | fail) only [sxL, s_castN, s_cells_one, noOv, callFn, kindOf, kindC, kindB, unA, boxA, loadPtr, nilCheckA, fst1, ofValue, ofScalar, len, intBin, ibin, boolO, guardA, cCond, condV, cRet, cExit, cSkip, resOut, resultA, extractA, tupleO, Nat.reduceEqDiff, Nat.reduceAdd, Nat.reduceSub, Nat.reduceLT, Nat.reduceBEq, reduceCtorEq, Nat.reduceMod, Nat.reduceLeDiff, Int.reduceLT, Int.reduceAdd, Int.reduceEq, Int.reduceToNat, s_draw, fa44_9, fa40_3, fa40_0, fa44_4, fa44_7, fa37_0, fa37_1, fa44_12, hat, hc, s_varFalse ia38, s_varFalse ia9, s_lenStr ud9, hlen, h1, h2, h3, h4, h5, h6] <;> rfl)); (try (change Gets _ _ _ _ _ _; repeat refine Gets.seq ?_))
                refine ⟨rfl, _, rfl, ?_, ?_⟩
                · simp (disch := decide) only [sxL]
                · simp only [headB, h1, h2, h3, h4, h5, h6]
                  simp (disch := decide) only [sxL]
              · refine Gets.last Tryz.tabOk (ov := noOv) (noOv_ok) 8 (s' := ?sn8) ?hn8 ?kn8; (case hn8 => (simp -implicitDefEqProofs (disch := first | (simp only [ne_eq, Nat.reduceEqDiff, not_false_eq_true, Nat.reduceLT]; done) | assumption | (simp only [s_push_next, s_put_next, Nat.beq_refl]; done) | ((try simp only [s_push_next, s_put_next]) <;> omega) | exact s_one_map _ | exact s_one_slice _ _ _ _ _ | (refine (id ?_ : plainDraw _ = true); kernel_rfl) | fail) only [sxL, s_castN, s_cells_one, noOv, callFn, kindOf, kindC, kindB, unA, boxA, loadPtr, nilCheckA, fst1, ofValue, ofScalar, len, intBin, ibin, boolO, guardA, cCond, condV, cRet, cExit, cSkip, resOut, resultA, extractA, tupleO, Nat.reduceEqDiff, Nat.reduceAdd, Nat.reduceSub, Nat.reduceLT, Nat.reduceBEq, reduceCtorEq, Nat.reduceMod, Nat.reduceLeDiff, Int.reduceLT, Int.reduceAdd, Int.reduceEq, Int.reduceToNat, s_draw, fa44_9, fa40_3, fa40_0, fa44_4, fa44_7, fa37_0, fa37_1, fa44_12, hat, hc, s_varFalse ia38, s_varFalse ia9, s_lenStr ud9, hlen, h1, h2, h3, h4, h5, h6] <;> rfl)); (try (change Gets _ _ _ _ _ _; repeat refine Gets.seq ?_))
                refine ⟨rfl, _, rfl, ?_, ?_⟩
                · simp (disch := decide) only [sxL]
                · simp only [headB, h1, h2, h3, h4, h5, h6]
                  simp (disch := decide) only [sxL]
  rintro tm ⟨i1, i41⟩
  change Gets _ _ _ _ _ _
  cases hB : headB c ks.length
  · have hst := hs.grow hN hg
    have hn10 : ks.length ≤ 10 := by
      have : ¬ (10 < (ks.length : Int)) := by simp only [headB, Bool.or_eq_false_iff, decide_eq_false_iff_not] at hB; exact hB.1
      omega
    refine Gets.condF (by simp (disch := decide) only [sxL, i41, hB]) (Gets.skip Tryz.tabOk ?_)
    change Gets _ _ _ _ _ _
    repeat refine Gets.seq ?_
    refine Gets.last Tryz.tabOk (ov := noOv) (noOv_ok) 8 (s' := ?sn9) ?hn9 ?kn9; (case hn9 => (simp -implicitDefEqProofs (disch := first | (simp only [ne_eq, Nat.reduceEqDiff, not_false_eq_true, Nat.reduceLT]; done) | assumption | (simp only [s_push_next, s_put_next, Nat.beq_refl]; done) | ((try simp only [s_push_next, s_put_next]) <;> omega) | exact s_one_map _ | exact s_one_slice _ _ _ _ _ | (refine (id ?_ : plainDraw _ = true); kernel_rfl) | fail) only [sxL, s_castN, s_cells_one, noOv, callFn, kindOf, kindC, kindB, unA, boxA, loadPtr, nilCheckA, fst1, ofValue, ofScalar, len, intBin, ibin, boolO, guardA, cCond, condV, cRet, cExit, cSkip, resOut, resultA, extractA, tupleO, Nat.reduceEqDiff, Nat.reduceAdd, Nat.reduceSub, Nat.reduceLT, Nat.reduceBEq, reduceCtorEq, Nat.reduceMod, Nat.reduceLeDiff, Int.reduceLT, Int.reduceAdd, Int.reduceEq, Int.reduceToNat, s_draw] <;> rfl)); (try (change Gets _ _ _ _ _ _; repeat refine Gets.seq ?_))
    refine Gets.upto ks.length (fun i tm => tm.get 1 = some (.ptr H.next 0) ∧ tm.get 3 = some (.int .i64 (i : Int)) ∧ ∀ j k, j < i → ks[j]? = some k → ¬ 40 < (k.length : Int)) ⟨by simp (disch := decide) only [sxL, i1], by simp (disch := decide) only [sxL], fun j k hj => absurd hj (Nat.not_lt_zero _)⟩ ?_
    rintro i tm hi ⟨i1, i3, hk⟩
    repeat refine Gets.seq ?_
    by_cases hlt : (i : Int) < (ks.length : Int)
    · obtain ⟨k, hki⟩ : ∃ k, ks[i]? = some k := ⟨_, List.getElem?_eq_getElem (by omega)⟩
      obtain ⟨b, o, hx, hl⟩ := hst.key hki
      refine Gets.last Tryz.tabOk (ov := noOv) (noOv_ok) 8 (s' := ?sn10) ?hn10 ?kn10; (case hn10 => (simp -implicitDefEqProofs (disch := first | (simp only [ne_eq, Nat.reduceEqDiff, not_false_eq_true, Nat.reduceLT]; done) | assumption | (simp only [s_push_next, s_put_next, Nat.beq_refl]; done) | ((try simp only [s_push_next, s_put_next]) <;> omega) | exact s_one_map _ | exact s_one_slice _ _ _ _ _ | (refine (id ?_ : plainDraw _ = true); kernel_rfl) | fail) only [sxL, s_castN, s_cells_one, noOv, callFn, kindOf, kindC, kindB, unA, boxA, loadPtr, nilCheckA, fst1, ofValue, ofScalar, len, intBin, ibin, boolO, guardA, cCond, condV, cRet, cExit, cSkip, resOut, resultA, extractA, tupleO, Nat.reduceEqDiff, Nat.reduceAdd, Nat.reduceSub, Nat.reduceLT, Nat.reduceBEq, reduceCtorEq, Nat.reduceMod, Nat.reduceLeDiff, Int.reduceLT, Int.reduceAdd, Int.reduceEq, Int.reduceToNat, s_draw, i1, i3, fa44_9, fa40_3, hat, hc, s_varFalse ia38, hlen, hlt] <;> rfl)); (try (change Gets _ _ _ _ _ _; repeat refine Gets.seq ?_))
      refine Gets.condT (by simp (disch := decide) only [sxL]) (Gets.skip Tryz.tabOk ?_)
      change Gets _ _ _ _ _ _
      refine Gets.seq (Gets.blk (Gets.seq ?_))
      refine Gets.last Tryz.tabOk (ov := noOv) (noOv_ok) 8 (s' := ?sn11) ?hn11 ?kn11; (case hn11 => (simp -implicitDefEqProofs (disch := first | (simp only [ne_eq, Nat.reduceEqDiff, not_false_eq_true, Nat.reduceLT]; done) | assumption | (simp only [s_push_next, s_put_next, Nat.beq_refl]; done) | ((try simp only [s_push_next, s_put_next]) <;> omega) | exact s_one_map _ | exact s_one_slice _ _ _ _ _ | (refine (id ?_ : plainDraw _ = true); kernel_rfl) | fail) only [sxL, s_castN, s_cells_one, noOv, callFn, kindOf, kindC, kindB, unA, boxA, loadPtr, nilCheckA, fst1, ofValue, ofScalar, len, intBin, ibin, boolO, guardA, cCond, condV, cRet, cExit, cSkip, resOut, resultA, extractA, tupleO, Nat.reduceEqDiff, Nat.reduceAdd, Nat.reduceSub, Nat.reduceLT, Nat.reduceBEq, reduceCtorEq, Nat.reduceMod, Nat.reduceLeDiff, Int.reduceLT, Int.reduceAdd, Int.reduceEq, Int.reduceToNat, s_draw, i1, i3, fa44_9, fa40_3, hat, hc, s_varFalse ia38, s_varFalse ia9, s_lenStr ud9, hlen, hx, hl, fa95_0] <;> rfl)); (try (change Gets _ _ _ _ _ _; repeat refine Gets.seq ?_))
      by_cases hlong : 40 < (k.length : Int)
      · have : smallB c ks = false := by
          simp only [smallB, Bool.and_eq_false_iff, List.all_eq_false]
          exact .inr ⟨k, List.mem_of_getElem? hki, by simp [hlong]⟩
        rw [this]
        refine Gets.condT (by simp (disch := decide) only [sxL, hlong]) (Gets.seq ?_)
        refine Gets.last Tryz.tabOk (ov := noOv) (noOv_ok) 8 (s' := ?sn12) ?hn12 ?kn12; (case hn12 => (simp -implicitDefEqProofs (disch := first | (simp only [ne_eq, Nat.reduceEqDiff, not_false_eq_true, Nat.reduceLT]; done) | assumption | (simp only [s_push_next, s_put_next, Nat.beq_refl]; done) | ((try simp only [s_push_next, s_put_next]) <;> omega) | exact s_one_map _ | exact s_one_slice _ _ _ _ _ | (refine (id ?_ : plainDraw _ = true); kernel_rfl) | fail) only [sxL, s_castN, s_cells_one, noOv, callFn, kindOf, kindC, kindB, unA, boxA, loadPtr, nilCheckA, fst1, ofValue, ofScalar, len, intBin, ibin, boolO, guardA, cCond, condV, cRet, cExit, cSkip, resOut, resultA, extractA, tupleO, Nat.reduceEqDiff, Nat.reduceAdd, Nat.reduceSub, Nat.reduceLT, Nat.reduceBEq, reduceCtorEq, Nat.reduceMod, Nat.reduceLeDiff, Int.reduceLT, Int.reduceAdd, Int.reduceEq, Int.reduceToNat, s_draw] <;> rfl)); (try (change Gets _ _ _ _ _ _; repeat refine Gets.seq ?_))
        refine Gets.ret Tryz.tabOk ?_
        exact fin_pure rfl (by simp (disch := decide) only [sxL, Tryz.f22, resultA]) hg hN trivial
      · refine Gets.condF (by simp (disch := decide) only [sxL, hlong]) (Gets.skip Tryz.tabOk ?_)
        change Gets _ _ _ _ _ _
        have hw : awrap .i64 ((i : Int) + 1) = (i : Int) + 1 := s_wrap (by omega) (by omega)
        refine Gets.last Tryz.tabOk (ov := noOv) (noOv_ok) 8 (s' := ?sn13) ?hn13 ?kn13; (case hn13 => (simp -implicitDefEqProofs (disch := first | (simp only [ne_eq, Nat.reduceEqDiff, not_false_eq_true, Nat.reduceLT]; done) | assumption | (simp only [s_push_next, s_put_next, Nat.beq_refl]; done) | ((try simp only [s_push_next, s_put_next]) <;> omega) | exact s_one_map _ | exact s_one_slice _ _ _ _ _ | (refine (id ?_ : plainDraw _ = true); kernel_rfl) | fail) only [sxL, s_castN, s_cells_one, noOv, callFn, kindOf, kindC, kindB, unA, boxA, loadPtr, nilCheckA, fst1, ofValue, ofScalar, len, intBin, ibin, boolO, guardA, cCond, condV, cRet, cExit, cSkip, resOut, resultA, extractA, tupleO, Nat.reduceEqDiff, Nat.reduceAdd, Nat.reduceSub, Nat.reduceLT, Nat.reduceBEq, reduceCtorEq, Nat.reduceMod, Nat.reduceLeDiff, Int.reduceLT, Int.reduceAdd, Int.reduceEq, Int.reduceToNat, s_draw, i3, hw] <;> rfl)); (try (change Gets _ _ _ _ _ _; repeat refine Gets.seq ?_))
        refine ⟨_, rfl, by omega, ?_, ?_, fun j k' hj hk' => ?_⟩
        · simp (disch := decide) only [sxL, i1]
        · simp (disch := decide) only [sxL, s_castS]
        · rcases Nat.lt_succ_iff_lt_or_eq.1 hj with hj | rfl
          · exact hk j k' hj hk'
          · rw [hki] at hk'; cases hk'; exact hlong
    · refine Gets.last Tryz.tabOk (ov := noOv) (noOv_ok) 8 (s' := ?sn14) ?hn14 ?kn14; (case hn14 => (simp -implicitDefEqProofs (disch := first | (simp only [ne_eq, Nat.reduceEqDiff, not_false_eq_true, Nat.reduceLT]; done) | assumption | (simp only [s_push_next, s_put_next, Nat.beq_refl]; done) | ((try simp only [s_push_next, s_put_next]) <;> omega) | exact s_one_map _ | exact s_one_slice _ _ _ _ _ | (refine (id ?_ : plainDraw _ = true); kernel_rfl) | fail) only [sxL, s_castN, s_cells_one, noOv, callFn, kindOf, kindC, kindB, unA, boxA, loadPtr, nilCheckA, fst1, ofValue, ofScalar, len, intBin, ibin, boolO, guardA, cCond, condV, cRet, cExit, cSkip, resOut, resultA, extractA, tupleO, Nat.reduceEqDiff, Nat.reduceAdd, Nat.reduceSub, Nat.reduceLT, Nat.reduceBEq, reduceCtorEq, Nat.reduceMod, Nat.reduceLeDiff, Int.reduceLT, Int.reduceAdd, Int.reduceEq, Int.reduceToNat, s_draw, i1, i3, fa44_9, fa40_3, hat, hc, s_varFalse ia38, hlen, hlt] <;> rfl)); (try (change Gets _ _ _ _ _ _; repeat refine Gets.seq ?_))
      refine Gets.condF (by simp (disch := decide) only [sxL]) (Gets.exit Tryz.tabOk ?_)
      have : smallB c ks = true := by
        simp only [smallB, hB, Bool.not_false, Bool.true_and, List.all_eq_true]
        intro k hk'
        obtain ⟨j, hj, rfl⟩ := List.mem_iff_getElem.1 hk'
        have := hk j ks[j] (by omega) (List.getElem?_eq_getElem hj)
        simpa using this
      rw [this]
      refine inBlk_exit ?_
      change Gets _ _ _ _ _ _
      refine Gets.seq ?_
      refine Gets.last Tryz.tabOk (ov := noOv) (noOv_ok) 8 (s' := ?sn15) ?hn15 ?kn15; (case hn15 => (simp -implicitDefEqProofs (disch := first | (simp only [ne_eq, Nat.reduceEqDiff, not_false_eq_true, Nat.reduceLT]; done) | assumption | (simp only [s_push_next, s_put_next, Nat.beq_refl]; done) | ((try simp only [s_push_next, s_put_next]) <;> omega) | exact s_one_map _ | exact s_one_slice _ _ _ _ _ | (refine (id ?_ : plainDraw _ = true); kernel_rfl) | fail) only [sxL, s_castN, s_cells_one, noOv, callFn, kindOf, kindC, kindB, unA, boxA, loadPtr, nilCheckA, fst1, ofValue, ofScalar, len, intBin, ibin, boolO, guardA, cCond, condV, cRet, cExit, cSkip, resOut, resultA, extractA, tupleO, Nat.reduceEqDiff, Nat.reduceAdd, Nat.reduceSub, Nat.reduceLT, Nat.reduceBEq, reduceCtorEq, Nat.reduceMod, Nat.reduceLeDiff, Int.reduceLT, Int.reduceAdd, Int.reduceEq, Int.reduceToNat, s_draw] <;> rfl)); (try (change Gets _ _ _ _ _ _; repeat refine Gets.seq ?_))
      refine Gets.ret Tryz.tabOk ?_
      exact fin_pure rfl (by simp (disch := decide) only [sxL, Tryz.f22, resultA]) hg hN trivial
  · have : smallB c ks = false := by simp [smallB, hB]
    rw [this]
    refine Gets.condT (by simp (disch := decide) only [sxL, i41, hB]) (Gets.seq ?_)
    refine Gets.last Tryz.tabOk (ov := noOv) (noOv_ok) 8 (s' := ?sn16) ?hn16 ?kn16; (case hn16 => (simp -implicitDefEqProofs (disch := first | (simp only [ne_eq, Nat.reduceEqDiff, not_false_eq_true, Nat.reduceLT]; done) | assumption | (simp only [s_push_next, s_put_next, Nat.beq_refl]; done) | ((try simp only [s_push_next, s_put_next]) <;> omega) | exact s_one_map _ | exact s_one_slice _ _ _ _ _ | (refine (id ?_ : plainDraw _ = true); kernel_rfl) | fail) only [sxL, s_castN, s_cells_one, noOv, callFn, kindOf, kindC, kindB, unA, boxA, loadPtr, nilCheckA, fst1, ofValue, ofScalar, len, intBin, ibin, boolO, guardA, cCond, condV, cRet, cExit, cSkip, resOut, resultA, extractA, tupleO, Nat.reduceEqDiff, Nat.reduceAdd, Nat.reduceSub, Nat.reduceLT, Nat.reduceBEq, reduceCtorEq, Nat.reduceMod, Nat.reduceLeDiff, Int.reduceLT, Int.reduceAdd, Int.reduceEq, Int.reduceToNat, s_draw] <;> rfl)); (try (change Gets _ _ _ _ _ _; repeat refine Gets.seq ?_))
    refine Gets.ret Tryz.tabOk ?_
    exact fin_pure rfl (by simp (disch := decide) only [sxL, Tryz.f22, resultA]) hg hN trivial
end Go.Proofs

namespace Go.Sx
theorem big_at {e : TypeId} {n : Nat} {z : List AV} (hz : z.length = n) (off : Nat) : cellIn (some (.big e n z)) off = z[off]? := by
  rw [s_bigIn]
  by_cases h : off < n
  · rw [if_pos h, hz, Nat.mod_eq_of_lt h]
  · rw [if_neg h, List.getElem?_eq_none (by omega)]
theorem bigCells_eq {e : TypeId} {n : Nat} {z : List AV} (hz : z.length = n) : ∀ {l : List AV} {off : Nat}, (∀ j v, l[j]? = some v → z[off + j]? = some v) → bigCells n z off l.length = some l
  | [], _, _ => rfl
  | v :: l, off, h => by
    show consOO (bigAt n z off) (bigCells n z (off + 1) l.length) = _
    have h0 : bigAt n z off = some v := by
      have := big_at (e := e) hz off
      have e0 : cellIn (some (.big e n z)) off = bigAt n z off := rfl
      rw [← e0, this]; exact h 0 v rfl
    rw [h0, bigCells_eq (e := e) hz (l := l) (off := off + 1) fun j w hj => by rw [Nat.add_assoc, Nat.add_comm 1 j]; exact h (j + 1) w hj]
    rfl
theorem flat_at {α : Type} {f : α → List AV} {k : Nat} (hf : ∀ a, (f a).length = k) : ∀ {l : List α} {i : Nat} {a : α} {j : Nat}, l[i]? = some a → j < k → (l.flatMap f)[i * k + j]? = (f a)[j]?
  | [], i, a, j, h, _ => by simp at h
  | x :: l, 0, a, j, h, hj => by
    simp only [List.getElem?_cons_zero, Option.some.injEq] at h; subst h
    rw [List.flatMap_cons, Nat.zero_mul, Nat.zero_add, List.getElem?_append_left (by rw [hf]; exact hj)]
  | x :: l, i + 1, a, j, h, hj => by
    rw [List.getElem?_cons_succ] at h
    rw [List.flatMap_cons, List.getElem?_append_right (by rw [hf, Nat.succ_mul]; omega), hf, ← flat_at hf h hj]
    congr 1; rw [Nat.succ_mul]; omega
theorem flat_len {α : Type} {f : α → List AV} {k : Nat} (hf : ∀ a, (f a).length = k) : ∀ l : List α, (l.flatMap f).length = l.length * k
  | [] => by simp
  | x :: l => by rw [List.flatMap_cons, List.length_append, hf, flat_len hf l, List.length_cons, Nat.succ_mul, Nat.add_comm]
/-- a slice of equal rows -/
def RowsAt {α : Type} (e k : Nat) (f : α → List AV) (H : Heap) (v : AV) (l : List α) : Prop :=
  (Go.Proofs.NilS v ∧ l = []) ∨ ∃ b c, v = .slice b 0 l.length false c ∧ H.blks.get b = some (.big e (l.length * k) (l.flatMap f))
theorem RowsAt.grow {α : Type} {e k : Nat} {f : α → List AV} {H H' : Heap} {v : AV} {l : List α} (h : RowsAt e k f H v l) (hN : Neat H) (hg : Grows H H') : RowsAt e k f H' v l := by
  rcases h with h | ⟨b, c, h1, h2⟩
  · exact .inl h
  · exact .inr ⟨b, c, h1, by rw [hg.get b (hN b _ h2)]; exact h2⟩
theorem RowsAt.one {α : Type} {e k : Nat} {f : α → List AV} {H : Heap} {v : AV} {l : List α} (h : RowsAt e k f H v l) : oneCell v = true := by
  rcases h with ⟨h, _⟩ | ⟨b, c, rfl, _⟩
  · exact h.one
  · rfl
theorem RowsAt.len {α : Type} {G : Tab} {t e k : Nat} {f : α → List AV} {H : Heap} {v : AV} {l : List α} (h : RowsAt e k f H v l) (hu : G.und t = some (.slice e)) (H' : Heap) : lenA G H' t v = some (.int .i64 (l.length : Int)) := by
  rcases h with ⟨h, rfl⟩ | ⟨b, c, rfl, _⟩
  · exact h.len hu H'
  · exact s_lenSlice hu H' ..
theorem RowsAt.row {α : Type} {G : Tab} {t e k : Nat} {f : α → List AV} {H : Heap} {v : AV} {l : List α} (h : RowsAt e k f H v l) (hu : G.und t = some (.slice e)) (hz : G.size e = some k) (hf : ∀ a, (f a).length = k)
    {i : Nat} {a : α} (ha : l[i]? = some a) : ∃ b, indexAddrA G t v (.int .i64 (i : Int)) = some (.ptr b (i * k)) ∧ (∀ j, j < k → cellIn (H.blks.get b) (i * k + j) = (f a)[j]?) ∧
      ∀ j r, j + r ≤ k → cellsIn (H.blks.get b) (i * k + j) r = some (((f a).drop j).take r) := by
  have hi : i < l.length := (List.getElem?_eq_some_iff.1 ha).1
  rcases h with ⟨_, rfl⟩ | ⟨b, c, rfl, hb⟩
  · simp at ha
  · have hlen := flat_len hf l
    refine ⟨b, ?_, fun j hj => ?_, fun j r hj => ?_⟩
    · rw [s_indexSlice hu hz, if_pos ⟨by omega, by omega⟩]; simp
    · rw [hb, big_at hlen, flat_at hf ha hj]
    · rw [hb]
      show bigCells (l.length * k) (l.flatMap f) (i * k + j) r = _
      have hl : (((f a).drop j).take r).length = r := by rw [List.length_take, List.length_drop, hf]; omega
      have := bigCells_eq (e := e) hlen (l := ((f a).drop j).take r) (off := i * k + j) fun q w hq => by
        rw [List.getElem?_take] at hq
        split at hq
        · rw [List.getElem?_drop] at hq
          rw [Nat.add_assoc, flat_at hf ha (by omega)]; exact hq
        · simp at hq
      rwa [hl] at this
end Go.Sx
namespace Go.Proofs
open Go.Sx
structure EvV where
  (call : Int) (reply : Bool) (cmd : CmdV) (keys : List (List UInt8)) (err num : Int) (data : List UInt8)
def EvV.cells (e : EvV) : List AV := .int .i64 e.call :: .bool e.reply :: (e.cmd.cells ++ [.int .i64 e.err, .int .i64 e.num, .str e.data])
theorem EvV.len (e : EvV) : e.cells.length = 29 := rfl
def EvsAt (H : Heap) (v : AV) (l : List EvV) : Prop := RowsAt 51 29 EvV.cells H v l ∧ ∀ e ∈ l, StepsAt H e.cmd.steps e.keys
theorem EvsAt.grow {H H' : Heap} {v : AV} {l : List EvV} (h : EvsAt H v l) (hN : Neat H) (hg : Grows H H') : EvsAt H' v l := ⟨h.1.grow hN hg, fun e he => (h.2 e he).grow hN hg⟩
def shortB (l : List EvV) (most : Int) : Bool := !(most < (l.length : Int) : Bool) && l.all fun e => smallB e.cmd e.keys && !(200 < (e.data.length : Int) : Bool)
set_option maxRecDepth 100000
theorem short_run (l : List EvV) (most : Int) (hm : most ≤ 1000) (v : AV) (H : Heap) (hv : EvsAt H v l) (hN : Neat H) : CallTo Tryz.prog Tryz.tab 6 [v, .int .i64 most] H [(.bool (shortB l most), H)] := by
  refine callTo_of Tryz.tabOk Tryz.func6 rfl rfl ?_
  show Gets Tryz.prog Tryz.tab ⟨none, 33⟩ _ _ _
  have hlen := hv.1.len ud23
  repeat refine Gets.seq ?_
  refine Gets.last Tryz.tabOk (ov := noOv) (noOv_ok) 8 (s' := ?sn1) ?hn1 ?kn1; (case hn1 => (simp -implicitDefEqProofs (disch := first | (simp only [ne_eq, Nat.reduceEqDiff, not_false_eq_true, Nat.reduceLT]; done) | assumption | (simp only [s_push_next, s_put_next, Nat.beq_refl]; done) | ((try simp only [s_push_next, s_put_next]) <;> omega) | exact s_one_map _ | exact s_one_slice _ _ _ _ _ | (refine (id ?_ : plainDraw _ = true); kernel_rfl) | fail) only [sxL, s_castN, s_cells_one, noOv, callFn, kindOf, kindC, kindB, unA, boxA, loadPtr, nilCheckA, fst1, ofValue, ofScalar, len, intBin, ibin, boolO, guardA, cCond, condV, cRet, cExit, cSkip, resOut, resultA, extractA, tupleO, Nat.reduceEqDiff, Nat.reduceAdd, Nat.reduceSub, Nat.reduceLT, Nat.reduceBEq, reduceCtorEq, Nat.reduceMod, Nat.reduceLeDiff, Int.reduceLT, Int.reduceAdd, Int.reduceEq, Int.reduceToNat, s_draw] <;> rfl)); (try (change Gets _ _ _ _ _ _; repeat refine Gets.seq ?_))
  refine Gets.last Tryz.tabOk (ov := noOv) (noOv_ok) 8 (s' := ?sn2) ?hn2 ?kn2; (case hn2 => (simp -implicitDefEqProofs (disch := first | (simp only [ne_eq, Nat.reduceEqDiff, not_false_eq_true, Nat.reduceLT]; done) | assumption | (simp only [s_push_next, s_put_next, Nat.beq_refl]; done) | ((try simp only [s_push_next, s_put_next]) <;> omega) | exact s_one_map _ | exact s_one_slice _ _ _ _ _ | (refine (id ?_ : plainDraw _ = true); kernel_rfl) | fail) only [sxL, s_castN, s_cells_one, noOv, callFn, kindOf, kindC, kindB, unA, boxA, loadPtr, nilCheckA, fst1, ofValue, ofScalar, len, intBin, ibin, boolO, guardA, cCond, condV, cRet, cExit, cSkip, resOut, resultA, extractA, tupleO, Nat.reduceEqDiff, Nat.reduceAdd, Nat.reduceSub, Nat.reduceLT, Nat.reduceBEq, reduceCtorEq, Nat.reduceMod, Nat.reduceLeDiff, Int.reduceLT, Int.reduceAdd, Int.reduceEq, Int.reduceToNat, s_draw, hlen] <;> rfl)); (try (change Gets _ _ _ _ _ _; repeat refine Gets.seq ?_))
  by_cases h0 : most < (l.length : Int)
  · have : shortB l most = false := by simp [shortB, h0]
    rw [this]
    refine Gets.condT (by simp (disch := decide) only [sxL, h0]) (Gets.seq ?_)
    refine Gets.last Tryz.tabOk (ov := noOv) (noOv_ok) 8 (s' := ?sn3) ?hn3 ?kn3; (case hn3 => (simp -implicitDefEqProofs (disch := first | (simp only [ne_eq, Nat.reduceEqDiff, not_false_eq_true, Nat.reduceLT]; done) | assumption | (simp only [s_push_next, s_put_next, Nat.beq_refl]; done) | ((try simp only [s_push_next, s_put_next]) <;> omega) | exact s_one_map _ | exact s_one_slice _ _ _ _ _ | (refine (id ?_ : plainDraw _ = true); kernel_rfl) | fail) only [sxL, s_castN, s_cells_one, noOv, callFn, kindOf, kindC, kindB, unA, boxA, loadPtr, nilCheckA, fst1, ofValue, ofScalar, len, intBin, ibin, boolO, guardA, cCond, condV, cRet, cExit, cSkip, resOut, resultA, extractA, tupleO, Nat.reduceEqDiff, Nat.reduceAdd, Nat.reduceSub, Nat.reduceLT, Nat.reduceBEq, reduceCtorEq, Nat.reduceMod, Nat.reduceLeDiff, Int.reduceLT, Int.reduceAdd, Int.reduceEq, Int.reduceToNat, s_draw] <;> rfl)); (try (change Gets _ _ _ _ _ _; repeat refine Gets.seq ?_))
    refine Gets.ret Tryz.tabOk ?_
    exact fin_pure rfl (by simp (disch := decide) only [sxL, Tryz.f6, resultA]) (.refl _) hN trivial
  refine Gets.condF (by simp (disch := decide) only [sxL, h0]) (Gets.skip Tryz.tabOk ?_)
  change Gets _ _ _ _ _ _
  repeat refine Gets.seq ?_
  refine Gets.last Tryz.tabOk (ov := noOv) (noOv_ok) 8 (s' := ?sn4) ?hn4 ?kn4; (case hn4 => (simp -implicitDefEqProofs (disch := first | (simp only [ne_eq, Nat.reduceEqDiff, not_false_eq_true, Nat.reduceLT]; done) | assumption | (simp only [s_push_next, s_put_next, Nat.beq_refl]; done) | ((try simp only [s_push_next, s_put_next]) <;> omega) | exact s_one_map _ | exact s_one_slice _ _ _ _ _ | (refine (id ?_ : plainDraw _ = true); kernel_rfl) | fail) only [sxL, s_castN, s_cells_one, noOv, callFn, kindOf, kindC, kindB, unA, boxA, loadPtr, nilCheckA, fst1, ofValue, ofScalar, len, intBin, ibin, boolO, guardA, cCond, condV, cRet, cExit, cSkip, resOut, resultA, extractA, tupleO, Nat.reduceEqDiff, Nat.reduceAdd, Nat.reduceSub, Nat.reduceLT, Nat.reduceBEq, reduceCtorEq, Nat.reduceMod, Nat.reduceLeDiff, Int.reduceLT, Int.reduceAdd, Int.reduceEq, Int.reduceToNat, s_draw] <;> rfl)); (try (change Gets _ _ _ _ _ _; repeat refine Gets.seq ?_))
  refine Gets.upto l.length (fun i tm => tm.get 0 = some v ∧ tm.get 5 = some (.int .i64 (i : Int)) ∧ ∀ j e, j < i → l[j]? = some e → (smallB e.cmd e.keys && !(200 < (e.data.length : Int) : Bool)) = true) ⟨by simp (disch := decide) only [sxL], by simp (disch := decide) only [sxL], fun j k hj => absurd hj (Nat.not_lt_zero _)⟩ ?_
  rintro i tm hi ⟨i0, i5, hk⟩
  repeat refine Gets.seq ?_
  by_cases hlt : (i : Int) < (l.length : Int)
  · obtain ⟨e, hki⟩ : ∃ k, l[i]? = some k := ⟨_, List.getElem?_eq_getElem (by omega)⟩
    obtain ⟨b, hx, hc1, hc2⟩ := hv.1.row ud23 sz51 EvV.len hki
    have hc := hc2 2 24 (by omega)
    have hc' : ((e.cells.drop 2).take 24) = e.cmd.cells := rfl
    rw [hc'] at hc
    have hd : cellIn (H.blks.get b) (i * 29 + 26 + 2) = some (.str e.data) := hc1 28 (by omega)
    have hs := small_run e.cmd e.keys H (hv.2 e (List.mem_of_getElem? hki)) hN
    refine Gets.last Tryz.tabOk (ov := noOv) (noOv_ok) 8 (s' := ?sn5) ?hn5 ?kn5; (case hn5 => (simp -implicitDefEqProofs (disch := first | (simp only [ne_eq, Nat.reduceEqDiff, not_false_eq_true, Nat.reduceLT]; done) | assumption | (simp only [s_push_next, s_put_next, Nat.beq_refl]; done) | ((try simp only [s_push_next, s_put_next]) <;> omega) | exact s_one_map _ | exact s_one_slice _ _ _ _ _ | (refine (id ?_ : plainDraw _ = true); kernel_rfl) | fail) only [sxL, s_castN, s_cells_one, noOv, callFn, kindOf, kindC, kindB, unA, boxA, loadPtr, nilCheckA, fst1, ofValue, ofScalar, len, intBin, ibin, boolO, guardA, cCond, condV, cRet, cExit, cSkip, resOut, resultA, extractA, tupleO, Nat.reduceEqDiff, Nat.reduceAdd, Nat.reduceSub, Nat.reduceLT, Nat.reduceBEq, reduceCtorEq, Nat.reduceMod, Nat.reduceLeDiff, Int.reduceLT, Int.reduceAdd, Int.reduceEq, Int.reduceToNat, s_draw, i0, i5, hlen, hlt] <;> rfl)); (try (change Gets _ _ _ _ _ _; repeat refine Gets.seq ?_))
    refine Gets.condT (by simp (disch := decide) only [sxL]) (Gets.skip Tryz.tabOk ?_)
    change Gets _ _ _ _ _ _
    refine Gets.seq (Gets.blk (Gets.seq ?_))
    refine Gets.midA (H := H) (I := fun tm' => tm'.get 0 = some v ∧ tm'.get 5 = some (.int .i64 (i : Int)) ∧ tm'.get 32 = some (.bool (!(smallB e.cmd e.keys && !(200 < (e.data.length : Int) : Bool))))) ?_ ?_
    · cases hsm : smallB e.cmd e.keys
      · rw [hsm] at hs
        refine Gets.last Tryz.tabOk (ov := ptO noOv 22 [.agg e.cmd.cells] H [(.bool false, H)]) (ptO_ok noOv_ok hs) 8 (s' := ?sn6) ?hn6 ?kn6; (case hn6 => (simp -implicitDefEqProofs (disch := first | (simp only [ne_eq, Nat.reduceEqDiff, not_false_eq_true, Nat.reduceLT]; done) | assumption | (simp only [s_push_next, s_put_next, Nat.beq_refl]; done) | ((try simp only [s_push_next, s_put_next]) <;> omega) | exact s_one_map _ | exact s_one_slice _ _ _ _ _ | (refine (id ?_ : plainDraw _ = true); kernel_rfl) | fail) only [sxL, s_castN, s_cells_one, noOv, callFn, kindOf, kindC, kindB, unA, boxA, loadPtr, nilCheckA, fst1, ofValue, ofScalar, len, intBin, ibin, boolO, guardA, cCond, condV, cRet, cExit, cSkip, resOut, resultA, extractA, tupleO, Nat.reduceEqDiff, Nat.reduceAdd, Nat.reduceSub, Nat.reduceLT, Nat.reduceBEq, reduceCtorEq, Nat.reduceMod, Nat.reduceLeDiff, Int.reduceLT, Int.reduceAdd, Int.reduceEq, Int.reduceToNat, s_draw, i0, i5, hx, fa51_2, fa51_3, fa49_2, s_varTrue ia44 sz44, s_varFalse ia9, hc, hd, s_lenStr ud9] <;> rfl)); (try (change Gets _ _ _ _ _ _; repeat refine Gets.seq ?_))
        refine ⟨rfl, _, rfl, ?_, ?_, ?_⟩
        · simp (disch := decide) only [sxL, i0]
        · simp (disch := decide) only [sxL, i5]
        · simp (disch := decide) only [sxL]
      · rw [hsm] at hs
        refine Gets.last Tryz.tabOk (ov := ptO noOv 22 [.agg e.cmd.cells] H [(.bool true, H)]) (ptO_ok noOv_ok hs) 8 (s' := ?sn7) ?hn7 ?kn7; (case hn7 => (simp -implicitDefEqProofs (disch := first | (simp only [ne_eq, Nat.reduceEqDiff, not_false_eq_true, Nat.reduceLT]; done) | assumption | (simp only [s_push_next, s_put_next, Nat.beq_refl]; done) | ((try simp only [s_push_next, s_put_next]) <;> omega) | exact s_one_map _ | exact s_one_slice _ _ _ _ _ | (refine (id ?_ : plainDraw _ = true); kernel_rfl) | fail) only [sxL, s_castN, s_cells_one, noOv, callFn, kindOf, kindC, kindB, unA, boxA, loadPtr, nilCheckA, fst1, ofValue, ofScalar, len, intBin, ibin, boolO, guardA, cCond, condV, cRet, cExit, cSkip, resOut, resultA, extractA, tupleO, Nat.reduceEqDiff, Nat.reduceAdd, Nat.reduceSub, Nat.reduceLT, Nat.reduceBEq, reduceCtorEq, Nat.reduceMod, Nat.reduceLeDiff, Int.reduceLT, Int.reduceAdd, Int.reduceEq, Int.reduceToNat, s_draw, i0, i5, hx, fa51_2, fa51_3, fa49_2, s_varTrue ia44 sz44, s_varFalse ia9, hc, hd, s_lenStr ud9] <;> rfl)); (try (change Gets _ _ _ _ _ _; repeat refine Gets.seq ?_))
        refine ⟨rfl, _, rfl, ?_, ?_, ?_⟩
        · simp (disch := decide) only [sxL, i0]
        · simp (disch := decide) only [sxL, i5]
        · simp (disch := decide) only [sxL]
    rintro tm' ⟨j0, j5, j32⟩
    change Gets _ _ _ _ _ _
    cases hok : smallB e.cmd e.keys && !(200 < (e.data.length : Int) : Bool)
    · have : shortB l most = false := by
        simp only [shortB, Bool.and_eq_false_iff, List.all_eq_false]
        exact .inr ⟨e, List.mem_of_getElem? hki, by simp [hok]⟩
      rw [this]
      refine Gets.condT (by simp (disch := decide) only [sxL, j32, hok]) (Gets.seq ?_)
      refine Gets.last Tryz.tabOk (ov := noOv) (noOv_ok) 8 (s' := ?sn8) ?hn8 ?kn8; (case hn8 => (simp -implicitDefEqProofs (disch := first | (simp only [ne_eq, Nat.reduceEqDiff, not_false_eq_true, Nat.reduceLT]; done) | assumption | (simp only [s_push_next, s_put_next, Nat.beq_refl]; done) | ((try simp only [s_push_next, s_put_next]) <;> omega) | exact s_one_map _ | exact s_one_slice _ _ _ _ _ | (refine (id ?_ : plainDraw _ = true); kernel_rfl) | fail) only [sxL, s_castN, s_cells_one, noOv, callFn, kindOf, kindC, kindB, unA, boxA, loadPtr, nilCheckA, fst1, ofValue, ofScalar, len, intBin, ibin, boolO, guardA, cCond, condV, cRet, cExit, cSkip, resOut, resultA, extractA, tupleO, Nat.reduceEqDiff, Nat.reduceAdd, Nat.reduceSub, Nat.reduceLT, Nat.reduceBEq, reduceCtorEq, Nat.reduceMod, Nat.reduceLeDiff, Int.reduceLT, Int.reduceAdd, Int.reduceEq, Int.reduceToNat, s_draw] <;> rfl)); (try (change Gets _ _ _ _ _ _; repeat refine Gets.seq ?_))
      refine Gets.ret Tryz.tabOk ?_
      exact fin_pure rfl (by simp (disch := decide) only [sxL, Tryz.f6, resultA]) (.refl _) hN trivial
    · refine Gets.condF (by simp (disch := decide) only [sxL, j32, hok]) (Gets.skip Tryz.tabOk ?_)
      change Gets _ _ _ _ _ _
      have hw : awrap .i64 ((i : Int) + 1) = (i : Int) + 1 := s_wrap (by omega) (by omega)
      refine Gets.last Tryz.tabOk (ov := noOv) (noOv_ok) 8 (s' := ?sn9) ?hn9 ?kn9; (case hn9 => (simp -implicitDefEqProofs (disch := first | (simp only [ne_eq, Nat.reduceEqDiff, not_false_eq_true, Nat.reduceLT]; done) | assumption | (simp only [s_push_next, s_put_next, Nat.beq_refl]; done) | ((try simp only [s_push_next, s_put_next]) <;> omega) | exact s_one_map _ | exact s_one_slice _ _ _ _ _ | (refine (id ?_ : plainDraw _ = true); kernel_rfl) | fail) only [sxL, s_castN, s_cells_one, noOv, callFn, kindOf, kindC, kindB, unA, boxA, loadPtr, nilCheckA, fst1, ofValue, ofScalar, len, intBin, ibin, boolO, guardA, cCond, condV, cRet, cExit, cSkip, resOut, resultA, extractA, tupleO, Nat.reduceEqDiff, Nat.reduceAdd, Nat.reduceSub, Nat.reduceLT, Nat.reduceBEq, reduceCtorEq, Nat.reduceMod, Nat.reduceLeDiff, Int.reduceLT, Int.reduceAdd, Int.reduceEq, Int.reduceToNat, s_draw, j5, hw] <;> rfl)); (try (change Gets _ _ _ _ _ _; repeat refine Gets.seq ?_))
      refine ⟨_, rfl, by omega, ?_, ?_, fun j e' hj he' => ?_⟩
      · simp (disch := decide) only [sxL, j0]
      · simp (disch := decide) only [sxL, s_castS]
      · rcases Nat.lt_succ_iff_lt_or_eq.1 hj with hj | rfl
        · exact hk j e' hj he'
        · rw [hki] at he'; cases he'; exact hok
  · refine Gets.last Tryz.tabOk (ov := noOv) (noOv_ok) 8 (s' := ?sn10) ?hn10 ?kn10; (case hn10 => (simp -implicitDefEqProofs (disch := first | (simp only [ne_eq, Nat.reduceEqDiff, not_false_eq_true, Nat.reduceLT]; done) | assumption | (simp only [s_push_next, s_put_next, Nat.beq_refl]; done) | ((try simp only [s_push_next, s_put_next]) <;> omega) | exact s_one_map _ | exact s_one_slice _ _ _ _ _ | (refine (id ?_ : plainDraw _ = true); kernel_rfl) | fail) only [sxL, s_castN, s_cells_one, noOv, callFn, kindOf, kindC, kindB, unA, boxA, loadPtr, nilCheckA, fst1, ofValue, ofScalar, len, intBin, ibin, boolO, guardA, cCond, condV, cRet, cExit, cSkip, resOut, resultA, extractA, tupleO, Nat.reduceEqDiff, Nat.reduceAdd, Nat.reduceSub, Nat.reduceLT, Nat.reduceBEq, reduceCtorEq, Nat.reduceMod, Nat.reduceLeDiff, Int.reduceLT, Int.reduceAdd, Int.reduceEq, Int.reduceToNat, s_draw, i0, i5, hlen, hlt] <;> rfl)); (try (change Gets _ _ _ _ _ _; repeat refine Gets.seq ?_))
    refine Gets.condF (by simp (disch := decide) only [sxL]) (Gets.exit Tryz.tabOk ?_)
    have : shortB l most = true := by
      simp only [shortB, h0, decide_false, Bool.not_false, Bool.true_and, List.all_eq_true]
      intro e he
      obtain ⟨j, hj, rfl⟩ := List.mem_iff_getElem.1 he
      exact hk j l[j] (by omega) (List.getElem?_eq_getElem hj)
    rw [this]
    refine inBlk_exit ?_
    change Gets _ _ _ _ _ _
    refine Gets.seq ?_
    refine Gets.last Tryz.tabOk (ov := noOv) (noOv_ok) 8 (s' := ?sn11) ?hn11 ?kn11; (case hn11 => (simp -implicitDefEqProofs (disch := first | (simp only [ne_eq, Nat.reduceEqDiff, not_false_eq_true, Nat.reduceLT]; done) | assumption | (simp only [s_push_next, s_put_next, Nat.beq_refl]; done) | ((try simp only [s_push_next, s_put_next]) <;> omega) | exact s_one_map _ | exact s_one_slice _ _ _ _ _ | (refine (id ?_ : plainDraw _ = true); kernel_rfl) | fail) only [sxL, s_castN, s_cells_one, noOv, callFn, kindOf, kindC, kindB, unA, boxA, loadPtr, nilCheckA, fst1, ofValue, ofScalar, len, intBin, ibin, boolO, guardA, cCond, condV, cRet, cExit, cSkip, resOut, resultA, extractA, tupleO, Nat.reduceEqDiff, Nat.reduceAdd, Nat.reduceSub, Nat.reduceLT, Nat.reduceBEq, reduceCtorEq, Nat.reduceMod, Nat.reduceLeDiff, Int.reduceLT, Int.reduceAdd, Int.reduceEq, Int.reduceToNat, s_draw] <;> rfl)); (try (change Gets _ _ _ _ _ _; repeat refine Gets.seq ?_))
    refine Gets.ret Tryz.tabOk ?_
    exact fin_pure rfl (by simp (disch := decide) only [sxL, Tryz.f6, resultA]) (.refl _) hN trivial
end Go.Proofs

namespace Go.Proofs
open Go.Sx
structure CmdK where
  (cmd : CmdV) (keys : List (List UInt8))
def CmdK.cells (c : CmdK) : List AV := c.cmd.cells
theorem CmdK.len (c : CmdK) : c.cells.length = 24 := rfl
/-- a log: the slice that it is, and its commands -/
structure LogV where
  (v : AV) (l : List CmdK)
def LogV.cells (x : LogV) : List AV := [x.v]
theorem LogV.len (x : LogV) : x.cells.length = 1 := rfl
def LogAt (H : Heap) (x : LogV) : Prop := RowsAt 44 24 CmdK.cells H x.v x.l ∧ ∀ c ∈ x.l, StepsAt H c.cmd.steps c.keys
theorem LogAt.grow {H H' : Heap} {x : LogV} (h : LogAt H x) (hN : Neat H) (hg : Grows H H') : LogAt H' x := ⟨h.1.grow hN hg, fun c hc => (h.2 c hc).grow hN hg⟩
def LogsAt (H : Heap) (v : AV) (l : List LogV) : Prop := RowsAt 33 1 LogV.cells H v l ∧ ∀ x ∈ l, LogAt H x
theorem LogsAt.grow {H H' : Heap} {v : AV} {l : List LogV} (h : LogsAt H v l) (hN : Neat H) (hg : Grows H H') : LogsAt H' v l := ⟨h.1.grow hN hg, fun x hx => (h.2 x hx).grow hN hg⟩
def fewB (l : List LogV) : Bool := !(10 < (l.length : Int) : Bool) && l.all fun x => !(40 < (x.l.length : Int) : Bool) && x.l.all fun c => smallB c.cmd c.keys
set_option maxRecDepth 100000
theorem few_run (l : List LogV) (v : AV) (H : Heap) (hv : LogsAt H v l) (hN : Neat H) : CallTo Tryz.prog Tryz.tab 7 [v] H [(.bool (fewB l), H)] := by
  refine callTo_of Tryz.tabOk Tryz.func7 rfl rfl ?_
  show Gets Tryz.prog Tryz.tab ⟨none, 38⟩ _ _ _
  have hlen := hv.1.len ud22
  repeat refine Gets.seq ?_
  refine Gets.last Tryz.tabOk (ov := noOv) (noOv_ok) 8 (s' := ?sn1) ?hn1 ?kn1; (case hn1 => (simp -implicitDefEqProofs (disch := first | (simp only [ne_eq, Nat.reduceEqDiff, not_false_eq_true, Nat.reduceLT]; done) | assumption | (simp only [s_push_next, s_put_next, Nat.beq_refl]; done) | ((try simp only [s_push_next, s_put_next]) <;> omega) | exact s_one_map _ | exact s_one_slice _ _ _ _ _ | (refine (id ?_ : plainDraw _ = true); kernel_rfl) | fail) only [sxL, s_castN, s_cells_one, noOv, callFn, kindOf, kindC, kindB, unA, boxA, loadPtr, nilCheckA, fst1, ofValue, ofScalar, len, intBin, ibin, boolO, guardA, cCond, condV, cRet, cExit, cSkip, resOut, resultA, extractA, tupleO, Nat.reduceEqDiff, Nat.reduceAdd, Nat.reduceSub, Nat.reduceLT, Nat.reduceBEq, reduceCtorEq, Nat.reduceMod, Nat.reduceLeDiff, Int.reduceLT, Int.reduceAdd, Int.reduceEq, Int.reduceToNat, s_draw] <;> rfl)); (try (change Gets _ _ _ _ _ _; repeat refine Gets.seq ?_))
  refine Gets.last Tryz.tabOk (ov := noOv) (noOv_ok) 8 (s' := ?sn2) ?hn2 ?kn2; (case hn2 => (simp -implicitDefEqProofs (disch := first | (simp only [ne_eq, Nat.reduceEqDiff, not_false_eq_true, Nat.reduceLT]; done) | assumption | (simp only [s_push_next, s_put_next, Nat.beq_refl]; done) | ((try simp only [s_push_next, s_put_next]) <;> omega) | exact s_one_map _ | exact s_one_slice _ _ _ _ _ | (refine (id ?_ : plainDraw _ = true); kernel_rfl) | fail) only [sxL, s_castN, s_cells_one, noOv, callFn, kindOf, kindC, kindB, unA, boxA, loadPtr, nilCheckA, fst1, ofValue, ofScalar, len, intBin, ibin, boolO, guardA, cCond, condV, cRet, cExit, cSkip, resOut, resultA, extractA, tupleO, Nat.reduceEqDiff, Nat.reduceAdd, Nat.reduceSub, Nat.reduceLT, Nat.reduceBEq, reduceCtorEq, Nat.reduceMod, Nat.reduceLeDiff, Int.reduceLT, Int.reduceAdd, Int.reduceEq, Int.reduceToNat, s_draw, hlen] <;> rfl)); (try (change Gets _ _ _ _ _ _; repeat refine Gets.seq ?_))
  by_cases h0 : 10 < (l.length : Int)
  · have : fewB l = false := by simp [fewB, h0]
    rw [this]
    refine Gets.condT (by simp (disch := decide) only [sxL, h0]) (Gets.seq ?_)
    refine Gets.last Tryz.tabOk (ov := noOv) (noOv_ok) 8 (s' := ?sn3) ?hn3 ?kn3; (case hn3 => (simp -implicitDefEqProofs (disch := first | (simp only [ne_eq, Nat.reduceEqDiff, not_false_eq_true, Nat.reduceLT]; done) | assumption | (simp only [s_push_next, s_put_next, Nat.beq_refl]; done) | ((try simp only [s_push_next, s_put_next]) <;> omega) | exact s_one_map _ | exact s_one_slice _ _ _ _ _ | (refine (id ?_ : plainDraw _ = true); kernel_rfl) | fail) only [sxL, s_castN, s_cells_one, noOv, callFn, kindOf, kindC, kindB, unA, boxA, loadPtr, nilCheckA, fst1, ofValue, ofScalar, len, intBin, ibin, boolO, guardA, cCond, condV, cRet, cExit, cSkip, resOut, resultA, extractA, tupleO, Nat.reduceEqDiff, Nat.reduceAdd, Nat.reduceSub, Nat.reduceLT, Nat.reduceBEq, reduceCtorEq, Nat.reduceMod, Nat.reduceLeDiff, Int.reduceLT, Int.reduceAdd, Int.reduceEq, Int.reduceToNat, s_draw] <;> rfl)); (try (change Gets _ _ _ _ _ _; repeat refine Gets.seq ?_))
    refine Gets.ret Tryz.tabOk ?_
    exact fin_pure rfl (by simp (disch := decide) only [sxL, Tryz.f7, resultA]) (.refl _) hN trivial
  refine Gets.condF (by simp (disch := decide) only [sxL, h0]) (Gets.skip Tryz.tabOk ?_)
  change Gets _ _ _ _ _ _
  repeat refine Gets.seq ?_
  refine Gets.last Tryz.tabOk (ov := noOv) (noOv_ok) 8 (s' := ?sn4) ?hn4 ?kn4; (case hn4 => (simp -implicitDefEqProofs (disch := first | (simp only [ne_eq, Nat.reduceEqDiff, not_false_eq_true, Nat.reduceLT]; done) | assumption | (simp only [s_push_next, s_put_next, Nat.beq_refl]; done) | ((try simp only [s_push_next, s_put_next]) <;> omega) | exact s_one_map _ | exact s_one_slice _ _ _ _ _ | (refine (id ?_ : plainDraw _ = true); kernel_rfl) | fail) only [sxL, s_castN, s_cells_one, noOv, callFn, kindOf, kindC, kindB, unA, boxA, loadPtr, nilCheckA, fst1, ofValue, ofScalar, len, intBin, ibin, boolO, guardA, cCond, condV, cRet, cExit, cSkip, resOut, resultA, extractA, tupleO, Nat.reduceEqDiff, Nat.reduceAdd, Nat.reduceSub, Nat.reduceLT, Nat.reduceBEq, reduceCtorEq, Nat.reduceMod, Nat.reduceLeDiff, Int.reduceLT, Int.reduceAdd, Int.reduceEq, Int.reduceToNat, s_draw] <;> rfl)); (try (change Gets _ _ _ _ _ _; repeat refine Gets.seq ?_))
  refine Gets.upto l.length (fun i tm => tm.get 0 = some v ∧ tm.get 3 = some (.int .i64 (i : Int)) ∧ ∀ j x, j < i → l[j]? = some x → (!(40 < (x.l.length : Int) : Bool) && x.l.all fun c => smallB c.cmd c.keys) = true) ⟨by simp (disch := decide) only [sxL], by simp (disch := decide) only [sxL], fun j k hj => absurd hj (Nat.not_lt_zero _)⟩ ?_
  rintro i tm hi ⟨i0, i3, hk⟩
  repeat refine Gets.seq ?_
  by_cases hlt : (i : Int) < (l.length : Int)
  · obtain ⟨x, hki⟩ : ∃ k, l[i]? = some k := ⟨_, List.getElem?_eq_getElem (by omega)⟩
    obtain ⟨b, hx, hc1, _⟩ := hv.1.row ud22 sz33 LogV.len hki
    have hc : cellIn (H.blks.get b) (i * 1) = some x.v := hc1 0 (by omega)
    have hX := hv.2 x (List.mem_of_getElem? hki)
    have hlx := hX.1.len ud33
    refine Gets.last Tryz.tabOk (ov := noOv) (noOv_ok) 8 (s' := ?sn5) ?hn5 ?kn5; (case hn5 => (simp -implicitDefEqProofs (disch := first | (simp only [ne_eq, Nat.reduceEqDiff, not_false_eq_true, Nat.reduceLT]; done) | assumption | (simp only [s_push_next, s_put_next, Nat.beq_refl]; done) | ((try simp only [s_push_next, s_put_next]) <;> omega) | exact s_one_map _ | exact s_one_slice _ _ _ _ _ | (refine (id ?_ : plainDraw _ = true); kernel_rfl) | fail) only [sxL, s_castN, s_cells_one, noOv, callFn, kindOf, kindC, kindB, unA, boxA, loadPtr, nilCheckA, fst1, ofValue, ofScalar, len, intBin, ibin, boolO, guardA, cCond, condV, cRet, cExit, cSkip, resOut, resultA, extractA, tupleO, Nat.reduceEqDiff, Nat.reduceAdd, Nat.reduceSub, Nat.reduceLT, Nat.reduceBEq, reduceCtorEq, Nat.reduceMod, Nat.reduceLeDiff, Int.reduceLT, Int.reduceAdd, Int.reduceEq, Int.reduceToNat, s_draw, i0, i3, hlen, hlt] <;> rfl)); (try (change Gets _ _ _ _ _ _; repeat refine Gets.seq ?_))
    refine Gets.condT (by simp (disch := decide) only [sxL]) (Gets.skip Tryz.tabOk ?_)
    change Gets _ _ _ _ _ _
    refine Gets.seq (Gets.blk ?_)
    repeat refine Gets.seq ?_
    refine Gets.last Tryz.tabOk (ov := noOv) (noOv_ok) 8 (s' := ?sn6) ?hn6 ?kn6; (case hn6 => (simp -implicitDefEqProofs (disch := first | (simp only [ne_eq, Nat.reduceEqDiff, not_false_eq_true, Nat.reduceLT]; done) | assumption | (simp only [s_push_next, s_put_next, Nat.beq_refl]; done) | ((try simp only [s_push_next, s_put_next]) <;> omega) | exact s_one_map _ | exact s_one_slice _ _ _ _ _ | (refine (id ?_ : plainDraw _ = true); kernel_rfl) | fail) only [sxL, s_castN, s_cells_one, noOv, callFn, kindOf, kindC, kindB, unA, boxA, loadPtr, nilCheckA, fst1, ofValue, ofScalar, len, intBin, ibin, boolO, guardA, cCond, condV, cRet, cExit, cSkip, resOut, resultA, extractA, tupleO, Nat.reduceEqDiff, Nat.reduceAdd, Nat.reduceSub, Nat.reduceLT, Nat.reduceBEq, reduceCtorEq, Nat.reduceMod, Nat.reduceLeDiff, Int.reduceLT, Int.reduceAdd, Int.reduceEq, Int.reduceToNat, s_draw, i0, i3, hx, s_varFalse ia33, hc, hlx] <;> rfl)); (try (change Gets _ _ _ _ _ _; repeat refine Gets.seq ?_))
    by_cases hl : 40 < (x.l.length : Int)
    · have : fewB l = false := by
        simp only [fewB, Bool.and_eq_false_iff, List.all_eq_false]
        exact .inr ⟨x, List.mem_of_getElem? hki, by simp [hl]⟩
      rw [this]
      refine Gets.condT (by simp (disch := decide) only [sxL, hl]) (Gets.seq ?_)
      refine Gets.last Tryz.tabOk (ov := noOv) (noOv_ok) 8 (s' := ?sn7) ?hn7 ?kn7; (case hn7 => (simp -implicitDefEqProofs (disch := first | (simp only [ne_eq, Nat.reduceEqDiff, not_false_eq_true, Nat.reduceLT]; done) | assumption | (simp only [s_push_next, s_put_next, Nat.beq_refl]; done) | ((try simp only [s_push_next, s_put_next]) <;> omega) | exact s_one_map _ | exact s_one_slice _ _ _ _ _ | (refine (id ?_ : plainDraw _ = true); kernel_rfl) | fail) only [sxL, s_castN, s_cells_one, noOv, callFn, kindOf, kindC, kindB, unA, boxA, loadPtr, nilCheckA, fst1, ofValue, ofScalar, len, intBin, ibin, boolO, guardA, cCond, condV, cRet, cExit, cSkip, resOut, resultA, extractA, tupleO, Nat.reduceEqDiff, Nat.reduceAdd, Nat.reduceSub, Nat.reduceLT, Nat.reduceBEq, reduceCtorEq, Nat.reduceMod, Nat.reduceLeDiff, Int.reduceLT, Int.reduceAdd, Int.reduceEq, Int.reduceToNat, s_draw] <;> rfl)); (try (change Gets _ _ _ _ _ _; repeat refine Gets.seq ?_))
      refine Gets.ret Tryz.tabOk ?_
      exact fin_pure rfl (by simp (disch := decide) only [sxL, Tryz.f7, resultA]) (.refl _) hN trivial
    refine Gets.condF (by simp (disch := decide) only [sxL, hl]) (Gets.skip Tryz.tabOk ?_)
    change Gets _ _ _ _ _ _
    repeat refine Gets.seq ?_
    refine Gets.last Tryz.tabOk (ov := noOv) (noOv_ok) 8 (s' := ?sn8) ?hn8 ?kn8; (case hn8 => (simp -implicitDefEqProofs (disch := first | (simp only [ne_eq, Nat.reduceEqDiff, not_false_eq_true, Nat.reduceLT]; done) | assumption | (simp only [s_push_next, s_put_next, Nat.beq_refl]; done) | ((try simp only [s_push_next, s_put_next]) <;> omega) | exact s_one_map _ | exact s_one_slice _ _ _ _ _ | (refine (id ?_ : plainDraw _ = true); kernel_rfl) | fail) only [sxL, s_castN, s_cells_one, noOv, callFn, kindOf, kindC, kindB, unA, boxA, loadPtr, nilCheckA, fst1, ofValue, ofScalar, len, intBin, ibin, boolO, guardA, cCond, condV, cRet, cExit, cSkip, resOut, resultA, extractA, tupleO, Nat.reduceEqDiff, Nat.reduceAdd, Nat.reduceSub, Nat.reduceLT, Nat.reduceBEq, reduceCtorEq, Nat.reduceMod, Nat.reduceLeDiff, Int.reduceLT, Int.reduceAdd, Int.reduceEq, Int.reduceToNat, s_draw] <;> rfl)); (try (change Gets _ _ _ _ _ _; repeat refine Gets.seq ?_))
    refine Gets.upto x.l.length (fun i' tm => tm.get 0 = some v ∧ tm.get 3 = some (.int .i64 (i : Int)) ∧ tm.get 4 = some (.int .i64 (i' : Int)) ∧ ∀ j c, j < i' → x.l[j]? = some c → smallB c.cmd c.keys = true) ⟨by simp (disch := decide) only [sxL, i0], by simp (disch := decide) only [sxL, i3], by simp (disch := decide) only [sxL], fun j k hj => absurd hj (Nat.not_lt_zero _)⟩ ?_
    rintro i' tm' hi' ⟨j0, j3, j4, hk'⟩
    repeat refine Gets.seq ?_
    by_cases hlt' : (i' : Int) < (x.l.length : Int)
    · obtain ⟨c, hki'⟩ : ∃ k, x.l[i']? = some k := ⟨_, List.getElem?_eq_getElem (by omega)⟩
      obtain ⟨b', hx', _, hc2⟩ := hX.1.row ud33 sz44 CmdK.len hki'
      have hcc : Sx.cellsIn (H.blks.get b') (i' * 24) 24 = some c.cmd.cells := hc2 0 24 (by omega)
      have hs := small_run c.cmd c.keys H (hX.2 c (List.mem_of_getElem? hki')) hN
      refine Gets.last Tryz.tabOk (ov := noOv) (noOv_ok) 8 (s' := ?sn9) ?hn9 ?kn9; (case hn9 => (simp -implicitDefEqProofs (disch := first | (simp only [ne_eq, Nat.reduceEqDiff, not_false_eq_true, Nat.reduceLT]; done) | assumption | (simp only [s_push_next, s_put_next, Nat.beq_refl]; done) | ((try simp only [s_push_next, s_put_next]) <;> omega) | exact s_one_map _ | exact s_one_slice _ _ _ _ _ | (refine (id ?_ : plainDraw _ = true); kernel_rfl) | fail) only [sxL, s_castN, s_cells_one, noOv, callFn, kindOf, kindC, kindB, unA, boxA, loadPtr, nilCheckA, fst1, ofValue, ofScalar, len, intBin, ibin, boolO, guardA, cCond, condV, cRet, cExit, cSkip, resOut, resultA, extractA, tupleO, Nat.reduceEqDiff, Nat.reduceAdd, Nat.reduceSub, Nat.reduceLT, Nat.reduceBEq, reduceCtorEq, Nat.reduceMod, Nat.reduceLeDiff, Int.reduceLT, Int.reduceAdd, Int.reduceEq, Int.reduceToNat, s_draw, j0, j3, j4, hx, s_varFalse ia33, hc, hlx, hlt'] <;> rfl)); (try (change Gets _ _ _ _ _ _; repeat refine Gets.seq ?_))
      refine Gets.condT (by simp (disch := decide) only [sxL]) (Gets.skip Tryz.tabOk ?_)
      change Gets _ _ _ _ _ _
      refine Gets.seq (Gets.blk (Gets.seq ?_))
      refine Gets.last Tryz.tabOk (ov := ptO noOv 22 [.agg c.cmd.cells] H [(.bool (smallB c.cmd c.keys), H)]) (ptO_ok noOv_ok hs) 8 (s' := ?sn10) ?hn10 ?kn10; (case hn10 => (simp -implicitDefEqProofs (disch := first | (simp only [ne_eq, Nat.reduceEqDiff, not_false_eq_true, Nat.reduceLT]; done) | assumption | (simp only [s_push_next, s_put_next, Nat.beq_refl]; done) | ((try simp only [s_push_next, s_put_next]) <;> omega) | exact s_one_map _ | exact s_one_slice _ _ _ _ _ | (refine (id ?_ : plainDraw _ = true); kernel_rfl) | fail) only [sxL, s_castN, s_cells_one, noOv, callFn, kindOf, kindC, kindB, unA, boxA, loadPtr, nilCheckA, fst1, ofValue, ofScalar, len, intBin, ibin, boolO, guardA, cCond, condV, cRet, cExit, cSkip, resOut, resultA, extractA, tupleO, Nat.reduceEqDiff, Nat.reduceAdd, Nat.reduceSub, Nat.reduceLT, Nat.reduceBEq, reduceCtorEq, Nat.reduceMod, Nat.reduceLeDiff, Int.reduceLT, Int.reduceAdd, Int.reduceEq, Int.reduceToNat, s_draw, j0, j3, j4, hx, s_varFalse ia33, hc, hx', s_varTrue ia44 sz44, hcc] <;> rfl)); (try (change Gets _ _ _ _ _ _; repeat refine Gets.seq ?_))
      cases hok : smallB c.cmd c.keys
      · have : fewB l = false := by
          simp only [fewB, Bool.and_eq_false_iff, List.all_eq_false]
          refine .inr ⟨x, List.mem_of_getElem? hki, ?_⟩
          have : (x.l.all fun c => smallB c.cmd c.keys) = false := List.all_eq_false.2 ⟨c, List.mem_of_getElem? hki', by simp [hok]⟩
          simp [this]
        rw [this]
        refine Gets.condT (by simp (disch := decide) only [sxL]) (Gets.seq ?_)
        refine Gets.last Tryz.tabOk (ov := noOv) (noOv_ok) 8 (s' := ?sn11) ?hn11 ?kn11; (case hn11 => (simp -implicitDefEqProofs (disch := first | (simp only [ne_eq, Nat.reduceEqDiff, not_false_eq_true, Nat.reduceLT]; done) | assumption | (simp only [s_push_next, s_put_next, Nat.beq_refl]; done) | ((try simp only [s_push_next, s_put_next]) <;> omega) | exact s_one_map _ | exact s_one_slice _ _ _ _ _ | (refine (id ?_ : plainDraw _ = true); kernel_rfl) | fail) only [sxL, s_castN, s_cells_one, noOv, callFn, kindOf, kindC, kindB, unA, boxA, loadPtr, nilCheckA, fst1, ofValue, ofScalar, len, intBin, ibin, boolO, guardA, cCond, condV, cRet, cExit, cSkip, resOut, resultA, extractA, tupleO, Nat.reduceEqDiff, Nat.reduceAdd, Nat.reduceSub, Nat.reduceLT, Nat.reduceBEq, reduceCtorEq, Nat.reduceMod, Nat.reduceLeDiff, Int.reduceLT, Int.reduceAdd, Int.reduceEq, Int.reduceToNat, s_draw] <;> rfl)); (try (change Gets _ _ _ _ _ _; repeat refine Gets.seq ?_))
        refine Gets.ret Tryz.tabOk ?_
        exact fin_pure rfl (by simp (disch := decide) only [sxL, Tryz.f7, resultA]) (.refl _) hN trivial
      · refine Gets.condF (by simp (disch := decide) only [sxL]) (Gets.skip Tryz.tabOk ?_)
        change Gets _ _ _ _ _ _
        have hw : awrap .i64 ((i' : Int) + 1) = (i' : Int) + 1 := s_wrap (by omega) (by omega)
        refine Gets.last Tryz.tabOk (ov := noOv) (noOv_ok) 8 (s' := ?sn12) ?hn12 ?kn12; (case hn12 => (simp -implicitDefEqProofs (disch := first | (simp only [ne_eq, Nat.reduceEqDiff, not_false_eq_true, Nat.reduceLT]; done) | assumption | (simp only [s_push_next, s_put_next, Nat.beq_refl]; done) | ((try simp only [s_push_next, s_put_next]) <;> omega) | exact s_one_map _ | exact s_one_slice _ _ _ _ _ | (refine (id ?_ : plainDraw _ = true); kernel_rfl) | fail) only [sxL, s_castN, s_cells_one, noOv, callFn, kindOf, kindC, kindB, unA, boxA, loadPtr, nilCheckA, fst1, ofValue, ofScalar, len, intBin, ibin, boolO, guardA, cCond, condV, cRet, cExit, cSkip, resOut, resultA, extractA, tupleO, Nat.reduceEqDiff, Nat.reduceAdd, Nat.reduceSub, Nat.reduceLT, Nat.reduceBEq, reduceCtorEq, Nat.reduceMod, Nat.reduceLeDiff, Int.reduceLT, Int.reduceAdd, Int.reduceEq, Int.reduceToNat, s_draw, j4, hw] <;> rfl)); (try (change Gets _ _ _ _ _ _; repeat refine Gets.seq ?_))
        refine ⟨_, rfl, by omega, ?_, ?_, ?_, fun j c' hj hc' => ?_⟩
        · simp (disch := decide) only [sxL, j0]
        · simp (disch := decide) only [sxL, j3]
        · simp (disch := decide) only [sxL, s_castS]
        · rcases Nat.lt_succ_iff_lt_or_eq.1 hj with hj | rfl
          · exact hk' j c' hj hc'
          · rw [hki'] at hc'; cases hc'; exact hok
    · refine Gets.last Tryz.tabOk (ov := noOv) (noOv_ok) 8 (s' := ?sn13) ?hn13 ?kn13; (case hn13 => (simp -implicitDefEqProofs (disch := first | (simp only [ne_eq, Nat.reduceEqDiff, not_false_eq_true, Nat.reduceLT]; done) | assumption | (simp only [s_push_next, s_put_next, Nat.beq_refl]; done) | ((try simp only [s_push_next, s_put_next]) <;> omega) | exact s_one_map _ | exact s_one_slice _ _ _ _ _ | (refine (id ?_ : plainDraw _ = true); kernel_rfl) | fail) only [sxL, s_castN, s_cells_one, noOv, callFn, kindOf, kindC, kindB, unA, boxA, loadPtr, nilCheckA, fst1, ofValue, ofScalar, len, intBin, ibin, boolO, guardA, cCond, condV, cRet, cExit, cSkip, resOut, resultA, extractA, tupleO, Nat.reduceEqDiff, Nat.reduceAdd, Nat.reduceSub, Nat.reduceLT, Nat.reduceBEq, reduceCtorEq, Nat.reduceMod, Nat.reduceLeDiff, Int.reduceLT, Int.reduceAdd, Int.reduceEq, Int.reduceToNat, s_draw, j0, j3, j4, hx, s_varFalse ia33, hc, hlx, hlt'] <;> rfl)); (try (change Gets _ _ _ _ _ _; repeat refine Gets.seq ?_))
      refine Gets.condF (by simp (disch := decide) only [sxL]) (Gets.exit Tryz.tabOk ?_)
      refine inBlk_exit ?_
      change Gets _ _ _ _ _ _
      have hw : awrap .i64 ((i : Int) + 1) = (i : Int) + 1 := s_wrap (by omega) (by omega)
      refine Gets.last Tryz.tabOk (ov := noOv) (noOv_ok) 8 (s' := ?sn14) ?hn14 ?kn14; (case hn14 => (simp -implicitDefEqProofs (disch := first | (simp only [ne_eq, Nat.reduceEqDiff, not_false_eq_true, Nat.reduceLT]; done) | assumption | (simp only [s_push_next, s_put_next, Nat.beq_refl]; done) | ((try simp only [s_push_next, s_put_next]) <;> omega) | exact s_one_map _ | exact s_one_slice _ _ _ _ _ | (refine (id ?_ : plainDraw _ = true); kernel_rfl) | fail) only [sxL, s_castN, s_cells_one, noOv, callFn, kindOf, kindC, kindB, unA, boxA, loadPtr, nilCheckA, fst1, ofValue, ofScalar, len, intBin, ibin, boolO, guardA, cCond, condV, cRet, cExit, cSkip, resOut, resultA, extractA, tupleO, Nat.reduceEqDiff, Nat.reduceAdd, Nat.reduceSub, Nat.reduceLT, Nat.reduceBEq, reduceCtorEq, Nat.reduceMod, Nat.reduceLeDiff, Int.reduceLT, Int.reduceAdd, Int.reduceEq, Int.reduceToNat, s_draw, j3, hw] <;> rfl)); (try (change Gets _ _ _ _ _ _; repeat refine Gets.seq ?_))
      refine ⟨_, rfl, by omega, ?_, ?_, fun j x' hj hx' => ?_⟩
      · simp (disch := decide) only [sxL, j0]
      · simp (disch := decide) only [sxL, s_castS]
      · rcases Nat.lt_succ_iff_lt_or_eq.1 hj with hj | rfl
        · exact hk j x' hj hx'
        · rw [hki] at hx'; cases hx'
          simp only [hl, decide_false, Bool.not_false, Bool.true_and, List.all_eq_true]
          intro c hc
          obtain ⟨q, hq, rfl⟩ := List.mem_iff_getElem.1 hc
          exact hk' q x.l[q] (by omega) (List.getElem?_eq_getElem hq)
  · refine Gets.last Tryz.tabOk (ov := noOv) (noOv_ok) 8 (s' := ?sn15) ?hn15 ?kn15; (case hn15 => (simp -implicitDefEqProofs (disch := first | (simp only [ne_eq, Nat.reduceEqDiff, not_false_eq_true, Nat.reduceLT]; done) | assumption | (simp only [s_push_next, s_put_next, Nat.beq_refl]; done) | ((try simp only [s_push_next, s_put_next]) <;> omega) | exact s_one_map _ | exact s_one_slice _ _ _ _ _ | (refine (id ?_ : plainDraw _ = true); kernel_rfl) | fail) only [sxL, s_castN, s_cells_one, noOv, callFn, kindOf, kindC, kindB, unA, boxA, loadPtr, nilCheckA, fst1, ofValue, ofScalar, len, intBin, ibin, boolO, guardA, cCond, condV, cRet, cExit, cSkip, resOut, resultA, extractA, tupleO, Nat.reduceEqDiff, Nat.reduceAdd, Nat.reduceSub, Nat.reduceLT, Nat.reduceBEq, reduceCtorEq, Nat.reduceMod, Nat.reduceLeDiff, Int.reduceLT, Int.reduceAdd, Int.reduceEq, Int.reduceToNat, s_draw, i0, i3, hlen, hlt] <;> rfl)); (try (change Gets _ _ _ _ _ _; repeat refine Gets.seq ?_))
    refine Gets.condF (by simp (disch := decide) only [sxL]) (Gets.exit Tryz.tabOk ?_)
    have : fewB l = true := by
      simp only [fewB, h0, decide_false, Bool.not_false, Bool.true_and]
      rw [List.all_eq_true]
      intro e he
      obtain ⟨j, hj, rfl⟩ := List.mem_iff_getElem.1 he
      exact hk j l[j] (by omega) (List.getElem?_eq_getElem hj)
    rw [this]
    refine inBlk_exit ?_
    change Gets _ _ _ _ _ _
    refine Gets.seq ?_
    refine Gets.last Tryz.tabOk (ov := noOv) (noOv_ok) 8 (s' := ?sn16) ?hn16 ?kn16; (case hn16 => (simp -implicitDefEqProofs (disch := first | (simp only [ne_eq, Nat.reduceEqDiff, not_false_eq_true, Nat.reduceLT]; done) | assumption | (simp only [s_push_next, s_put_next, Nat.beq_refl]; done) | ((try simp only [s_push_next, s_put_next]) <;> omega) | exact s_one_map _ | exact s_one_slice _ _ _ _ _ | (refine (id ?_ : plainDraw _ = true); kernel_rfl) | fail) only [sxL, s_castN, s_cells_one, noOv, callFn, kindOf, kindC, kindB, unA, boxA, loadPtr, nilCheckA, fst1, ofValue, ofScalar, len, intBin, ibin, boolO, guardA, cCond, condV, cRet, cExit, cSkip, resOut, resultA, extractA, tupleO, Nat.reduceEqDiff, Nat.reduceAdd, Nat.reduceSub, Nat.reduceLT, Nat.reduceBEq, reduceCtorEq, Nat.reduceMod, Nat.reduceLeDiff, Int.reduceLT, Int.reduceAdd, Int.reduceEq, Int.reduceToNat, s_draw] <;> rfl)); (try (change Gets _ _ _ _ _ _; repeat refine Gets.seq ?_))
    refine Gets.ret Tryz.tabOk ?_
    exact fin_pure rfl (by simp (disch := decide) only [sxL, Tryz.f7, resultA]) (.refl _) hN trivial
end Go.Proofs
