/-
  Lines: each ends with a newline that stands nowhere else in it, and begins with a digit; the law's own code.
-/
import Derived.Test.YthfkhidmeeajfaaGreatDoorLNtA
import Derived.Test.YthfkhidmeeajfaaGreatDoorLTaC
import Derived.Test.YthfkhidmeeajfaaGreatDoorLSxH
set_option linter.unusedSimpArgs false
set_option linter.unusedVariables false
namespace Go.Proofs
open Go.Sx
set_option maxRecDepth 100000
abbrev NoNl (s : z0D) : Prop := ∀ b ∈ s, ¬ b.toNat = 10
theorem z2L {s u : z0D} (h : NoNl s) (h' : NoNl u) : NoNl (s ++ u) := fun b hb => (List.mem_append.1 hb).elim (h b) (h' b)
theorem z3Q {c : UInt8} (h : ¬ c.toNat = 10) : NoNl [c] := fun b hb => by rw [List.mem_singleton.1 hb]; exact h
theorem q5U : NoNl [] := fun b hb => by simp at hb
theorem j5N : ∀ k, k < 10 → ¬ (UInt8.ofNat (48 + k)).toNat = 10 := by decide
theorem j5O : ∀ k, k < 10 → 1 ≤ k → 49 ≤ (UInt8.ofNat (48 + k)).toNat ∧ (UInt8.ofNat (48 + k)).toNat ≤ 57 := by decide
theorem j9L (u : Nat) : NoNl (Lib.decDigits u) := by
 induction u using Nat.strongRecOn with
 | _ u ih =>
  by_cases h : u < 10
  ·rw [Lib.decDigits, dif_pos h]
   exact z3Q (j5N u h)
  ·rw [Lib.decDigits, dif_neg h]
   exact z2L (ih _ (by omega)) (z3Q (j5N _ (by omega)))
theorem j8T (u : Nat) (h1 : 1 ≤ u) : ∃ d s, Lib.decDigits u = d :: s ∧ 49 ≤ d.toNat ∧ d.toNat ≤ 57 ∧ NoNl s := by
 induction u using Nat.strongRecOn with
 | _ u ih =>
  by_cases h : u < 10
  ·rw [Lib.decDigits, dif_pos h]
   exact ⟨_, [], rfl, (j5O u h h1).1, (j5O u h h1).2, q5U⟩
  ·rw [Lib.decDigits, dif_neg h]
   obtain ⟨d, s, e, a, b, c⟩ := ih (u / 10) (by omega) (by omega)
   rw [e]
   exact ⟨d, s ++ [UInt8.ofNat (48 + u % 10)], rfl, a, b, z2L c (z3Q (j5N _ (by omega)))⟩
theorem z2D (n : Int) : NoNl (z0U n) := by
 show NoNl (Lib.itoa n)
 unfold Lib.itoa
 split
 ·exact z2L (s := [45]) (z3Q (by decide)) (j9L _)
 ·exact j9L _
theorem j5P {n : Int} (h : 1 ≤ n) : ∃ d s, z0U n = d :: s ∧ 49 ≤ d.toNat ∧ d.toNat ≤ 57 ∧ NoNl s := by
 show ∃ d s, Lib.itoa n = d :: s ∧ _
 unfold Lib.itoa
 rw [if_neg (by omega)]
 exact j8T _ (by omega)
theorem q7H : ∀ {l : List z0D}, (∀ s ∈ l, NoNl s) → NoNl (Lib.joinTail [32] l)
 | [], _ => q5U
 | s :: l, h => by
  show NoNl (([32] ++ s) ++ Lib.joinTail [32] l)
  exact z2L (z2L (z3Q (by decide)) (h s (List.mem_cons_self ..))) (q7H fun u hu => h u (List.mem_cons_of_mem _ hu))
theorem j5Q {s : z0D} {l : List z0D} (h0 : NoNl s) (h : ∀ u ∈ l, NoNl u) : NoNl (z6q (s :: l)) := by
 unfold z6q
 rw [Lib.join_cons]
 exact z2L h0 (q7H h)
theorem q0Z {s : z0D} (h : z2w s = true) : NoNl s := by
 simp only [z2w, Bool.and_eq_true, List.all_eq_true] at h
 intro b hb e
 have := h.2.2 b hb
 simp only [lowA, low, e] at this
 revert this
 decide
theorem k7d (p : Int) : NoNl (furB p) := by
 unfold furB
 split
 ·exact z3Q (by decide)
 ·split <;> exact z3Q (by decide)
theorem j9M (e : EffN) : NoNl (effT e) :=
 z2L (z2L (z2L (z2L (z2D _) (z3Q (by decide))) (z2D _)) (z3Q (by decide))) (k7d _)
theorem k7e (i : Bool) : NoNl (wayT i) := by
 cases i
 ·exact fun b hb => by revert b; decide
 ·exact fun b hb => by revert b; decide
theorem k3b (x : ItemN) : NoNl (z9g x) := by
 unfold z9g
 refine z2L (z2L ?_ (z3Q (by decide))) (z2D _)
 split
 ·exact j9M _
 ·exact z2L (z2L (z3Q (by decide)) (z2D _)) (k7e _)
theorem j5R (n : Int) : NoNl (z9h n) := by
 unfold z9h
 refine z2L ?_ (z2D _)
 split
 ·exact z3Q (by decide)
 ·exact q5U
theorem q7I {fr to : z0D} (h : z5n fr to = true) : (NoNl fr ∧ fr.length ≤ 16) ∧ NoNl to ∧ to.length ≤ 16 := by
 simp only [z5n, Bool.and_eq_true, Bool.or_eq_true, decide_eq_true_eq] at h
 obtain ⟨⟨h1, h2⟩, -⟩ := h
 refine ⟨?_, ?_⟩
 ·rcases h1 with rfl | h1
  ·exact ⟨q5U, by simp⟩
  ·exact ⟨q0Z h1, z5o h1⟩
 ·rcases h2 with rfl | h2
  ·exact ⟨q5U, by simp⟩
  ·exact ⟨q0Z h2, z5o h2⟩
theorem k7f {d : DefN} (h : defB d = true) : NoNl (defT d) := by
 obtain ⟨h1, _, _, _, _, h6⟩ := z6G h
 refine j5Q (q0Z h1) fun u hu => ?_
 rcases List.mem_cons.1 hu with rfl | hu
 ·exact z2D _
 ·rcases List.mem_cons.1 hu with rfl | hu
  ·exact z2D _
  ·obtain ⟨s, hs, rfl⟩ := List.mem_map.1 hu
   obtain ⟨i, hi, rfl⟩ := List.getElem_of_mem hs
   exact z2L (q0Z (h6 i _ (List.getElem?_eq_getElem hi)).1) (j5R _)
def z8D (n : Nat) (F : Fld) : Prop := ∀ c, CmdSm c → F.ok c = true → NoNl (F.tx c) ∧ (F.tx c).length ≤ n
theorem q1a : z8D 21 fCall := fun c _ h => ⟨z2D _, z0w (z2K h (by omega) (by omega))⟩
theorem q7J : z8D 21 fSaga := fun c _ h => ⟨z2D _, z0w (z2K h (by omega) (by omega))⟩
theorem j5S : z8D 21 fMove := fun c _ h => ⟨z2D _, z0w (z2K h (by omega) (by omega))⟩
theorem j8U : z8D 21 fGroup := fun c _ h => ⟨z2D _, z0w (z2K h (by omega) (by omega))⟩
theorem k7g : z8D 21 fRes := fun c _ h => ⟨z2D _, z0w (j5g h)⟩
theorem j9N : z8D 16 fKey := fun c _ h => ⟨q0Z h, z5o h⟩
theorem j5T : z8D 21 fData := fun c hs _ => ⟨z2D (c.data.length : Int), by
 have := hs.data
 exact z0w (n := (c.data.length : Int)) ⟨by omega, by omega⟩⟩
theorem k7h : z8D 45 fEff := fun c _ h => ⟨j9M _, z9v h⟩
theorem k3c : z8D 80 fItem := fun c _ h => ⟨k3b _, q0U h⟩
theorem k7i : z8D 400 fDef := fun c _ h => ⟨k7f h, q9n h⟩
theorem j8V : z8D 22 fDelta := fun c _ h => ⟨j5R _, by
 have := z0w (q3U h)
 show (z9h c.delta).length ≤ 22
 unfold z9h
 rw [List.length_append]
 split <;> simp <;> omega⟩
theorem q4a : z8D 35 fRange := fun c _ h => by
 obtain ⟨⟨h1, h2⟩, h3, h4⟩ := q7I h
 refine ⟨?_, ?_⟩
 ·show NoNl (z6Z c.fr c.to)
  exact z2L (z2L (z2L (z2L (z3Q (by decide)) h1) (z3Q (by decide))) h3) (z3Q (by decide))
 ·show (z6Z c.fr c.to).length ≤ 35
  unfold z6Z
  simp only [List.length_append, List.length_cons, List.length_nil]
  omega
inductive FldsPl : List Fld → Nat → Prop
 | nil : FldsPl [] 0
 | cons {F : Fld} {l : List Fld} {n m : Nat} (h : z8D n F) (t : FldsPl l m) : FldsPl (F :: l) (n + m)
theorem FldsPl.out {c : CmdN} (hs : CmdSm c) {l : List Fld} {m : Nat} (h : FldsPl l m) : (∀ F ∈ l, F.ok c = true) → (∀ s ∈ l.map (fun F => F.tx c), NoNl s) ∧ ((l.map fun F => F.tx c).map List.length).sum ≤ m := by
 induction h with
 | nil => exact fun _ => ⟨fun s hs => by simp at hs, by simp⟩
 | cons h t ih =>
  intro ho
  obtain ⟨i1, i2⟩ := ih fun G hG => ho G (List.mem_cons_of_mem _ hG)
  obtain ⟨p1, p2⟩ := h c hs (ho _ (List.mem_cons_self ..))
  refine ⟨fun s hs => ?_, ?_⟩
  ·rw [List.map_cons] at hs
   rcases List.mem_cons.1 hs with rfl | hs
   ·exact p1
   ·exact i1 s hs
  ·simp only [List.map_cons, List.sum_cons]
   omega
theorem k3d {k : Int} {w : z0D} {l : List Fld} (h : z6r k = some (w, l)) : NoNl w ∧ w.length ≤ 10 ∧ l.length ≤ 3 ∧ ∃ m, m ≤ 442 ∧ FldsPl l m := by
 have fin : ∀ {w' : z0D} {l' : List Fld} {m : Nat}, (w'.all fun b => !decide (b.toNat = 10)) = true → w'.length ≤ 10 → l'.length ≤ 3 → m ≤ 442 → FldsPl l' m → some (w', l') = some (w, l) → NoNl w ∧ w.length ≤ 10 ∧ l.length ≤ 3 ∧ ∃ m, m ≤ 442 ∧ FldsPl l m := by
  intro w' l' m a b c d e hh
  simp only [Option.some.injEq, Prod.mk.injEq] at hh
  obtain ⟨rfl, rfl⟩ := hh
  refine ⟨fun x hx => ?_, b, c, m, d, e⟩
  have := List.all_eq_true.1 a x hx
  simpa using this
 unfold z6r at h
 split at h
 ·exact fin (by decide) (by decide) (by simp) (by omega) .nil h
 split at h
 ·exact fin (by decide) (by decide) (by simp) (by omega) (.cons k7h (.cons j9N (.cons j8V .nil))) h
 split at h
 ·exact fin (by decide) (by decide) (by simp) (by omega) (.cons q1a (.cons j9N .nil)) h
 split at h
 ·exact fin (by decide) (by decide) (by simp) (by omega) (.cons j5S (.cons q4a .nil)) h
 split at h
 ·exact fin (by decide) (by decide) (by simp) (by omega) (.cons j5S (.cons q4a (.cons j5T .nil))) h
 split at h
 ·exact fin (by decide) (by decide) (by simp) (by omega) (.cons q1a (.cons q7J (.cons k7i .nil))) h
 split at h
 ·exact fin (by decide) (by decide) (by simp) (by omega) (.cons q1a (.cons q7J .nil)) h
 split at h
 ·exact fin (by decide) (by decide) (by simp) (by omega) (.cons q1a (.cons q7J .nil)) h
 split at h
 ·exact fin (by decide) (by decide) (by simp) (by omega) (.cons q1a (.cons q4a (.cons j8U .nil))) h
 split at h
 ·exact fin (by decide) (by decide) (by simp) (by omega) (.cons k3c (.cons k7g (.cons j5T .nil))) h
 ·simp at h
theorem k3e {c : CmdN} (hs : CmdSm c) (hB : cmdB c = true) : NoNl (cmdT c) ∧ (cmdT c).length ≤ 460 := by
 unfold cmdB at hB
 unfold cmdT
 cases hk : z6r c.kind with
 | none => rw [hk] at hB; simp at hB
 | some x =>
  obtain ⟨w, l⟩ := x
  rw [hk] at hB
  simp only [Bool.and_eq_true, List.all_eq_true] at hB
  obtain ⟨h1, h2, h3, m, h4, h5⟩ := k3d hk
  obtain ⟨i1, i2⟩ := h5.out hs hB.1
  refine ⟨j5Q h1 i1, ?_⟩
  refine Nat.le_trans (z3E _) ?_
  unfold z5M
  simp only [List.map_cons, List.sum_cons, List.length_cons, List.length_map]
  omega
theorem q9q {x : EvN} (hx : EvSm x) (hb : evB x = true) : ∃ d s, z4t x = d :: (s ++ [10]) ∧ 49 ≤ d.toNat ∧ d.toNat ≤ 57 ∧ NoNl s ∧ (z4t x).length ≤ 1000 := by
 simp only [evB, Bool.and_eq_true, decide_eq_true_eq] at hb
 obtain ⟨⟨h1, h2⟩, -⟩ := hb
 have l1 := z0w (n := x.call) ⟨by omega, by omega⟩
 have l2 := z0w hx.err
 have l3 := z0w hx.num
 have l4 := z0w (n := (x.r.data.length : Int)) (by have := hx.data; exact ⟨by omega, by omega⟩)
 obtain ⟨d, s, e, p1, p2, p3⟩ := j5P h1
 have key : ∀ l : List z0D, (∀ u ∈ l, NoNl u) → z5M (z0U x.call :: l) ≤ 900 → evT x = z6q (z0U x.call :: l) → ∃ d s, z4t x = d :: (s ++ [10]) ∧ 49 ≤ d.toNat ∧ d.toNat ≤ 57 ∧ NoNl s ∧ (z4t x).length ≤ 1000 := fun l hl hn he => by
  have e2 : evT x = d :: (s ++ Lib.joinTail [32] l) := by
   rw [he]
   unfold z6q
   rw [Lib.join_cons, e]; rfl
  refine ⟨d, s ++ Lib.joinTail [32] l, ?_, p1, p2, z2L p3 (q7H hl), ?_⟩
  ·unfold z4t
   rw [e2]; simp
  ·unfold z4t
   rw [he, List.length_append]
   have := z3E (z0U x.call :: l)
   simp only [List.length_cons, List.length_nil]
   omega
 unfold evT at key
 cases hr : x.reply with
 | true =>
  rw [hr] at key
  refine key [[114, 101, 112, 108, 121], z0U x.r.err, z0U x.r.num, z0U x.r.data.length] (fun u hu => ?_) ?_ rfl
  ·simp only [List.mem_cons, List.mem_nil_iff, or_false] at hu
   rcases hu with rfl | rfl | rfl | rfl
   ·exact fun b hb => by revert b; decide
   ·exact z2D _
   ·exact z2D _
   ·exact z2D _
  ·simp only [z5M, List.map_cons, List.map_nil, List.sum_cons, List.sum_nil, List.length_cons, List.length_nil]
   omega
 | false =>
  rw [hr] at key
  have q : NoNl (if cmdB x.c then cmdT x.c else [63]) ∧ (if cmdB x.c then cmdT x.c else [63]).length ≤ 460 := by
   cases hB : cmdB x.c with
   | true => rw [if_pos rfl]; exact k3e hx.c hB
   | false => rw [if_neg (by simp)]; exact ⟨z3Q (by decide), by simp⟩
  refine key [[99, 97, 108, 108], if cmdB x.c then cmdT x.c else [63]] (fun u hu => ?_) ?_ rfl
  ·simp only [List.mem_cons, List.mem_nil_iff, or_false] at hu
   rcases hu with rfl | rfl
   ·exact fun b hb => by revert b; decide
   ·exact q.1
  ·have := q.2
   simp only [z5M, List.map_cons, List.map_nil, List.sum_cons, List.sum_nil, List.length_cons, List.length_nil]
   omega
def scan : Bool → Nat → z0D → Option (Bool × Nat)
 | b, n, [] => some (b, n)
 | b, n, c :: r => if (b && (decide (c.toNat < 49) || decide (57 < c.toNat))) = true then none else scan (decide (c.toNat = 10)) (if c.toNat = 10 then n + 1 else n) r
theorem j5U (s : z0D) (h : NoNl s) (n : Nat) (r : z0D) : scan false n (s ++ 10 :: r) = scan true (n + 1) r := by
 induction s with
 | nil => simp [scan]
 | cons a s ih =>
  have ha := h a (List.mem_cons_self ..)
  have := ih fun b hb => h b (List.mem_cons_of_mem _ hb)
  rw [List.cons_append]
  rw [scan, Bool.false_and, if_neg (by simp), decide_eq_false ha, if_neg ha]
  exact this
theorem q5V : ∀ (l : List EvN), (∀ x ∈ l, EvSm x) → (∀ x ∈ l, evB x = true) → ∀ n, scan true n (z1j l) = some (true, n + l.length)
 | [], _, _, n => rfl
 | x :: l, h, h', n => by
  obtain ⟨d, s, e, p1, p2, p3, -⟩ := q9q (h x (List.mem_cons_self ..)) (h' x (List.mem_cons_self ..))
  have e1 : z1j (x :: l) = d :: (s ++ 10 :: z1j l) := by
   show z4t x ++ z1j l = _
   rw [e]; simp
  have a1 : decide (d.toNat < 49) = false := decide_eq_false (by omega)
  have a2 : decide (57 < d.toNat) = false := decide_eq_false (by omega)
  have a3 : ¬ d.toNat = 10 := by omega
  rw [e1, scan, a1, a2, Bool.or_false, Bool.and_false, if_neg (by simp), decide_eq_false a3, if_neg a3, j5U s p3, q5V l (fun y hy => h y (List.mem_cons_of_mem _ hy)) (fun y hy => h' y (List.mem_cons_of_mem _ hy)), List.length_cons]
  congr 2
  omega
theorem j1m (l m : List EvN) : z1j (l ++ m) = z1j l ++ z1j m := by unfold z1j; rw [List.map_append, List.flatten_append]
theorem z8b : ∀ {l : List EvN}, (∀ x ∈ l, EvSm x) → (∀ x ∈ l, evB x = true) → (z1j l).length ≤ 1000 * l.length
 | [], _, _ => by simp [z1j]
 | x :: l, h, h' => by
  obtain ⟨_, _, _, _, _, _, h1⟩ := q9q (h x (List.mem_cons_self ..)) (h' x (List.mem_cons_self ..))
  have h2 := z8b (l := l) (fun y hy => h y (List.mem_cons_of_mem _ hy)) fun y hy => h' y (List.mem_cons_of_mem _ hy)
  have e : z1j (x :: l) = z4t x ++ z1j l := rfl
  rw [e, List.length_append, List.length_cons]
  omega
theorem z8c {l : List EvN} (hl : l.length ≤ 60) (h : ∀ x ∈ l, EvSm x) (h' : l.all evB = true) : q1z l = (z1j l, 0) := by
 have := z8b h fun x hx => List.all_eq_true.1 h' x hx
 unfold q1z
 rw [if_pos h', if_neg (by omega)]
theorem z5N {l : List EvN} (h' : l.all evB = false) : q1z l = ([], 2) := by
 unfold q1z
 rw [if_neg (by rw [h']; simp)]
end Go.Proofs
namespace Go.Proofs
open Go.Sx
set_option maxRecDepth 100000
section
variable {α : Type} {G : Tab} {e k t : Nat} {f : α → List AV} {H : Heap} {v w : AV} {l m : List α}
theorem j9O {i : TypeInfo} {zero : AV} (hu : G.und t = some (.slice e)) (hty : G.types.get e = some i) (hk : i.size = k) (hk0 : 0 < k) (hby : Nat.ble i.bytes 100000 = true) (hz : G.zero e = some zero) (hzl : zero.cells.length = k)
  {n : Nat} {new : List AV} (hn : z5U w = some n) (hs : q2F w k = true) (hf : z3y H k n w = some new) (hle : z9b v + n ≤ 1000000) : z3a G H [t, t] [v, w] = z1R H e k n v new := by
 show z0b (Sx.elemOf G t) (fun e => z0b (G.und t) fun u => bif intD u then z0b (G.types.get e) (z8h G H e v w) else z0b (G.types.get e) (z4e G H e v w)) = _
 rw [z2J hu, hu]
 show z0b (G.types.get e) (z4e G H e v w) = _
 rw [hty]
 show z0b (z5U w) (fun n => z0b (G.zero e) fun zero => bif Nat.beq i.size 0 then none else bif q2F w i.size then bif Nat.beq (len zero.cells) i.size then bif Nat.ble i.bytes 100000 then
  bif Nat.ble (z9b v + n) 1000000 then z0b (z3y H i.size n w) (z1R H e i.size n v) else none else none else none else none) = _
 rw [hn, hz, hby, hk]
 show (bif Nat.beq k 0 then none else bif q2F w k then bif Nat.beq (len zero.cells) k then
  bif Nat.ble (z9b v + n) 1000000 then z0b (z3y H k n w) (z1R H e k n v) else none else none else none) = _
 rw [z0Y (by omega : k ≠ 0), hs, z1f, hzl, z1h rfl, Nat.ble_eq_true_of_le hle, hf]; rfl
theorem j1n (h : RowsAt e k f H w l) (hf : ∀ a, (f a).length = k) : z5U w = some l.length ∧ q2F w k = true ∧ z3y H k l.length w = some (l.flatMap f) := by
 rcases h with ⟨h, rfl⟩ | ⟨b, c, rfl, _, hb⟩
 ·rcases h with rfl | ⟨b, o, s, c, rfl⟩
  ·exact ⟨rfl, rfl, rfl⟩
  ·exact ⟨rfl, rfl, rfl⟩
 ·refine ⟨rfl, rfl, ?_⟩
  show z0y H b 0 (l.length * k) = _
  have hlen := z3w hf l
  by_cases h0 : l.length * k = 0
  ·rw [h0]
   have : l.flatMap f = [] := List.eq_nil_of_length_eq_zero (by rw [hlen, h0])
   rw [this]; rfl
  ·rw [z7n _ _ _ h0, hb]
   show z5r (l.length * k) (l.flatMap f) 0 (l.length * k) = _
   have := z5K (e := e) hlen (l := l.flatMap f) (off := 0) fun j v hj => by rw [Nat.zero_add]; exact hj
   rwa [hlen] at this
def MadeAt (n0 e : Nat) (f : α → List AV) (H : Heap) (v : AV) (l : List α) : Prop :=
 ∃ d, n0 ≤ d ∧ ((v = .slice d 0 0 false 0 ∧ l = [] ∧ H.blks.get d = some (.cells e true [])) ∨ (v = .slice d 0 l.length true 0 ∧ l ≠ [] ∧ H.blks.get d = some (.cells e false (l.flatMap f))))
theorem MadeAt.cells {n0 : Nat} (h : MadeAt n0 e f H v l) : CellsAt e f H v l := by
 obtain ⟨d, _, ⟨rfl, rfl, h⟩ | ⟨rfl, _, h⟩⟩ := h
 ·exact .inr ⟨d, false, 0, true, rfl, h⟩
 ·exact .inr ⟨d, true, 0, false, rfl, h⟩
theorem q9r {n0 : Nat} {i : TypeInfo} {zero : AV} (hu : G.und t = some (.slice e)) (hty : G.types.get e = some i) (hk : i.size = k) (hk0 : 0 < k) (hby : Nat.ble i.bytes 100000 = true) (hz : G.zero e = some zero) (hzl : zero.cells.length = k)
  (hf : ∀ a, (f a).length = k) (h : MadeAt n0 e f H v l) (hw : RowsAt e k f H w m) (hN : Neat H) (hn0 : n0 ≤ H.next) (hl : l.length + m.length ≤ 1000) (h1 : ∀ a ∈ l, z0W (f a) = true) (h2 : ∀ a ∈ m, z0W (f a) = true) :
  ∃ v' H', z3a G H [t, t] [v, w] = some (v', H') ∧ MadeAt n0 e f H' v' (l ++ m) ∧ Neat H' ∧ H.next ≤ H'.next ∧ ∀ x, x < n0 → H'.blks.get x = H.blks.get x := by
 obtain ⟨q1, q2, q3⟩ := j1n hw hf
 obtain ⟨d, hd, ⟨rfl, rfl, hb⟩ | ⟨rfl, hne, hb⟩⟩ := h
 ·have st := j9O (v := .slice d 0 0 false 0) hu hty hk hk0 hby hz hzl q1 q2 q3 (by show 0 + m.length ≤ 1000000; omega)
  by_cases hm : m = []
  ·subst hm
   exact ⟨.slice d 0 0 false 0, H, st.trans rfl, ⟨d, hd, .inl ⟨rfl, rfl, hb⟩⟩, hN, Nat.le_refl _, fun _ _ => rfl⟩
  ·have hp : 0 < m.length := List.length_pos_iff.2 hm
   have b1 : Nat.ble (0 + m.length) 0 = false := by
    cases hh : Nat.ble (0 + m.length) 0
    ·rfl
    ·have := z1J hh; omega
   refine ⟨.slice H.next 0 m.length true 0, H.push (.cells e false (m.flatMap f)), st.trans ?_, ⟨H.next, hn0, .inr ⟨by simp, by simpa using hm, by rw [z0q]; simp⟩⟩, hN.push _, by rw [z0n]; omega, fun x hx => z0r _ _ (by omega)⟩
   show (bif Nat.ble (0 + m.length) 0 then inPlace H d (0 + 0 * k) (m.flatMap f) (.slice d 0 (0 + m.length) false 0)
    else bif Nat.ble 0 1000000 then z0b (z0y H d 0 (0 * k)) fun old => z2i H e (0 + m.length) (app old (m.flatMap f)) else none) = _
   rw [b1, cond_false, Nat.zero_mul]
   show z2i H e (0 + m.length) (app [] (m.flatMap f)) = _
   rw [z2f, List.nil_append, Nat.zero_add]
   unfold z2i
   rw [z1t, z4q h2]; rfl
 ·have hp : 0 < l.length := List.length_pos_iff.2 hne
  have hlen := z3w hf l
  have hnk : 0 < l.length * k := Nat.mul_pos hp hk0
  have st := j9O (v := .slice d 0 l.length true 0) hu hty hk hk0 hby hz hzl q1 q2 q3 (by show l.length + m.length ≤ 1000000; omega)
  have hkn : z4I e (H.blks.get d) = some (l.length * k) := by
   rw [hb]
   show (bif Nat.beq e e then some (len (l.flatMap f)) else none) = _
   rw [z1h rfl, cond_true, z1f, hlen]
  by_cases hm : m = []
  ·subst hm
   refine ⟨.slice d 0 l.length true 0, H, st.trans ?_, ⟨d, hd, .inr ⟨by simp, by simpa using hne, by simpa using hb⟩⟩, hN, Nat.le_refl _, fun _ _ => rfl⟩
   show z0b (z4I e (H.blks.get d)) (fun kn => bif Nat.beq 0 (0 * k) then
     bif Nat.ble (0 + (l.length + 0) * k) kn then inPlace H d (0 + l.length * k) [] (.slice d 0 (l.length + 0) true 0)
     else z0b (z0y H d 0 (l.length * k)) fun old => z0S H d none fun H' => z2i H' e (l.length + 0) (app old [])
    else none) = _
   rw [hkn]
   show (bif Nat.beq 0 (0 * k) then
     bif Nat.ble (0 + (l.length + 0) * k) (l.length * k) then inPlace H d (0 + l.length * k) [] (.slice d 0 (l.length + 0) true 0)
     else z0b (z0y H d 0 (l.length * k)) fun old => z0S H d none fun H' => z2i H' e (l.length + 0) (app old [])
    else none) = _
   rw [z1h (Nat.zero_mul k).symm, cond_true, Nat.ble_eq_true_of_le (by rw [Nat.zero_add, Nat.add_zero]; exact Nat.le_refl _), cond_true]; rfl
  ·have hmp : 0 < m.length := List.length_pos_iff.2 hm
   have hnx : (z0i H d none).next = H.next := z0f _ _ _
   have b1 : Nat.ble (0 + (l.length + m.length) * k) (l.length * k) = false := by
    cases hh : Nat.ble (0 + (l.length + m.length) * k) (l.length * k)
    ·rfl
    ·have := z1J hh
     have h3 : 0 < m.length * k := Nat.mul_pos hmp hk0
     rw [Nat.add_mul] at this
     omega
   have hld : z0y H d 0 (l.length * k) = some (l.flatMap f) := by
    rw [z7n _ _ _ (by omega), hb]
    show z3R (z5p (l.flatMap f) 0) (l.length * k) = _
    rw [z1Z, z1I, List.drop_zero, if_pos (Nat.le_of_eq hlen.symm), List.take_of_length_le (Nat.le_of_eq hlen)]
   refine ⟨.slice H.next 0 (l.length + m.length) true 0, (z0i H d none).push (.cells e false (l.flatMap f ++ m.flatMap f)), st.trans ?_, ⟨H.next, hn0, .inr ⟨by rw [List.length_append], by simp [hne], ?_⟩⟩, (z6p hN d).push _, by rw [z0n, hnx]; omega, fun x hx => ?_⟩
   ·show z0b (z4I e (H.blks.get d)) (fun kn => bif Nat.beq 0 (0 * k) then
      bif Nat.ble (0 + (l.length + m.length) * k) kn then inPlace H d (0 + l.length * k) (m.flatMap f) (.slice d 0 (l.length + m.length) true 0)
      else z0b (z0y H d 0 (l.length * k)) fun old => z0S H d none fun H' => z2i H' e (l.length + m.length) (app old (m.flatMap f))
     else none) = _
    rw [hkn]
    show (bif Nat.beq 0 (0 * k) then
      bif Nat.ble (0 + (l.length + m.length) * k) (l.length * k) then inPlace H d (0 + l.length * k) (m.flatMap f) (.slice d 0 (l.length + m.length) true 0)
      else z0b (z0y H d 0 (l.length * k)) fun old => z0S H d none fun H' => z2i H' e (l.length + m.length) (app old (m.flatMap f))
     else none) = _
    rw [z1h (Nat.zero_mul k).symm, cond_true, b1, cond_false, hld]
    show z0S H d none (fun H' => z2i H' e (l.length + m.length) (app (l.flatMap f) (m.flatMap f))) = _
    have e1 : z0S H d none (fun H' => z2i H' e (l.length + m.length) (app (l.flatMap f) (m.flatMap f))) = z2i (z0i H d none) e (l.length + m.length) (app (l.flatMap f) (m.flatMap f)) := by
     unfold z0S z0i
     rw [T.setK_eq, T.setK_eq]
    rw [e1, z2f]
    unfold z2i
    rw [z1t, z4a (z4q h1) (z4q h2)]
    show some (AV.slice (z0i H d none).next 0 (l.length + m.length) true 0, _) = _
    rw [hnx]
   ·have := z0q (z0i H d none) (.cells e false (l.flatMap f ++ m.flatMap f))
    rw [hnx] at this
    rw [this, List.flatMap_append]
   ·rw [z0r _ _ (by rw [hnx]; omega), z0l _ _ _ (by omega)]
end
end Go.Proofs
namespace Go.Proofs
open Go.Sx
set_option maxRecDepth 100000
set_option maxHeartbeats 1000000
theorem evs0 (H : Heap) : z0N Tryz.tab H 22 0 [] = some (.slice H.next 0 0 false 0, H.push (.cells 40 true [])) := by
 have e1 : z0N Tryz.tab H 22 0 [] = z0K H 40 0 0 [] := by kernel_rfl
 rw [e1, q3Y rfl]
theorem k7j (a b : z0D) : sbin .eql a b = some (.bool (sbeq a b)) := rfl
theorem ty40 : ∃ i, Tryz.tab.types.get 40 = some i ∧ i.size = 29 ∧ Nat.ble i.bytes 100000 = true := by
 have h : (match Tryz.tab.types.get 40 with | some i => Nat.beq i.size 29 && Nat.ble i.bytes 100000 | none => false) = true := by kernel_rfl
 cases hi : Tryz.tab.types.get 40 with
 | none => rw [hi] at h; exact Bool.noConfusion h
 | some i =>
  rw [hi] at h
  simp only [Bool.and_eq_true] at h
  exact ⟨i, rfl, Nat.eq_of_beq_eq_true h.1, h.2⟩
theorem q5W {bg : Bool} {n N : Nat} {c : UInt8} {r : z0D} (h : scan bg n (c :: r) = some (true, N)) :
  (bg = true → ¬ (c.toNat : Int) < 49 ∧ ¬ 57 < (c.toNat : Int)) ∧ scan (decide (c.toNat = 10)) (if c.toNat = 10 then n + 1 else n) r = some (true, N) := by
 rw [scan] at h
 split at h
 ·simp at h
 ·rename_i hc
  refine ⟨fun hb => ?_, h⟩
  subst hb
  simp at hc
  exact ⟨by omega, by omega⟩
theorem j5V {N : Nat} : ∀ {r : z0D} {bg : Bool} {n : Nat}, scan bg n r = some (true, N) → n ≤ N
 | [], bg, n, h => by
  simp only [scan, Option.some.injEq, Prod.mk.injEq] at h
  omega
 | c :: r, bg, n, h => by
  have := j5V (q5W h).2
  split at this <;> omega
set_option linter.defProp false
def k7k := y7_ @z0B @q7L @q7M @q7N (z0o ia36 sz36) (z0c ia9) (z0Q ud9)
def k3f := y4_ @z0B @k7j @q3T @z1X
theorem k3g (v w : AV) (l m : List EvN) (H : Heap) (hN : Neat H) (hP : PowAt H) (hv : RowsAt 40 29 EvN.cells H v l) (hw : RowsAt 40 29 EvN.cells H w m) (dv : ∀ x ∈ l, z3D H x.c.d) (dw : ∀ x ∈ m, z3D H x.c.d)
  (rv : ∀ x ∈ l, In64 x.r.err ∧ In64 x.r.num) (rm : ∀ x ∈ m, In64 x.r.err ∧ In64 x.r.num) (hwk : ∀ K, Grows H K → Neat K → CallTo Tryz.prog Tryz.tab 5 [] K [(.bool true, K)]) :
  CallTo Tryz.prog Tryz.tab 4 [v, w] H [(.bool true, H)] := by
 refine z0M Tryz.tabOk Tryz.func4 rfl rfl ?_
 show Gets Tryz.prog Tryz.tab ⟨none, 147⟩ _ _ _
 repeat refine Gets.seq ?_
 have hvo : z0H v = true := RowsAt.one hv
 have hwo : z0H w = true := RowsAt.one hw
 have hln : ∀ h, lenA Tryz.tab h 22 v = some (.int .i64 (l.length : Int)) := RowsAt.len hv ud22
 have hlm : ∀ h, lenA Tryz.tab h 22 w = some (.int .i64 (m.length : Int)) := RowsAt.len hw ud22
 refine g0_ ?_
 by_cases c1 : 30 < (l.length : Int)
 ·refine g1_ (y3_ hln c1 @z1X) ?_
  refine cT_ ?_
  refine o1_ (z0g z0d (hwk H (.refl _) hN)) @z0B ?_
  refine Gets.ret Tryz.tabOk ?_
  exact z0v rfl (sr_ Tryz.f4.eq_1) (.refl _) hN trivial
 by_cases c2 : 30 < (m.length : Int)
 ·refine g1_ (y4_ hln hlm c1 c2) ?_
  refine cT_ ?_
  refine o1_ (z0g z0d (hwk H (.refl _) hN)) @z0B ?_
  refine Gets.ret Tryz.tabOk ?_
  exact z0v rfl (sr_ Tryz.f4.eq_1) (.refl _) hN trivial
 refine g1_ (y4_ hln hlm c1 c2) ?_
 refine cFs_ ?_
 obtain ⟨ti, ty1, ty2, ty3⟩ := ty40
 have q0 : Grows H (H.push (.cells 40 true [])) := .push _ _
 obtain ⟨v1, K1, p1, m1, n1, x1, g1⟩ := q9r (n0 := H.next) (G := Tryz.tab) (t := 22) (e := 40) (k := 29) (f := EvN.cells) (H := H.push (.cells 40 true [])) (v := .slice H.next 0 0 false 0) (w := v) (l := []) (m := l) ud22 ty1 ty2 (by omega) ty3 j5J rfl q5P
  ⟨H.next, Nat.le_refl _, .inl ⟨rfl, rfl, z0q _ _⟩⟩ (RowsAt.grow hv hN q0) (hN.push _) (by rw [z0n]; omega) (by simp only [List.length_nil]; omega) (fun a ha => by simp at ha) (fun a ha => q9o (dv a ha).one)
 have m1 : MadeAt H.next 40 EvN.cells K1 v1 l := m1
 have gK1 : Grows H K1 := ⟨Nat.le_trans q0.next x1, fun b hb => by rw [g1 b hb]; exact q0.get b hb⟩
 obtain ⟨v2, K2, p2, m2, n2, x2, g2⟩ := q9r (n0 := H.next) (G := Tryz.tab) (t := 22) (e := 40) (k := 29) (f := EvN.cells) (H := K1) (v := v1) (w := w) (l := l) (m := m) ud22 ty1 ty2 (by omega) ty3 j5J rfl q5P
  m1 (RowsAt.grow hw hN gK1) n1 gK1.next (by omega) (fun a ha => q9o (dv a ha).one) (fun a ha => q9o (dw a ha).one)
 have gk : Grows H K2 := ⟨Nat.le_trans gK1.next x2, fun b hb => by rw [g2 b hb]; exact gK1.get b hb⟩
 have o1 := (MadeAt.cells m1).one
 have o2 := (MadeAt.cells m2).one
 have hvk : EvsAt K2 v l := ⟨.inl (RowsAt.grow hv hN gk), fun x hx => (dv x hx).grow hN gk⟩
 have hwK : EvsAt K2 w m := ⟨.inl (RowsAt.grow hw hN gk), fun x hx => (dw x hx).grow hN gk⟩
 have hak : EvsAt K2 v2 (l ++ m) := ⟨.inr (MadeAt.cells m2), fun x hx => (List.mem_append.1 hx).elim (hvk.2 x) (hwK.2 x)⟩
 have hr : ∀ x ∈ l ++ m, In64 x.r.err ∧ In64 x.r.num := fun x hx => (List.mem_append.1 hx).elim (rv x) (rm x)
 have kP : PowAt K2 := hP.grow hN gk
 have hwk2 := hwk K2 gk n2
 have hla : ∀ h, lenA Tryz.tab h 22 v2 = some (.int .i64 ((l ++ m).length : Int)) := hak.1.len
 refine g1_ (y4_ @evs0 @q3A p1 p2) ?_
 refine Gets.ofS (fun tm k => k = K2 ∧ tm.get 0 = some v ∧ tm.get 1 = some w ∧ tm.get 5 = some v2) ⟨rfl, sx0_, sx0_, sx0_⟩ ?_
 rintro tm k ⟨rfl, i0, i1, i5⟩
 clear p1 p2 m1 m2 g1 g2 n1 x1 x2 gK1 q0 ty1 ty2 ty3
 have hlen : (l ++ m).length ≤ 60 := by rw [List.length_append]; omega
 refine g0_ ?_
 refine Gets.upto (l ++ m).length (fun i tm => tm.get 0 = some v ∧ tm.get 1 = some w ∧ tm.get 5 = some v2 ∧ tm.get 6 = some (vi (i : Int)) ∧ ∀ (j : Nat) (x : EvN), j < i → (l ++ m)[j]? = some x → EvSm x)
  ⟨sx1_ i0, sx1_ i1, sx1_ i5, sx0_, fun j x hj => absurd hj (Nat.not_lt_zero _)⟩ ?_
 clear i0 i1 i5
 clear tm
 rintro i tm hi ⟨i0, i1, i5, i6, hok⟩
 repeat refine Gets.seq ?_
 by_cases hlt : (i : Int) < ((l ++ m).length : Int)
 ·obtain ⟨x, hx⟩ : ∃ x, (l ++ m)[i]? = some x := ⟨_, List.getElem?_eq_getElem (by omega)⟩
  have hxm := List.mem_of_getElem? hx
  obtain ⟨rb, hidx, hcl, hcs⟩ := hak.1.row hx
  have hc2 : Sx.cellsIn (k.blks.get rb) (i * 29 + 2) 24 = some x.c.cells := hcs 2 24 (by omega)
  have hc28 : z1c (k.blks.get rb) (i * 29 + 26 + 2) = some (.str x.r.data) := hcl 28 (by omega)
  have v5 : z3g .i64 ((i : Int) + 1) = (i : Int) + 1 := z3N (by omega) (by omega)
  have q := j8S x.c k n2 (hak.2 x hxm)
  refine g1_ (y4_ i5 i6 hla hlt) ?_
  refine cTb_ ?_
  cases hs : q5T x.c with
  | false =>
   rw [hs] at q
   refine o1_ (z0g z0d q) (y8_ @z0B i5 i6 hidx hc2 @q7L (z0o ia36 sz36) @z1X) ?_
   refine cT_ ?_
   refine o1_ (z0g z0d (hwk2)) @z0B ?_
   refine Gets.ret Tryz.tabOk ?_
   exact z0v rfl (sr_ Tryz.f4.eq_1) gk hN trivial
  | true =>
   rw [hs] at q
   by_cases hd : 2000 < (x.r.data.length : Int)
   ·refine o1_ (z0g z0d q) (y7_ k7k i5 i6 hidx hc2 hc28 hd) ?_
    refine cT_ ?_
    refine o1_ (z0g z0d (hwk2)) @z0B ?_
    refine Gets.ret Tryz.tabOk ?_
    exact z0v rfl (sr_ Tryz.f4.eq_1) gk hN trivial
   ·refine o1_ (z0g z0d q) (y7_ k7k i5 i6 hidx hc2 hc28 hd) ?_
    refine cFk_ ?_
    refine g1_ (y2_ i6 v5) ?_
    exact ⟨_, rfl, by omega, sx1_ i0, sx1_ i1, sx1_ i5, sx1_ @z2s, fun j y hj hy => by
     by_cases e : j = i
     ·subst e
      rw [hx] at hy
      cases hy
      exact ⟨j8Q hs, (hr x hxm).1, (hr x hxm).2, by omega⟩
     ·exact hok j y (by omega) hy⟩
 ·have h9 : i = (l ++ m).length := by omega
  subst h9
  have hall : ∀ x ∈ l ++ m, EvSm x := fun x hx => by
   obtain ⟨j, hj, rfl⟩ := List.getElem_of_mem hx
   exact hok j _ hj (List.getElem?_eq_getElem hj)
  have hal : ∀ x ∈ l, EvSm x := fun x hx => hall x (List.mem_append_left _ hx)
  have ham : ∀ x ∈ m, EvSm x := fun x hx => hall x (List.mem_append_right _ hx)
  have q1 := q3Z v l k n2 kP hvk hal (by omega)
  have q2 := q3Z w m k n2 kP hwK ham (by omega)
  have q3 := q3Z v2 (l ++ m) k n2 kP hak hall hlen
  clear hok
  refine g1_ (y4_ i5 i6 hla hlt) ?_
  refine cFx_ ?_
  cases h1 : l.all evB with
  | false =>
   cases h2 : m.all evB with
   | false =>
    rw [z5N (l := l) h1] at q1
    rw [z5N (l := m) h2] at q2
    rw [z5N (l := l ++ m) (by rw [List.all_append, h1, h2]; rfl)] at q3
    dsimp only at q1 q2 q3
    refine o1_ (z0g z0d q1) (y2_ @z0B i0) ?_
    refine o1_ (z0g z0d q2) (y2_ @z0B i1) ?_
    refine o1_ (z0g z0d q3) (y2_ @z0B i5) ?_
    refine g0_ ?_
    refine cT_ ?_
    refine o1_ (z0g z0d (hwk2)) k3f ?_
    refine Gets.ret Tryz.tabOk ?_
    exact z0v rfl (sr_ Tryz.f4.eq_1) gk hN trivial
   | true =>
    rw [z5N (l := l) h1] at q1
    rw [z8c (l := m) (by omega) ham h2] at q2
    rw [z5N (l := l ++ m) (by rw [List.all_append, h1, h2]; rfl)] at q3
    dsimp only at q1 q2 q3
    refine o1_ (z0g z0d q1) (y2_ @z0B i0) ?_
    refine o1_ (z0g z0d q2) (y2_ @z0B i1) ?_
    refine o1_ (z0g z0d q3) (y2_ @z0B i5) ?_
    refine g0_ ?_
    refine cT_ ?_
    refine o1_ (z0g z0d (hwk2)) k3f ?_
    refine Gets.ret Tryz.tabOk ?_
    exact z0v rfl (sr_ Tryz.f4.eq_1) gk hN trivial
  | true =>
   cases h2 : m.all evB with
   | false =>
    rw [z8c (l := l) (by omega) hal h1] at q1
    rw [z5N (l := m) h2] at q2
    rw [z5N (l := l ++ m) (by rw [List.all_append, h1, h2]; rfl)] at q3
    dsimp only at q1 q2 q3
    refine o1_ (z0g z0d q1) (y2_ @z0B i0) ?_
    refine o1_ (z0g z0d q2) (y2_ @z0B i1) ?_
    refine o1_ (z0g z0d q3) (y2_ @z0B i5) ?_
    refine g0_ ?_
    refine cT_ ?_
    refine o1_ (z0g z0d (hwk2)) k3f ?_
    refine Gets.ret Tryz.tabOk ?_
    exact z0v rfl (sr_ Tryz.f4.eq_1) gk hN trivial
   | true =>
    rw [z8c (l := l) (by omega) hal h1] at q1
    rw [z8c (l := m) (by omega) ham h2] at q2
    rw [z8c (l := l ++ m) hlen hall (by rw [List.all_append, h1, h2]; rfl), j1m] at q3
    dsimp only at q1 q2 q3
    have hsc := q5V l hal (fun x hx => List.all_eq_true.1 h1 x hx) 0
    have la := z8b hal fun x hx => List.all_eq_true.1 h1 x hx
    have lb := z8b ham fun x hx => List.all_eq_true.1 h2 x hx
    rw [Nat.zero_add] at hsc
    generalize z1j l = a at q1 q3 hsc la
    generalize z1j m = b at q2 q3 lb
    refine o1_ (z0g z0d q1) (y2_ @z0B i0) ?_
    refine o1_ (z0g z0d q2) (y2_ @z0B i1) ?_
    refine o1_ (z0g z0d q3) (y2_ @z0B i5) ?_
    refine g0_ ?_
    refine cFs_ ?_
    refine g0_ ?_
    refine g0_ ?_
    refine g0_ ?_
    refine Gets.upto a.length (fun i tm => tm.get 0 = some v ∧ tm.get 7 = some (.str a) ∧ tm.get 9 = some (.str b) ∧ tm.get 11 = some (.str (a ++ b)) ∧ tm.get 12 = some (vi 0) ∧ tm.get 15 = some (vi (i : Int)) ∧
      ∃ (bg : Bool) (n : Nat), tm.get 14 = some (.bool bg) ∧ tm.get 13 = some (vi (n : Int)) ∧ scan bg n (a.drop i) = some (true, l.length))
     ⟨sx1_ i0, sx0_, sx0_, sx0_, sx0_, sx0_, true, 0, sx0_, sx0_, hsc⟩ ?_
    clear i0 i1 i5 i6 hlt
    clear tm
    rintro i tm hi ⟨i0, i7, i9, i11, i12, i15, bg, n, i14, i13, hs⟩
    repeat refine Gets.seq ?_
    by_cases hlt : (i : Int) < (a.length : Int)
    ·obtain ⟨c, hc⟩ : ∃ c, a[i]? = some c := ⟨_, List.getElem?_eq_getElem (by omega)⟩
     have hdr : a.drop i = c :: a.drop (i + 1) := by
      have hi2 : i < a.length := by omega
      rw [List.drop_eq_getElem_cons hi2]
      have := List.getElem?_eq_getElem hi2
      rw [hc] at this
      rw [← Option.some.inj this]
     rw [hdr] at hs
     obtain ⟨s1, s2⟩ := q5W hs
     have hn := j5V hs
     have hxi : z7x Tryz.tab 9 (.str a) (.int .i64 (i : Int)) = some (.int .u8 (c.toNat : Int)) := z6E ud9 a .i64 i hc
     have v5 : z3g .i64 ((i : Int) + 1) = (i : Int) + 1 := z3N (by omega) (by omega)
     have v6 : z3g .i64 ((n : Int) + 1) = (n : Int) + 1 := z3N (by omega) (by omega)
     refine g1_ (y4_ i7 i15 (z0Q ud9) hlt) ?_
     refine cTb_ ?_
     refine Gets.midA (H := k) (I := fun tm => tm.get 0 = some v ∧ tm.get 7 = some (.str a) ∧ tm.get 9 = some (.str b) ∧ tm.get 11 = some (.str (a ++ b)) ∧ tm.get 12 = some (vi 0) ∧ tm.get 15 = some (vi (i : Int)) ∧ tm.get 13 = some (vi (n : Int)) ∧ tm.get 118 = some (.bool false)) ?_ ?_
     ·cases bg with
      | false =>
       refine g1_ (y2_ i14 @z1X) ?_
       exact ⟨rfl, _, rfl, sx1_ i0, sx1_ i7, sx1_ i9, sx1_ i11, sx1_ i12, sx1_ i15, sx1_ i13, sx0_⟩
      | true =>
       obtain ⟨s3, s4⟩ := s1 rfl
       refine g1_ (y7_ i14 i7 i15 @z1L hxi s3 s4) ?_
       exact ⟨rfl, _, rfl, sx1_ i0, sx1_ i7, sx1_ i9, sx1_ i11, sx1_ i12, sx1_ i15, sx1_ i13, sx0_⟩
     clear i0 i7 i9 i11 i12 i13 i14 i15 s1
     clear tm
     rintro tm ⟨i0, i7, i9, i11, i12, i15, i13, i118⟩
     change Gets _ _ _ _ _ _
     repeat refine Gets.seq ?_
     refine cFs_ (hv := sx1_ i118) ?_
     by_cases c10 : (c.toNat : Int) = 10
     ·rw [decide_eq_true (by omega : c.toNat = 10), if_pos (by omega : c.toNat = 10)] at s2
      refine g1_ (y5_ i7 i15 @z1L hxi c10) ?_
      refine g0_ ?_
      refine Gets.condT sx0_ ?_
      change Gets _ _ _ _ _ _
      refine g1_ (y2_ i13 v6) ?_
      refine g1_ (y2_ i15 v5) ?_
      exact ⟨_, rfl, by omega, sx1_ i0, sx1_ i7, sx1_ i9, sx1_ i11, sx1_ i12, sx1_ @z2s, true, n + 1, sx0_, sx1_ @z2s, s2⟩
     ·rw [decide_eq_false (by omega : ¬ c.toNat = 10), if_neg (by omega : ¬ c.toNat = 10)] at s2
      refine g1_ (y5_ i7 i15 @z1L hxi c10) ?_
      refine g0_ ?_
      refine cFk_ ?_
      refine g1_ (y2_ i15 v5) ?_
      exact ⟨_, rfl, by omega, sx1_ i0, sx1_ i7, sx1_ i9, sx1_ i11, sx1_ i12, sx1_ @z2s, false, n, sx0_, sx1_ i13, s2⟩
    ·have h8 : i = a.length := by omega
     subst h8
     rw [List.drop_length] at hs
     simp only [scan, Option.some.injEq, Prod.mk.injEq] at hs
     obtain ⟨rfl, rfl⟩ := hs
     have hc : catO a b = some (.str (a ++ b)) := q0T (by omega)
     have e1 : sbeq (a ++ b) (a ++ b) = true := by rw [z4C]; simp
     refine g1_ (y4_ i7 i15 (z0Q ud9) hlt) ?_
     refine cFx_ ?_
     refine o1_ (z0g z0d (hwk2)) (y8_ @z0B i0 i7 i9 i11 i12 i13 (y7_ i14 hln @q3S hc @k7j e1 @eq_self.{1})) ?_
     refine Gets.ret Tryz.tabOk ?_
     exact z0v rfl (sr_ Tryz.f4.eq_1) gk hN trivial
end Go.Proofs
