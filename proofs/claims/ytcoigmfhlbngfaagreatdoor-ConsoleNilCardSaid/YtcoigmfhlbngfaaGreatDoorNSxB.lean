/-
  What the executor's values, heaps and plain operations mean (soundness, part 1).
-/
import Derived.Test.YtcoigmfhlbngfaaGreatDoorNSxA
import Derived.Calls
import Derived.Laws.Sem
import GoSem.Dispatch
import Derived.Laws.Entries
import Derived.ChangeKeysEq
import Derived.IntWalk
import Derived.Laws.StructEq
import Derived.Laws.Cells
import GoSem.Instr.MapEntry
import GoSem.Instr.Next
import GoSem.Instr.Range
import GoSem.Instr.Entry
set_option linter.unusedSimpArgs false
set_option linter.unusedVariables false
namespace Go.Sx
theorem z0E {a b : Nat} (h : a ≠ b) : Nat.beq a b = false := by
 cases h' : Nat.beq a b
 ·rfl
 ·exact absurd (Nat.eq_of_beq_eq_true h') h
theorem z1k {a b : Nat} (h : a = b) : Nat.beq a b = true := by subst h; exact Nat.beq_refl a
theorem T.get_e {α : Type} (k : Nat) : (T.e : T α).get k = none := rfl
theorem T.get_n {α : Type} (l r : T α) (v : Option α) (k : Nat) :
  (T.n l v r).get k = if k = 0 then v else if k % 2 = 1 then l.get (k / 2) else r.get (k / 2 - 1) := by
 have h : (T.n l v r).get k = Bool.rec (Bool.rec (r.get (k / 2 - 1)) (l.get (k / 2)) (Nat.beq (k % 2) 1)) v (Nat.beq k 0) := rfl
 rw [h]
 by_cases h0 : k = 0
 ·subst h0; rfl
 ·have : Nat.beq k 0 = false := z0E h0
  rw [this, if_neg h0]
  by_cases h1 : k % 2 = 1
  ·rw [if_pos h1, h1]; rfl
  ·have : Nat.beq (k % 2) 1 = false := z0E h1
   rw [this, if_neg h1]
noncomputable def T.put {α : Type} (f : Nat) (t : T α) (k : Nat) (a : Option α) : T α := t.putK f k a id
theorem T.putK_zero {α β : Type} (t : T α) (k : Nat) (a : Option α) (c : T α → β) : t.putK 0 k a c = c t := rfl
theorem T.putK_e {α β : Type} (f : Nat) (k : Nat) (a : Option α) (c : T α → β) :
  (T.e : T α).putK (f + 1) k a c = if k = 0 then c (.n .e a .e) else if k % 2 = 1 then (T.e : T α).putK f (k / 2) a fun l => c (.n l none .e)
   else (T.e : T α).putK f (k / 2 - 1) a fun r => c (.n .e none r) := by
 have h : (T.e : T α).putK (f + 1) k a c = Bool.rec (Bool.rec ((T.e : T α).putK f (k / 2 - 1) a fun r => c (.n .e none r)) ((T.e : T α).putK f (k / 2) a fun l => c (.n l none .e)) (Nat.beq (k % 2) 1))
   (c (.n .e a .e)) (Nat.beq k 0) := rfl
 rw [h]
 by_cases h0 : k = 0
 ·subst h0; rfl
 ·have : Nat.beq k 0 = false := z0E h0
  rw [this, if_neg h0]
  by_cases h1 : k % 2 = 1
  ·rw [if_pos h1, h1]; rfl
  ·have : Nat.beq (k % 2) 1 = false := z0E h1
   rw [this, if_neg h1]
theorem T.putK_n {α β : Type} (f : Nat) (l r : T α) (v : Option α) (k : Nat) (a : Option α) (c : T α → β) :
  (T.n l v r).putK (f + 1) k a c = if k = 0 then c (.n l a r) else if k % 2 = 1 then l.putK f (k / 2) a fun l' => c (.n l' v r)
   else r.putK f (k / 2 - 1) a fun r' => c (.n l v r') := by
 have h : (T.n l v r).putK (f + 1) k a c = Bool.rec (Bool.rec (r.putK f (k / 2 - 1) a fun r' => c (.n l v r')) (l.putK f (k / 2) a fun l' => c (.n l' v r)) (Nat.beq (k % 2) 1))
   (c (.n l a r)) (Nat.beq k 0) := rfl
 rw [h]
 by_cases h0 : k = 0
 ·subst h0; rfl
 ·have : Nat.beq k 0 = false := z0E h0
  rw [this, if_neg h0]
  by_cases h1 : k % 2 = 1
  ·rw [if_pos h1, h1]; rfl
  ·have : Nat.beq (k % 2) 1 = false := z0E h1
   rw [this, if_neg h1]
theorem T.putK_eq' {α : Type} (f : Nat) : ∀ (β : Type) (t : T α) (k : Nat) (a : Option α) (c : T α → β), t.putK f k a c = c (t.putK f k a id) := by
 induction f with
 | zero => intro β t k a c; rfl
 | succ f ih =>
  intro β t k a c
  cases t with
  | e =>
   rw [T.putK_e, T.putK_e]
   split
   ·rfl
   ·split
    ·rw [ih _ .e (k / 2) a (fun l => c (.n l none .e)), ih _ .e (k / 2) a (fun l => id (T.n l none .e))]; rfl
    ·rw [ih _ .e (k / 2 - 1) a (fun r => c (.n .e none r)), ih _ .e (k / 2 - 1) a (fun r => id (T.n .e none r))]; rfl
  | n l v r =>
   rw [T.putK_n, T.putK_n]
   split
   ·rfl
   ·split
    ·rw [ih _ l (k / 2) a (fun l' => c (.n l' v r)), ih _ l (k / 2) a (fun l' => id (T.n l' v r))]; rfl
    ·rw [ih _ r (k / 2 - 1) a (fun r' => c (.n l v r')), ih _ r (k / 2 - 1) a (fun r' => id (T.n l v r'))]; rfl
theorem T.putK_eq {α β : Type} (f : Nat) (t : T α) (k : Nat) (a : Option α) (c : T α → β) : t.putK f k a c = c (t.put f k a) := T.putK_eq' f β t k a c
theorem T.get_put {α : Type} (f : Nat) : ∀ (t : T α) (k : Nat) (a : Option α) (j : Nat), k + 1 < 2 ^ f → (t.put f k a).get j = if j = k then a else t.get j := by
 induction f with
 | zero => intro t k a j h; simp at h
 | succ f ih =>
  intro t k a j h
  have hp : 2 ^ (f + 1) = 2 * 2 ^ f := by rw [Nat.pow_succ]; omega
  have key : ∀ (l r : T α) (v : Option α),
    ((if k = 0 then T.n l a r else if k % 2 = 1 then T.n (l.put f (k / 2) a) v r else T.n l v (r.put f (k / 2 - 1) a)) : T α).get j = if j = k then a else (T.n l v r).get j := by
   intro l r v
   by_cases h0 : k = 0
   ·subst h0
    rw [if_pos rfl, T.get_n, T.get_n]
    by_cases hj : j = 0
    ·rw [if_pos hj, if_pos hj]
    ·rw [if_neg hj, if_neg hj, if_neg hj]
   ·rw [if_neg h0]
    by_cases h1 : k % 2 = 1
    ·rw [if_pos h1, T.get_n, T.get_n]
     by_cases hj : j = 0
     ·rw [if_pos hj, if_pos hj, if_neg (by omega)]
     ·rw [if_neg hj, if_neg hj]
      by_cases hj1 : j % 2 = 1
      ·rw [if_pos hj1, if_pos hj1, ih _ _ _ _ (by omega)]
       by_cases hjk : j = k
       ·subst hjk; simp
       ·rw [if_neg hjk, if_neg (by omega)]
      ·rw [if_neg hj1, if_neg hj1, if_neg (by omega)]
    ·rw [if_neg h1, T.get_n, T.get_n]
     by_cases hj : j = 0
     ·rw [if_pos hj, if_pos hj, if_neg (by omega)]
     ·rw [if_neg hj, if_neg hj]
      by_cases hj1 : j % 2 = 1
      ·rw [if_pos hj1, if_pos hj1, if_neg (by omega)]
      ·rw [if_neg hj1, if_neg hj1, ih _ _ _ _ (by omega)]
       by_cases hjk : j = k
       ·subst hjk; simp
       ·rw [if_neg hjk, if_neg (by omega)]
  cases t with
  | e =>
   have : (T.e : T α).put (f + 1) k a = (if k = 0 then T.n .e a .e else if k % 2 = 1 then T.n ((T.e : T α).put f (k / 2) a) none .e else T.n .e none ((T.e : T α).put f (k / 2 - 1) a)) := by
    show (T.e : T α).putK (f + 1) k a id = _
    rw [T.putK_e]
    split
    ·rfl
    ·split <;> (rw [T.putK_eq]; rfl)
   rw [this, key, T.get_n]
   split
   ·rfl
   ·split
    ·rename_i h; rw [h]; rfl
    ·split <;> rfl
  | n l v r =>
   have : (T.n l v r).put (f + 1) k a = (if k = 0 then T.n l a r else if k % 2 = 1 then T.n (l.put f (k / 2) a) v r else T.n l v (r.put f (k / 2 - 1) a)) := by
    show (T.n l v r).putK (f + 1) k a id = _
    rw [T.putK_n]
    split
    ·rfl
    ·split <;> (rw [T.putK_eq]; rfl)
   rw [this, key]
noncomputable def T.set {α : Type} (t : T α) (k : Nat) (a : Option α) : T α := t.put (k + 1) k a
theorem T.setK_eq {α β : Type} (t : T α) (k : Nat) (a : Option α) (c : T α → β) : t.setK k a c = c (t.set k a) := T.putK_eq _ _ _ _ _
theorem T.get_set {α : Type} (t : T α) (k : Nat) (a : Option α) (j : Nat) : (t.set k a).get j = if j = k then a else t.get j :=
 T.get_put _ _ _ _ _ Nat.lt_two_pow_self
theorem z2A {α : Type} : ∀ (l : List α) (k : Nat), nth l k = l[k]? := by
 intro l
 induction l with
 | nil => intro k; rfl
 | cons a l ih =>
  intro k
  have h : nth (a :: l) k = Bool.rec (nth l (k - 1)) (some a) (Nat.beq k 0) := rfl
  rw [h]
  cases k with
  | zero => rfl
  | succ k => exact ih k
theorem z2t {α : Type} : ∀ (l : List α) (k : Nat), z6S l k = l.drop k := by
 intro l
 induction l with
 | nil => intro k; simp; rfl
 | cons a l ih =>
  intro k
  have h : z6S (a :: l) k = Bool.rec (z6S l (k - 1)) (a :: l) (Nat.beq k 0) := rfl
  rw [h]
  cases k with
  | zero => rfl
  | succ k => exact ih k
theorem z1O {α : Type} : ∀ (l : List α) (k : Nat), z4J l k = if k ≤ l.length then some (l.take k) else none := by
 intro l
 induction l with
 | nil =>
  intro k
  have h : z4J ([] : List α) k = Bool.rec none (some []) (Nat.beq k 0) := rfl
  rw [h]
  cases k with
  | zero => rfl
  | succ k => simp; rfl
 | cons a l ih =>
  intro k
  have h : z4J (a :: l) k = Bool.rec (z1D a (z4J l (k - 1))) (some []) (Nat.beq k 0) := rfl
  rw [h]
  cases k with
  | zero => simp
  | succ k =>
   have : Nat.beq (k + 1) 0 = false := rfl
   rw [this]
   show z1D a (z4J l k) = _
   rw [ih]
   by_cases hk : k ≤ l.length
   ·simp [hk, z1D]
   ·simp [hk, z1D]
theorem z0S {α : Type} : ∀ (l : List α), len l = l.length := by
 intro l
 induction l with
 | nil => rfl
 | cons a l ih => show len l + 1 = _; simp [ih]
theorem z1G {α : Type} : ∀ (l m : List α), app l m = l ++ m := by
 intro l m
 induction l with
 | nil => rfl
 | cons a l ih => show a :: app l m = _; simp [ih]
theorem q6w {α : Type} : ∀ (new l : List α), z4K new l = if new.length ≤ l.length then some (new ++ l.drop new.length) else none := by
 intro new
 induction new with
 | nil => intro l; simp; rfl
 | cons a new ih =>
  intro l
  cases l with
  | nil => simp; rfl
  | cons b l =>
   show z1D a (z4K new l) = _
   rw [ih]
   by_cases hk : new.length ≤ l.length
   ·simp [hk, z1D]
   ·simp [hk, z1D]
theorem q0v {α : Type} (new : List α) : ∀ (l : List α) (k : Nat),
  z1m new l k = if k + new.length ≤ l.length then some (l.take k ++ new ++ l.drop (k + new.length)) else none := by
 intro l
 induction l with
 | nil =>
  intro k
  have h : z1m new [] k = cond (Nat.beq k 0) (z4K new []) none := rfl
  rw [h]
  cases k with
  | zero => show z4K new [] = _; rw [q6w]; simp
  | succ k => simp; rfl
 | cons a l ih =>
  intro k
  have h : z1m new (a :: l) k = cond (Nat.beq k 0) (z4K new (a :: l)) (z1D a (z1m new l (k - 1))) := rfl
  rw [h]
  cases k with
  | zero => show z4K new (a :: l) = _; rw [q6w]; simp
  | succ k =>
   show z1D a (z1m new l k) = _
   rw [ih]
   by_cases hk : k + new.length ≤ l.length
   ·have : k + 1 + new.length ≤ (a :: l).length := by simp; omega
    rw [if_pos hk, if_pos this]
    have e : k + 1 + new.length = (k + new.length) + 1 := by omega
    simp [z1D, e]
   ·have : ¬ (k + 1 + new.length ≤ (a :: l).length) := by simp; omega
    rw [if_neg hk, if_neg this]; rfl
theorem z6p {α : Type} (b : α) : ∀ (l : List α) (k : Nat), q2A l b k = l.set k b := by
 intro l
 induction l with
 | nil => intro k; simp; rfl
 | cons a l ih =>
  intro k
  have h : q2A (a :: l) b k = cond (Nat.beq k 0) (b :: l) (a :: q2A l b (k - 1)) := rfl
  rw [h]
  cases k with
  | zero => rfl
  | succ k => exact congrArg (a :: ·) (ih k)
theorem q2P {α : Type} : ∀ (l : List α) (k : Nat), q5X l k = l.eraseIdx k := by
 intro l
 induction l with
 | nil => intro k; simp; rfl
 | cons a l ih =>
  intro k
  have h : q5X (a :: l) k = cond (Nat.beq k 0) l (a :: q5X l (k - 1)) := rfl
  rw [h]
  cases k with
  | zero => rfl
  | succ k => exact congrArg (a :: ·) (ih k)
theorem z4b (n : Nat) : ∀ (l : List Nat), z2j n l = l.contains n := by
 intro l
 induction l with
 | nil => rfl
 | cons m l ih =>
  have h : z2j n (m :: l) = cond (Nat.beq m n) true (z2j n l) := rfl
  rw [h, ih]
  by_cases hm : m = n
  ·subst hm; simp
  ·have : Nat.beq m n = false := z0E hm
   rw [this]
   simp [Ne.symm hm]
theorem q6x (a b : UInt8) : q7g a b = (a == b) := by
 unfold q7g
 rw [Bool.eq_iff_iff]
 simp [UInt8.toNat_inj]
theorem z7a : ∀ (s t : List UInt8), sbeq s t = (s == t) := by
 intro s
 induction s with
 | nil => intro t; cases t <;> rfl
 | cons a s ih =>
  intro t
  cases t with
  | nil => rfl
  | cons b t =>
   show cond (q7g a b) (sbeq s t) false = _
   rw [q6x, ih]
   cases h : (a == b) <;> simp [h]
theorem z4y (a b : Int) : ibeq a b = (a == b) := by
 rw [Bool.eq_iff_iff]
 cases a <;> cases b <;> simp [ibeq] <;> omega
theorem z7b (a b : Int) : iblt a b = decide (a < b) := by
 rw [Bool.eq_iff_iff]
 cases a <;> cases b <;> simp [iblt, Nat.blt_eq] <;> omega
theorem z3p (b : Bool) : bnot b = !b := by cases b <;> rfl
theorem z6c (a b : Bool) : bbeq a b = (a == b) := by cases a <;> cases b <;> rfl
theorem z0h {β : Type} (m : Nat) (c : Nat → β) : z0G m c = c m := by cases m <;> rfl
theorem q9A {β : Type} (n : Int) (c : Int → β) : j4u n c = c n := by cases n with
 | ofNat m => exact z0h m fun m => c (.ofNat m)
 | negSucc m => exact z0h m fun m => c (.negSucc m)
theorem q9B {β : Type} (b : Bool) (c : Bool → β) : q8F b c = c b := by cases b <;> rfl
theorem q9C {α β : Type} : ∀ (l : List α) (c : List α → β), q5Y l c = c l := by
 intro l
 induction l with
 | nil => intro c; rfl
 | cons a l ih => intro c; exact ih _
theorem z2b {β : Type} (v : AV) (c : AV → β) : z3V v c = c v := by
 cases v <;> simp only [z3V, q0m, z0h, q9A, q9B, q9C]
theorem z1n {β : Type} : ∀ (l : List AV) (c : List AV → β), z4N l c = c l := by
 intro l
 induction l with
 | nil => intro c; rfl
 | cons a l ih =>
  intro c
  show z3V a (fun a => z4N l fun l' => c (a :: l')) = _
  rw [z2b]; exact ih _
theorem q9D {β : Type} : ∀ (l : List AEntry) (c : List AEntry → β), q8L l c = c l := by
 intro l
 induction l with
 | nil => intro c; rfl
 | cons a l ih =>
  intro c
  show z3V a.key (fun k => z3V a.val fun v => z0G a.born fun n => q8L l fun l' => c (⟨k, v, n⟩ :: l')) = _
  rw [z2b, z2b, z0h]; exact ih _
end Go.Sx
namespace Go.Sx
structure Kin (w w' : World) : Prop where
 os : w'.os = w.os
 tape : w'.tape = w.tape
 output : w'.output = w.output
 size : w.heap.size ≤ w'.heap.size
theorem Kin.refl (w : World) : Kin w w := ⟨rfl, rfl, rfl, Nat.le_refl _⟩
theorem Kin.trans {a b c : World} (h : Kin a b) (h' : Kin b c) : Kin a c := ⟨h'.os.trans h.os, h'.tape.trans h.tape, h'.output.trans h.output, Nat.le_trans h.size h'.size⟩
structure Like (w' w : World) : Prop where
 heap : w'.heap = w.heap
 os : w'.os = w.os
 tape : w'.tape = w.tape
 output : w'.output = w.output
theorem Like.kin {w' w : World} (h : Like w' w) : Kin w w' := ⟨h.os, h.tape, h.output, by rw [h.heap]; exact Nat.le_refl _⟩
structure Env where
 blk : Nat → Nat
 base : Nat → Nat
 cap : Nat → Nat
 rest : Nat → Obj → Prop
 orig : World
mutual
def conc (ρ : Env) : AV → Value
 | .bool b => .bool b
 | .int k n => .int k n
 | .str s => .string ⟨s.toArray⟩
 | .ptr b o => .pointer (some ⟨ρ.blk b, ρ.base b + o, none⟩)
 | .nilptr => .pointer none
 | .slice b o l q c => .slice (some ⟨ρ.blk b, ρ.base b + o, none⟩) l (if q then ρ.cap b - c else c)
 | .nilslice => .slice none 0 0
 | .odd b o s c => .slice (some ⟨b, o, s⟩) 0 c
 | .tail b o o1 c => .slice (some ⟨ρ.blk b, ρ.base b + (if ρ.cap b = c then o else o1), none⟩) 0 (ρ.cap b - c)
 | .map r => .map (some (ρ.blk r))
 | .nilmap => .map none
 | .func fn x y => .func fn (concL ρ x).toArray (concL ρ y).toArray
 | .yld l => .func (.yield (ρ.blk l)) #[] #[]
 | .nilFunc => .nilFunc
 | .iface t v => .iface t (conc ρ v)
 | .nilIface => .nilIface
 | .agg cs => .agg (concL ρ cs).toArray
 | .tuple vs => .tuple (concL ρ vs).toArray
def concL (ρ : Env) : List AV → List Value
 | [] => []
 | v :: l => conc ρ v :: concL ρ l
end
theorem z0i (ρ : Env) : ∀ l, concL ρ l = l.map (conc ρ)
 | [] => rfl
 | v :: l => by simp [concL, z0i ρ l]
def Fn.plain : Fn → Prop
 | .yield _ => False
 | _ => True
mutual
def okV (ρ : Env) (D : Nat → Prop) : AV → Prop
 | .ptr b _ => D b
 | .slice b _ l q c => D b ∧ (q = true → c + l ≤ ρ.cap b)
 | .tail b _ _ _ => D b
 | .map r => D r
 | .yld l => D l
 | .func fn x y => Fn.plain fn ∧ okL ρ D x ∧ okL ρ D y
 | .iface _ v => okV ρ D v
 | .agg cs => okL ρ D cs
 | .tuple vs => okL ρ D vs
 | _ => True
def okL (ρ : Env) (D : Nat → Prop) : List AV → Prop
 | [] => True
 | v :: l => okV ρ D v ∧ okL ρ D l
end
theorem z0z {ρ : Env} {D : Nat → Prop} : ∀ {l : List AV}, okL ρ D l ↔ ∀ v ∈ l, okV ρ D v
 | [] => by simp [okL]
 | v :: l => by simp [okL, z0z (l := l)]
structure Sub (ρ : Env) (D : Nat → Prop) (ρ' : Env) (D' : Nat → Prop) : Prop where
 dom : ∀ b, D b → D' b
 blk : ∀ b, D b → ρ'.blk b = ρ.blk b
 base : ∀ b, D b → ρ'.base b = ρ.base b
 cap : ∀ b, D b → ρ'.cap b = ρ.cap b
 rest : ρ'.rest = ρ.rest
 orig : ρ'.orig = ρ.orig
theorem Sub.refl (ρ : Env) (D : Nat → Prop) : Sub ρ D ρ D := ⟨fun _ h => h, fun _ _ => rfl, fun _ _ => rfl, fun _ _ => rfl, rfl, rfl⟩
theorem Sub.trans {ρ ρ' ρ'' : Env} {D D' D'' : Nat → Prop} (h : Sub ρ D ρ' D') (h' : Sub ρ' D' ρ'' D'') : Sub ρ D ρ'' D'' :=
 ⟨fun b hb => h'.dom b (h.dom b hb), fun b hb => (h'.blk b (h.dom b hb)).trans (h.blk b hb), fun b hb => (h'.base b (h.dom b hb)).trans (h.base b hb),
  fun b hb => (h'.cap b (h.dom b hb)).trans (h.cap b hb), h'.rest.trans h.rest, h'.orig.trans h.orig⟩
mutual
theorem Sub.conc {ρ ρ' : Env} {D D' : Nat → Prop} (h : Sub ρ D ρ' D') : ∀ v, okV ρ D v → conc ρ' v = conc ρ v ∧ okV ρ' D' v
 | .bool _, _ => ⟨rfl, trivial⟩
 | .int _ _, _ => ⟨rfl, trivial⟩
 | .str _, _ => ⟨rfl, trivial⟩
 | .ptr b _, hb => by simp only [okV] at hb ⊢; exact ⟨by simp only [Sx.conc, h.blk b hb, h.base b hb], h.dom b hb⟩
 | .nilptr, _ => ⟨rfl, trivial⟩
 | .slice b _ _ q _, hb => by
  simp only [okV] at hb ⊢
  exact ⟨by simp only [Sx.conc, h.blk b hb.1, h.base b hb.1, h.cap b hb.1], h.dom b hb.1, fun hq => by rw [h.cap b hb.1]; exact hb.2 hq⟩
 | .nilslice, _ => ⟨rfl, trivial⟩
 | .odd _ _ _ _, _ => ⟨rfl, trivial⟩
 | .tail b _ _ _, hb => by simp only [okV] at hb ⊢; exact ⟨by simp only [Sx.conc, h.blk b hb, h.base b hb, h.cap b hb], h.dom b hb⟩
 | .map r, hb => by simp only [okV] at hb ⊢; exact ⟨by simp only [Sx.conc, h.blk r hb], h.dom r hb⟩
 | .nilmap, _ => ⟨rfl, trivial⟩
 | .func fn x y, hb => by
  simp only [okV] at hb ⊢
  exact ⟨by simp only [Sx.conc, (h.concL x hb.2.1).1, (h.concL y hb.2.2).1], hb.1, (h.concL x hb.2.1).2, (h.concL y hb.2.2).2⟩
 | .yld r, hb => by simp only [okV] at hb ⊢; exact ⟨by simp only [Sx.conc, h.blk r hb], h.dom r hb⟩
 | .nilFunc, _ => ⟨rfl, trivial⟩
 | .iface _ v, hb => by simp only [okV] at hb ⊢; exact ⟨by simp only [Sx.conc, (h.conc v hb).1], (h.conc v hb).2⟩
 | .nilIface, _ => ⟨rfl, trivial⟩
 | .agg cs, hb => by simp only [okV] at hb ⊢; exact ⟨by simp only [Sx.conc, (h.concL cs hb).1], (h.concL cs hb).2⟩
 | .tuple cs, hb => by simp only [okV] at hb ⊢; exact ⟨by simp only [Sx.conc, (h.concL cs hb).1], (h.concL cs hb).2⟩
theorem Sub.concL {ρ ρ' : Env} {D D' : Nat → Prop} (h : Sub ρ D ρ' D') : ∀ l, okL ρ D l → concL ρ' l = concL ρ l ∧ okL ρ' D' l
 | [], _ => ⟨rfl, trivial⟩
 | v :: l, hb => by
  simp only [okL] at hb ⊢
  exact ⟨by simp only [Sx.concL, (h.conc v hb.1).1, (h.concL l hb.2).1], (h.conc v hb.1).2, (h.concL l hb.2).2⟩
end
theorem Sub.eq {ρ ρ' : Env} {D D' : Nat → Prop} (h : Sub ρ D ρ' D') {v : AV} (hv : okV ρ D v) : Sx.conc ρ' v = Sx.conc ρ v := (h.conc v hv).1
theorem Sub.ok {ρ ρ' : Env} {D D' : Nat → Prop} (h : Sub ρ D ρ' D') {v : AV} (hv : okV ρ D v) : okV ρ' D' v := (h.conc v hv).2
noncomputable def slot (tm : T AV) (i : Nat) : AV := (tm.get i).getD z0A
structure TmRel (ρ : Env) (D : Nat → Prop) (size : Nat) (tm : T AV) (tmps : Array Value) : Prop where
 size : tmps.size = size
 at_ : ∀ i, tmps.getD i undef = conc ρ (slot tm i) ∧ okV ρ D (slot tm i)
theorem TmRel.sub {ρ ρ' : Env} {D D' : Nat → Prop} {n : Nat} {tm : T AV} {tmps : Array Value} (h : TmRel ρ D n tm tmps) (hs : Sub ρ D ρ' D') : TmRel ρ' D' n tm tmps :=
 ⟨h.size, fun i => ⟨by rw [(h.at_ i).1, hs.eq (h.at_ i).2], hs.ok (h.at_ i).2⟩⟩
theorem TmRel.put {ρ : Env} {D : Nat → Prop} {n : Nat} {tm : T AV} {tmps : Array Value} (h : TmRel ρ D n tm tmps) {d : Nat} (hd : d < n) {v : AV} (hv : okV ρ D v) :
  TmRel ρ D n (tm.set d (some v)) (tmps.setIfInBounds d (conc ρ v)) := by
 refine ⟨by simp [h.size], fun i => ?_⟩
 unfold slot
 rw [T.get_set]
 by_cases hi : i = d
 ·subst hi
  rw [if_pos rfl]
  refine ⟨?_, hv⟩
  simp [Array.getD_eq_getD_getElem?, h.size, hd]
 ·rw [if_neg hi]
  have := h.at_ i
  unfold slot at this
  refine ⟨?_, this.2⟩
  rw [← this.1]
  simp [Array.getD_eq_getD_getElem?, Array.getElem?_setIfInBounds_ne (Ne.symm hi)]
def concE (ρ : Env) (e : AEntry) : MapEntry := { key := conc ρ e.key, val := conc ρ e.val, born := e.born }
def okE (ρ : Env) (D : Nat → Prop) (e : AEntry) : Prop := okV ρ D e.key ∧ okV ρ D e.val
theorem Sub.concE {ρ ρ' : Env} {D D' : Nat → Prop} (h : Sub ρ D ρ' D') {e : AEntry} (he : okE ρ D e) : Sx.concE ρ' e = Sx.concE ρ e := by
 simp only [Sx.concE, h.eq he.1, h.eq he.2]
theorem Sub.okE {ρ ρ' : Env} {D D' : Nat → Prop} (h : Sub ρ D ρ' D') {e : AEntry} (he : okE ρ D e) : Sx.okE ρ' D' e := ⟨h.ok he.1, h.ok he.2⟩
def LoopRel (ρ : Env) (D : Nat → Prop) (r : ALoop) (l : Loop) : Prop :=
 l.state = r.state ∧ l.pending = r.pending ∧ TmRel ρ D r.size r.tmps l.tmps ∧ l.params = r.params.toArray ∧ l.assign = r.assign ∧ l.body = r.body ∧
  l.defers = ρ.blk r.defers ∧ D r.defers
def Loose (n : Nat) (fz : Nat × Nat) : Prop := fz.1 = fz.2 ∨ n ≤ fz.1
theorem Loose.no {n : Nat} {fz : Nat × Nat} (h : Loose n fz) : ∀ i, i < n → ¬ (fz.1 ≤ i ∧ i < fz.2) := by
 intro i hi ⟨h1, h2⟩
 rcases h with h | h <;> omega
def BRel (G : Tab) (ρ : Env) (D : Nat → Prop) (w : World) (b : Nat) : ABlk → Prop
 | .cells e ex l => okL ρ D l ∧ (∀ v ∈ l, z0F v = true) ∧ ∃ arr fz, w.heap[ρ.blk b]? = some (.cells arr e fz) ∧ Loose arr.size fz ∧
   ρ.base b + l.length ≤ arr.size ∧ (∀ i v, l[i]? = some v → arr[ρ.base b + i]? = some (conc ρ v)) ∧
   (ex = false → ∀ z, G.size e = some z → l.length ≤ ρ.cap b * z ∧ ρ.base b + ρ.cap b * z ≤ arr.size) ∧ (ex = true → ρ.base b = 0)
 | .big _ n z => okL ρ D z ∧ ∃ arr el fz, w.heap[ρ.blk b]? = some (.cells arr el fz) ∧ ρ.base b + n ≤ arr.size ∧
   (∀ i v, i < n → z[i % z.length]? = some v → arr[ρ.base b + i]? = some (conc ρ v))
 | .map es clock => (∀ e ∈ es, okE ρ D e) ∧ ∃ es', w.heap[ρ.blk b]? = some (.map es' clock) ∧ es'.toList = es.map (concE ρ)
 | .mapIter m since seen stepped => (∀ r, m = some r → D r) ∧ ρ.base b = 0 ∧ w.heap[ρ.blk b]? = some (.mapIter (m.map ρ.blk) since seen.toArray stepped)
 | .strIter s pos => ρ.base b = 0 ∧ w.heap[ρ.blk b]? = some (.stringIter ⟨s.toArray⟩ pos)
 | .loop r => ∃ l, w.heap[ρ.blk b]? = some (.loop l) ∧ LoopRel ρ D r l
 | .deferred => w.heap[ρ.blk b]? = some (.deferred (some []))
 | .fix _ l => okL ρ D l ∧ ∃ el fz, w.heap[ρ.blk b]? = some (.cells (concL ρ l).toArray el fz)
def z0W (o : Option ABlk) : Prop :=
 match o with
 | none => True
 | some (.big _ _ _) => True
 | some (.fix _ _) => True
 | some _ => False
structure HRel (G : Tab) (ρ : Env) (D : Nat → Prop) (w : World) (H : Heap) : Prop where
 lt : ∀ b, D b → b < H.next
 glob : ∀ g, g < G.nglob → D g ∧ ρ.blk g = g ∧ ρ.base g = 0
 inj : ∀ b b' o o', D b → D b' → H.blks.get b = some o → H.blks.get b' = some o' → ρ.blk b = ρ.blk b' → b = b' ∨ (z0W (some o) ∧ z0W (some o'))
 blk : ∀ b o, D b → H.blks.get b = some o → BRel G ρ D w b o
 rest : ∀ i o, ρ.rest i o → w.heap[i]? = some o ∧ ∀ b, D b → ρ.blk b = i → z0W (H.blks.get b)
 kin : Kin ρ.orig w
theorem LoopRel.sub {ρ ρ' : Env} {D D' : Nat → Prop} {r : ALoop} {l : Loop} (h : LoopRel ρ D r l) (hs : Sub ρ D ρ' D') : LoopRel ρ' D' r l := by
 obtain ⟨h1, h2, h3, h4, h5, h6, h7, h8⟩ := h
 exact ⟨h1, h2, h3.sub hs, h4, h5, h6, by rw [h7, hs.blk _ h8], hs.dom _ h8⟩
theorem BRel.sub {G : Tab} {ρ ρ' : Env} {D D' : Nat → Prop} {w w' : World} {b : Nat} {o : ABlk} (h : BRel G ρ D w b o) (hs : Sub ρ D ρ' D') (hb : D b)
  (hw : w'.heap[ρ.blk b]? = w.heap[ρ.blk b]?) : BRel G ρ' D' w' b o := by
 have hblk := hs.blk b hb
 have hbase := hs.base b hb
 have hcap := hs.cap b hb
 cases o with
 | cells e ex l =>
  obtain ⟨h1, h2, arr, fz, h3, h4, h5, h6, h7⟩ := h
  refine ⟨(hs.concL l h1).2, h2, arr, fz, by rw [hblk, hw, h3], h4, by rw [hbase]; exact h5, fun i v hv => ?_, ⟨fun hx z hz => by rw [hbase, hcap]; exact h7.1 hx z hz, fun hx => by rw [hbase]; exact h7.2 hx⟩⟩
  rw [hbase, h6 i v hv, hs.eq (z0z.1 h1 v (List.mem_of_getElem? hv))]
 | big e n z =>
  obtain ⟨h1, arr, el, fz, h3, h5, h6⟩ := h
  refine ⟨(hs.concL z h1).2, arr, el, fz, by rw [hblk, hw, h3], by rw [hbase]; exact h5, fun i v hi hv => ?_⟩
  rw [hbase, h6 i v hi hv, hs.eq (z0z.1 h1 v (List.mem_of_getElem? hv))]
 | map es clock =>
  obtain ⟨h1, es', h2, h3⟩ := h
  refine ⟨fun e he => hs.okE (h1 e he), es', by rw [hblk, hw, h2], ?_⟩
  rw [h3]
  exact List.map_congr_left fun e he => (hs.concE (h1 e he)).symm
 | mapIter m since seen stepped =>
  obtain ⟨h1, h2, h3⟩ := h
  refine ⟨fun r hr => hs.dom r (h1 r hr), by rw [hbase]; exact h2, ?_⟩
  rw [hblk, hw, h3]
  cases m with
  | none => rfl
  | some r => simp [hs.blk r (h1 r rfl)]
 | strIter s pos =>
  obtain ⟨h1, h2⟩ := h
  exact ⟨by rw [hbase]; exact h1, by rw [hblk, hw, h2]⟩
 | loop r =>
  obtain ⟨l, h1, h2⟩ := h
  exact ⟨l, by rw [hblk, hw, h1], h2.sub hs⟩
 | deferred =>
  show w'.heap[ρ'.blk b]? = some (.deferred (some []))
  rw [hblk, hw]; exact h
 | fix e l =>
  obtain ⟨h1, el, fz, h2⟩ := h
  exact ⟨(hs.concL l h1).2, el, fz, by rw [hblk, hw, h2, (hs.concL l h1).1]⟩
theorem BRel.stands {G : Tab} {ρ : Env} {D : Nat → Prop} {w : World} {b : Nat} {o : ABlk} (h : BRel G ρ D w b o) : ρ.blk b < w.heap.size := by
 have key : ∀ x : Obj, w.heap[ρ.blk b]? = some x → ρ.blk b < w.heap.size := fun x hx => (Array.getElem?_eq_some_iff.1 hx).1
 cases o with
 | cells e ex l => obtain ⟨_, _, arr, fz, h3, _⟩ := h; exact key _ h3
 | big e n z => obtain ⟨_, arr, el, fz, h3, _⟩ := h; exact key _ h3
 | map es clock => obtain ⟨_, es', h2, _⟩ := h; exact key _ h2
 | mapIter m since seen stepped => exact key _ h.2.2
 | strIter s pos => exact key _ h.2
 | loop r => obtain ⟨l, h1, _⟩ := h; exact key _ h1
 | deferred => exact key _ h
 | fix e l => obtain ⟨_, el, fz, h2⟩ := h; exact key _ h2
structure Ext (H : Heap) (ρ : Env) (D : Nat → Prop) (H' : Heap) (ρ' : Env) (D' : Nat → Prop) : Prop where
 sub : Sub ρ D ρ' D'
 next : H.next ≤ H'.next
 new : ∀ b, D' b → D b ∨ H.next ≤ b
theorem Ext.refl (H : Heap) (ρ : Env) (D : Nat → Prop) : Ext H ρ D H ρ D := ⟨.refl _ _, Nat.le_refl _, fun _ h => .inl h⟩
theorem Ext.same {H H' : Heap} (ρ : Env) (D : Nat → Prop) (h : H'.next = H.next) : Ext H ρ D H' ρ D := ⟨.refl _ _, Nat.le_of_eq h.symm, fun _ h => .inl h⟩
theorem Ext.trans {H H' H'' : Heap} {ρ ρ' ρ'' : Env} {D D' D'' : Nat → Prop} (h : Ext H ρ D H' ρ' D') (h' : Ext H' ρ' D' H'' ρ'' D'') : Ext H ρ D H'' ρ'' D'' :=
 ⟨h.sub.trans h'.sub, Nat.le_trans h.next h'.next, fun b hb => (h'.new b hb).elim (fun hb => h.new b hb) fun hb => .inr (Nat.le_trans h.next hb)⟩
theorem Heap.get_put (H : Heap) (b : Nat) (o : Option ABlk) (j : Nat) : (z0y H b o).blks.get j = if j = b then o else H.blks.get j := by
 unfold z0y; rw [T.setK_eq]; exact T.get_set _ _ _ _
theorem Heap.next_put (H : Heap) (b : Nat) (o : Option ABlk) : (z0y H b o).next = H.next := by
 unfold z0y; rw [T.setK_eq]
theorem z2m {β : Type} (H : Heap) (b : Nat) (o : Option ABlk) (c : Heap → β) : z0M H b o c = c (z0y H b o) := by
 unfold z0M z0y; rw [T.setK_eq, T.setK_eq]
noncomputable def Heap.push (H : Heap) (o : ABlk) : Heap := ⟨H.next + 1, H.blks.set H.next (some o)⟩
theorem z1Y {β : Type} (H : Heap) (o : ABlk) (c : Nat → Heap → β) : newA H o c = c H.next (H.push o) := by
 unfold newA Heap.push; rw [z0h, T.setK_eq, z0h]
theorem Heap.get_push (H : Heap) (o : ABlk) (j : Nat) : (H.push o).blks.get j = if j = H.next then some o else H.blks.get j := T.get_set _ _ _ _
theorem HRel.kill {G : Tab} {ρ : Env} {D : Nat → Prop} {w : World} {H : Heap} (h : HRel G ρ D w H) (b : Nat) : HRel G ρ D w (z0y H b none) where
 kin := h.kin
 lt := fun x hx => by rw [Heap.next_put]; exact h.lt x hx
 glob := h.glob
 inj := fun x y o o' hx hy hox hoy hxy => by
  rw [Heap.get_put] at hox hoy
  split at hox
  ·simp at hox
  ·split at hoy
   ·simp at hoy
   ·exact h.inj x y o o' hx hy hox hoy hxy
 blk := fun x o hx hox => by
  rw [Heap.get_put] at hox
  split at hox
  ·simp at hox
  ·exact h.blk x o hx hox
 rest := fun i o hi => ⟨(h.rest i o hi).1, fun x hx hxi => by
  rw [Heap.get_put]
  split
  ·trivial
  ·exact (h.rest i o hi).2 x hx hxi⟩
theorem HRel.write {G : Tab} {ρ : Env} {D : Nat → Prop} {w w' : World} {H : Heap} (h : HRel G ρ D w H) {b : Nat} {o o' : ABlk} (hb : D b)
  (ho : H.blks.get b = some o) (hn : BRel G ρ D w' b o') (hw : ∀ j, j ≠ ρ.blk b → w'.heap[j]? = w.heap[j]?) (hst : ¬ z0W (some o))
  (hk : Kin w w' := by exact ⟨rfl, rfl, rfl, by simp⟩) : HRel G ρ D w' (z0y H b (some o')) where
 kin := h.kin.trans hk
 rest := fun i q hi => by
  obtain ⟨h1, h2⟩ := h.rest i q hi
  have hne : ∀ x, D x → x = b → ρ.blk x ≠ i := fun x hx e hxi => by
   subst e
   have := h2 x hx hxi
   rw [ho] at this
   exact hst this
  refine ⟨by rw [hw i fun e => hne b hb rfl e.symm]; exact h1, fun x hx hxi => ?_⟩
  rw [Heap.get_put]
  split
  ·rename_i e; exact absurd hxi (hne x hx e)
  ·exact h2 x hx hxi
 lt := fun x hx => by rw [Heap.next_put]; exact h.lt x hx
 glob := h.glob
 inj := fun x y p q hx hy hox hoy hxy => by
  rw [Heap.get_put] at hox hoy
  split at hox <;> split at hoy
  ·simp_all
  ·rename_i h1 h2; subst h1; exact .inl ((h.inj _ _ _ _ hx hy ho hoy hxy).resolve_right fun e => hst e.1)
  ·rename_i h1 h2; subst h2; exact .inl ((h.inj _ _ _ _ hx hy hox ho hxy).resolve_right fun e => hst e.2)
  ·exact h.inj _ _ _ _ hx hy hox hoy hxy
 blk := fun x p hx hox => by
  rw [Heap.get_put] at hox
  split at hox
  ·rename_i h1; subst h1; simp only [Option.some.injEq] at hox; exact hox ▸ hn
  ·rename_i h1
   exact (h.blk x p hx hox).sub (.refl _ _) hx (hw _ fun he => h1 ((h.inj _ _ _ _ hx hb hox ho he).resolve_right fun e => hst e.2))
theorem HRel.same {G : Tab} {ρ : Env} {D : Nat → Prop} {w w' : World} {H : Heap} (h : HRel G ρ D w H) (hl : Like w' w) : HRel G ρ D w' H where
 kin := h.kin.trans hl.kin
 lt := h.lt
 glob := h.glob
 inj := h.inj
 blk := fun b o hb ho => (h.blk b o hb ho).sub (.refl _ _) hb (by rw [hl.heap])
 rest := fun i o hi => ⟨by rw [hl.heap]; exact (h.rest i o hi).1, (h.rest i o hi).2⟩
def Env.at (ρ : Env) (b blk base cap : Nat) : Env where
 blk := fun x => if x = b then blk else ρ.blk x
 base := fun x => if x = b then base else ρ.base x
 cap := fun x => if x = b then cap else ρ.cap x
 rest := ρ.rest
 orig := ρ.orig
theorem Env.at_sub (ρ : Env) {D : Nat → Prop} {b : Nat} (hb : ¬ D b) (blk base cap : Nat) : Sub ρ D (ρ.at b blk base cap) (fun x => D x ∨ x = b) where
 dom := fun _ h => .inl h
 blk := fun x hx => by have : x ≠ b := fun e => hb (e ▸ hx); simp [Env.at, this]
 base := fun x hx => by have : x ≠ b := fun e => hb (e ▸ hx); simp [Env.at, this]
 cap := fun x hx => by have : x ≠ b := fun e => hb (e ▸ hx); simp [Env.at, this]
 rest := rfl
 orig := rfl
theorem HRel.push {G : Tab} {ρ : Env} {D : Nat → Prop} {w w' : World} {H : Heap} (h : HRel G ρ D w H) (o : ABlk) (blk base cap : Nat)
  (hnew : ∀ b o', D b → H.blks.get b = some o' → ρ.blk b ≠ blk)
  (hn : BRel G (ρ.at H.next blk base cap) (fun x => D x ∨ x = H.next) w' H.next o)
  (hw : ∀ b o', D b → H.blks.get b = some o' → w'.heap[ρ.blk b]? = w.heap[ρ.blk b]?) (hr : ∀ i q, ρ.rest i q → blk ≠ i ∧ w'.heap[i]? = w.heap[i]?)
  (hk : Kin w w') :
  HRel G (ρ.at H.next blk base cap) (fun x => D x ∨ x = H.next) w' (H.push o) ∧ Ext H ρ D (H.push o) (ρ.at H.next blk base cap) (fun x => D x ∨ x = H.next) := by
 have hfresh : ¬ D H.next := fun hd => Nat.lt_irrefl _ (h.lt _ hd)
 have hsub := ρ.at_sub hfresh blk base cap
 have hat : (ρ.at H.next blk base cap).blk H.next = blk := by simp [Env.at]
 refine ⟨⟨?_, ?_, ?_, ?_, fun i q hi => ?_, h.kin.trans hk⟩, ⟨hsub, Nat.le_succ _, ?_⟩⟩
 ·rintro b (hb | hb)
  ·exact Nat.lt_succ_of_lt (h.lt b hb)
  ·subst hb; exact Nat.lt_succ_self _
 ·intro g hg
  obtain ⟨h1, h2, h3⟩ := h.glob g hg
  exact ⟨.inl h1, by rw [hsub.blk g h1, h2], by rw [hsub.base g h1, h3]⟩
 ·intro x y p q hx hy hox hoy hxy
  rw [Heap.get_push] at hox hoy
  by_cases ex : x = H.next
  ·by_cases ey : y = H.next
   ·exact .inl (by rw [ex, ey])
   ·rw [if_neg ey] at hoy
    have hy' := hy.resolve_right ey
    rw [ex, hat, hsub.blk y hy'] at hxy
    exact absurd hxy.symm (hnew y q hy' hoy)
  ·rw [if_neg ex] at hox
   have hx' := hx.resolve_right ex
   by_cases ey : y = H.next
   ·rw [ey, hat, hsub.blk x hx'] at hxy
    exact absurd hxy (hnew x p hx' hox)
   ·rw [if_neg ey] at hoy
    have hy' := hy.resolve_right ey
    rw [hsub.blk x hx', hsub.blk y hy'] at hxy
    exact h.inj x y p q hx' hy' hox hoy hxy
 ·intro x p hx hox
  rw [Heap.get_push] at hox
  by_cases ex : x = H.next
  ·rw [if_pos ex] at hox
   simp only [Option.some.injEq] at hox
   subst ex; subst hox; exact hn
  ·rw [if_neg ex] at hox
   have hx' := hx.resolve_right ex
   exact (h.blk x p hx' hox).sub hsub hx' (hw x p hx' hox)
 ·have hi : ρ.rest i q := hi
  obtain ⟨h1, h2⟩ := h.rest i q hi
  obtain ⟨h3, h4⟩ := hr i q hi
  refine ⟨by rw [h4]; exact h1, fun x hx hxi => ?_⟩
  rw [Heap.get_push]
  by_cases ex : x = H.next
  ·rw [ex, hat] at hxi; exact absurd hxi h3
  ·rw [if_neg ex]
   have hx' := hx.resolve_right ex
   rw [hsub.blk x hx'] at hxi
   exact h2 x hx' hxi
 ·rintro b (hb | hb)
  ·exact .inl hb
  ·exact .inr (Nat.le_of_eq hb.symm)
theorem HRel.pushEnd {G : Tab} {ρ : Env} {D : Nat → Prop} {w w' : World} {H : Heap} (h : HRel G ρ D w H) (o : ABlk) (x : Obj) (cap : Nat)
  (hw : w'.heap = w.heap.push x)
  (hn : BRel G (ρ.at H.next w.heap.size 0 cap) (fun x => D x ∨ x = H.next) w' H.next o) (hk : Kin w w' := by exact ⟨rfl, rfl, rfl, by simp⟩) :
  HRel G (ρ.at H.next w.heap.size 0 cap) (fun x => D x ∨ x = H.next) w' (H.push o) ∧ Ext H ρ D (H.push o) (ρ.at H.next w.heap.size 0 cap) (fun x => D x ∨ x = H.next) :=
 h.push o _ _ _ (fun b o' hb ho => Nat.ne_of_lt (h.blk b o' hb ho).stands) hn (fun b o' hb ho => by
  have := (h.blk b o' hb ho).stands
  rw [hw]
  simp [Array.getElem?_push, Nat.ne_of_lt this]) (fun i q hi => by
  have := (Array.getElem?_eq_some_iff.1 (h.rest i q hi).1).1
  exact ⟨fun e => by omega, by rw [hw]; simp [Array.getElem?_push, Nat.ne_of_lt this]⟩) hk
end Go.Sx
namespace Go.Sx
def z4X (k : ExtK) : Array Value → Sem Value :=
 match k with
 | .clone => Extern.MapsClone.clone
 | .same => Extern.AbiNoEscape.same
 | .noZero r => Extern.BytealgMakeNoZero.makeNoZero #[] #[r]
 | .indexByte => Extern.BytealgIndexByte.indexByte
 | .countByte => Extern.BytealgCount.count
structure TabOk (P : Program) (G : Tab) : Prop where
 types : ∀ t i, G.types.get t = some i → P.info? t = some i
 funcs : ∀ f fn, G.funcs.get f = some fn → P.funcs[f]? = some fn ∧ (fn.name == "runtime.NumGoroutine") = false
 mixed : P.follows .mixedOrders = true
 guard : ∀ t i, G.types.get t = some i → G.noEq.get t = none → P.eqGuardType P.depth t = true → ∃ ms, P.underlying t = some (.interface ms)
 stood : ∀ t i, G.types.get t = some i → P.stoodInHeld t = false
 byte : ∀ t z, G.und t = some (.int .u8) → G.size t = some z → z = 1
 blank : ∀ t fs, G.und t = some (.struct fs) → ∀ f ∈ fs, f.name ≠ "_"
 ext : ∀ f k, G.ext.get f = some k → ∃ fn, P.funcs[f]? = some fn ∧ (fn.name == "runtime.NumGoroutine") = false ∧ fn.body.isNone = true ∧ Extern.findNext fn = none ∧ Extern.find fn = some (z4X k)
theorem z0a {α β : Type} {o : Option α} {f : α → Option β} {b : β} (h : z0b o f = some b) : ∃ a, o = some a ∧ f a = some b := by
 cases o with
 | none => simp [z0b] at h
 | some a => exact ⟨a, rfl, h⟩
theorem z0k {H H' : Heap} {o : Option AV} {v : AV} (h : z0N H o = some (v, H')) : o = some v ∧ H' = H := by
 cases o with
 | none => simp [z0N] at h
 | some a => simp only [z0N, Option.some.injEq, Prod.mk.injEq] at h; exact ⟨by rw [h.1], h.2.symm⟩
theorem z0c {α : Type} {c : Bool} {x : Option α} {a : α} (h : (bif c then x else none) = some a) : c = true ∧ x = some a := by
 cases c <;> simp_all
theorem z1J {α : Type} {c : Bool} {x : Option α} {a : α} (h : (bif c then none else x) = some a) : c = false ∧ x = some a := by
 cases c <;> simp_all
theorem z2f {α : Type} {a : Option α} {o : Option (List α)} {l : List α} (h : z2k a o = some l) : ∃ x m, a = some x ∧ o = some m ∧ l = x :: m := by
 cases a with
 | none => simp [z2k] at h
 | some x => cases o with
  | none => simp [z2k, z1D] at h
  | some m => simp only [z2k, z1D, Option.some.injEq] at h; exact ⟨x, m, rfl, rfl, h.symm⟩
section
variable {P : Program} {G : Tab}
theorem TabOk.und (T : TabOk P G) {t : TypeId} {d : TypeDesc} (h : G.und t = some d) : P.underlying t = some d := by
 unfold Tab.und at h
 cases hi : G.types.get t with
 | none => rw [hi] at h; simp at h
 | some i =>
  rw [hi] at h
  have hp := T.types t i hi
  unfold Program.underlying
  rw [hp]
  simp only [j9D] at h
  split at h
  ·rename_i n u hd
   unfold j9C at h
   cases hu : G.types.get u with
   | none => rw [hu] at h; simp at h
   | some j =>
    rw [hu] at h
    have hq := T.types u j hu
    obtain ⟨desc, _, _, _, _, _, _, _, _, _⟩ := i
    simp only at hd
    subst hd
    simp only [hq]
    simpa using h
  ·rename_i hn
   obtain ⟨desc, _, _, _, _, _, _, _, _, _⟩ := i
   simp only at h hn ⊢
   cases desc <;> simp_all
theorem TabOk.info (T : TabOk P G) {t : TypeId} {n : Nat} (h : G.size t = some n) : ∃ i, G.types.get t = some i ∧ P.info? t = some i ∧ i.size = n := by
 unfold Tab.size at h
 cases hi : G.types.get t with
 | none => rw [hi] at h; simp at h
 | some i => rw [hi] at h; exact ⟨i, rfl, T.types t i hi, by simpa using h⟩
theorem TabOk.sizeOf (T : TabOk P G) {t : TypeId} {n : Nat} (h : G.size t = some n) (w : World) : (Go.sizeOf t).run P w = .ok n w := by
 obtain ⟨i, _, hp, hn⟩ := T.info h
 simp [Go.sizeOf, typeInfo, hp, hn]
theorem TabOk.underlying (T : TabOk P G) {t : TypeId} {d : TypeDesc} (h : G.und t = some d) (w : World) : (Go.underlying t).run P w = .ok d w := by
 simp [Go.underlying, T.und h]
theorem TabOk.isAgg (T : TabOk P G) {t : TypeId} {b : Bool} (h : G.isAgg t = some b) (w : World) : (Go.isAgg t).run P w = .ok b w := by
 unfold Tab.isAgg at h
 cases hd : G.und t with
 | none => rw [hd] at h; simp at h
 | some d =>
  rw [hd] at h
  simp only [Option.some.injEq] at h
  subst h
  simp only [Go.isAgg, Sem.run_bind, T.underlying hd, Result.andThen_ok]
  cases d <;> rfl
theorem z8P {v : Value} {a : AV} (h : ofScalar v = some a) (ρ : Env) (D : Nat → Prop) : conc ρ a = v ∧ okV ρ D a := by
 unfold ofScalar at h
 split at h <;> simp only [Option.some.injEq, reduceCtorEq] at h <;> subst h <;> simp [conc, okV]
theorem z7D : ∀ {l : List Value} {as : List AV}, z4O l = some as → ∀ (ρ : Env) (D : Nat → Prop), concL ρ as = l ∧ okL ρ D as := by
 intro l
 induction l with
 | nil => intro as h ρ D; simp only [z4O, Option.some.injEq] at h; subst h; exact ⟨rfl, trivial⟩
 | cons v l ih =>
  intro as h ρ D
  obtain ⟨x, m, hx, hm, rfl⟩ := z2f (a := ofScalar v) (o := z4O l) h
  obtain ⟨h1, h2⟩ := z8P hx ρ D
  obtain ⟨h3, h4⟩ := ih hm ρ D
  exact ⟨by simp [concL, h1, h3], h2, h4⟩
theorem z7c {v : Value} {a : AV} (h : ofValue v = some a) (ρ : Env) (D : Nat → Prop) : conc ρ a = v ∧ okV ρ D a := by
 unfold ofValue at h
 split at h
 ·rename_i cs
  unfold aggO at h
  split at h
  ·simp at h
  ·rename_i l hl
   simp only [Option.some.injEq] at h; subst h
   obtain ⟨h1, h2⟩ := z7D hl ρ D
   exact ⟨by simp [conc, h1], h2⟩
 ·rename_i cs
  unfold tupleO at h
  split at h
  ·simp at h
  ·rename_i l hl
   simp only [Option.some.injEq] at h; subst h
   obtain ⟨h1, h2⟩ := z7D hl ρ D
   exact ⟨by simp [conc, h1], h2⟩
 ·exact z8P h ρ D
theorem TabOk.zero (T : TabOk P G) {t : TypeId} {a : AV} (h : G.zero t = some a) : ∃ i z, P.info? t = some i ∧ i.zero = some z ∧ ∀ (ρ : Env) (D : Nat → Prop), conc ρ a = z ∧ okV ρ D a := by
 unfold Tab.zero at h
 cases hi : G.types.get t with
 | none => rw [hi] at h; simp at h
 | some i =>
  rw [hi] at h
  simp only at h
  unfold q5Z at h
  cases hz : i.zero with
  | none => rw [hz] at h; simp at h
  | some z => rw [hz] at h; exact ⟨i, z, T.types t i hi, hz, z7c h⟩
theorem TabOk.zeroValue (T : TabOk P G) {t : TypeId} {a : AV} (h : G.zero t = some a) (ρ : Env) (w : World) : (Go.zeroValue t).run P w = .ok (conc ρ a) w := by
 obtain ⟨i, z, hp, hz, hc⟩ := T.zero h
 simp [Go.zeroValue, typeInfo, hp, hz, (hc ρ fun _ => True).1]
def EvOk (G : Tab) (ρ : Env) (D : Nat → Prop) (tm : T AV) (ev : Operand → Value) : Prop := ∀ x a, aev G tm x = some a → ev x = conc ρ a ∧ okV ρ D a
theorem z7E {o : Option AV} {a : AV} (h : z3N o = some a) : a = o.getD z0A := by
 cases o with
 | none => simp only [z3N, Option.some.injEq] at h; exact h.symm
 | some v => simp only [z3N, Option.some.injEq] at h; exact h.symm
theorem j8F (ρ : Env) : conc ρ z0A = undef := rfl
theorem z1P {ρ : Env} {D : Nat → Prop} {w : World} {H : Heap} (hH : HRel G ρ D w H) {tm : T AV} {n : Nat} {fr : Frame} (hT : TmRel ρ D n tm fr.tmps) : EvOk G ρ D tm fr.eval := by
 intro x a h
 cases x with
 | tmp t =>
  have := z7E (o := tm.get t) h
  subst this
  exact hT.at_ t
 | const v => exact ⟨(z7c h ρ D).1.symm, (z7c h ρ D).2⟩
 | global g =>
  obtain ⟨hg, h⟩ := z0c (c := Nat.blt g G.nglob) h
  simp only [Option.some.injEq] at h
  subst h
  have hg : g < G.nglob := by simpa [Nat.blt_eq] using hg
  obtain ⟨h1, h2, h3⟩ := hH.glob g hg
  exact ⟨by simp [Frame.eval, conc, h2, h3], h1⟩
 | func f => simp only [aev, Option.some.injEq] at h; subst h; exact ⟨by simp [Frame.eval, conc, concL], trivial, trivial, trivial⟩
theorem EvOk.list {ρ : Env} {D : Nat → Prop} {tm : T AV} {ev : Operand → Value} (he : EvOk G ρ D tm ev) : ∀ {l : List Operand} {as : List AV}, aevs G tm l = some as →
  l.map ev = concL ρ as ∧ okL ρ D as := by
 intro l
 induction l with
 | nil => intro as h; simp only [aevs, Option.some.injEq] at h; subst h; exact ⟨rfl, trivial⟩
 | cons o l ih =>
  intro as h
  obtain ⟨x, m, hx, hm, rfl⟩ := z2f (a := aev G tm o) (o := aevs G tm l) h
  obtain ⟨h1, h2⟩ := he o x hx
  obtain ⟨h3, h4⟩ := ih hm
  exact ⟨by simp [concL, h1, h3], h2, h4⟩
def Val (P : Program) (ρ : Env) (D : Nat → Prop) (w : World) (s : Sem Value) (v : AV) : Prop := s.run P w = .ok (conc ρ v) w ∧ okV ρ D v
theorem j8G {k : IntKind} {n : Int} (h0 : 0 ≤ n) (h : n < 2 ^ (k.bits - 1)) (hk : k.signed = true) : k.wrap n = n := by
 cases k <;> simp [IntKind.signed, IntKind.bits] at hk h <;> simp [IntKind.wrap, IntKind.signed, IntKind.bits] <;> omega
theorem z4z (k : IntKind) (n : Int) : z6k k n = k.wrap n := by
 unfold z6k
 cases k <;> simp only []
 ·unfold q5W
  cases n with
  | ofNat m =>
   show (bif Nat.blt m 9223372036854775808 then Int.ofNat m else IntKind.i64.wrap (.ofNat m)) = _
   cases h : Nat.blt m 9223372036854775808
   ·exact cond_false _ _
   ·have : m < 9223372036854775808 := by simpa [Nat.blt_eq] using h
    rw [cond_true]
    have e : Int.ofNat m = (m : Int) := rfl
    exact (IntWalk.i64_in (Int.ofNat m) ⟨by rw [e]; omega, by rw [e]; omega⟩).symm
  | negSucc m =>
   show (bif Nat.blt m 9223372036854775808 then Int.negSucc m else IntKind.i64.wrap (.negSucc m)) = _
   cases h : Nat.blt m 9223372036854775808
   ·exact cond_false _ _
   ·have : m < 9223372036854775808 := by simpa [Nat.blt_eq] using h
    rw [cond_true]
    exact (IntWalk.i64_in (Int.negSucc m) ⟨by omega, by omega⟩).symm
 ·unfold q0l
  cases n <;> simp [IntKind.wrap, IntKind.signed, IntKind.bits]
 ·unfold q0l
  cases n <;> simp [IntKind.wrap, IntKind.signed, IntKind.bits]
 ·unfold q0l
  cases n <;> simp [IntKind.wrap, IntKind.signed, IntKind.bits]
end
end Go.Sx
namespace Go.Sx
theorem z4Y (l : List UInt8) : (ByteArray.mk l.toArray).toList = l := by
 rw [ByteArray.toList_eq]
theorem z4Z (l : List UInt8) : (ByteArray.mk l.toArray).size = l.length := by simp [ByteArray.size]
theorem z6q {o : Option (List AV)} {v : AV} (h : aggO o = some v) : ∃ l, o = some l ∧ v = .agg l := by
 cases o with
 | none => simp [aggO] at h
 | some l => exact ⟨l, rfl, by simpa [aggO] using h.symm⟩
theorem q1r {ρ : Env} {D : Nat → Prop} {l : List AV} (h : okL ρ D l) (k : Nat) : okL ρ D (l.take k) := z0z.2 fun v hv => z0z.1 h v (List.mem_of_mem_take hv)
theorem q1s {ρ : Env} {D : Nat → Prop} {l : List AV} (h : okL ρ D l) (k : Nat) : okL ρ D (l.drop k) := z0z.2 fun v hv => z0z.1 h v (List.mem_of_mem_drop hv)
theorem z0P {ρ : Env} {D : Nat → Prop} {l m : List AV} (h : okL ρ D l) (h' : okL ρ D m) : okL ρ D (l ++ m) :=
 z0z.2 fun v hv => (List.mem_append.1 hv).elim (z0z.1 h v) (z0z.1 h' v)
section
variable {P : Program} {G : Tab} {ρ : Env} {D : Nat → Prop} {w : World}
theorem z3B (T : TabOk P G) {t : TypeId} {cs : List AV} {off : Nat} {v : AV} (h : z3l G t cs off = some v) (hc : okL ρ D cs) :
  (part t (concL ρ cs).toArray off).run P w = .ok (conc ρ v) w ∧ okV ρ D v := by
 unfold z3l at h
 split at h
 ·simp at h
 ·rename_i hA
  obtain ⟨s, hs, h⟩ := z0a h
  obtain ⟨l, hl, rfl⟩ := z6q h
  rw [z2t, z1O] at hl
  split at hl
  ·rename_i hle
   simp only [Option.some.injEq] at hl
   subst hl
   refine ⟨?_, q1r (q1s hc off) s⟩
   simp only [part, Sem.run_bind, T.isAgg hA, Result.andThen_ok, if_true, T.sizeOf hs, Sem.run_pure, conc, z0i]
   congr 2
   apply Array.ext'
   simp [List.map_take, List.map_drop]
  ·simp at hl
 ·rename_i hA
  rw [z2A] at h
  refine ⟨?_, z0z.1 hc v (List.mem_of_getElem? h)⟩
  simp only [part, Sem.run_bind, T.isAgg hA, Result.andThen_ok, Bool.false_eq_true, if_false, z0i]
  simp [h]
theorem q7m {P : Program} {u : TypeDesc} {x y : AV} {b : Bool} {d : Nat} {t : TypeId} (h : z5Y u x y = some b) (hu : P.underlying t = some u) :
  (Op.equalIn (d + 1) t (conc ρ x) (conc ρ y)).run P w = .ok b w := by
 unfold z5Y at h
 split at h
 case h_2 k1 k a k' b' =>
  split at h
  ·rename_i hk
   subst hk
   simp only [Option.some.injEq] at h
   subst h
   simp [Op.equalIn, conc, run_underlying hu, z4y]
  ·simp at h
 case h_3 a c =>
  simp only [Option.some.injEq] at h
  subst h
  rw [z7a]
  simp only [Op.equalIn, conc, Sem.run_bind, run_underlying hu, Result.andThen_ok, Sem.run_pure]
  rw [beq_toListBytes, z4Y, z4Y]
 all_goals
  first
   | (simp at h; done)
   | (simp only [Option.some.injEq] at h; subst h; simp [Op.equalIn, conc, run_underlying hu, z6c])
theorem q2Q {o next : Option Bool} {b : Bool} (h : andO o next = some b) : (o = some true ∧ next = some b) ∨ (o = some false ∧ b = false) := by
 cases o with
 | none => simp [andO] at h
 | some c => cases c <;> simp [andO] at h ⊢ <;> first | exact h | exact h.symm
theorem q6y {eq : AV → AV → Option Bool} {a b : Option AV} {r : Bool} (h : eq2 eq a b = some r) : ∃ x y, a = some x ∧ b = some y ∧ eq x y = some r := by
 cases a with
 | none => simp [eq2] at h
 | some x => cases b with
  | none => simp [eq2] at h
  | some y => exact ⟨x, y, rfl, rfl, h⟩
theorem q2R (T : TabOk P G) {eq : TypeId → AV → AV → Option Bool} {d : Nat}
  (heq : ∀ t x y b, eq t x y = some b → okV ρ D x → okV ρ D y → (Op.equalIn d t (conc ρ x) (conc ρ y)).run P w = .ok b w) {xs ys : List AV} (hx : okL ρ D xs) (hy : okL ρ D ys) :
  ∀ {fs : List Field} {b : Bool}, (∀ f ∈ fs, f.name ≠ "_") → z6m G eq xs ys fs = some b →
   (Op.eqFields d (concL ρ xs).toArray (concL ρ ys).toArray fs).run P w = .ok b w := by
 intro fs
 induction fs with
 | nil => intro b _ h; simp only [z6m, Option.some.injEq] at h; subst h; rfl
 | cons f fs ih =>
  intro b hn h
  have h' : andO (eq2 (eq f.type) (z3l G f.type xs f.offset) (z3l G f.type ys f.offset)) (z6m G eq xs ys fs) = some b := h
  have key : ∀ r, eq2 (eq f.type) (z3l G f.type xs f.offset) (z3l G f.type ys f.offset) = some r →
    (Op.eqFields d (concL ρ xs).toArray (concL ρ ys).toArray (f :: fs)).run P w =
     (if r then Op.eqFields d (concL ρ xs).toArray (concL ρ ys).toArray fs else pure false : Sem Bool).run P w := by
   intro r hr
   obtain ⟨x, y, h1, h2, h3⟩ := q6y hr
   obtain ⟨p1, o1⟩ := z3B (w := w) T h1 hx
   obtain ⟨p2, o2⟩ := z3B (w := w) T h2 hy
   have p3 := heq _ _ _ _ h3 o1 o2
   have : f.name ≠ "_" := hn f (by simp)
   simp only [Op.eqFields, this, ne_eq, not_false_eq_true, if_true, Sem.run_bind, p1, p2, p3, Result.andThen_ok]
   cases r <;> rfl
  rcases q2Q h' with ⟨h1, h2⟩ | ⟨h1, rfl⟩
  ·rw [key _ h1]
   exact ih (fun g hg => hn g (by simp [hg])) h2
  ·rw [key _ h1]; rfl
def z5a (d : Nat) (e : TypeId) (xs ys : Array Value) (z : Nat) : Nat → Nat → Sem Bool
 | 0, _ => pure true
 | n + 1, i => do if ← Op.equalIn d e (← part e xs (i * z)) (← part e ys (i * z)) then z5a d e xs ys z n (i + 1) else pure false
theorem z7d (d : Nat) {t e : TypeId} {n z : Nat} (xs ys : Array Value) (ht : P.underlying t = some (.array n e)) (hz : ∀ w : World, (sizeOf e).run P w = .ok z w) :
  (Op.equalIn (d + 1) t (.agg xs) (.agg ys)).run P w = (z5a d e xs ys z n 0).run P w := by
 simp only [Op.equalIn, Sem.run_bind, run_underlying ht, Result.andThen_ok, hz]
 rw [Std.Legacy.Range.forIn_eq_forIn_range']
 simp only [Std.Legacy.Range.size, Nat.sub_zero, Nat.add_sub_cancel, Nat.div_one]
 generalize 0 = i
 clear ht
 induction n generalizing w i with
 | zero => simp [z5a]
 | succ n ih =>
  rw [List.range'_succ]
  simp only [List.forIn_cons, z5a, Sem.run_bind, Sem.run_ite]
  generalize (part e xs (i * z)).run P w = r1
  cases r1 with
  | ok a w1 =>
   simp only [Result.andThen_ok]
   generalize (part e ys (i * z)).run P w1 = r2
   cases r2 with
   | ok b w2 =>
    simp only [Result.andThen_ok]
    generalize (Op.equalIn d e a b).run P w2 = r3
    cases r3 with
    | ok r w3 =>
     cases r
     ·simp only [Result.andThen_ok, Bool.not_false, if_true, Sem.run_pure, Bool.false_eq_true, if_false]
     ·simp only [Result.andThen_ok, Bool.not_true, Bool.false_eq_true, if_false, Sem.run_pure, if_true]
      exact ih (i + 1)
    | halt x w3 => simp [Result.andThen]
   | halt x w2 => simp [Result.andThen]
  | halt x w1 => simp [Result.andThen]
theorem q4z (T : TabOk P G) {eq : AV → AV → Option Bool} {d : Nat} {e : TypeId}
  (heq : ∀ x y b, eq x y = some b → okV ρ D x → okV ρ D y → (Op.equalIn d e (conc ρ x) (conc ρ y)).run P w = .ok b w) {xs ys : List AV} (hx : okL ρ D xs) (hy : okL ρ D ys) {z : Nat} :
  ∀ {n i : Nat} {b : Bool}, q1a G eq e xs ys z n i = some b → (z5a d e (concL ρ xs).toArray (concL ρ ys).toArray z n i).run P w = .ok b w := by
 intro n
 induction n with
 | zero => intro i b h; have h : some true = some b := h; simp only [Option.some.injEq] at h; subst h; rfl
 | succ n ih =>
  intro i b h
  have h' : andO (eq2 eq (z3l G e xs (i * z)) (z3l G e ys (i * z))) (q1a G eq e xs ys z n (i + 1)) = some b := h
  have key : ∀ r, eq2 eq (z3l G e xs (i * z)) (z3l G e ys (i * z)) = some r →
    (z5a d e (concL ρ xs).toArray (concL ρ ys).toArray z (n + 1) i).run P w =
     (if r then z5a d e (concL ρ xs).toArray (concL ρ ys).toArray z n (i + 1) else pure false : Sem Bool).run P w := by
   intro r hr
   obtain ⟨x, y, h1, h2, h3⟩ := q6y hr
   obtain ⟨p1, o1⟩ := z3B (w := w) T h1 hx
   obtain ⟨p2, o2⟩ := z3B (w := w) T h2 hy
   have p3 := heq _ _ _ h3 o1 o2
   simp only [z5a, Sem.run_bind, p1, p2, p3, Result.andThen_ok]
  rcases q2Q h' with ⟨h1, h2⟩ | ⟨h1, rfl⟩
  ·rw [key _ h1]
   exact ih h2
  ·rw [key _ h1]; rfl
theorem q6z (T : TabOk P G) : ∀ (d : Nat) (n : Nat), d ≤ n → ∀ {t : TypeId} {x y : AV} {b : Bool}, eqA G d t x y = some b → okV ρ D x → okV ρ D y →
  (Op.equalIn n t (conc ρ x) (conc ρ y)).run P w = .ok b w := by
 intro d
 induction d with
 | zero => intro n _ t x y b h; simp [eqA] at h
 | succ d ih =>
  intro n hn t x y b h hx hy
  obtain ⟨n, rfl⟩ : ∃ m, n = m + 1 := ⟨n - 1, by omega⟩
  have h' : z0b (G.und t) (eqD G (eqA G d) x y) = some b := h
  obtain ⟨u, hu, h1⟩ := z0a h'
  have hp := T.und hu
  unfold eqD at h1
  split at h1
  ·rename_i e a o c p
   obtain ⟨z, hz, h2⟩ := z0a h1
   obtain ⟨k1, h3⟩ := z0c h2
   obtain ⟨k2, h4⟩ := z0c h3
   have k1 := Nat.eq_of_beq_eq_true k1
   have k2 := Nat.eq_of_beq_eq_true k2
   simp only [Option.some.injEq] at h4
   subst k1; subst k2; subst h4
   simp only [Op.equalIn, conc, Sem.run_bind, run_underlying hp, Result.andThen_ok, T.sizeOf hz, sameAddr, beq_self_eq_true, if_true]
   split <;> rfl
  ·rename_i fs xs ys
   have hf : P.fieldsOf t = fs := by simp [Program.fieldsOf, hp]
   obtain ⟨i, hi, _⟩ : ∃ i, G.types.get t = some i ∧ True := by
    unfold Tab.und at hu
    cases hi : G.types.get t with
    | none => rw [hi] at hu; simp at hu
    | some i => exact ⟨i, rfl, trivial⟩
   have := run_equalIn_struct (P := P) w n t (concL ρ xs).toArray (concL ρ ys).toArray (by rw [hf]; exact hp) (T.stood t i hi)
   show (Op.equalIn (n + 1) t (.agg (concL ρ xs).toArray) (.agg (concL ρ ys).toArray)).run P w = _
   rw [this, hf]
   exact q2R (D := D) T (fun t x y b he hx hy => ih n (by omega) he hx hy) hx hy (fun f hf => T.blank t fs hu f (by simpa using hf)) h1
  ·rename_i m e xs ys
   obtain ⟨z, hz, h1⟩ := z0a h1
   have := z7d (P := P) (w := w) n (concL ρ xs).toArray (concL ρ ys).toArray hp (fun w => T.sizeOf hz w)
   show (Op.equalIn (n + 1) t (.agg (concL ρ xs).toArray) (.agg (concL ρ ys).toArray)).run P w = _
   rw [this]
   exact q4z (D := D) T (fun x y b he hx hy => ih n (by omega) he hx hy) hx hy h1
  ·exact q7m h1 hp
end
end Go.Sx
namespace Go.Sx
theorem z0Z {α : Type} {c : Bool} {x y : Option α} {a : α} (h : (bif c then x else y) = some a) : (c = true ∧ x = some a) ∨ (c = false ∧ y = some a) := by
 cases c <;> simp_all
theorem z1r {a b : Nat} (h : Nat.blt a b = true) : a < b := by simpa [Nat.blt_eq] using h
theorem z1h {a b : Nat} (h : Nat.ble a b = true) : a ≤ b := by simpa using h
theorem z0B {a b : Nat} (h : Nat.beq a b = true) : a = b := Nat.eq_of_beq_eq_true h
theorem q9E : ∀ (s t : List UInt8), sblt s t = Op.bytesLess s t := by
 intro s
 induction s with
 | nil => intro t; cases t <;> rfl
 | cons a s ih =>
  intro t
  cases t with
  | nil => rfl
  | cons b t =>
   show (bif Nat.blt a.toNat b.toNat then true else bif q7g a b then sblt s t else false) = _
   rw [q6x, ih]
   simp only [Op.bytesLess]
   have : Nat.blt a.toNat b.toNat = decide (a < b) := by
    rw [Bool.eq_iff_iff]; simp [UInt8.lt_iff_toNat_lt]
   rw [this]
   cases decide (a < b) <;> cases (a == b) <;> simp
theorem q4A : ∀ (s t : List UInt8), (Op.bytesLess s t || s == t) = !Op.bytesLess t s := by
 intro s
 induction s with
 | nil => intro t; cases t <;> rfl
 | cons a s ih =>
  intro t
  cases t with
  | nil => rfl
  | cons b t =>
   have := ih t
   simp only [Op.bytesLess]
   by_cases h1 : a < b
   ·have h2 : ¬ b < a := by rw [UInt8.lt_iff_toNat_lt] at *; omega
    have h3 : (b == a) = false := by
     rw [beq_eq_false_iff_ne]; rintro rfl; exact absurd h1 (by rw [UInt8.lt_iff_toNat_lt]; omega)
    simp [h1, h2, h3]
   ·by_cases h2 : b < a
    ·have h3 : (a == b) = false := by
      rw [beq_eq_false_iff_ne]; rintro rfl; exact absurd h2 (by rw [UInt8.lt_iff_toNat_lt]; omega)
     have h4 : ¬ (a = b) := by simpa using h3
     simp [h1, h2, h4]
    ·have h3 : a = b := by
      rw [UInt8.lt_iff_toNat_lt] at h1 h2
      exact UInt8.toNat_inj.1 (by omega)
     subst h3
     simp [h1, ← this]
theorem z8h {k : IntKind} {m n : Nat} (hm : m < q1b k) (hn : n < q1b k) (f : Nat → Nat → Nat) (g : BitVec k.bits → BitVec k.bits → BitVec k.bits)
  (hg : ∀ x y, (g x y).toNat = f x.toNat y.toNat) (hf : ∀ i, m < 2 ^ i → n < 2 ^ i → f m n < 2 ^ i) :
  k.wrap ((g (BitVec.ofInt k.bits (Int.ofNat m)) (BitVec.ofInt k.bits (Int.ofNat n))).toNat) = Int.ofNat (f m n) := by
 have h1 : ∀ x, x < q1b k → (BitVec.ofInt k.bits (Int.ofNat x)).toNat = x := by
  intro x hx
  have : BitVec.ofInt k.bits (Int.ofNat x) = BitVec.ofNat k.bits x := by simp
  rw [this, BitVec.toNat_ofNat]
  apply Nat.mod_eq_of_lt
  cases k <;> simp [q1b, IntKind.bits] at * <;> omega
 rw [hg, h1 m hm, h1 n hn]
 obtain ⟨i, hi, hw⟩ : ∃ i, q1b k = 2 ^ i ∧ ∀ x : Nat, x < 2 ^ i → k.wrap (x : Int) = x := by
  cases k
  case i64 => exact ⟨63, rfl, fun x hx => IntWalk.i64_in _ ⟨by omega, by omega⟩⟩
  case u64 => exact ⟨64, rfl, fun x hx => IntWalk.u64_in _ ⟨by omega, by omega⟩⟩
  case u32 => exact ⟨32, rfl, fun x hx => IntWalk.u32_in _ ⟨by omega, by omega⟩⟩
  case u8 => exact ⟨8, rfl, fun x hx => IntWalk.u8_in _ ⟨by omega, by omega⟩⟩
  case i8 => exact ⟨7, rfl, fun x hx => IntWalk.i8_in _ ⟨by omega, by omega⟩⟩
  case i16 => exact ⟨7, rfl, fun x hx => IntWalk.i16_in _ ⟨by omega, by omega⟩⟩
  case i32 => exact ⟨7, rfl, fun x hx => IntWalk.i32_in _ ⟨by omega, by omega⟩⟩
  case u16 => exact ⟨7, rfl, fun x hx => IntWalk.u16_in _ ⟨by omega, by omega⟩⟩
 rw [hi] at hm hn
 exact hw _ (hf i hm hn)
section
variable {P : Program} {G : Tab} {ρ : Env} {D : Nat → Prop} {w : World}
theorem z6r {k : IntKind} {f : Nat → Nat → Nat} {a b : Int} {v : AV} (h : bitO k f a b = some v) :
  ∃ m n : Nat, a = Int.ofNat m ∧ b = Int.ofNat n ∧ m < q1b k ∧ n < q1b k ∧ v = .int k (.ofNat (f m n)) := by
 unfold bitO at h
 split at h
 ·rename_i m n
  obtain ⟨h1, h⟩ := z0c h
  obtain ⟨h2, h⟩ := z0c h
  exact ⟨m, n, rfl, rfl, z1r h1, z1r h2, by simpa using h.symm⟩
 ·simp at h
theorem q9F (op : BinOp) (hop : op ≠ .shl ∧ op ≠ .shr) (t : TypeId) (k : IntKind) (a b : Int) :
  binOp op t (.int k a) (.int k b) = (match op with
   | .add | .sub | .mul => Op.intArith op k a b
   | .quo | .rem => Op.intDiv op k a b
   | .and | .or | .xor | .andNot => Op.intBits op k a b
   | _ => Op.intCmp op a b) := by
 cases op <;> first | exact absurd rfl hop.1 | exact absurd rfl hop.2 | simp [binOp]
theorem q1t {op : BinOp} {k : IntKind} {a b : Int} {v : AV} (hop : op ≠ .shl ∧ op ≠ .shr) (t : TypeId) (h : ibin op k a b = some v) :
  (binOp op t (.int k a) (.int k b)).run P w = .ok (conc ρ v) w ∧ okV ρ D v := by
 rw [q9F op hop]
 unfold ibin at h
 cases op <;> simp only [] at h ⊢
 case add => simp only [Option.some.injEq] at h; subst h; exact ⟨by simp [Op.intArith, conc, z4z], trivial⟩
 case sub => simp only [Option.some.injEq] at h; subst h; exact ⟨by simp [Op.intArith, conc, z4z], trivial⟩
 case mul => simp only [Option.some.injEq] at h; subst h; exact ⟨by simp [Op.intArith, conc, z4z], trivial⟩
 case quo =>
  obtain ⟨h1, h⟩ := z1J h
  simp only [Option.some.injEq] at h; subst h
  rw [z4y] at h1
  have : ¬ b = 0 := by simpa using h1
  exact ⟨by simp [Op.intDiv, conc, z4z, this], trivial⟩
 case rem =>
  obtain ⟨h1, h⟩ := z1J h
  simp only [Option.some.injEq] at h; subst h
  rw [z4y] at h1
  have : ¬ b = 0 := by simpa using h1
  exact ⟨by simp [Op.intDiv, conc, this], trivial⟩
 case and =>
  obtain ⟨m, n, rfl, rfl, hm, hn, rfl⟩ := z6r h
  refine ⟨?_, trivial⟩
  simp only [Op.intBits, Sem.run_pure, conc]
  rw [z8h hm hn Nat.land (fun x y => x &&& y) (fun x y => by first | simp | (simp; rfl)) (fun i h1 h2 => Nat.and_lt_two_pow m h2)]
 case or =>
  obtain ⟨m, n, rfl, rfl, hm, hn, rfl⟩ := z6r h
  refine ⟨?_, trivial⟩
  simp only [Op.intBits, Sem.run_pure, conc]
  rw [z8h hm hn Nat.lor (fun x y => x ||| y) (fun x y => by first | simp | (simp; rfl)) (fun i h1 h2 => Nat.or_lt_two_pow h1 h2)]
 case xor =>
  obtain ⟨m, n, rfl, rfl, hm, hn, rfl⟩ := z6r h
  refine ⟨?_, trivial⟩
  simp only [Op.intBits, Sem.run_pure, conc]
  rw [z8h hm hn Nat.xor (fun x y => x ^^^ y) (fun x y => by first | simp | (simp; rfl)) (fun i h1 h2 => Nat.xor_lt_two_pow h1 h2)]
 case andNot =>
  obtain ⟨m, n, rfl, rfl, hm, hn, rfl⟩ := z6r h
  refine ⟨?_, trivial⟩
  simp only [Op.intBits, Sem.run_pure, conc]
  rw [z8h hm hn (fun a b => Nat.xor a (Nat.land a b)) (fun x y => x &&& ~~~y) (fun x y => by
   have : x &&& ~~~y = x ^^^ (x &&& y) := by
    ext i hi
    simp only [BitVec.getElem_and, BitVec.getElem_not, BitVec.getElem_xor]
    cases x[i] <;> cases y[i] <;> rfl
   rw [this]
   simp) (fun i h1 h2 => Nat.xor_lt_two_pow h1 (Nat.and_lt_two_pow m h2))]
 all_goals first
  | (simp at h; done)
  | (simp only [boolO, Option.some.injEq] at h; subst h; refine ⟨?_, trivial⟩; simp [Op.intCmp, conc, z4y, z7b, z3p]; done)
  | (simp only [boolO, Option.some.injEq] at h; subst h; refine ⟨?_, trivial⟩; simp [Op.intCmp, conc, z4y, z7b, z3p]; rfl)
  | (simp only [boolO, Option.some.injEq] at h; subst h; refine ⟨?_, trivial⟩; simp only [Op.intCmp, conc, z7b, z3p, Sem.run_pure]; congr 2; rw [Bool.eq_iff_iff]; simp)
theorem j6Y {k yk : IntKind} {a b : Int} {v : AV} (t : TypeId) (h : shlO k a b = some v) :
  (binOp .shl t (.int k a) (.int yk b)).run P w = .ok (conc ρ v) w ∧ okV ρ D v := by
 unfold shlO at h
 split at h
 ·rename_i m n
  obtain ⟨h1, h⟩ := z0c h
  simp only [Option.some.injEq] at h; subst h
  refine ⟨?_, trivial⟩
  have hn : ¬ (Int.ofNat n < 0) := by simp
  simp only [binOp, Op.shift, if_neg hn, Sem.run_pure, conc]
  congr 2
 ·simp at h
theorem j6Z {k yk : IntKind} {a b : Int} {v : AV} (t : TypeId) (h : shrO k a b = some v) :
  (binOp .shr t (.int k a) (.int yk b)).run P w = .ok (conc ρ v) w ∧ okV ρ D v := by
 unfold shrO at h
 split at h
 ·rename_i m n
  obtain ⟨h1, h⟩ := z0c h
  simp only [Option.some.injEq] at h; subst h
  refine ⟨?_, trivial⟩
  have hn : ¬ (Int.ofNat n < 0) := by simp
  simp only [binOp, Op.shift, if_neg hn, Sem.run_pure, conc]
  congr 2
  have : (2 : Int) ^ min (Int.ofNat n).toNat k.bits = ((2 ^ min n k.bits : Nat) : Int) := by simp
  rw [this]
  exact (Int.ofNat_fdiv m _).symm
 ·simp at h
theorem j7a {op : BinOp} {a b : List UInt8} {v : AV} (t : TypeId) (h : sbin op a b = some v) :
  (binOp op t (.string ⟨a.toArray⟩) (.string ⟨b.toArray⟩)).run P w = .ok (conc ρ v) w ∧ okV ρ D v := by
 unfold sbin at h
 cases op <;> simp only [] at h
 case add =>
  unfold catO at h
  obtain ⟨h1, h⟩ := z0c h
  simp only [Option.some.injEq] at h; subst h
  refine ⟨?_, trivial⟩
  have h1 := z1h h1
  rw [z0S, z0S] at h1
  have : ¬ (((a.length + b.length : Nat) : Int) > IntKind.i64.max) := by
   simp [IntKind.max, IntKind.signed, IntKind.bits]; omega
  simp only [binOp, Op.stringOp, z4Z, if_neg this, Sem.run_pure, conc, z1G]
  congr 2
 all_goals first
  | (simp at h; done)
  | (simp only [boolO, Option.some.injEq] at h; subst h; refine ⟨?_, trivial⟩; simp [binOp, Op.stringOp, conc, z7a, q9E, z3p]; done)
  | (simp only [boolO, Option.some.injEq] at h; subst h; refine ⟨?_, trivial⟩; simp only [binOp, Op.stringOp, conc, z4Y, q9E, z3p, Sem.run_pure, q4A]; try simp)
end
end Go.Sx
namespace Go.Sx
section
variable {P : Program} {G : Tab} {ρ : Env} {D : Nat → Prop} {w : World}
theorem z6s {a : AV} (h : conc ρ a = .nilIface) : a = .nilIface := by cases a <;> simp [conc] at h ⊢
theorem q6A {a : AV} {cs : Array Value} (h : conc ρ a = .agg cs) : ∃ xs, a = .agg xs := by cases a <;> simp [conc] at h ⊢
theorem j7b {α : Type} {c : Prop} [Decidable c] {x y : Sem α} {r : Result α} (hx : x.run P w = r) (hy : y.run P w = r) : (if c then x else y).run P w = r := by
 split <;> assumption
theorem q2S {α : Type} {c : Prop} [Decidable c] {x y : Sem α} (h : c) : (if c then x else y).run P w = x.run P w := by rw [if_pos h]
theorem q1u (x y : Operand) : (z1j x || z1j y) = true → ((x matches .const _) || (y matches .const _)) = true := by
 intro h
 cases x <;> cases y <;> first | rfl | (simp [z1j] at h)
theorem j2Y {op : BinOp} {t : TypeId} {x y : Operand} {a b : AV} (hn : q6a (orB (z1j x) (z1j y)) a b = true)
  (ha : ∀ xs ys, a = .agg xs → b = .agg ys → P.eqGuardType P.depth t = false) : (eqGuard op t x y (conc ρ a) (conc ρ b)).run P w = .ok () w := by
 unfold eqGuard
 refine j7b rfl ?_
 ·split
  ·rename_i h1 h2
   have e1 := z6s h1
   have e2 := z6s h2
   subst e1; subst e2
   have : (z1j x || z1j y) = true := by
    simp only [q6a, orB] at hn
    cases h : z1j x <;> simp_all
   have := q1u x y this
   exact q2S (x := Pure.pure ()) (by exact this)
  ·rename_i cs cs' h1 h2
   obtain ⟨xs, rfl⟩ := q6A h1
   obtain ⟨ys, rfl⟩ := q6A h2
   simp [run_program, ha xs ys rfl rfl]
  ·rfl
theorem q9G {d : Nat} {t : TypeId} {x y : AV} {b : Bool} (h : eqA G d t x y = some b) : ∃ e u, d = e + 1 ∧ G.und t = some u ∧ eqD G (eqA G e) x y u = some b := by
 cases d with
 | zero => simp [eqA] at h
 | succ e =>
  have h' : z0b (G.und t) (eqD G (eqA G e) x y) = some b := h
  obtain ⟨u, hu, h1⟩ := z0a h'
  exact ⟨e, u, rfl, hu, h1⟩
theorem q9H {t : TypeId} {u : TypeDesc} (h : G.und t = some u) : ∃ i, G.types.get t = some i := by
 unfold Tab.und at h
 cases hi : G.types.get t with
 | none => rw [hi] at h; simp at h
 | some i => exact ⟨i, rfl⟩
theorem q9I (T : TabOk P G) {d : Nat} {t : TypeId} {xs ys : List AV} {b : Bool} (h : eqA G d t (.agg xs) (.agg ys) = some b) (hq : G.noEq.get t = none) : P.eqGuardType P.depth t = false := by
 obtain ⟨e, u, rfl, hu, h1⟩ := q9G h
 obtain ⟨i, hi⟩ := q9H hu
 cases hg : P.eqGuardType P.depth t
 ·rfl
 ·obtain ⟨ms, hm⟩ := T.guard t i hi hq hg
  have := T.und hu
  rw [hm] at this
  simp only [Option.some.injEq] at this
  subst this
  simp [eqD, z5Y] at h1
theorem q9J {t : TypeId} {a b : AV} (h : ∀ k x k' y, ¬ (a = .int k x ∧ b = .int k' y)) (h' : ∀ s u, ¬ (a = .str s ∧ b = .str u)) :
  binOp .eql t (conc ρ a) (conc ρ b) = (do pure (.bool (← Op.equal t (conc ρ a) (conc ρ b)))) ∧
  binOp .neq t (conc ρ a) (conc ρ b) = (do pure (.bool (!(← Op.equal t (conc ρ a) (conc ρ b))))) := by
 cases a <;> cases b <;> first
  | exact absurd ⟨rfl, rfl⟩ (h _ _ _ _)
  | exact absurd ⟨rfl, rfl⟩ (h' _ _)
  | exact ⟨rfl, rfl⟩
theorem j2Z (T : TabOk P G) {op : BinOp} {t : TypeId} {a b v : AV} (h : q2C op (eqA G 60 t a b) = some v) (ha : okV ρ D a) (hb : okV ρ D b)
  (h1 : ∀ k x k' y, ¬ (a = .int k x ∧ b = .int k' y)) (h2 : ∀ s u, ¬ (a = .str s ∧ b = .str u)) :
  (binOp op t (conc ρ a) (conc ρ b)).run P w = .ok (conc ρ v) w ∧ okV ρ D v := by
 obtain ⟨e1, e2⟩ := q9J (ρ := ρ) (t := t) h1 h2
 unfold q2C at h
 cases op <;> simp only [] at h <;> try (simp at h; done)
 case eql =>
  obtain ⟨r, hr, h⟩ := z0a h
  simp only [Option.some.injEq] at h; subst h
  have := q6z (ρ := ρ) (D := D) (w := w) T 60 10000 (by omega) hr ha hb
  exact ⟨by rw [e1]; simp [Op.equal, Op.maxDepth, this, conc], trivial⟩
 case neq =>
  obtain ⟨r, hr, h⟩ := z0a h
  simp only [Option.some.injEq] at h; subst h
  have := q6z (ρ := ρ) (D := D) (w := w) T 60 10000 (by omega) hr ha hb
  exact ⟨by rw [e2]; simp [Op.equal, Op.maxDepth, this, conc, z3p], trivial⟩
theorem q9K {op : BinOp} {o : Option Bool} {v : AV} (h : q2C op o = some v) : ∃ b, o = some b := by
 unfold q2C at h
 cases op <;> simp only [] at h <;> try (simp at h; done)
 all_goals exact let ⟨r, hr, _⟩ := z0a h; ⟨r, hr⟩
theorem q9L {op : BinOp} {t : TypeId} {k k' : IntKind} {a b : Int} {v : AV} (h : intBin op k a k' b = some v) :
  (binOp op t (.int k a) (.int k' b)).run P w = .ok (conc ρ v) w ∧ okV ρ D v := by
 unfold intBin at h
 cases op <;> simp only [] at h
 case shl => exact j6Y t h
 case shr => exact j6Z t h
 all_goals
  split at h
  ·rename_i hk; subst hk; exact q1t ⟨by simp, by simp⟩ t h
  ·simp at h
theorem j7c (T : TabOk P G) {op : BinOp} {t : TypeId} {x y : Operand} {a b v : AV} (h : binA G op t (orB (z1j x) (z1j y)) a b = some v)
  (ha : okV ρ D a) (hb : okV ρ D b) : Val P ρ D w (do eqGuard op t x y (conc ρ a) (conc ρ b); binOp op t (conc ρ a) (conc ρ b)) v := by
 have fin : q6a (orB (z1j x) (z1j y)) a b = true → (∀ xs ys, a = .agg xs → b = .agg ys → P.eqGuardType P.depth t = false) →
   ((binOp op t (conc ρ a) (conc ρ b)).run P w = .ok (conc ρ v) w ∧ okV ρ D v) →
   Val P ρ D w (do eqGuard op t x y (conc ρ a) (conc ρ b); binOp op t (conc ρ a) (conc ρ b)) v := fun h1 h2 h3 =>
  ⟨by simp only [Sem.run_bind, j2Y h1 h2, Result.andThen_ok, h3.1], h3.2⟩
 unfold binA at h
 split at h
 ·exact fin rfl (fun xs ys h => by simp at h) (q9L h)
 ·exact fin rfl (fun xs ys h => by simp at h) (j7a t h)
 ·rename_i h1 h2
  obtain ⟨h3, h⟩ := z0c h
  obtain ⟨h4, h⟩ := z0c h
  refine fin h3 ?_ (j2Z T h ha hb (fun k x k' y e => h1 _ _ _ _ e.1 e.2) (fun s u e => h2 _ _ e.1 e.2))
  rintro xs ys rfl rfl
  obtain ⟨r, hr⟩ := q9K h
  refine q9I T hr ?_
  unfold j4v z8q at h4
  cases hq : G.noEq.get t with
  | none => rfl
  | some _ => simp [hq] at h4
theorem j9L {op : UnOp} {a v : AV} (h : unA op a = some v) : Val P ρ D w (Op.unary op (conc ρ a)) v := by
 unfold unA at h
 split at h
 ·simp only [Option.some.injEq] at h; subst h
  exact ⟨by simp [Op.unary, Op.intArith, conc, z4z], trivial⟩
 ·simp only [Option.some.injEq] at h; subst h
  exact ⟨by simp [Op.unary, conc, z3p], trivial⟩
 ·rename_i k n
  unfold q8G at h
  split at h
  ·exact q1t (op := .xor) ⟨by simp, by simp⟩ 0 h
  ·exact q1t (op := .xor) ⟨by simp, by simp⟩ 0 h
  ·exact q1t (op := .xor) ⟨by simp, by simp⟩ 0 h
  ·simp at h
 ·simp at h
theorem z5b (T : TabOk P G) {t : TypeId} {f : Nat} {fd : Field} (h : q1c G t f = some fd) :
  ∃ fs : Array Field, P.underlying t = some (.struct fs) ∧ G.und t = some (.struct fs) ∧ fs[f]? = some fd := by
 obtain ⟨d, hd, h⟩ := z0a h
 obtain ⟨fs, hfs, h⟩ := z0a h
 rw [z2A] at h
 unfold q8H at hfs
 split at hfs
 ·rename_i a
  simp only [Option.some.injEq] at hfs; subst hfs
  exact ⟨a, T.und hd, hd, by simpa using h⟩
 ·simp at hfs
theorem q1v (T : TabOk P G) {s : TypeId} {f : Nat} {x v : AV} (h : z3e G s f x = some v) (hx : okV ρ D x) :
  Val P ρ D w (Instr.fieldAt s (conc ρ x) f) v := by
 obtain ⟨fd, hfd, h⟩ := z0a h
 obtain ⟨z, hz, h⟩ := z0a h
 obtain ⟨fs, hu, _, hf⟩ := z5b T hfd
 unfold q6b at h
 split at h
 ·rename_i b off
  obtain ⟨h0, h⟩ := z1J h
  simp only [Option.some.injEq] at h; subst h
  have hz0 : ¬ z = 0 := by
   rintro rfl; simp at h0
  refine ⟨?_, hx⟩
  simp only [Instr.fieldAt, Sem.run_bind, run_underlying hu, Result.andThen_ok, hf, conc, Instr.sureAddr, Sem.run_pure, Go.fieldPlace, T.sizeOf hz, if_neg hz0]
  unfold Addr.add
  split
  ·rename_i h0; simp [h0]
  ·simp [Nat.add_assoc]
 ·simp at h
theorem q9M (T : TabOk P G) {s : TypeId} {f : Nat} {x v : AV} (h : q6c G s f x = some v) (hx : okV ρ D x) :
  Val P ρ D w (Instr.field s (conc ρ x) f) v := by
 unfold q6c at h
 split at h
 ·rename_i cs
  obtain ⟨fd, hfd, h⟩ := z0a h
  obtain ⟨fs, hu, _, hf⟩ := z5b T hfd
  obtain ⟨h1, h2⟩ := z3B (w := w) T h hx
  exact ⟨by simp only [Instr.field, Sem.run_bind, run_underlying hu, Result.andThen_ok, hf, conc, asAgg, Sem.run_pure, h1], h2⟩
 ·simp at h
theorem q1w {i : AV} {n m : Nat} (h : inB i n = some m) : m < n ∧ ∃ k, i = .int k (.ofNat m) := by
 unfold inB at h
 split at h
 ·rename_i k m'
  obtain ⟨h1, h⟩ := z0c h
  simp only [Option.some.injEq] at h; subst h
  exact ⟨z1r h1, k, rfl⟩
 ·simp at h
theorem q1x (T : TabOk P G) {t : TypeId} {x i v : AV} (h : z1M G t x i = some v) (hx : okV ρ D x) :
  Val P ρ D w (Instr.indexAt t (conc ρ x) (conc ρ i)) v := by
 obtain ⟨d, hd, h⟩ := z0a h
 have hu := T.und hd
 unfold q0n at h
 split at h
 ·rename_i n e b off _
  obtain ⟨m, hm, h⟩ := z0a h
  obtain ⟨z, hz, h⟩ := z0a h
  simp only [Option.some.injEq] at h; subst h
  obtain ⟨hlt, k, rfl⟩ := q1w hm
  refine ⟨?_, hx⟩
  have : (0 : Int) ≤ Int.ofNat m ∧ Int.ofNat m < (n : Int) := ⟨by simp, by simpa using hlt⟩
  simp only [Instr.indexAt, Sem.run_bind, conc, asIntOf, Sem.run_pure, Result.andThen_ok, run_underlying hu, Instr.sureAddr, this, and_self, if_true, T.sizeOf hz]
  unfold Addr.add
  simp only [Int.ofNat_eq_natCast, Int.toNat_natCast]
  split
  ·rename_i h0; simp [h0]
  ·simp [Nat.add_assoc]
 ·rename_i e b off n q c _
  obtain ⟨m, hm, h⟩ := z0a h
  obtain ⟨z, hz, h⟩ := z0a h
  simp only [Option.some.injEq] at h; subst h
  obtain ⟨hlt, k, rfl⟩ := q1w hm
  refine ⟨?_, hx.1⟩
  have : (0 : Int) ≤ Int.ofNat m ∧ Int.ofNat m < (n : Int) := ⟨by simp, by simpa using hlt⟩
  simp only [Instr.indexAt, Sem.run_bind, conc, asIntOf, Sem.run_pure, Result.andThen_ok, run_underlying hu, this, and_self, if_true, T.sizeOf hz]
  unfold Addr.add
  simp only [Int.ofNat_eq_natCast, Int.toNat_natCast]
  split
  ·rename_i h0; simp [h0]
  ·simp [Nat.add_assoc]
 ·simp at h
theorem q9N (T : TabOk P G) {t : TypeId} {x i v : AV} (h : j4x G t x i = some v) (hx : okV ρ D x) :
  Val P ρ D w (Instr.index t (conc ρ x) (conc ρ i)) v := by
 obtain ⟨d, hd, g⟩ := z0a h
 clear h
 have hu := T.und hd
 unfold j4w at g
 split at g
 ·rename_i n e cs
  obtain ⟨m, hm, g1⟩ := z0a g
  obtain ⟨z, hz, g2⟩ := z0a g1
  clear g g1
  obtain ⟨hlt, k, rfl⟩ := q1w hm
  have : (0 : Int) ≤ Int.ofNat m ∧ Int.ofNat m < (n : Int) := ⟨by simp, by simpa using hlt⟩
  obtain ⟨h1, h2⟩ := z3B (w := w) T g2 hx
  refine ⟨?_, h2⟩
  simp only [Instr.index, Sem.run_bind, conc, asIntOf, Sem.run_pure, Result.andThen_ok, run_underlying hu, this, and_self, if_true, T.sizeOf hz]
  simpa using h1
 ·rename_i s
  unfold j9E at g
  split at g
  ·rename_i k m
   obtain ⟨b, hb, g1⟩ := z0a g
   clear g
   simp only [Option.some.injEq] at g1; subst g1
   rw [z2A] at hb
   refine ⟨?_, trivial⟩
   have hsz : (ByteArray.mk s.toArray)[m]? = some b := by
    obtain ⟨hl, he⟩ := List.getElem?_eq_some_iff.1 hb
    rw [getElem?_pos _ _ (by simpa [z4Z] using hl)]
    subst he
    rfl
   simp only [Instr.index, Sem.run_bind, conc, asIntOf, Sem.run_pure, Result.andThen_ok, run_underlying hu, z8r]
   simp [hsz]
  ·simp at g
 ·simp at g
end
end Go.Sx
namespace Go.Sx
section
variable {P : Program} {G : Tab} {ρ : Env} {D : Nat → Prop} {w : World}
theorem z8Q {v : AV} {d most m : Nat} (h : z1R (some v) d most = some m) : m ≤ most ∧ ∃ k, v = .int k (.ofNat m) := by
 unfold z1R at h
 split at h
 ·simp at *
 ·rename_i k n heq
  obtain ⟨h1, h⟩ := z0c h
  simp only [Option.some.injEq] at h heq; subst h; subst heq
  exact ⟨z1h h1, k, rfl⟩
 ·simp at h
theorem z0U {v : AV} {d most m C : Nat} (code : BoundsCode) (h : z1R (some v) d most = some m) (hC : most ≤ C) :
  (Instr.sliceBound (conc ρ v) C code).run P w = .ok m w := by
 obtain ⟨hm, k, rfl⟩ := z8Q h
 have hmC : m ≤ C := by omega
 have : (0 : Int) ≤ Int.ofNat m ∧ Int.ofNat m ≤ (C : Int) := ⟨by simp, by simpa using hmC⟩
 simp only [Instr.sliceBound, conc, Sem.run_bind, asIntOf, Sem.run_pure, Result.andThen_ok, this, and_self, if_true]
 simp
theorem z2S {β : Type} {lo hi : Option AV} {d most : Nat} {c : Nat → Nat → Option β} {b : β} (h : z6T lo hi d most c = some b) :
  ∃ l h', z1R hi d most = some h' ∧ z1R lo 0 h' = some l ∧ c l h' = some b := by
 obtain ⟨h', h1, h⟩ := z0a h
 obtain ⟨l, h2, h⟩ := z0a h
 exact ⟨l, h', h1, h2, h⟩
theorem z5c {i : Option AV} {d most m : Nat} (h : z1R i d most = some m) (hd : d ≤ most) : m ≤ most := by
 cases i with
 | none => simp only [z1R, Option.some.injEq] at h; omega
 | some v => exact (z8Q h).1
theorem z1C (b : Bool) {lo hi : Option AV} {n most C l h : Nat} (hC : most ≤ C) (h1 : z1R hi n most = some h) (h2 : z1R lo 0 h = some l) :
  (Instr.sliceBounds b n C (lo.map (conc ρ)) (hi.map (conc ρ)) none).run P w = .ok (l, h, C) w := by
 cases hi with
 | none =>
  simp only [z1R, Option.some.injEq] at h1; subst h1
  cases lo with
  | none => simp only [z1R, Option.some.injEq] at h2; subst h2; simp [Instr.sliceBounds]
  | some v => simp [Instr.sliceBounds, z0U _ h2 (Nat.le_refl _)]
 | some u =>
  cases lo with
  | none => simp only [z1R, Option.some.injEq] at h2; subst h2; simp [Instr.sliceBounds, z0U _ h1 hC]
  | some v => simp [Instr.sliceBounds, z0U _ h1 hC, z0U _ h2 (Nat.le_refl _)]
theorem z2W (b : Bool) {lo hi : Option AV} {v : AV} {d n most C l h m : Nat} (hC : most ≤ C) (h0 : z1R (some v) d most = some m) (hh : q8J hi (some v) = true)
  (h1 : z1R hi n m = some h) (h2 : z1R lo 0 h = some l) :
  (Instr.sliceBounds b n C (lo.map (conc ρ)) (hi.map (conc ρ)) (some (conc ρ v))).run P w = .ok (l, h, m) w := by
 cases hi with
 | none => simp [q8J] at hh
 | some u =>
  cases lo with
  | none => simp only [z1R, Option.some.injEq] at h2; subst h2; simp [Instr.sliceBounds, z0U _ h0 hC, z0U _ h1 (Nat.le_refl _)]
  | some v => simp [Instr.sliceBounds, z0U _ h0 hC, z0U _ h1 (Nat.le_refl _), z0U _ h2 (Nat.le_refl _)]
theorem z6t {b off z m l h : Nat} {v : AV} (hv : z5r b off z m l h = some v) (hb : D b) :
  (Value.slice (some (if m = l then (⟨ρ.blk b, ρ.base b + off, none⟩ : Addr) else (⟨ρ.blk b, ρ.base b + off, none⟩ : Addr).add (l * z))) (h - l) (m - l)) = conc ρ v ∧ okV ρ D v := by
 simp only [z5r, Option.some.injEq] at hv; subst hv
 refine ⟨?_, hb, by simp⟩
 by_cases hm : m = l
 ·rw [if_pos hm, z1k hm]; simp [conc]
 ·rw [if_neg hm, z0E hm]
  simp only [conc, Addr.add, cond_false, Bool.false_eq_true, if_false]
  split
  ·rename_i h0; simp [h0]
  ·simp [Nat.add_assoc]
theorem j8H (hi : Option AV) : q8J hi none = true := by cases hi <;> rfl
theorem z2E (b : Bool) {lo hi mx : Option AV} {bk off n c z : Nat} {v : AV} (hx : q8J hi mx = true) (h : z6U bk off n c z lo hi mx = some v) (hb : D bk) :
  ∃ l h' m, (Instr.sliceBounds b n c (lo.map (conc ρ)) (hi.map (conc ρ)) (mx.map (conc ρ))).run P w = .ok (l, h', m) w ∧
   (Value.slice (some (if m = l then (⟨ρ.blk bk, ρ.base bk + off, none⟩ : Addr) else (⟨ρ.blk bk, ρ.base bk + off, none⟩ : Addr).add (l * z))) (h' - l) (m - l)) = conc ρ v ∧ okV ρ D v := by
 obtain ⟨m, hm, h⟩ := z0a h
 obtain ⟨l, h', h1, h2, h⟩ := z2S h
 obtain ⟨e1, e2⟩ := z6t (ρ := ρ) (D := D) h hb
 refine ⟨l, h', m, ?_, e1, e2⟩
 cases mx with
 | none =>
  simp only [z1R, Option.some.injEq] at hm; subst hm
  exact z1C b (Nat.le_refl _) h1 h2
 | some u => exact z2W b (Nat.le_refl _) hm hx h1 h2
theorem q2T (T : TabOk P G) {t : TypeId} {x v : AV} {lo hi mx : Option AV} (h : q6f G t x lo hi mx = some v) (hx : okV ρ D x) :
  Val P ρ D w (Instr.sliceAt t (conc ρ x) (lo.map (conc ρ)) (hi.map (conc ρ)) (mx.map (conc ρ))) v := by
 obtain ⟨hmx, h⟩ := z0c h
 obtain ⟨d, hd, g⟩ := z0a h
 clear h
 have hu := T.und hd
 unfold j4y at g
 split at g
 ·rename_i s
  unfold q6d at g
  split at g
  ·simp at g
  ·obtain ⟨l, h', h1, h2, g⟩ := z2S g
   obtain ⟨r, hr, g⟩ := z0a g
   simp only [Option.some.injEq] at g; subst g
   rw [z2t, z1O] at hr
   split at hr
   ·simp only [Option.some.injEq] at hr; subst hr
    refine ⟨?_, trivial⟩
    rw [z0S] at h1
    have hb := z1C (P := P) (ρ := ρ) (w := w) false (Nat.le_refl s.length) h1 h2
    simp only [Instr.sliceAt, Sem.run_bind, run_underlying hu, Result.andThen_ok, Instr.slice, conc, Option.map_none, Option.isSome_none, Bool.false_eq_true, if_false, z4Z, hb]
    simp only [Sem.run_pure]
    congr 2
    apply ByteArray.ext
    simp [ByteArray.extract, ByteArray.copySlice]
    skip
   ·simp at hr
 ·rename_i e b off n c
  obtain ⟨z, hz, g⟩ := z0a g
  obtain ⟨l, h', m, e1, e2, e3⟩ := z2E (P := P) (ρ := ρ) (D := D) (w := w) true hmx g hx.1
  refine ⟨?_, e3⟩
  rw [← e2]
  simp only [Instr.sliceAt, Sem.run_bind, run_underlying hu, Result.andThen_ok, Instr.slice, conc, Bool.false_eq_true, if_false, e1, T.sizeOf hz, Sem.run_pure]
  split <;> rfl
 ·rename_i e b off n c
  obtain ⟨z, hz, g⟩ := z0a g
  unfold q2E at g
  have hcap : n ≤ ρ.cap b - c := by have := hx.2 rfl; omega
  split at g
  ·rename_i m0
   obtain ⟨m, hm, g⟩ := z0a g
   obtain ⟨l, h', h1, h2, g⟩ := z2S g
   obtain ⟨e2, e3⟩ := z6t (ρ := ρ) (D := D) g hx.1
   have e1 := z2W (P := P) (ρ := ρ) (w := w) true hcap hm hmx h1 h2
   refine ⟨?_, e3⟩
   rw [← e2]
   simp only [Instr.sliceAt, Sem.run_bind, run_underlying hu, Result.andThen_ok, Instr.slice, conc, if_true, Option.map_some, e1, T.sizeOf hz, Sem.run_pure]
   split <;> rfl
  ·obtain ⟨l, h', h1, h2, g⟩ := z2S g
   have hh := z5c h1 (Nat.le_refl _)
   have hl := z5c h2 (Nat.zero_le _)
   have e1 := z1C (P := P) (ρ := ρ) (w := w) true hcap h1 h2
   unfold q2D at g
   rcases z0Z g with ⟨g1, g⟩ | ⟨g1, g⟩
   ·have g1 := z0B g1
    simp only [Option.some.injEq] at g; subst g
    subst g1
    refine ⟨?_, hx.1, fun _ => by have := hx.2 rfl; omega⟩
    simp only [Instr.sliceAt, Sem.run_bind, run_underlying hu, Result.andThen_ok, Instr.slice, conc, if_true, Option.map_none, e1, T.sizeOf hz, Sem.run_pure]
    split <;> simp [Addr.add]
   ·rcases z0Z g with ⟨g2, g⟩ | ⟨g2, g⟩
    rotate_left
    ·have hln : l = n := by
      have : ¬ l < n := fun hh => by rw [show Nat.blt l n = true from Nat.ble_eq_true_of_le hh] at g2; simp at g2
      omega
     simp only [Option.some.injEq] at g; subst g
     refine ⟨?_, hx.1⟩
     simp only [Instr.sliceAt, Sem.run_bind, run_underlying hu, Result.andThen_ok, Instr.slice, conc, if_true, Option.map_none, e1, T.sizeOf hz, Sem.run_pure]
     have e5 : h' - l = 0 := by omega
     have e6 : ρ.cap b - c - l = ρ.cap b - (c + l) := by omega
     rw [e5, e6]
     by_cases hm : ρ.cap b - c = l
     ·have hl0 : l ≠ 0 := fun h0 => by subst h0; simp at g1
      rw [if_pos hm, if_pos (by omega)]
     ·rw [if_neg hm, if_neg (by omega)]
      simp only [Option.map_some, Addr.add]
      split
      ·rename_i h0; simp [h0]
      ·simp [Nat.add_assoc]
    have g2 := z1r g2
    simp only [Option.some.injEq] at g; subst g
    refine ⟨?_, hx.1, fun _ => by have := hx.2 rfl; omega⟩
    simp only [Instr.sliceAt, Sem.run_bind, run_underlying hu, Result.andThen_ok, Instr.slice, conc, if_true, Option.map_none, e1, T.sizeOf hz, Sem.run_pure]
    have hne : ¬ (ρ.cap b - c = l) := by omega
    rw [if_neg hne]
    simp only [Option.map_some, Addr.add]
    have : ρ.cap b - c - l = ρ.cap b - (c + l) := by omega
    rw [this]
    split
    ·rename_i h0; simp [h0]
    ·simp [Nat.add_assoc]
 ·rename_i e
  obtain ⟨z, hz, g⟩ := z0a g
  unfold q6e at g
  obtain ⟨m, hm, g⟩ := z0a g
  obtain ⟨l, h', h1, h2, g⟩ := z2S g
  simp only [Option.some.injEq] at g; subst g
  refine ⟨?_, trivial⟩
  have hm0 := z5c hm (Nat.le_refl _)
  have hm1 : m = 0 := by omega
  subst hm1
  have hh := z5c h1 (Nat.le_refl _)
  have hh' : h' = 0 := by omega
  subst hh'
  have hl := z5c h2 (Nat.le_refl _)
  have hl' : l = 0 := by omega
  subst hl'
  have e1 : (Instr.sliceBounds true 0 0 (lo.map (conc ρ)) (hi.map (conc ρ)) (mx.map (conc ρ))).run P w = .ok (0, 0, 0) w := by
   cases mx with
   | none => exact z1C true (Nat.le_refl _) h1 h2
   | some u => exact z2W true (Nat.le_refl _) hm hmx h1 h2
  simp only [Instr.sliceAt, Sem.run_bind, run_underlying hu, Result.andThen_ok, Instr.slice, conc, e1, T.sizeOf hz, Sem.run_pure, if_true]
 ·rename_i n e b off
  obtain ⟨z, hz, g⟩ := z0a g
  obtain ⟨l, h', m, e1, e2, e3⟩ := z2E (P := P) (ρ := ρ) (D := D) (w := w) false hmx g hx
  refine ⟨?_, e3⟩
  rw [← e2]
  simp only [Instr.sliceAt, Sem.run_bind, run_underlying hu, Result.andThen_ok, conc, Instr.sureAddr, e1, T.sizeOf hz, Sem.run_pure]
 ·rename_i p b off
  obtain ⟨d', hd', g⟩ := z0a g
  unfold q1d at g
  split at g
  ·rename_i n e
   obtain ⟨z, hz, g⟩ := z0a g
   obtain ⟨l, h', m, e1, e2, e3⟩ := z2E (P := P) (ρ := ρ) (D := D) (w := w) false hmx g hx
   refine ⟨?_, e3⟩
   rw [← e2]
   simp only [Instr.sliceAt, Sem.run_bind, run_underlying hu, Result.andThen_ok, Instr.slice, conc, asAddr, T.underlying hd', e1, T.sizeOf hz, Sem.run_pure]
  ·simp at g
 ·simp at g
end
end Go.Sx
namespace Go.Sx
theorem q1y (b o i : Nat) : (⟨b, o, none⟩ : Addr).add i = ⟨b, o + i, none⟩ := by
 unfold Addr.add
 split
 ·rename_i h; simp [h]
 ·rfl
theorem z3q (P : Program) (g o : Nat) (el : TypeId) (fz : Nat × Nat) : ∀ (vs : List Value) (i : Nat) (arr : Array Value) (w : World),
  w.heap[g]? = some (.cells arr el fz) → Loose arr.size fz → o + i + vs.length ≤ arr.size → (∀ v ∈ vs, v.oneCell' = true) →
  ∃ arr' w', (storeCells ⟨g, o, none⟩ vs i).run P w = .ok () w' ∧ w'.heap[g]? = some (.cells arr' el fz) ∧ arr'.size = arr.size ∧
   (∀ j, arr'[j]? = if o + i ≤ j ∧ j < o + i + vs.length then vs[j - (o + i)]? else arr[j]?) ∧ (∀ b, b ≠ g → w'.heap[b]? = w.heap[b]?) ∧ Kin w w' := by
 intro vs
 induction vs with
 | nil =>
  intro i arr w hg _ _ _
  refine ⟨arr, w, rfl, hg, rfl, fun j => ?_, fun _ _ => rfl, .refl _⟩
  rw [if_neg (by first | (simp; done) | (simp; omega))]
 | cons v vs ih =>
  intro i arr w hg hf hlen hone
  have hsz : o + i < arr.size := by simp at hlen; omega
  have hcell : w.cell? ⟨g, o + i, none⟩ = some arr[o + i] := by simp [World.cell?, hg, hsz]
  have hfr : w.frozen? ⟨g, o + i, none⟩ = false := by
   simp only [World.frozen?, hg]
   have := hf.no (o + i) hsz
   cases h : (decide (fz.1 ≤ o + i) && decide (o + i < fz.2))
   ·rfl
   ·simp at h; exact absurd h this
  have hst : (store ((⟨g, o, none⟩ : Addr).add i) v).run P w = .ok () (w.setCell ⟨g, o + i, none⟩ v) := by
   rw [q1y, run_store P w _ v .plain (hone v (by simp)), hcell]
   simp [hfr]
  have hset : (w.setCell ⟨g, o + i, none⟩ v).heap[g]? = some (.cells (arr.setIfInBounds (o + i) v) el fz) := by
   simp [World.setCell, Array.getElem?_modify, hg]
  have hoth : ∀ b, b ≠ g → (w.setCell ⟨g, o + i, none⟩ v).heap[b]? = w.heap[b]? := by
   intro b hb
   simp [World.setCell, Array.getElem?_modify, Ne.symm hb]
  have hkin : Kin w (w.setCell ⟨g, o + i, none⟩ v) := ⟨rfl, rfl, rfl, by simp [World.setCell]⟩
  obtain ⟨arr', w', h1, h2, h3, h4, h5, h6⟩ := ih (i + 1) (arr.setIfInBounds (o + i) v) (w.setCell ⟨g, o + i, none⟩ v) hset (by simpa using hf) (by simp at hlen ⊢; omega) (fun u hu => hone u (by simp [hu]))
  refine ⟨arr', w', ?_, h2, by simpa using h3, fun j => ?_, fun b hb => by rw [h5 b hb, hoth b hb], hkin.trans h6⟩
  ·simp only [storeCells, Sem.run_bind, hst, Result.andThen_ok]
   exact h1
  ·rw [h4 j]
   by_cases hj : o + i = j
   ·subst hj
    rw [if_neg (by omega), if_pos (by simp)]
    simp [hsz]
   ·by_cases hj2 : o + (i + 1) ≤ j ∧ j < o + (i + 1) + vs.length
    ·rw [if_pos hj2, if_pos (by simp; omega)]
     have : j - (o + i) = (j - (o + (i + 1))) + 1 := by omega
     rw [this]; simp
    ·rw [if_neg hj2, if_neg (by simp; omega)]
     rw [Array.getElem?_setIfInBounds_ne hj]
theorem z7F {ρ : Env} {v : AV} (h : z0F v = true) : (conc ρ v).oneCell' = true := by
 cases v <;> simp [z0F] at h <;> rfl
theorem z2n : ∀ {l : List AV}, z0V l = true ↔ ∀ v ∈ l, z0F v = true := by
 intro l
 induction l with
 | nil => simp [z0V]
 | cons v l ih =>
  have : z0V (v :: l) = cond (z0F v) (z0V l) false := rfl
  rw [this]
  cases h : z0F v <;> simp [h, ih]
section
variable {P : Program} {G : Tab} {ρ : Env} {D : Nat → Prop} {w : World} {H : Heap}
def adr (ρ : Env) (b off : Nat) : Addr := ⟨ρ.blk b, ρ.base b + off, none⟩
theorem z8R {b off : Nat} {o : Option ABlk} {v : AV} (hb : ∀ x, o = some x → BRel G ρ D w b x) (h : cellIn o off = some v) :
  w.cell? (adr ρ b off) = some (conc ρ v) ∧ okV ρ D v := by
 unfold cellIn at h
 split at h
 ·rename_i e ex l
  rw [z2A] at h
  obtain ⟨h1, h2, arr, fz, h3, h4, h5, h6, h7⟩ := hb _ rfl
  exact ⟨by simp [World.cell?, adr, h3, h6 off v h], z0z.1 h1 v (List.mem_of_getElem? h)⟩
 ·rename_i e n z
  obtain ⟨hn, h⟩ := z0c (c := Nat.blt off n) h
  have hn := z1r hn
  rw [z2A, z0S] at h
  obtain ⟨h1, arr, el, fz, h3, h5, h6⟩ := hb _ rfl
  exact ⟨by simp [World.cell?, adr, h3, h6 off v hn h], z0z.1 h1 v (List.mem_of_getElem? h)⟩
 ·simp at h
theorem j3a (hH : HRel G ρ D w H) {b off : Nat} {v : AV} (hb : D b) (h : j2S H b off = some v) : w.cell? (adr ρ b off) = some (conc ρ v) ∧ okV ρ D v :=
 z8R (fun x hx => hH.blk b x hb hx) h
theorem q1z {n : Nat} {z : List AV} : ∀ {k off : Nat} {l : List AV}, z5q n z off k = some l → l.length = k ∧ ∀ j v, l[j]? = some v → q4m n z (off + j) = some v := by
 intro k
 induction k with
 | zero => intro off l h; have h : some [] = some l := h; simp only [Option.some.injEq] at h; subst h; simp
 | succ k ih =>
  intro off l h
  obtain ⟨x, m, hx, hm, rfl⟩ := z2f (a := q4m n z off) (o := z5q n z (off + 1) k) h
  obtain ⟨h1, h2⟩ := ih hm
  refine ⟨by simp [h1], fun j v hv => ?_⟩
  cases j with
  | zero => simp at hv; subst hv; exact hx
  | succ j => have := h2 j v (by simpa using hv); rw [show off + (j + 1) = off + 1 + j from by omega]; exact this
theorem q0w {b off k : Nat} {o : Option ABlk} {l : List AV} (hb : ∀ x, o = some x → BRel G ρ D w b x) (h : z2o o off k = some l) :
  l.length = k ∧ okL ρ D l ∧ ∀ j v, l[j]? = some v → w.cell? (adr ρ b (off + j)) = some (conc ρ v) := by
 have key : ∀ {l : List AV}, l.length = k → (∀ j v, l[j]? = some v → cellIn o (off + j) = some v) →
   l.length = k ∧ okL ρ D l ∧ ∀ j v, l[j]? = some v → w.cell? (adr ρ b (off + j)) = some (conc ρ v) := fun {l} hl hc =>
  ⟨hl, z0z.2 fun v hv => by
   obtain ⟨j, hj⟩ := List.getElem?_of_mem hv
   exact (z8R (w := w) hb (hc j v hj)).2, fun j v hj => (z8R hb (hc j v hj)).1⟩
 unfold z2o at h
 split at h
 ·rename_i e ex m
  rw [z2t, z1O] at h
  split at h
  ·rename_i hle
   simp only [Option.some.injEq] at h; subst h
   refine key (by simp at hle ⊢; omega) fun j v hj => ?_
   simp only [cellIn]
   rw [z2A]
   rw [List.getElem?_take] at hj
   split at hj
   ·simpa [List.getElem?_drop] using hj
   ·simp at hj
  ·simp at h
 ·rename_i e n z
  obtain ⟨h1, h2⟩ := q1z h
  exact key h1 h2
 ·simp at h
theorem z1v (hH : HRel G ρ D w H) {b off k : Nat} {l : List AV} (hb : D b) (h : z0o H b off k = some l) :
  (loadCells (adr ρ b off) k).run P w = .ok (concL ρ l).toArray w ∧ okL ρ D l ∧ l.length = k := by
 unfold z0o at h
 rcases z0Z h with ⟨h0, h⟩ | ⟨h0, h⟩
 ·have h0 := z0B h0
  simp only [Option.some.injEq] at h; subst h; subst h0
  exact ⟨rfl, trivial, rfl⟩
 ·obtain ⟨h1, h2, h3⟩ := q0w (w := w) (fun x hx => hH.blk b x hb hx) h
  refine ⟨?_, h2, h1⟩
  have := run_loadCells_list (P := P) (w := w) (adr ρ b off) (concL ρ l) (by
   intro j v hv
   rw [z0i, List.getElem?_map] at hv
   obtain ⟨u, hu, rfl⟩ := Option.map_eq_some_iff.1 hv
   rw [adr, q1y]
   have := h3 j u hu
   rw [adr] at this
   rw [show ρ.base b + off + j = ρ.base b + (off + j) from by omega]; exact this)
  rw [z0i, List.length_map, h1] at this
  rw [z0i]
  exact this
theorem z8S (T : TabOk P G) (hH : HRel G ρ D w H) {t : TypeId} {b off : Nat} {v : AV} (hb : D b) (h : z2p G H t b off = some v) :
  Val P ρ D w (loadVar t (adr ρ b off)) v := by
 unfold z2p at h
 split at h
 ·simp at h
 ·rename_i hA
  obtain ⟨s, hs, h⟩ := z0a h
  obtain ⟨l, hl, rfl⟩ := z6q h
  obtain ⟨h1, h2, _⟩ := z1v (P := P) hH hb hl
  exact ⟨by simp only [loadVar, Sem.run_bind, T.isAgg hA, Result.andThen_ok, if_true, T.sizeOf hs, h1, Sem.run_pure, conc], h2⟩
 ·rename_i hA
  obtain ⟨h1, h2⟩ := j3a hH hb h
  exact ⟨by simp only [loadVar, Sem.run_bind, T.isAgg hA, Result.andThen_ok, Bool.false_eq_true, if_false, run_load, h1], h2⟩
theorem z1o (v : AV) : (conc ρ v).cells = (concL ρ v.cells).toArray := by
 cases v <;> simp [conc, Value.cells, AV.cells, concL]
theorem z1w {v : AV} (h : okV ρ D v) : okL ρ D v.cells := by
 cases v <;> first | exact h | exact ⟨h, trivial⟩
theorem z3P (hH : HRel G ρ D w H) {b off : Nat} {l : List AV} {H' : Heap} (hb : D b) (hl : okL ρ D l) (h : z1s H b off l = some H') :
  ∃ w', (storeCells (adr ρ b off) (concL ρ l)).run P w = .ok () w' ∧ HRel G ρ D w' H' ∧ H'.next = H.next := by
 unfold z1s at h
 split at h
 ·simp only [Option.some.injEq] at h; subst h; exact ⟨w, rfl, hH, rfl⟩
 ·unfold z4q at h
  split at h
  ·rename_i e ex old hget
   obtain ⟨h1, h⟩ := z0c h
   have h1 := z2n.1 h1
   unfold z6l at h
   split at h
   ·simp at h
   ·rename_i l' hl'
    rw [z1n, z2m] at h
    simp only [Option.some.injEq] at h; subst h
    rw [q0v] at hl'
    split at hl'
    ·rename_i hle
     simp only [Option.some.injEq] at hl'
     obtain ⟨g1, g2, arr, fz, g3, g4, g5, g6, g7⟩ := hH.blk b _ hb hget
     have hlen : (concL ρ l).length = l.length := by simp [z0i]
     obtain ⟨arr', w', r1, r2, r3, r4, r5, r6⟩ := z3q P (ρ.blk b) (ρ.base b + off) _ fz (concL ρ l) 0 arr w g3 g4 (by rw [hlen]; omega) (by
      intro v hv
      rw [z0i] at hv
      obtain ⟨u, hu, rfl⟩ := List.mem_map.1 hv
      exact z7F (h1 u hu))
     refine ⟨w', r1, hH.write hb hget ?_ r5 (fun h => h) r6, Heap.next_put _ _ _⟩
     refine ⟨?_, ?_, arr', fz, r2, by rw [r3]; exact g4, ?_, ?_, ⟨fun hx z hz => ⟨by
       have := (g7.1 hx z hz).1
       subst hl'
       simp only [List.length_append, List.length_take, List.length_drop]; omega, by rw [r3]; exact (g7.1 hx z hz).2⟩, g7.2⟩⟩
     ·subst hl'
      exact z0P (z0P (q1r g1 _) hl) (q1s g1 _)
     ·subst hl'
      intro v hv
      simp only [List.append_assoc, List.mem_append] at hv
      rcases hv with hv | hv | hv
      ·exact g2 v (List.mem_of_mem_take hv)
      ·exact h1 v hv
      ·exact g2 v (List.mem_of_mem_drop hv)
     ·subst hl'
      rw [r3]
      simp only [List.length_append, List.length_take, List.length_drop]
      omega
     ·intro i v hv
      rw [r4, hlen]
      subst hl'
      simp only [List.append_assoc] at hv
      by_cases hi : i < off
      ·rw [if_neg (by omega)]
       rw [List.getElem?_append_left (by simp; omega), List.getElem?_take_of_lt hi] at hv
       exact g6 i v hv
      ·rw [List.getElem?_append_right (by simp; omega)] at hv
       have e1 : (old.take off).length = off := by simp; omega
       rw [e1] at hv
       by_cases hi2 : i - off < l.length
       ·rw [if_pos (by omega)]
        rw [List.getElem?_append_left hi2] at hv
        rw [z0i, List.getElem?_map, show ρ.base b + i - (ρ.base b + off + 0) = i - off from by omega, hv]
        rfl
       ·rw [if_neg (by omega)]
        rw [List.getElem?_append_right (by omega), List.getElem?_drop] at hv
        rw [show off + l.length + (i - off - l.length) = i from by omega] at hv
        exact g6 i v hv
    ·simp at hl'
  ·simp at h
theorem q2U (T : TabOk P G) (hH : HRel G ρ D w H) {t : TypeId} {b off : Nat} {v : AV} {H' : Heap} (hb : D b) (hv : okV ρ D v) (h : q2B G H t b off v = some H') :
  ∃ w', (storeVar t (adr ρ b off) (conc ρ v)).run P w = .ok () w' ∧ HRel G ρ D w' H' ∧ H'.next = H.next := by
 obtain ⟨s, hs, h⟩ := z0a h
 obtain ⟨h1, h⟩ := z0c h
 have h1 := z0B h1
 rw [z0S] at h1
 obtain ⟨w', r1, r2, r3⟩ := z3P (P := P) hH hb (z1w hv) h
 refine ⟨w', ?_, r2, r3⟩
 have hsz : ¬ ((conc ρ v).cells.size ≠ s) := by rw [z1o]; simp [z0i, h1]
 simp only [storeVar, Sem.run_bind, T.sizeOf hs, Result.andThen_ok, if_neg hsz]
 rw [z1o]
 exact r1
theorem q2V (hH : HRel G ρ D w H) {e : TypeId} {l : List AV} (hl : okL ρ D l) (h1 : ∀ v ∈ l, z0F v = true) (cap : Nat) :
  ∃ ρ' D' w', (newRow e (concL ρ l).toArray).run P w = .ok (adr ρ' H.next 0) w' ∧ HRel G ρ' D' w' (H.push (.cells e true l)) ∧
   Ext H ρ D (H.push (.cells e true l)) ρ' D' ∧ D' H.next ∧ ρ'.cap H.next = cap := by
 have hfresh : ¬ D H.next := fun hd => Nat.lt_irrefl _ (hH.lt _ hd)
 have hsub := ρ.at_sub hfresh w.heap.size 0 cap
 obtain ⟨r1, r2⟩ := hH.pushEnd (w' := { w with heap := w.heap.push (.cells (concL ρ l).toArray e (0, 0)) }) (.cells e true l) (.cells (concL ρ l).toArray e (0, 0)) cap rfl (by
  refine ⟨(hsub.concL l hl).2, h1, (concL ρ l).toArray, (0, 0), ?_, ?_, ?_, ?_, fun h => by simp at h, fun _ => by simp [Env.at]⟩
  ·simp [Env.at]
  ·exact .inl rfl
  ·simp [Env.at, z0i]
  ·intro i v hv
   have hv' := z0z.1 hl v (List.mem_of_getElem? hv)
   simp [Env.at, z0i, hv]
   exact (hsub.eq hv').symm)
 refine ⟨_, _, _, ?_, r1, r2, .inr rfl, by simp [Env.at]⟩
 simp [newRow, adr, Env.at]
end
end Go.Sx
namespace Go.Sx
mutual
theorem AV.beq_eq : ∀ a b : AV, AV.beq a b = true → a = b
 | .bool a, b, h => by
  cases b <;> simp only [AV.beq, Bool.false_eq_true] at h
  rw [z6c] at h; rw [beq_iff_eq.1 h]
 | .int k a, b, h => by
  cases b <;> simp only [AV.beq, Bool.false_eq_true] at h
  split at h
  ·rename_i hk; rw [z4y] at h; rw [hk, beq_iff_eq.1 h]
  ·simp at h
 | .str s, b, h => by
  cases b <;> simp only [AV.beq, Bool.false_eq_true] at h
  rw [z7a] at h; rw [beq_iff_eq.1 h]
 | .ptr a o, b, h => by
  cases b <;> simp only [AV.beq, Bool.false_eq_true] at h
  rename_i a' o'
  cases h1 : Nat.beq a a' <;> rw [h1] at h
  ·simp at h
  ·rw [z0B h1, z0B h]
 | .nilptr, b, h => by cases b <;> simp_all [AV.beq]
 | .slice a o l q c, b, h => by
  cases b <;> simp only [AV.beq, Bool.false_eq_true] at h
  rename_i a' o' l' q' c'
  cases h1 : Nat.beq a a' <;> rw [h1] at h <;> simp only [cond_false, cond_true, Bool.false_eq_true] at h
  cases h2 : Nat.beq o o' <;> rw [h2] at h <;> simp only [cond_false, cond_true, Bool.false_eq_true] at h
  cases h3 : Nat.beq l l' <;> rw [h3] at h <;> simp only [cond_false, cond_true, Bool.false_eq_true] at h
  cases h4 : Nat.beq c c' <;> rw [h4] at h <;> simp only [cond_false, cond_true, Bool.false_eq_true] at h
  rw [z6c] at h
  rw [z0B h1, z0B h2, z0B h3, z0B h4, beq_iff_eq.1 h]
 | .nilslice, b, h => by cases b <;> simp_all [AV.beq]
 | .tail a o s c, b, h => by
  cases b <;> simp only [AV.beq, Bool.false_eq_true] at h
  rename_i a' o' s' c'
  cases h1 : Nat.beq a a' <;> rw [h1] at h <;> simp only [cond_false, cond_true, Bool.false_eq_true] at h
  cases h2 : Nat.beq o o' <;> rw [h2] at h <;> simp only [cond_false, cond_true, Bool.false_eq_true] at h
  cases h3 : Nat.beq s s' <;> rw [h3] at h <;> simp only [cond_false, cond_true, Bool.false_eq_true] at h
  rw [z0B h1, z0B h2, z0B h3, z0B h]
 | .odd a o s c, b, h => by
  cases b <;> simp only [AV.beq, Bool.false_eq_true] at h
  rename_i a' o' s' c'
  cases h1 : Nat.beq a a' <;> rw [h1] at h <;> simp only [cond_false, cond_true, Bool.false_eq_true] at h
  cases h2 : Nat.beq o o' <;> rw [h2] at h <;> simp only [cond_false, cond_true, Bool.false_eq_true] at h
  cases h3 : Nat.beq c c' <;> rw [h3] at h <;> simp only [cond_false, cond_true, Bool.false_eq_true] at h
  split at h
  ·rename_i h4; rw [z0B h1, z0B h2, z0B h3, h4]
  ·simp at h
 | .map a, b, h => by
  cases b <;> simp only [AV.beq, Bool.false_eq_true] at h
  rw [z0B h]
 | .nilmap, b, h => by cases b <;> simp_all [AV.beq]
 | .func f x y, b, h => by
  cases b <;> simp only [AV.beq, Bool.false_eq_true] at h
  rename_i g u v
  split at h
  ·rename_i hf
   cases h1 : AV.beqL x u <;> rw [h1] at h <;> simp only [cond_false, cond_true, Bool.false_eq_true] at h
   rw [hf, AV.beqL_eq x u h1, AV.beqL_eq y v h]
  ·simp at h
 | .yld a, b, h => by
  cases b <;> simp only [AV.beq, Bool.false_eq_true] at h
  rw [z0B h]
 | .nilFunc, b, h => by cases b <;> simp_all [AV.beq]
 | .iface t x, b, h => by
  cases b <;> simp only [AV.beq, Bool.false_eq_true] at h
  rename_i u y
  cases h1 : Nat.beq t u <;> rw [h1] at h <;> simp only [cond_false, cond_true, Bool.false_eq_true] at h
  rw [z0B h1, AV.beq_eq x y h]
 | .nilIface, b, h => by cases b <;> simp_all [AV.beq]
 | .agg x, b, h => by
  cases b <;> simp only [AV.beq, Bool.false_eq_true] at h
  rw [AV.beqL_eq _ _ h]
 | .tuple x, b, h => by
  cases b <;> simp only [AV.beq, Bool.false_eq_true] at h
  rw [AV.beqL_eq _ _ h]
theorem AV.beqL_eq : ∀ a b : List AV, AV.beqL a b = true → a = b
 | [], b, h => by cases b <;> simp_all [AV.beqL]
 | x :: a, b, h => by
  cases b with
  | nil => simp [AV.beqL] at h
  | cons y b =>
   simp only [AV.beqL] at h
   cases h1 : AV.beq x y <;> rw [h1] at h <;> simp only [cond_false, cond_true, Bool.false_eq_true] at h
   rw [AV.beq_eq x y h1, AV.beqL_eq a b h]
end
section
variable {P : Program} {G : Tab} {ρ : Env} {D : Nat → Prop} {w : World} {H : Heap}
theorem z3r (T : TabOk P G) (b : Bool) : ∀ (d n : Nat), d ≤ n → ∀ {t : TypeId} {k : AV}, z8t G d t k = true → okV ρ D k →
  (Instr.checkKey b n t (conc ρ k)).run P w = .ok () w := by
 intro d
 induction d with
 | zero => intro n _ t k h; simp [z8t] at h
 | succ d ih =>
  intro n hn t k h hk
  obtain ⟨n, rfl⟩ : ∃ m, n = m + 1 := ⟨n - 1, by omega⟩
  have h' : q8K G (z8t G d) k (G.und t) = true := h
  unfold q8K at h'
  split at h'
  ·simp at h'
  ·rename_i u hu
   have hp := T.und hu
   unfold keyD at h'
   split at h'
   ·simp [Instr.checkKey, run_underlying hp]
   ·simp [Instr.checkKey, run_underlying hp]
   ·simp [Instr.checkKey, run_underlying hp]
   ·rename_i fs cs
    simp only [Instr.checkKey, Sem.run_bind, run_underlying hp, Result.andThen_ok, conc]
    rw [← Array.forIn_toList]
    have key : ∀ (l : List Field), (∀ f ∈ l, f.name ≠ "_") → z8s G (z8t G d) cs l = true →
      (forIn l PUnit.unit fun f _ => (do
       if f.name ≠ "_" then Instr.checkKey b n f.type (← part f.type (concL ρ cs).toArray f.offset)
       pure (ForInStep.yield PUnit.unit) : Sem (ForInStep PUnit))).run P w = .ok PUnit.unit w := by
     intro l
     induction l with
     | nil => intro _ _; rfl
     | cons f l ihl =>
      intro hn2 hf
      have hf' : (match z3l G f.type cs f.offset with
       | none => false
       | some v => bif z8t G d f.type v then z8s G (z8t G d) cs l else false) = true := hf
      split at hf'
      ·simp at hf'
      ·rename_i v hv
       cases h1 : z8t G d f.type v <;> rw [h1] at hf'
       ·simp at hf'
       ·obtain ⟨p1, p2⟩ := z3B (w := w) T hv hk
        have := hn2 f (by simp)
        simp only [List.forIn_cons, this, ne_eq, not_false_eq_true, if_true, Sem.run_bind, p1, Result.andThen_ok, ih n (by omega) h1 p2, Sem.run_pure]
        exact ihl (fun g hg => hn2 g (by simp [hg])) hf'
    have := key fs.toList (fun f hf => T.blank t fs hu f (by simpa using hf)) h'
    simp at this ⊢
    rw [this]; rfl
   ·simp at h'
theorem q1A (T : TabOk P G) {kt : TypeId} {k : AV} (hk : okV ρ D k) : ∀ {es : List AEntry} {i : Nat} {r : Option (Nat × AEntry)}, (∀ e ∈ es, okE ρ D e) →
  z8w G kt k es i = some r → (Instr.findAsking kt (conc ρ k) (es.map (concE ρ)) i).run P w = .ok (r.map fun p => (p.1, conc ρ p.2.val)) w := by
 intro es
 induction es with
 | nil => intro i r _ h; have h : some none = some r := h; simp only [Option.some.injEq] at h; subst h; rfl
 | cons e es ih =>
  intro i r he h
  have h' : z8v i e (z8w G kt k es (i + 1)) (q7h G kt k e.key) = some r := h
  unfold z8v at h'
  split at h'
  ·simp at h'
  ·rename_i hq
   simp only [Option.some.injEq] at h'; subst h'
   have := q6z (w := w) T 60 10000 (by omega) hq hk (he e (by simp)).1
   simp [Instr.findAsking, Op.equal, Op.maxDepth, concE, this]
  ·rename_i hq
   have := q6z (w := w) T 60 10000 (by omega) hq hk (he e (by simp)).1
   simp only [List.map_cons, Instr.findAsking, Op.equal, Op.maxDepth, concE, Sem.run_bind, this, Result.andThen_ok, Bool.false_eq_true, if_false]
   exact ih (fun x hx => he x (by simp [hx])) h'
def nowD : TypeDesc → Bool
 | .int _ => true
 | .string => true
 | .bool => true
 | _ => false
theorem q0x {kt : TypeId} {u : TypeDesc} {a b : AV} {r : Bool} (hu : G.und kt = some u) (hn : nowD u = true) (h : q7h G kt a b = some r) :
  Instr.sameNow u (conc ρ a) (conc ρ b) = some r := by
 obtain ⟨e, u', _, hu', h1⟩ := q9G h
 rw [hu] at hu'
 simp only [Option.some.injEq] at hu'
 subst hu'
 cases u <;> simp only [nowD, Bool.false_eq_true] at hn
 case bool =>
  cases a <;> cases b <;> simp [eqD, z5Y] at h1
  subst h1; simp [Instr.sameNow, conc, z6c]
 case int k =>
  cases a <;> cases b <;> simp [eqD, z5Y] at h1
  obtain ⟨h1, h2⟩ := h1
  subst h1; subst h2; simp [Instr.sameNow, conc, z4y]
 case string =>
  cases a <;> cases b <;> simp [eqD, z5Y] at h1
  subst h1
  rw [z7a]
  simp only [Instr.sameNow, conc]
  rw [beq_toListBytes, z4Y, z4Y]
theorem q7n {kt : TypeId} {u : TypeDesc} {k : AV} (hu : G.und kt = some u) (hn : nowD u = true) : ∀ {es : List AEntry} {i : Nat} {r : Option (Nat × AEntry)},
  z8w G kt k es i = some r → Instr.findNow u (conc ρ k) (es.map (concE ρ)) i = some (r.map fun p => (p.1, conc ρ p.2.val)) := by
 intro es
 induction es with
 | nil => intro i r h; have h : some none = some r := h; simp only [Option.some.injEq] at h; subst h; rfl
 | cons e es ih =>
  intro i r h
  have h' : z8v i e (z8w G kt k es (i + 1)) (q7h G kt k e.key) = some r := h
  unfold z8v at h'
  split at h'
  ·simp at h'
  ·rename_i hq
   simp only [Option.some.injEq] at h'; subst h'
   simp [Instr.findNow, concE, q0x hu hn hq]
  ·rename_i hq
   simp only [List.map_cons, Instr.findNow, concE, q0x hu hn hq]
   exact ih h'
theorem q2W {u : TypeDesc} (hn : nowD u = false) (a b : Value) : Instr.sameNow u a b = none := by
 cases u <;> simp [nowD] at hn <;> cases a <;> cases b <;> rfl
theorem z4c (T : TabOk P G) {kt : TypeId} {k : AV} (hk : okV ρ D k) (hok : z8t G 20 kt k = true) {es : List AEntry} {r : Option (Nat × AEntry)} (he : ∀ e ∈ es, okE ρ D e)
  (h : z8w G kt k es 0 = some r) : (Instr.findKey kt (conc ρ k) (es.map (concE ρ))).run P w = .ok (r.map fun p => (p.1, conc ρ p.2.val)) w := by
 obtain ⟨u, hu⟩ : ∃ u, G.und kt = some u := by
  have h' : q8K G (z8t G 19) k (G.und kt) = true := hok
  unfold q8K at h'
  split at h'
  ·simp at h'
  ·rename_i u hu; exact ⟨u, hu⟩
 have hp := T.und hu
 simp only [Instr.findKey, Sem.run_bind, run_underlying hp, Result.andThen_ok]
 cases hn : nowD u
 ·cases es with
  | nil => have h : some none = some r := h; simp only [Option.some.injEq] at h; subst h; rfl
  | cons e es =>
   have : Instr.findNow u (conc ρ k) (List.map (concE ρ) (e :: es)) 0 = none := by simp [Instr.findNow, q2W hn]
   rw [this]
   exact q1A T hk he h
 ·rw [q7n hu hn h]; rfl
theorem z2u (T : TabOk P G) {t : TypeId} {k : AV} {kt : TypeId × TypeId} (h : z5s G t k = some kt) : P.underlying t = some (.map kt.1 kt.2) ∧ z8t G 20 kt.1 k = true := by
 obtain ⟨d, hd, h⟩ := z0a h
 obtain ⟨p, hp, h⟩ := z0a h
 obtain ⟨h1, h⟩ := z0c h
 simp only [Option.some.injEq] at h; subst h
 unfold mapD at hp
 split at hp
 ·simp only [Option.some.injEq] at hp; subst hp
  exact ⟨T.und hd, h1⟩
 ·simp at hp
theorem q0y {o : Option ABlk} {p : List AEntry × Nat} (h : z5J o = some p) : o = some (.map p.1 p.2) := by
 unfold z5J at h
 split at h
 ·simp only [Option.some.injEq] at h; subst h; rfl
 ·simp at h
theorem z1K (hH : HRel G ρ D w H) {r : Nat} {p : List AEntry × Nat} (hr : D r) (h : z5J (H.blks.get r) = some p) :
  (∀ e ∈ p.1, okE ρ D e) ∧ ∃ es', w.heap[ρ.blk r]? = some (.map es' p.2) ∧ es'.toList = p.1.map (concE ρ) :=
 hH.blk r _ hr (q0y h)
theorem run_getObj_map {r : Nat} {es : Array MapEntry} {c : Nat} (h : w.heap[r]? = some (.map es c)) : (getObj r).run P w = .ok (.map es c) w := by
 simp [getObj, Sem.run, h]
theorem z0X {r : Nat} {es : Array MapEntry} {c : Nat} {o : Obj} (h : w.heap[r]? = some (.map es c)) : (setObj r o).run P w = .ok () { w with heap := w.heap.setIfInBounds r o } := by
 simp [setObj, Sem.run, h]
theorem z8T {kt : TypeId} {k : AV} : ∀ {es : List AEntry} {i j : Nat} {e : AEntry}, z8w G kt k es i = some (some (j, e)) → i ≤ j ∧ es[j - i]? = some e ∧ q7h G kt k e.key = some true := by
 intro es
 induction es with
 | nil => intro i j e h; have h : some none = some (some (j, e)) := h; simp at h
 | cons x es ih =>
  intro i j e h
  have h' : z8v i x (z8w G kt k es (i + 1)) (q7h G kt k x.key) = some (some (j, e)) := h
  unfold z8v at h'
  split at h'
  ·simp at h'
  ·rename_i hq
   simp only [Option.some.injEq, Prod.mk.injEq] at h'
   obtain ⟨rfl, rfl⟩ := h'
   exact ⟨Nat.le_refl _, by simp, hq⟩
  ·obtain ⟨h1, h2, h3⟩ := ih h'
   refine ⟨by omega, ?_, h3⟩
   rw [show j - i = (j - (i + 1)) + 1 from by omega]
   simpa using h2
theorem q7o (T : TabOk P G) (hH : HRel G ρ D w H) {t : TypeId} {ok : Bool} {x k v : AV} (h : z8x G H t ok x k = some v) (hx : okV ρ D x) (hk : okV ρ D k) :
  Val P ρ D w (Instr.lookup t (conc ρ x) (conc ρ k) ok) v := by
 obtain ⟨kt, hkt, h⟩ := z0a h
 obtain ⟨es, hes, h⟩ := z0a h
 obtain ⟨o, ho, h⟩ := z0a h
 obtain ⟨hu, hok⟩ := z2u T hkt
 have ck := fun b => z3r (ρ := ρ) (D := D) (w := w) T b 20 10000 (by omega) hok hk
 have fin : (∀ q, o = some q → okE ρ D q.2) → okV ρ D v ∧ ((∃ z, o = none ∧ G.zero kt.2 = some z ∧ conc ρ v = if ok then .tuple #[conc ρ z, .bool false] else conc ρ z) ∨
   (∃ q, o = some q ∧ conc ρ v = if ok then .tuple #[conc ρ q.2.val, .bool true] else conc ρ q.2.val)) := by
  intro hoe
  cases o with
  | none =>
   have h : z0b (G.zero kt.2) (fun z => some (bif ok then AV.tuple [z, .bool false] else z)) = some v := h
   obtain ⟨z, hz, h⟩ := z0a h
   obtain ⟨_, _, _, _, hc⟩ := T.zero hz
   simp only [Option.some.injEq] at h; subst h
   cases ok
   ·exact ⟨(hc ρ D).2, .inl ⟨z, rfl, hz, rfl⟩⟩
   ·exact ⟨⟨(hc ρ D).2, trivial, trivial⟩, .inl ⟨z, rfl, hz, by simp [conc, concL]⟩⟩
  | some q =>
   have h : some (bif ok then AV.tuple [q.2.val, .bool true] else q.2.val) = some v := h
   simp only [Option.some.injEq] at h; subst h
   have := (hoe q rfl).2
   cases ok
   ·exact ⟨this, .inr ⟨q, rfl, rfl⟩⟩
   ·exact ⟨⟨this, trivial, trivial⟩, .inr ⟨q, rfl, by simp [conc, concL]⟩⟩
 unfold q7i at hes
 split at hes
 ·simp only [Option.some.injEq] at hes; subst hes
  have ho' : some none = some o := ho
  simp only [Option.some.injEq] at ho'; subst ho'
  have fk := z4c (w := w) (es := []) T hk hok (by simp) (r := none) rfl
  simp only [List.map_nil] at fk
  obtain ⟨h1, h2⟩ := fin (by simp)
  refine ⟨?_, h1⟩
  rcases h2 with ⟨z, _, hz, hv⟩ | ⟨q, hq, _⟩
  ·rw [hv]
   simp only [Instr.lookup, Sem.run_bind, run_underlying hu, Result.andThen_ok, conc, Sem.run_pure, ck, fk, Option.map_none, T.zeroValue hz ρ]
  ·simp at hq
 ·rename_i r
  obtain ⟨p, hp, hes⟩ := z0a hes
  simp only [Option.some.injEq] at hes; subst hes
  obtain ⟨m1, es', m2, m3⟩ := z1K hH hx hp
  have fk := z4c (w := w) T hk hok m1 ho
  have hoe : ∀ q, o = some q → okE ρ D q.2 := by
   rintro ⟨j, e⟩ rfl
   obtain ⟨_, h2, _⟩ := z8T ho
   exact m1 e (List.mem_of_getElem? h2)
  obtain ⟨h1, h2⟩ := fin hoe
  refine ⟨?_, h1⟩
  rcases h2 with ⟨z, hz0, hz, hv⟩ | ⟨q, hq, hv⟩
  ·subst hz0
   rw [hv]
   simp only [Instr.lookup, Sem.run_bind, run_underlying hu, Result.andThen_ok, conc, run_getObj_map m2, Sem.run_pure, ck, m3, fk, Option.map_none, T.zeroValue hz ρ]
  ·subst hq
   rw [hv]
   simp only [Instr.lookup, Sem.run_bind, run_underlying hu, Result.andThen_ok, conc, run_getObj_map m2, Sem.run_pure, ck, m3, fk, Option.map_some]
 ·simp at hes
end
end Go.Sx
