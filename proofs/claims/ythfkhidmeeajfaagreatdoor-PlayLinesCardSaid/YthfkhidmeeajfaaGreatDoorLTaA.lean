/-
  Names; commands and events as cells; numbers and texts by the library; effects, items, ranges.
-/
import Derived.Test.YthfkhidmeeajfaaGreatDoorLNtA
import Derived.Test.YthfkhidmeeajfaaGreatDoorLSxH
import Derived.Test.YthfkhidmeeajfaaGreatDoorLSxI
import Derived.Lib.ItoaLen
import Derived.Shelf.Strings.OnBuilder
import Derived.Shelf.Strconv.Itoa4
import Derived.Lib.AppendIntMem
set_option linter.unusedSimpArgs false
set_option linter.unusedVariables false
namespace Go.Sx
section
variable {G : Tab} {F : Fns}
theorem z1L (t : TypeId) (x i : Operand) (tm : T AV) (H : Heap) : opN (.index t x i) G tm H = z1i H (z0b (aev G tm x) fun v => z0b (aev G tm i) fun j => z7x G t v j) := rfl
theorem z7V (t : TypeId) (x : Operand) (lo hi mx : Option Operand) (tm : T AV) (H : Heap) : opN (.slice t x lo hi mx) G tm H = z1i H (z0b (aev G tm x) fun v => z0b (opt1 G tm lo) fun a => z0b (opt1 G tm hi) fun b => z0b (opt1 G tm mx) fun c => z4T G t v a b c) := rfl
theorem q8X (tm : T AV) : opt1 G tm none = some none := rfl
theorem q8Y (tm : T AV) (o : Operand) : opt1 G tm (some o) = z0b (aev G tm o) fun v => some (some v) := rfl
theorem z6E {t : TypeId} (hu : G.und t = some .string) (s : List UInt8) (k : IntKind) (i : Nat) {c : UInt8} (h : s[i]? = some c) : z7x G t (.str s) (.int k (i : Int)) = some (.int .u8 (c.toNat : Int)) := by
 unfold z7x
 rw [hu]
 show z0b (nth s i) (fun b => some (z7w b)) = _
 rw [z2F, h]; rfl
theorem q7B {t : TypeId} (hu : G.und t = some .string) (s : List UInt8) (n : Nat) (h : n ≤ s.length) : z4T G t (.str s) (some (.int .i64 (n : Int))) none none = some (.str (s.drop n)) := by
 unfold z4T
 rw [show q6c none none = true from rfl, cond_true, hu]
 show z0b (z1E none (len s) (len s)) (fun h => z0b (z1E (some (.int .i64 (n : Int))) 0 h) fun l => z0b (z3R (z5p s l) (h - l)) fun r => some (AV.str r)) = _
 rw [show z1E none (len s) (len s) = some (len s) from rfl, z5G]
 rw [show z1E (some (.int .i64 (n : Int))) 0 (len s) = bif Nat.ble n (len s) then some n else none from rfl, z1f]
 have : Nat.ble n s.length = true := Nat.ble_eq_true_of_le h
 rw [this, cond_true, z5G, z1Z, z1I, if_pos (by rw [List.length_drop]; omega), z5G]
 congr 2
 rw [List.take_of_length_le (by rw [List.length_drop]; omega)]
theorem j4E {t : TypeId} (hu : G.und t = some .string) (s : List UInt8) (n : Nat) (h : n ≤ s.length) : z4T G t (.str s) none (some (.int .i64 (n : Int))) none = some (.str (s.take n)) := by
 unfold z4T
 rw [show q6c (some (.int .i64 (n : Int))) none = true from rfl, cond_true, hu]
 show z0b (z1E (some (.int .i64 (n : Int))) (len s) (len s)) (fun h => z0b (z1E none 0 h) fun l => z0b (z3R (z5p s l) (h - l)) fun r => some (AV.str r)) = _
 rw [show z1E (some (.int .i64 (n : Int))) (len s) (len s) = bif Nat.ble n (len s) then some n else none from rfl, z1f]
 have : Nat.ble n s.length = true := Nat.ble_eq_true_of_le h
 rw [this, cond_true, z5G, show z1E none 0 n = some 0 from rfl, z5G, z1Z, z1I, if_pos (by simpa using h), z5G]
 rfl
theorem w2E {α : Type} (l m : List α) : app l m = l ++ m := z2f l m
theorem j0O {t e : TypeId} {n z : Nat} (hu : G.und t = some (.array n e)) (hz : G.size e = some z) (b off : Nat) (k : IntKind) (x : Int) :
  z1e G t (.ptr b off) (.int k x) = if 0 ≤ x ∧ x < (n : Int) then some (.ptr b (off + x.toNat * z)) else none := by
 unfold z1e
 rw [hu]
 show z0b (inB (.int k x) n) (fun m => z0b (G.size e) fun z => some (AV.ptr b (off + m * z))) = _
 rw [k5t]
 by_cases h : 0 ≤ x ∧ x < (n : Int)
 ·rw [if_pos h, if_pos h]; simp only [z0b, hz]
 ·rw [if_neg h, if_neg h]; rfl
theorem q8Z (it : Operand) (s : Bool) (c : Ctx) (tm : T AV) (df : List ADefer) (H : Heap) : opE (.next it s) F G c tm df H = outs df (z0b (aev G tm it) fun v => q1e H v s) := rfl
theorem j0P (t : TypeId) (x : Operand) (c : Ctx) (tm : T AV) (df : List ADefer) (H : Heap) : opE (.range t x) F G c tm df H = out2 df (z0b (aev G tm x) (q1H G H t)) := rfl
theorem j0Q {t : TypeId} (hu : G.und t = some .string) (H : Heap) (s : List UInt8) : q1H G H t (.str s) = some (.ptr H.next 0, H.push (.strIter s 0)) := by
 unfold q1H
 rw [hu]
 show z9J H (.strIter s 0) = _
 unfold z9J
 rw [z2o]
theorem j4F {H : Heap} {it pos : Nat} {s : List UInt8} (h : H.blks.get it = some (.strIter s pos)) (hp : s[pos]? = none) : q1e H (.ptr it 0) true = some [(.tuple [.bool false], H)] := by
 show q8h H it true (H.blks.get it) = _
 rw [h]
 show q2D H it pos s (nth s pos) = _
 rw [z2F, hp]; rfl
theorem j7Q {H : Heap} {it pos : Nat} {s : List UInt8} {b : UInt8} (h : H.blks.get it = some (.strIter s pos)) (hp : s[pos]? = some b) (hb : b.toNat < 128) :
  q1e H (.ptr it 0) true = some [(.tuple [.bool true, .int .i64 (pos : Int), .int .i32 (b.toNat : Int)], z0i H it (some (.strIter s (pos + 1))))] := by
 show q8h H it true (H.blks.get it) = _
 rw [h]
 show q2D H it pos s (nth s pos) = _
 rw [z2F, hp]
 show (bif Nat.blt b.toNat 128 then z1x (pos + 1) (fun p => z0S H it (some (.strIter s p)) fun H' => some [(AV.tuple [.bool true, .int .i64 (.ofNat pos), .int .i32 (.ofNat b.toNat)], H')]) else none) = _
 have : Nat.blt b.toNat 128 = true := by simpa [Nat.blt_eq] using hb
 rw [this, cond_true, z0s, z2t]
 rfl
end
end Go.Sx
namespace Go.Proofs
open Go.Sx
set_option maxRecDepth 100000
def low (n : Nat) : Bool := decide (97 ≤ n ∧ n ≤ 122) || decide (48 ≤ n ∧ n ≤ 57)
abbrev lowA (c : UInt8) : Bool := low c.toNat
def setL : List AV := (List.range 256).map fun i => .bool (low i)
def letters : List UInt8 := [97, 98, 99, 100, 101, 102, 103, 104, 105, 106, 107, 108, 109, 110, 111, 112, 113, 114, 115, 116, 117, 118, 119, 120, 121, 122, 48, 49, 50, 51, 52, 53, 54, 55, 56, 57]
noncomputable def pH0 : Heap := ⟨10, .e⟩
theorem setK : q3N pH0 (.tuple [.agg setL, .bool true]) ((fns Tryz.tab 60).call 328 [.str letters] pH0) = true := by kernel_rfl
theorem w2F : q3M Tryz.tab pH0 [.str letters] = true := by kernel_rfl
theorem w2G : j7J (.tuple [.agg setL, .bool true]) = true := by kernel_rfl
theorem j7R (H : Heap) : CallTo Tryz.prog Tryz.tab 328 [.str letters] H [(.tuple [.agg setL, .bool true], H)] :=
 j4w Tryz.tabOk setK w2G w2F H fun b o h => by simp [pH0, T.get_e] at h
theorem k2z (n : Nat) (h : n < 256) : setL[n]? = some (.bool (low n)) := by
 unfold setL
 rw [List.getElem?_map, List.getElem?_range h]; rfl
theorem q3P : setL.length = 256 := by unfold setL; rw [List.length_map, List.length_range]
theorem j7S : z0W setL = true := by kernel_rfl
theorem k6y : Tryz.tab.und 437 = some (.array 256 4) := by kernel_rfl
theorem w2H (c : UInt8) : c.toNat < 256 := UInt8.toNat_lt c
theorem j9E (c : UInt8) (b : Nat) (H : Heap) (hb : H.blks.get b = some (.cells 437 true setL)) (hN : Neat H) : CallTo Tryz.prog Tryz.tab 394 [.ptr b 0, .int .u8 (c.toNat : Int)] H [(.bool (lowA c), H)] := by
 refine z0k (n := 20) (v := .bool (lowA c)) Tryz.tabOk (ov := noOv) z0d (H' := H) ?_ (.refl _) hN trivial
 rw [z4N, z4O, k4C]
 have hlt := w2H c
 have hi : (0 : Int) ≤ (c.toNat : Int) := by omega
 have hi2 : (c.toNat : Int) < 256 := by omega
 have h256 : ((256 : Nat) : Int) = 256 := rfl
 have hc := k2z c.toNat hlt
 simp -implicitDefEqProofs (disch := first | exact d_ | fail) only [sxM, Nat.reduceAdd, reduceCtorEq, Int.reduceToNat, Nat.reduceEqDiff, Int.reduceEq, Int.reduceLT, Tryz.f394, j0O k6y sz4, hi, hi2, h256, true_and, and_self, hb, z0c ia4, Int.toNat_natCast, Nat.mul_one, hc]
theorem j9F (l : List UInt8) : l.dropWhile lowA = [] ↔ ∀ c ∈ l, lowA c = true := by
 induction l with
 | nil => simp
 | cons a l ih =>
  by_cases h : lowA a = true
  ·rw [List.dropWhile_cons_of_pos h, ih]; simp [h]
  ·rw [List.dropWhile_cons_of_neg h]
   simp only [reduceCtorEq, List.mem_cons, forall_eq_or_imp, false_iff]
   exact fun hh => h hh.1
def trR (l : List UInt8) : List UInt8 := (l.reverse.dropWhile lowA).reverse
theorem q9a (l : List UInt8) (c : UInt8) : trR (l ++ [c]) = if lowA c = true then trR l else l ++ [c] := by
 unfold trR
 rw [List.reverse_append, List.reverse_singleton, List.singleton_append]
 by_cases h : lowA c = true
 ·rw [List.dropWhile_cons_of_pos h, if_pos h]
 ·rw [List.dropWhile_cons_of_neg h, if_neg h]; simp
theorem j4G (l : List UInt8) : (∀ c ∈ trR l, lowA c = true) ↔ ∀ c ∈ l, lowA c = true := by
 have key : ∀ m : List UInt8, (∀ c ∈ m.dropWhile lowA, lowA c = true) ↔ ∀ c ∈ m, lowA c = true := by
  intro m
  induction m with
  | nil => simp
  | cons a m ih =>
   by_cases h : lowA a = true
   ·rw [List.dropWhile_cons_of_pos h, ih]; simp [h]
   ·rw [List.dropWhile_cons_of_neg h]
 unfold trR
 simp only [List.mem_reverse]
 rw [key]
 simp only [List.mem_reverse]
theorem j7T (s : List UInt8) (b : Nat) (H : Heap) (hb : H.blks.get b = some (.cells 437 true setL)) (hN : Neat H) : CallTo Tryz.prog Tryz.tab 329 [.str s, .ptr b 0] H [(.str (s.dropWhile lowA), H)] := by
 refine z0M Tryz.tabOk Tryz.func329 rfl rfl ?_
 show Gets Tryz.prog Tryz.tab ⟨none, 16⟩ _ _ _
 repeat refine Gets.seq ?_
 refine g0_ ?_
 refine Gets.midA (H := H) (I := fun tm => tm.get 0 = some (.str (s.dropWhile lowA))) ?_ ?_
 ·refine Gets.upto s.length (fun i tm => tm.get 1 = some (.ptr b 0) ∧ ∃ l : List UInt8, tm.get 0 = some (.str l) ∧ l.length + i = s.length ∧ l.dropWhile lowA = s.dropWhile lowA) ⟨sx0_, s, sx0_, rfl, rfl⟩ ?_
  rintro i tm hi ⟨i1, l, i0, hl, hd⟩
  repeat refine Gets.seq ?_
  cases l with
  | nil =>
   have h0 : ¬ (0 : Int) < ((([] : List UInt8).length : Nat) : Int) := by simp
   refine g1_ (y3_ i0 (z0Q ud9) h0) ?_
   refine Gets.condF sx0_ (Gets.exit Tryz.tabOk ?_)
   refine z2v ?_
   have hd0 : List.dropWhile lowA s = [] := by rw [← hd]; rfl
   exact ⟨rfl, _, rfl, sx1_ (y2_ i0 hd0)⟩
  | cons c l =>
   have h0 : (0 : Int) < ((l.length + 1 : Nat) : Int) := by omega
   refine g1_ (y3_ i0 (z0Q ud9) h0) ?_
   refine Gets.condT sx0_ (Gets.skip Tryz.tabOk ?_)
   change Gets _ _ _ _ _ _
   refine Gets.blk ?_
   repeat refine Gets.seq ?_
   have q := j9E c b H hb hN
   have hx : z7x Tryz.tab 9 (.str (c :: l)) (.int .i64 0) = some (.int .u8 (c.toNat : Int)) := z6E ud9 (c :: l) .i64 0 rfl
   by_cases hc : lowA c = true
   ·rw [hc] at q
    refine o1_ (z0g z0d q) (y4_ i0 i1 @z1L hx) ?_
    refine cFk_ ?_
    have hs : z4T Tryz.tab 9 (.str (c :: l)) (some (.int .i64 1)) none none = some (.str l) := q7B ud9 (c :: l) 1 (by simp)
    refine g1_ (y5_ i0 @z7V @q8X @q8Y hs) ?_
    refine z2r ?_
    refine ⟨_, rfl, by simp at hl; omega, sx1_ i1, l, sx0_, by simp at hl; omega, ?_⟩
    rw [← hd, List.dropWhile_cons_of_pos hc]
   ·have hf : lowA c = false := by simpa using hc
    rw [hf] at q
    refine o1_ (z0g z0d q) (y4_ i0 i1 @z1L hx) ?_
    refine Gets.condT sx0_ (Gets.exit Tryz.tabOk ?_)
    refine z7m (by decide) (z2v ?_)
    refine ⟨rfl, _, rfl, ?_⟩
    rw [← hd, List.dropWhile_cons_of_neg hc]
    simp (disch := decide) only [sxL, i0]
 rintro tm i0
 change Gets _ _ _ _ _ _
 repeat refine Gets.seq ?_
 refine g1_ i0 ?_
 refine Gets.ret Tryz.tabOk ?_
 exact z0v rfl (sr_ Tryz.f329.eq_1) (.refl _) hN trivial
end Go.Proofs
namespace Go.Proofs
open Go.Sx
set_option maxRecDepth 100000
theorem j7U (s : List UInt8) (b : Nat) (H : Heap) (hb : H.blks.get b = some (.cells 437 true setL)) (hN : Neat H) (hs : s.length < 1000000000) : CallTo Tryz.prog Tryz.tab 330 [.str s, .ptr b 0] H [(.str (trR s), H)] := by
 refine z0M Tryz.tabOk Tryz.func330 rfl rfl ?_
 show Gets Tryz.prog Tryz.tab ⟨none, 22⟩ _ _ _
 repeat refine Gets.seq ?_
 refine g0_ ?_
 refine Gets.midA (H := H) (I := fun tm => tm.get 0 = some (.str (trR s))) ?_ ?_
 ·refine Gets.upto s.length (fun i tm => tm.get 1 = some (.ptr b 0) ∧ ∃ l : List UInt8, tm.get 0 = some (.str l) ∧ l.length + i = s.length ∧ trR l = trR s) ⟨sx0_, s, sx0_, rfl, rfl⟩ ?_
  rintro i tm hi ⟨i1, l, i0, hl, hd⟩
  repeat refine Gets.seq ?_
  rcases List.eq_nil_or_concat l with rfl | ⟨l', c, hlc⟩
  ·have h0 : ¬ (0 : Int) < ((([] : List UInt8).length : Nat) : Int) := by simp
   refine g1_ (y3_ i0 (z0Q ud9) h0) ?_
   refine Gets.condF sx0_ (Gets.exit Tryz.tabOk ?_)
   refine z2v ?_
   have hd0 : trR s = [] := by rw [← hd]; rfl
   exact ⟨rfl, _, rfl, sx1_ (y2_ i0 hd0)⟩
  ·rw [List.concat_eq_append] at hlc
   subst hlc
   have hl2 : (l' ++ [c]).length = l'.length + 1 := by simp
   have h0 : (0 : Int) < (((l' ++ [c]).length : Nat) : Int) := by rw [hl2]; omega
   refine g1_ (y3_ i0 (z0Q ud9) h0) ?_
   refine Gets.condT sx0_ (Gets.skip Tryz.tabOk ?_)
   change Gets _ _ _ _ _ _
   refine Gets.blk ?_
   repeat refine Gets.seq ?_
   have q := j9E c b H hb hN
   have w1 : z3g .i64 ((((l' ++ [c]).length : Nat) : Int) - 1) = (l'.length : Int) := (z3N (by rw [hl2]; omega) (by rw [hl2]; omega)).trans (by rw [hl2]; omega)
   have hx : z7x Tryz.tab 9 (.str (l' ++ [c])) (.int .i64 (l'.length : Int)) = some (.int .u8 (c.toNat : Int)) := z6E ud9 (l' ++ [c]) .i64 l'.length (by simp)
   by_cases hc : lowA c = true
   ·rw [hc] at q
    refine o1_ (z0g z0d q) (y6_ i0 i1 @z1L (z0Q ud9) w1 hx) ?_
    refine cFk_ ?_
    have hs : z4T Tryz.tab 9 (.str (l' ++ [c])) none (some (.int .i64 (l'.length : Int))) none = some (.str l') := (j4E ud9 (l' ++ [c]) l'.length (by simp)).trans (by simp)
    refine g1_ (y7_ i0 (z0Q ud9) w1 @z7V @q8X @q8Y hs) ?_
    refine z2r ?_
    refine ⟨_, rfl, by omega, sx1_ i1, l', sx0_, by omega, ?_⟩
    rw [← hd, q9a, if_pos hc]
   ·have hf : lowA c = false := by simpa using hc
    rw [hf] at q
    refine o1_ (z0g z0d q) (y6_ i0 i1 @z1L (z0Q ud9) w1 hx) ?_
    refine Gets.condT sx0_ (Gets.exit Tryz.tabOk ?_)
    refine z7m (by decide) (z2v ?_)
    refine ⟨rfl, _, rfl, ?_⟩
    rw [← hd, q9a, if_neg hc]
    simp (disch := decide) only [sxL, i0]
 rintro tm i0
 change Gets _ _ _ _ _ _
 repeat refine Gets.seq ?_
 refine g1_ i0 ?_
 refine Gets.ret Tryz.tabOk ?_
 exact z0v rfl (sr_ Tryz.f330.eq_1) (.refl _) hN trivial
theorem k2A : Tryz.tab.zero 437 = some (.agg (List.replicate 256 (.bool false))) := by kernel_rfl
theorem k2B (s : List UInt8) (H : Heap) (hN : Neat H) (hs : s.length < 1000000000) : CallTo Tryz.prog Tryz.tab 252 [.str s, .str letters] H [(.str ((trR s).dropWhile lowA), H)] := by
 refine z0M Tryz.tabOk Tryz.func252 rfl rfl ?_
 show Gets Tryz.prog Tryz.tab ⟨none, 43⟩ _ _ _
 repeat refine Gets.seq ?_
 refine g0_ ?_
 have e1 : sbeq letters [] = false := rfl
 have e2 : ¬ ((36 : Int) = 1) := by omega
 have hll : letters.length = 36 := rfl
 by_cases h0 : s = []
 ·subst h0
  have e0 : sbeq [] [] = true := rfl
  refine g1b_ e0 ?_
  refine cT_ ?_
  refine g0_ ?_
  refine Gets.ret Tryz.tabOk ?_
  have hd0 : List.dropWhile lowA (trR []) = [] := rfl
  exact z0v rfl (by rw [hd0]; simp (disch := decide) only [sxL, Tryz.f252, resultA]) (.refl _) hN trivial
 have e0 : sbeq s [] = false := by cases s with
  | nil => exact absurd rfl h0
  | cons a l => rfl
 refine g1b_ (y2_ e0 e1) ?_
 refine cFs_ ?_
 refine g1_ (y3_ (z0Q ud9) hll e2) ?_
 refine cFs_ ?_
 have q := j7R H
 have hst : z0P Tryz.tab (H.push (.cells 437 true (List.replicate 256 (.bool false)))) 437 (.ptr H.next 0) (.agg setL) = some (z0i (H.push (.cells 437 true (List.replicate 256 (.bool false)))) H.next (some (.cells 437 true setL))) :=
  j0z (z0q _ _) (by rw [q3P]; exact k9c) (by rw [q3P, List.length_replicate]) j7S (by intro h; have := q3P; rw [h] at this; simp at this)
 have hone : z0W (List.replicate 256 (.bool false)) = true := by kernel_rfl
 refine o1_ (z0g z0d q) (y3_ @k2A hone hst) ?_
 have hg : Grows H (z0i (H.push (.cells 437 true (List.replicate 256 (.bool false)))) H.next (some (.cells 437 true setL))) :=
  ⟨by rw [z0f, z0n]; omega, fun x hx => by rw [z0l _ _ _ (by omega), z0r _ _ (by omega)]⟩
 have hn2 : Neat (z0i (H.push (.cells 437 true (List.replicate 256 (.bool false)))) H.next (some (.cells 437 true setL))) := (hN.push _).put (by rw [z0n]; omega) _
 have hb : (z0i (H.push (.cells 437 true (List.replicate 256 (.bool false)))) H.next (some (.cells 437 true setL))).blks.get H.next = some (.cells 437 true setL) := z0J _ _ _
 generalize z0i (H.push (.cells 437 true (List.replicate 256 (.bool false)))) H.next (some (.cells 437 true setL)) = h2 at hg hn2 hb ⊢
 refine g0_ ?_
 refine cT_ ?_
 have q1 := j7U s H.next h2 hb hn2 hs
 have q2 := j7T (trR s) H.next h2 hb hn2
 refine o1_ (z0g (z0g z0d q1) q2) @z0B ?_
 refine Gets.ret Tryz.tabOk ?_
 exact z0v rfl (sr_ Tryz.f252.eq_1) hg hN trivial
end Go.Proofs
namespace Go.Proofs
open Go.Sx
set_option maxRecDepth 100000
theorem j9G {c : UInt8} (h : lowA c = true) : c.toNat ≤ 122 := by
 simp only [lowA, low, Bool.or_eq_true, decide_eq_true_eq] at h
 omega
theorem j7V (c : UInt8) (h : lowA c = true) (H : Heap) (hN : Neat H) : CallTo Tryz.prog Tryz.tab 254 [.int .i32 (c.toNat : Int)] H [(.bool false, H)] := by
 refine z0k (n := 20) (v := .bool false) Tryz.tabOk (ov := noOv) z0d (H' := H) ?_ (.refl _) hN trivial
 rw [z4N, z4O, k4v]
 have hc : ¬ (122 : Int) < (c.toNat : Int) := by have := j9G h; omega
 simp -implicitDefEqProofs (disch := first | exact d_ | fail) only [sxM, Nat.reduceAdd, reduceCtorEq, Int.reduceToNat, Nat.reduceEqDiff, Int.reduceEq, Int.reduceLT, Tryz.f254, hc]
theorem k6z (c : Bool) : binA Tryz.tab .eql 4 c (.bool false) (.bool true) = some (.bool false) := by cases c <;> kernel_rfl
theorem k2C (s : List UInt8) (hs : ∀ c ∈ s, lowA c = true) (hlen : s.length < 1000000000) (H : Heap) (hN : Neat H) :
  CallTo Tryz.prog Tryz.tab 398 [.str s, .func (.func 254) [] [], .bool true] H [(.int .i64 (-1), H)] := by
 refine z0M Tryz.tabOk Tryz.func398 rfl rfl ?_
 show Gets Tryz.prog Tryz.tab ⟨none, 21⟩ _ _ _
 repeat refine Gets.seq ?_
 refine g0_ ?_
 refine g1_ (y2_ @j0P (j0Q ud9)) ?_
 have hg : Grows H (H.push (.strIter s 0)) := .push _ _
 have hb : (H.push (.strIter s 0)).blks.get H.next = some (.strIter s 0) := z0q _ _
 have hN1 : Neat (H.push (.strIter s 0)) := hN.push _
 have hnx : (H.push (.strIter s 0)).next = H.next + 1 := rfl
 generalize H.push (.strIter s 0) = h1 at hg hb hN1 hnx ⊢
 refine Gets.midH (I := fun tm h => Grows H h) ?_ ?_
 ·refine Gets.uptoH s.length (fun i tm h => tm.get 1 = some (.func (.func 254) [] []) ∧ tm.get 2 = some (.bool true) ∧ tm.get 10 = some (.ptr H.next 0) ∧ h.blks.get H.next = some (.strIter s i) ∧ h.next = H.next + 1 ∧ Grows H h ∧ Neat h)
   ⟨sx0_, sx0_, sx0_, hb, hnx, hg, hN1⟩ ?_
  clear hg hb hN1 hnx
  rintro i tm h hi ⟨i1, i2, i10, hb, hnx, hg, hN1⟩
  repeat refine Gets.seq ?_
  by_cases hlt : i < s.length
  ·obtain ⟨c, hc⟩ : ∃ c, s[i]? = some c := ⟨_, List.getElem?_eq_getElem hlt⟩
   have hlow := hs c (List.mem_of_getElem? hc)
   have hle := j9G hlow
   have hnext := j7Q hb hc (by omega)
   refine g1_ (y3_ i10 @q8Z hnext) ?_
   refine Gets.condT sx0_ (Gets.skip Tryz.tabOk ?_)
   change Gets _ _ _ _ _ _
   refine Gets.blk ?_
   repeat refine Gets.seq ?_
   have hN2 : Neat (z0i h H.next (some (.strIter s (i + 1)))) := hN1.put (by omega) _
   have hb2 : (z0i h H.next (some (.strIter s (i + 1)))).blks.get H.next = some (.strIter s (i + 1)) := z0J _ _ _
   have hnx2 : (z0i h H.next (some (.strIter s (i + 1)))).next = H.next + 1 := by rw [z0f]; exact hnx
   have hg2 : Grows H (z0i h H.next (some (.strIter s (i + 1)))) := ⟨by rw [hnx2]; omega, fun x hx => by rw [z0l _ _ _ (by omega)]; exact hg.get x hx⟩
   generalize z0i h H.next (some (.strIter s (i + 1))) = h2 at hN2 hb2 hnx2 hg2 ⊢
   have q := j7V c hlow h2 hN2
   refine g0_ ?_
   refine o1_ (z0g z0d q) (y3_ i1 i2 @k6z) ?_
   refine Gets.condF sx0_ (Gets.skip Tryz.tabOk ?_)
   refine z2r ?_
   exact ⟨_, _, rfl, hlt, sx1_ i1, sx1_ i2, sx1_ i10, hb2, hnx2, hg2, hN2⟩
  ·have hn : s[i]? = none := by simp; omega
   have hnext := j4F hb hn
   refine g1_ (y3_ i10 @q8Z hnext) ?_
   refine Gets.condF sx0_ (Gets.exit Tryz.tabOk ?_)
   refine z2v ?_
   exact ⟨rfl, _, _, rfl, hg⟩
 rintro tm h hg
 change Gets _ _ _ _ _ _
 repeat refine Gets.seq ?_
 refine g0_ ?_
 refine Gets.ret Tryz.tabOk ?_
 exact z0v rfl (sr_ Tryz.f398.eq_1) hg hN trivial
theorem k6A (s : List UInt8) (hs : ∀ c ∈ s, lowA c = true) (hlen : s.length < 1000000000) (H : Heap) (hN : Neat H) :
  CallTo Tryz.prog Tryz.tab 333 [.str s, .func (.func 254) [] []] H [(.int .i64 (-1), H)] := by
 refine z0k (n := 20) (v := .int .i64 (-1)) Tryz.tabOk (ov := ptO noOv 398 [.str s, .func (.func 254) [] [], .bool true] H [(.int .i64 (-1), H)]) (z0g z0d (k2C s hs hlen H hN)) (H' := H) ?_ (.refl _) hN trivial
 rw [z4N, z4O, k4B, z3P _ (by decide)]
 simp -implicitDefEqProofs (disch := first | exact d_ | fail) only [sxM, Nat.reduceAdd, reduceCtorEq, Int.reduceToNat, Nat.reduceEqDiff, Int.reduceEq, Int.reduceLT, Tryz.f333]
theorem k6B (s : List UInt8) (hs : ∀ c ∈ s, lowA c = true) (hlen : s.length < 1000000000) (H : Heap) (hN : Neat H) :
  CallTo Tryz.prog Tryz.tab 253 [.str s, .func (.func 254) [] []] H [(.bool false, H)] := by
 refine z0k (n := 20) (v := .bool false) Tryz.tabOk (ov := ptO noOv 333 [.str s, .func (.func 254) [] []] H [(.int .i64 (-1), H)]) (z0g z0d (k6A s hs hlen H hN)) (H' := H) ?_ (.refl _) hN trivial
 rw [z4N, z4O, k4u, z3P _ (by decide)]
 have h1 : ((-1 : Int) < 0) := by omega
 simp -implicitDefEqProofs (disch := first | exact d_ | fail) only [sxM, Nat.reduceAdd, reduceCtorEq, Int.reduceToNat, Nat.reduceEqDiff, Int.reduceEq, Int.reduceLT, Tryz.f253, h1]
def z2w (s : List UInt8) : Bool := !decide ((s.length : Int) < 1) && (!decide (16 < (s.length : Int)) && s.all lowA)
theorem j7W (s : List UInt8) : sbeq ((trR s).dropWhile lowA) [] = s.all lowA := by
 rw [z5A]
 cases h : s.all lowA
 ·have : (trR s).dropWhile lowA ≠ [] := fun e => by
   rw [j9F, j4G] at e
   rw [List.all_eq_true.2 e] at h; simp at h
  cases hd : (trR s).dropWhile lowA with
  | nil => exact absurd hd this
  | cons a l => rfl
 ·have : (trR s).dropWhile lowA = [] := by rw [j9F, j4G]; exact List.all_eq_true.1 h
  rw [this]; rfl
theorem q3Q (s : List UInt8) (hlen : s.length < 1000000000) (H : Heap) (hN : Neat H) : CallTo Tryz.prog Tryz.tab 139 [.str s] H [(.bool (z2w s), H)] := by
 refine z0M Tryz.tabOk Tryz.func139 rfl rfl ?_
 show Gets Tryz.prog Tryz.tab ⟨none, 21⟩ _ _ _
 repeat refine Gets.seq ?_
 refine g0_ ?_
 have q1 := k2B s H hN hlen
 have e1 := j7W s
 by_cases h1 : (s.length : Int) < 1
 ·refine g1_ (y2_ (z0Q ud9) h1) ?_
  refine Gets.ret Tryz.tabOk ?_
  exact z0v rfl (by simp only [z2w, h1]; simp (disch := decide) only [sxL, Tryz.f139, resultA]) (.refl _) hN trivial
 by_cases h2 : 16 < (s.length : Int)
 ·refine g1_ (y3_ (z0Q ud9) h1 h2) ?_
  refine Gets.ret Tryz.tabOk ?_
  exact z0v rfl (by simp only [z2w, h1, h2]; simp (disch := decide) only [sxL, Tryz.f139, resultA]) (.refl _) hN trivial
 cases ha : s.all lowA
 ·rw [ha] at e1
  refine Gets.last Tryz.tabOk (ov := ptO noOv 252 [.str s, .str letters] H [(.str ((trR s).dropWhile lowA), H)]) (z0g z0d q1) 8 (s' := ?sn1) ?hn1 ?kn1; (case hn1 => (simp -implicitDefEqProofs (disch := first | exact d_ | fail) only [sxM, Nat.reduceAdd, reduceCtorEq, Int.reduceToNat, Nat.reduceEqDiff, Int.reduceEq, Int.reduceLT, z3O, z0Q ud9, h1, h2, sbin, boolO, e1, letters] <;> rfl)); (try (change Gets _ _ _ _ _ _; repeat refine Gets.seq ?_))
  refine Gets.ret Tryz.tabOk ?_
  exact z0v rfl (by simp only [z2w, h1, h2, ha]; simp (disch := decide) only [sxL, Tryz.f139, resultA]) (.refl _) hN trivial
 ·rw [ha] at e1
  have q2 := k6B s (List.all_eq_true.1 ha) hlen H hN
  refine Gets.last Tryz.tabOk (ov := ptO (ptO noOv 252 [.str s, .str letters] H [(.str ((trR s).dropWhile lowA), H)]) 253 [.str s, .func (.func 254) [] []] H [(.bool false, H)]) (z0g (z0g z0d q1) q2) 8 (s' := ?sn2) ?hn2 ?kn2; (case hn2 => (simp -implicitDefEqProofs (disch := first | exact d_ | fail) only [sxM, Nat.reduceAdd, reduceCtorEq, Int.reduceToNat, Nat.reduceEqDiff, Int.reduceEq, Int.reduceLT, z3O, z0Q ud9, h1, h2, sbin, boolO, e1, letters] <;> rfl)); (try (change Gets _ _ _ _ _ _; repeat refine Gets.seq ?_))
  refine Gets.ret Tryz.tabOk ?_
  exact z0v rfl (by simp only [z2w, h1, h2, ha]; simp (disch := decide) only [sxL, Tryz.f139, resultA]) (.refl _) hN trivial
end Go.Proofs
namespace Go.Proofs
open Go.Sx
set_option maxRecDepth 100000
theorem z1X (b : Bool) : z5V b (some z0X) = false := rfl
theorem z8A {s : List UInt8} {i : Nat} {c : UInt8} (hn : ∀ j c, j < i → s[j]? = some c → lowA c = true) (hc : s[i]? = some c) (h : lowA c = true) : ∀ j c, j < i + 1 → s[j]? = some c → lowA c = true := fun j d hj hd => by
 by_cases e : j = i
 ·subst e
  rw [hc] at hd
  simp only [Option.some.injEq] at hd
  subst hd; exact h
 ·exact hn j d (by omega) hd
theorem z7W {s : List UInt8} {i : Nat} {c : UInt8} (hc : s[i]? = some c) (h : lowA c = false) : z2w s = false := by
 have : s.all lowA = false := by
  cases ha : s.all lowA
  ·rfl
  ·have := List.all_eq_true.1 ha c (List.mem_of_getElem? hc)
   rw [h] at this; simp at this
 simp [z2w, this]
theorem k7x (s : List UInt8) (hl : s.length < 1000000000) (H : Heap) (hN : Neat H) : CallTo Tryz.prog Tryz.tab 276 [.str s] H [(.bool (z2w s), H)] := by
 refine z0M Tryz.tabOk Tryz.func276 rfl rfl ?_
 show Gets Tryz.prog Tryz.tab ⟨none, 40⟩ _ _ _
 repeat refine Gets.seq ?_
 refine g0_ ?_
 refine g0_ ?_
 refine Gets.upto s.length (fun i tm => tm.get 0 = some (.str s) ∧ tm.get 3 = some (.int .i64 (i : Int)) ∧ ∀ j c, j < i → s[j]? = some c → lowA c = true) ⟨sx0_, sx0_, fun j b hj => absurd hj (Nat.not_lt_zero _)⟩ ?_
 rintro i tm hi ⟨i0, i3, hn⟩
 repeat refine Gets.seq ?_
 by_cases hlt : (i : Int) < (s.length : Int)
 ·obtain ⟨c, hc⟩ : ∃ c, s[i]? = some c := ⟨_, List.getElem?_eq_getElem (by omega)⟩
  have hx : z7x Tryz.tab 9 (.str s) (.int .i64 (i : Int)) = some (.int .u8 (c.toNat : Int)) := z6E ud9 s .i64 i hc
  have hw : z3g .i64 ((i : Int) + 1) = (i : Int) + 1 := z3N (by omega) (by omega)
  refine g1_ (y4_ i0 i3 (z0Q ud9) hlt) ?_
  refine cTb_ ?_
  by_cases x1 : (c.toNat : Int) < 97
  ·by_cases x3 : (c.toNat : Int) < 48
   ·have hlow : lowA c = false := by simp only [lowA, low, Bool.or_eq_false_iff, decide_eq_false_iff_not]; omega
    refine g1_ (y6_ i0 i3 @z1L hx x1 x3) ?_
    refine cT_ ?_
    refine g0_ ?_
    refine Gets.ret Tryz.tabOk ?_
    exact z0v rfl (by rw [z7W hc hlow]; simp (disch := decide) only [sxL, Tryz.f276, resultA]) (.refl _) hN trivial
   by_cases x4 : 57 < (c.toNat : Int)
   ·have hlow : lowA c = false := by simp only [lowA, low, Bool.or_eq_false_iff, decide_eq_false_iff_not]; omega
    refine g1_ (y7_ i0 i3 @z1L hx x1 x3 x4) ?_
    refine cT_ ?_
    refine g0_ ?_
    refine Gets.ret Tryz.tabOk ?_
    exact z0v rfl (by rw [z7W hc hlow]; simp (disch := decide) only [sxL, Tryz.f276, resultA]) (.refl _) hN trivial
   have hlow : lowA c = true := by simp only [lowA, low, Bool.or_eq_true, decide_eq_true_eq]; omega
   refine g1_ (y7_ i0 i3 @z1L hx x1 x3 x4) ?_
   refine Gets.condF sx0_ (Gets.skip Tryz.tabOk ?_)
   refine z2r ?_
   change Gets _ _ _ _ _ _
   refine g1_ (y2_ i3 hw) ?_
   exact ⟨_, rfl, by omega, sx1_ i0, sx1_ @z2s, z8A hn hc hlow⟩
  by_cases x2 : 122 < (c.toNat : Int)
  ·by_cases x3 : (c.toNat : Int) < 48
   ·have hlow : lowA c = false := by simp only [lowA, low, Bool.or_eq_false_iff, decide_eq_false_iff_not]; omega
    refine g1_ (y7_ i0 i3 @z1L hx x1 x2 x3) ?_
    refine cT_ ?_
    refine g0_ ?_
    refine Gets.ret Tryz.tabOk ?_
    exact z0v rfl (by rw [z7W hc hlow]; simp (disch := decide) only [sxL, Tryz.f276, resultA]) (.refl _) hN trivial
   by_cases x4 : 57 < (c.toNat : Int)
   ·have hlow : lowA c = false := by simp only [lowA, low, Bool.or_eq_false_iff, decide_eq_false_iff_not]; omega
    refine g1_ (y8_ i0 i3 @z1L hx x1 x2 x3 x4) ?_
    refine cT_ ?_
    refine g0_ ?_
    refine Gets.ret Tryz.tabOk ?_
    exact z0v rfl (by rw [z7W hc hlow]; simp (disch := decide) only [sxL, Tryz.f276, resultA]) (.refl _) hN trivial
   have hlow : lowA c = true := by simp only [lowA, low, Bool.or_eq_true, decide_eq_true_eq]; omega
   refine g1_ (y8_ i0 i3 @z1L hx x1 x2 x3 x4) ?_
   refine Gets.condF sx0_ (Gets.skip Tryz.tabOk ?_)
   refine z2r ?_
   change Gets _ _ _ _ _ _
   refine g1_ (y2_ i3 hw) ?_
   exact ⟨_, rfl, by omega, sx1_ i0, sx1_ @z2s, z8A hn hc hlow⟩
  have hlow : lowA c = true := by simp only [lowA, low, Bool.or_eq_true, decide_eq_true_eq]; omega
  refine g1_ (y7_ i0 i3 @z1L hx x1 x2 @z1X) ?_
  refine Gets.condF sx0_ (Gets.skip Tryz.tabOk ?_)
  refine z2r ?_
  change Gets _ _ _ _ _ _
  refine g1_ (y2_ i3 hw) ?_
  exact ⟨_, rfl, by omega, sx1_ i0, sx1_ @z2s, z8A hn hc hlow⟩
 ·have h5 : i = s.length := by omega
  subst h5
  refine g1_ (y4_ i0 i3 (z0Q ud9) hlt) ?_
  refine cFx_ ?_
  have hall : s.all lowA = true := List.all_eq_true.2 fun c hc => by
   obtain ⟨j, hj⟩ := List.mem_iff_getElem?.1 hc
   exact hn j c (List.getElem?_eq_some_iff.1 hj).1 hj
  by_cases h1 : (s.length : Int) < 1
  ·refine g1_ (y3_ i0 (z0Q ud9) h1) ?_
   refine Gets.ret Tryz.tabOk ?_
   exact z0v rfl (by simp only [z2w, h1]; simp (disch := decide) only [sxL, Tryz.f276, resultA]) (.refl _) hN trivial
  by_cases h2 : 16 < (s.length : Int)
  ·refine g1_ (y4_ i0 (z0Q ud9) h1 h2) ?_
   refine Gets.ret Tryz.tabOk ?_
   exact z0v rfl (by simp only [z2w, h1, h2]; simp (disch := decide) only [sxL, Tryz.f276, resultA]) (.refl _) hN trivial
  refine g1_ (y4_ i0 (z0Q ud9) h1 h2) ?_
  refine Gets.ret Tryz.tabOk ?_
  exact z0v rfl (by simp only [z2w, h1, h2, hall]; simp (disch := decide) only [sxL, Tryz.f276, resultA]) (.refl _) hN trivial
end Go.Proofs
namespace Go.Proofs
open Go.Sx
set_option maxRecDepth 100000
noncomputable section
abbrev z0D := List UInt8
structure EffN where
 s : Int
 t : Int
 p : Int
 deriving DecidableEq
structure StepN where
 key : z0D
 delta : Int
 deriving DecidableEq
structure DefN where
 name : z0D
 r : Int
 d : Int
 st : AV
 ss : List StepN
structure ItemN where
 e : EffN
 m : Int
 i : Bool
 g : Int
 deriving DecidableEq
structure CmdN where
 kind : Int
 call : Int
 saga : Int
 e : EffN
 key : z0D
 delta : Int
 move : Int
 fr : z0D
 to : z0D
 group : Int
 d : DefN
 it : ItemN
 res : Int
 data : z0D
def code (b : Bool) (k : Int) : Int := if b then 0 else k
theorem z4r (k : Int) : code true k = 0 := rfl
theorem z4B (k : Int) : code false k = k := rfl
abbrev vi (n : Int) : AV := .int .i64 n
def EffN.cells (e : EffN) : List AV := [vi e.s, vi e.t, vi e.p]
def StepN.cells (s : StepN) : List AV := [.str s.key, vi s.delta]
def DefN.cells (d : DefN) : List AV := [.str d.name, vi d.r, vi d.d, d.st]
def ItemN.cells (x : ItemN) : List AV := [vi x.e.s, vi x.e.t, vi x.e.p, vi x.m, .bool x.i, vi x.g]
def CmdN.cells (c : CmdN) : List AV := [vi c.kind, vi c.call, vi c.saga, vi c.e.s, vi c.e.t, vi c.e.p, .str c.key, vi c.delta, vi c.move, .str c.fr, .str c.to, vi c.group, .str c.d.name, vi c.d.r, vi c.d.d, c.d.st,
 vi c.it.e.s, vi c.it.e.t, vi c.it.e.p, vi c.it.m, .bool c.it.i, vi c.it.g, vi c.res, .str c.data]
abbrev q3R (H : Heap) (v : AV) (l : List StepN) : Prop := RowsAt 97 2 StepN.cells H v l
abbrev z3D (H : Heap) (d : DefN) : Prop := q3R H d.st d.ss
def z7q (H : Heap) (p : Nat) (c : CmdN) : Prop := H.blks.get p = some (.cells 36 true c.cells) ∧ z3D H c.d
theorem z8B {c : CmdN} (h : z0H c.d.st = true) : z0W c.cells = true := by
 unfold CmdN.cells
 simp (disch := decide) only [sxL, h]
theorem w2I {d : DefN} (h : z0H d.st = true) : z0W d.cells = true := by
 unfold DefN.cells
 simp (disch := decide) only [sxL, h]
structure CmdSm (c : CmdN) : Prop where
 key : c.key.length ≤ 100
 fr : c.fr.length ≤ 100
 to : c.to.length ≤ 100
 dn : c.d.name.length ≤ 40
 dl : c.d.ss.length ≤ 20
 dk : ∀ s ∈ c.d.ss, s.key.length ≤ 40
 data : c.data.length ≤ 2000
def effB (e : EffN) : Bool := decide (1 ≤ e.s) && decide (e.s ≤ 9999) && decide (0 ≤ e.t) && decide (e.t < 8) && decide (1 ≤ e.p) && decide (e.p ≤ 3)
def effZ : EffN := ⟨0, 0, 0⟩
def z6N (x : ItemN) : Bool := decide (1 ≤ x.g) && decide (x.g ≤ 7) && (if x.m = 0 ∧ x.i = false then effB x.e else decide (1 ≤ x.m) && decide (x.m ≤ 64) && decide (x.e = effZ))
def z5n (fr to : z0D) : Bool := (decide (fr = []) || z2w fr) && (decide (to = []) || z2w to) && (decide (to = []) || sblt fr to)
abbrev q9b : Int := 1152921504606846976
def numB (n : Int) : Bool := decide (-1152921504606846976 ≤ n) && decide (n ≤ 1152921504606846976)
def q5G (before : List StepN) (s : StepN) : Bool := !(before.any fun x => decide (x.key = s.key)) && z2w s.key && decide (s.delta ≠ 0) && numB s.delta
def z8Z : List StepN → List StepN → Bool
 | _, [] => true
 | before, s :: l => q5G before s && z8Z (before ++ [s]) l
def defB (d : DefN) : Bool := z2w d.name && (decide (0 ≤ d.r) && decide (d.r ≤ 20)) && (decide (0 ≤ d.d) && decide (d.d ≤ 100000)) && (decide (1 ≤ d.ss.length) && decide (d.ss.length ≤ 8)) && z8Z [] d.ss
def z2S (n lo hi : Int) : Bool := decide (lo ≤ n) && decide (n ≤ hi)
abbrev z0U (n : Int) : z0D := Lib.itoa n
def furB (p : Int) : z0D := if p = 1 then [102] else if p = 2 then [117] else [114]
def effT (e : EffN) : z0D := z0U e.s ++ [47] ++ z0U e.t ++ [47] ++ furB e.p
def wayT (i : Bool) : z0D := if i then [47, 105, 110] else [47, 111, 117, 116]
def z9g (x : ItemN) : z0D := (if x.m = 0 then effT x.e else [109] ++ z0U x.m ++ wayT x.i) ++ [64] ++ z0U x.g
def z6Z (fr to : z0D) : z0D := [91] ++ fr ++ [44] ++ to ++ [41]
def z9h (n : Int) : z0D := (if 0 < n then [43] else []) ++ z0U n
def q0Q (s : StepN) : z0D := s.key ++ z9h s.delta
def z6q (l : List z0D) : z0D := Lib.join l [32]
def defT (d : DefN) : z0D := z6q (d.name :: z0U d.r :: z0U d.d :: d.ss.map q0Q)
structure Fld where
 ok : CmdN → Bool
 tx : CmdN → z0D
 cl : CmdN → CmdN
def fCall : Fld := ⟨fun c => z2S c.call 0 2147483648, fun c => z0U c.call, fun c => { c with call := 0 }⟩
def fSaga : Fld := ⟨fun c => z2S c.saga 1 9999, fun c => z0U c.saga, fun c => { c with saga := 0 }⟩
def fMove : Fld := ⟨fun c => z2S c.move 1 64, fun c => z0U c.move, fun c => { c with move := 0 }⟩
def fGroup : Fld := ⟨fun c => z2S c.group 1 7, fun c => z0U c.group, fun c => { c with group := 0 }⟩
def fKey : Fld := ⟨fun c => z2w c.key, fun c => c.key, fun c => { c with key := [] }⟩
def fData : Fld := ⟨fun c => decide (c.data.length ≤ 65536), fun c => z0U c.data.length, fun c => { c with data := [] }⟩
def fEff : Fld := ⟨fun c => effB c.e, fun c => effT c.e, fun c => { c with e := effZ }⟩
def fDelta : Fld := ⟨fun c => decide (c.delta ≠ 0) && numB c.delta, fun c => z9h c.delta, fun c => { c with delta := 0 }⟩
def fRange : Fld := ⟨fun c => z5n c.fr c.to, fun c => z6Z c.fr c.to, fun c => { c with fr := [], to := [] }⟩
def fDef : Fld := ⟨fun c => defB c.d, fun c => defT c.d, fun c => { c with d := ⟨[], 0, 0, .nilslice, []⟩ }⟩
def fItem : Fld := ⟨fun c => z6N c.it, fun c => z9g c.it, fun c => { c with it := ⟨effZ, 0, false, 0⟩ }⟩
def fRes : Fld := ⟨fun c => z2S c.res 0 18, fun c => z0U c.res, fun c => { c with res := 0 }⟩
def z6r (k : Int) : Option (z0D × List Fld) :=
 if k = 0 then some ([110, 111, 111, 112], []) else
 if k = 1 then some ([101, 102, 102, 101, 99, 116], [fEff, fKey, fDelta]) else
 if k = 2 then some ([114, 101, 97, 100], [fCall, fKey]) else
 if k = 3 then some ([111, 117, 116], [fMove, fRange]) else
 if k = 4 then some ([105, 110], [fMove, fRange, fData]) else
 if k = 11 then some ([115, 116, 97, 114, 116], [fCall, fSaga, fDef]) else
 if k = 12 then some ([115, 116, 97, 116, 117, 115], [fCall, fSaga]) else
 if k = 13 then some ([99, 97, 110, 99, 101, 108], [fCall, fSaga]) else
 if k = 14 then some ([109, 111, 118, 101], [fCall, fRange, fGroup]) else
 if k = 15 then some ([114, 101, 115, 117, 108, 116], [fItem, fRes, fData]) else none
def j4H (a b : DefN) : Bool := decide (a.name = b.name) && decide (a.r = b.r) && decide (a.d = b.d) && decide (a.ss = b.ss)
def j4I (a b : CmdN) : Bool := j4H a.d b.d && decide (a.e = b.e) && (decide (a.fr = b.fr) && decide (a.to = b.to)) && decide (a.it = b.it) &&
 (decide (a.kind = b.kind) && decide (a.call = b.call) && decide (a.saga = b.saga) && decide (a.key = b.key) && decide (a.delta = b.delta) && decide (a.move = b.move) && decide (a.group = b.group) && decide (a.res = b.res) && decide (a.data = b.data))
def cmdZ (k : Int) : CmdN := ⟨k, 0, 0, effZ, [], 0, 0, [], [], 0, ⟨[], 0, 0, .nilslice, []⟩, ⟨effZ, 0, false, 0⟩, 0, []⟩
def z2n (l : List Fld) (c : CmdN) : CmdN := l.foldl (fun x f => f.cl x) c
def cmdB (c : CmdN) : Bool := match z6r c.kind with
 | none => false
 | some (_, l) => l.all (fun f => f.ok c) && j4I (z2n l c) (cmdZ c.kind)
def cmdT (c : CmdN) : z0D := match z6r c.kind with
 | none => []
 | some (w, l) => z6q (w :: l.map fun f => f.tx c)
structure RepN where
 err : Int
 num : Int
 data : z0D
structure EvN where
 call : Int
 reply : Bool
 c : CmdN
 r : RepN
def RepN.cells (r : RepN) : List AV := [vi r.err, vi r.num, .str r.data]
def EvN.cells (x : EvN) : List AV := [vi x.call, .bool x.reply] ++ x.c.cells ++ x.r.cells
def repB (r : RepN) : Bool := decide (0 ≤ r.err) && decide (r.err ≤ 18) && numB r.num && decide (r.data.length ≤ 65536)
def evB (x : EvN) : Bool := decide (1 ≤ x.call) && decide (x.call ≤ 2000) && (!x.reply || repB x.r)
def evT (x : EvN) : z0D := if x.reply then z6q [z0U x.call, [114, 101, 112, 108, 121], z0U x.r.err, z0U x.r.num, z0U x.r.data.length] else z6q [z0U x.call, [99, 97, 108, 108], if cmdB x.c then cmdT x.c else [63]]
def z4t (x : EvN) : z0D := evT x ++ [10]
def z1j (l : List EvN) : z0D := (l.map z4t).flatten
def q1z (l : List EvN) : z0D × Int := if l.all evB then (if 65536 < (z1j l).length then ([], 11) else (z1j l, 0)) else ([], 2)
end
end Go.Proofs
namespace Go.Proofs
open Go.Sx
set_option maxRecDepth 100000
theorem t_r3 (e : TypeId) (x : Bool) (a b c : AV) : Sx.cellsIn (some (.cells e x [a, b, c])) 0 3 = some [a, b, c] := rfl
theorem nle (a b : Int) : decide (a ≤ b) = !decide (b < a) := by
 rw [← decide_not]
 exact decide_eq_decide.2 Int.not_lt.symm
theorem nleN (n : Nat) : decide (n ≤ 65536) = !decide ((65536 : Int) < (n : Int)) := by
 rw [← decide_not]
 exact decide_eq_decide.2 (by omega)
theorem q0R (n : Int) (H : Heap) (hN : Neat H) : CallTo Tryz.prog Tryz.tab 35 [vi n] H [(vi (code (numB n) 7), H)] := by
 refine z0k (n := 20) Tryz.tabOk z0d (H' := H) ?_ (.refl _) hN trivial
 clear hN
 simp only [numB, q9b, nle, nleN]
 rcases Classical.em (n < -1152921504606846976) with h1 | h1
 rotate_left
 rcases Classical.em (1152921504606846976 < n) with h2 | h2
 rotate_left
 all_goals simp only [*, decide_true, decide_false, not_false_eq_true, Bool.not_true, Bool.not_false, Bool.and_true, Bool.and_false, Bool.true_and, Bool.false_and]
 all_goals exact co_ (y2_ k8Y Tryz.f35.eq_1)
theorem j4J (n lo hi : Int) (H : Heap) (hN : Neat H) : CallTo Tryz.prog Tryz.tab 261 [vi n, vi lo, vi hi] H [(.bool (z2S n lo hi), H)] := by
 refine z0k (n := 20) Tryz.tabOk z0d (H' := H) ?_ (.refl _) hN trivial
 clear hN
 simp only [z2S, nle, nleN]
 rcases Classical.em (n < lo) with h1 | h1
 rotate_left
 rcases Classical.em (hi < n) with h2 | h2
 rotate_left
 all_goals simp only [*, decide_true, decide_false, not_false_eq_true, Bool.not_true, Bool.not_false, Bool.and_true, Bool.and_false, Bool.true_and, Bool.false_and]
 all_goals exact co_ (y2_ k4w Tryz.f261.eq_1)
def inB (n most : Int) : Bool := decide (0 ≤ n) && decide (n ≤ most)
theorem q9c (n most : Int) (H : Heap) (hN : Neat H) : CallTo Tryz.prog Tryz.tab 268 [vi n, vi most] H [(.bool (inB n most), H)] := by
 refine z0k (n := 20) Tryz.tabOk z0d (H' := H) ?_ (.refl _) hN trivial
 clear hN
 simp only [inB, nle, nleN]
 rcases Classical.em (n < 0) with h1 | h1
 rotate_left
 rcases Classical.em (most < n) with h2 | h2
 rotate_left
 all_goals simp only [*, decide_true, decide_false, not_false_eq_true, Bool.not_true, Bool.not_false, Bool.and_true, Bool.and_false, Bool.true_and, Bool.false_and]
 all_goals exact co_ (y2_ k4y Tryz.f268.eq_1)
open Classical in
noncomputable def ovIn (h : Heap) (args : List AV) (H : Heap) : Option (List VH) := match args with
 | [.int .i64 n, .int .i64 most] => if H = h then some [(.bool (inB n most), H)] else none
 | _ => none
theorem j4K (h : Heap) (n most : Int) : ovIn h [.int .i64 n, .int .i64 most] h = some [(.bool (inB n most), h)] := if_pos rfl
theorem q7C {h : Heap} (hN : Neat h) (args : List AV) (H : Heap) (outs : List VH) (e : ovIn h args H = some outs) : CallTo Tryz.prog Tryz.tab 268 args H outs := by
 unfold ovIn at e
 split at e
 ·split at e
  ·rename_i hh
   simp only [Option.some.injEq] at e
   subst e; subst hh
   exact q9c _ _ _ hN
  ·simp at e
 ·simp at e
theorem j4L {t e z b n c i : Nat} (hu : Tryz.tab.und t = some (.slice e)) (hz : Tryz.tab.size e = some z) (hi : i ≤ c) :
  z4T Tryz.tab t (.slice b 0 n false c) none (some (.int .i64 (i : Int))) none = some (.slice b 0 i false c) := by
 have h1 : z4T Tryz.tab t (.slice b 0 n false c) none (some (.int .i64 (i : Int))) none = z0b (Tryz.tab.und t) (j1G Tryz.tab (.slice b 0 n false c) none (some (.int .i64 (i : Int))) none) := rfl
 rw [h1, hu]
 show z0b (Tryz.tab.size e) (fun z => z6u b 0 n c z none (some (.int .i64 (i : Int))) none) = _
 rw [hz]
 show z0b (bif Nat.ble i c then some i else none) (fun h => z4S b 0 z c 0 h) = _
 rw [show Nat.ble i c = true by rw [Nat.ble_eq]; exact hi]
 show some (AV.slice b (bif Nat.beq c 0 then 0 else 0 + 0 * z) (i - 0) false (c - 0)) = _
 cases Nat.beq c 0 <;> simp
theorem q0S (e : EffN) (H : Heap) (hN : Neat H) : CallTo Tryz.prog Tryz.tab 129 [.agg [vi e.s, vi e.t, vi e.p]] H [(vi (code (effB e) 2), H)] := by
 refine z0k (n := 20) Tryz.tabOk z0d (H' := H.push (.cells 26 true [vi e.s, vi e.t, vi e.p])) ?_ (.push _ _) hN trivial
 clear hN
 simp only [effB, nle, nleN]
 rcases Classical.em (e.s < 1) with h1 | h1
 rotate_left
 rcases Classical.em (9999 < e.s) with h2 | h2
 rotate_left
 rcases Classical.em (e.t < 0) with h3 | h3
 rotate_left
 rcases Classical.em (¬ e.t < 8) with h4 | h4
 rotate_left
 have h4 := Classical.not_not.1 h4
 rcases Classical.em (e.p < 1) with h5 | h5
 rotate_left
 rcases Classical.em (3 < e.p) with h6 | h6
 rotate_left
 all_goals simp only [*, decide_true, decide_false, not_false_eq_true, Bool.not_true, Bool.not_false, Bool.and_true, Bool.and_false, Bool.true_and, Bool.false_and]
 all_goals exact co_ (y6_ k3Q Tryz.f129.eq_1 j1x j1y j1z (z0c ia3))
theorem k3t (e : EffN) (H : Heap) (hN : Neat H) : CallTo Tryz.prog Tryz.tab 193 [.agg [vi e.s, vi e.t, vi e.p]] H [(vi (code (effB e) 2), H)] := by
 refine z0k (n := 20) Tryz.tabOk z0d (H' := H.push (.cells 26 true [vi e.s, vi e.t, vi e.p])) ?_ (.push _ _) hN trivial
 clear hN
 simp only [effB, nle, nleN]
 rcases Classical.em (e.s < 1) with h1 | h1
 rotate_left
 rcases Classical.em (9999 < e.s) with h2 | h2
 rotate_left
 rcases Classical.em (e.t < 0) with h3 | h3
 rotate_left
 rcases Classical.em (¬ e.t < 8) with h4 | h4
 rotate_left
 have h4 := Classical.not_not.1 h4
 rcases Classical.em (e.p < 1) with h5 | h5
 rotate_left
 rcases Classical.em (3 < e.p) with h6 | h6
 rotate_left
 all_goals simp only [*, decide_true, decide_false, not_false_eq_true, Bool.not_true, Bool.not_false, Bool.and_true, Bool.and_false, Bool.true_and, Bool.false_and]
 all_goals exact co_ (y6_ k4q Tryz.f193.eq_1 j1x j1y j1z (z0c ia3))
theorem j4M (r : RepN) (H : Heap) (hN : Neat H) : CallTo Tryz.prog Tryz.tab 18 [.agg [vi r.err, vi r.num, .str r.data]] H [(vi (code (repB r) 2), H)] := by
 have hN1 := hN.push (.cells 38 true [vi r.err, vi r.num, .str r.data])
 have q := q0R r.num _ hN1
 refine z0k (n := 20) Tryz.tabOk (ov := ptO noOv 35 [vi r.num] (H.push (.cells 38 true [vi r.err, vi r.num, .str r.data])) [(vi (code (numB r.num) 7), H.push (.cells 38 true [vi r.err, vi r.num, .str r.data]))]) (z0g z0d q)
  (H' := H.push (.cells 38 true [vi r.err, vi r.num, .str r.data])) ?_ (.push _ _) hN trivial
 clear hN hN1 q
 simp only [repB, nle, nleN]
 rcases Classical.em (r.err < 0) with h1 | h1
 rotate_left
 rcases Classical.em (18 < r.err) with h2 | h2
 rotate_left
 rcases Classical.em (numB r.num = false) with h3 | h3
 rotate_left
 rcases Classical.em (65536 < (r.data.length : Int)) with h4 | h4
 rotate_left
 all_goals simp only [*, decide_true, decide_false, not_false_eq_true, Bool.not_true, Bool.not_false, Bool.and_true, Bool.and_false, Bool.true_and, Bool.false_and]
 all_goals exact co_ (y8_ k8T Tryz.f18.eq_1 j1u j1v q7N (z0c ia34) (z0c ia2) (y2_ (z0c ia9) (z0Q ud9)))
theorem j0R (r : RepN) (H : Heap) (hN : Neat H) : CallTo Tryz.prog Tryz.tab 42 [.agg [vi r.err, vi r.num, .str r.data]] H [(vi (code (repB r) 2), H)] := by
 refine z0k (n := 20) Tryz.tabOk z0d (H' := H.push (.cells 38 true [vi r.err, vi r.num, .str r.data])) ?_ (.push _ _) hN trivial
 clear hN
 simp only [repB, numB, q9b, nle, nleN]
 rcases Classical.em (r.err < 0) with h1 | h1
 rotate_left
 rcases Classical.em (18 < r.err) with h2 | h2
 rotate_left
 rcases Classical.em (r.num < -1152921504606846976) with h3 | h3
 rotate_left
 rcases Classical.em (1152921504606846976 < r.num) with h4 | h4
 rotate_left
 rcases Classical.em (65536 < (r.data.length : Int)) with h5 | h5
 rotate_left
 all_goals simp only [*, decide_true, decide_false, not_false_eq_true, Bool.not_true, Bool.not_false, Bool.and_true, Bool.and_false, Bool.true_and, Bool.false_and]
 all_goals exact co_ (y8_ k9a Tryz.f42.eq_1 j1u j1v q7N (z0c ia34) (z0c ia2) (y2_ (z0c ia9) (z0Q ud9)))
theorem k3u (r : RepN) (H : Heap) (hN : Neat H) : CallTo Tryz.prog Tryz.tab 26 [.agg [vi r.err, vi r.num, .str r.data]] H [(vi (code (repB r) 2), H)] := by
 have hN1 := hN.push (.cells 38 true [vi r.err, vi r.num, .str r.data])
 have q := j0R r _ hN1
 refine z0k (n := 20) Tryz.tabOk (ov := ptO noOv 42 [.agg [vi r.err, vi r.num, .str r.data]] (H.push (.cells 38 true [vi r.err, vi r.num, .str r.data])) [(vi (code (repB r) 2), H.push (.cells 38 true [vi r.err, vi r.num, .str r.data]))]) (z0g z0d q)
  (H' := H.push (.cells 38 true [vi r.err, vi r.num, .str r.data])) ?_ (.push _ _) hN trivial
 clear hN hN1 q
 exact co_ (y4_ k8X Tryz.f26.eq_1 (z0o ia38 sz38) @t_r3)
theorem k6C (i : Bool) (H : Heap) (hN : Neat H) : CallTo Tryz.prog Tryz.tab 275 [.bool i] H [(.str (wayT i), H)] := by
 refine z0k (n := 20) Tryz.tabOk z0d (H' := H) ?_ (.refl _) hN trivial
 clear hN
 cases i
 all_goals exact co_ (y2_ k4A Tryz.f275.eq_1)
 all_goals rfl
end Go.Proofs
namespace Go.Proofs
open Go.Sx Go.Shelf Go.RowKit
set_option maxRecDepth 100000
def PowAt (H : Heap) : Prop := H.blks.get 0 = some (.fix 235 (Lib.pow10Tab.map fun x => .int .u64 x))
theorem PowAt.grow {H H' : Heap} (h : PowAt H) (hN : Neat H) (hg : Grows H H') : PowAt H' := by
 unfold PowAt
 rw [hg.get 0 (hN 0 _ h)]; exact h
theorem gPow : Tryz.prog.globalNamed "internal/strconv.uint64pow10" = some 0 := by kernel_rfl
theorem k6D : Nat.ble 1 Tryz.tab.nglob = true := by kernel_rfl
abbrev In64 (n : Int) : Prop := -9223372036854775808 ≤ n ∧ n ≤ 9223372036854775807
theorem k2D (n : Int) (hn : In64 n) (H : Heap) (hP : PowAt H) : CallTo Tryz.prog Tryz.tab 20 [.int .i64 n] H [(.str (z0U n), H)] :=
 CallTo.of_calls ⟨_, _, Tryz.func20, rfl, rfl⟩ fun ρ D w hH _ => ⟨trivial, by
  have ht := q2o hH gPow (z1J k6D) hP
  refine (Tryz.strconv_Itoa n hn.1 hn.2 w ht).mono ?_
  rintro e w' ⟨rfl, k, os, rfl⟩
  exact ⟨rfl, Lib.below_grow _ w (Nat.le_refl _) k os⟩⟩
theorem j4N (n : Int) (hn : In64 n) (H : Heap) (hP : PowAt H) : CallTo Tryz.prog Tryz.tab 21 [.int .i64 n, .int .i64 10] H [(.str (z0U n), H)] :=
 CallTo.of_calls ⟨_, _, Tryz.func21, rfl, rfl⟩ fun ρ D w hH _ => ⟨trivial, by
  have ht := q2o hH gPow (z1J k6D) hP
  refine (Tryz.strconv_FormatInt_10 n hn.1 hn.2 w ht).mono ?_
  rintro e w' ⟨rfl, k, os, rfl⟩
  exact ⟨rfl, Lib.below_grow _ w (Nat.le_refl _) k os⟩⟩
open Classical in
noncomputable def ovI (args : List AV) (H : Heap) : Option (List VH) := match args with
 | [.int .i64 n] => if PowAt H ∧ In64 n then some [(.str (z0U n), H)] else none
 | _ => none
open Classical in
noncomputable def ovF (args : List AV) (H : Heap) : Option (List VH) := match args with
 | [.int .i64 n, .int .i64 10] => if PowAt H ∧ In64 n then some [(.str (z0U n), H)] else none
 | _ => none
theorem z5O {n : Int} {H : Heap} (h : PowAt H) (hn : In64 n) : ovI [.int .i64 n] H = some [(.str (z0U n), H)] := if_pos ⟨h, hn⟩
theorem j4O {n : Int} {H : Heap} (h : PowAt H) (hn : In64 n) : ovF [.int .i64 n, .int .i64 10] H = some [(.str (z0U n), H)] := if_pos ⟨h, hn⟩
theorem z7X (args : List AV) (H : Heap) (outs : List VH) (h : ovI args H = some outs) : CallTo Tryz.prog Tryz.tab 20 args H outs := by
 unfold ovI at h
 split at h
 ·rename_i n
  split at h
  ·rename_i hh
   simp only [Option.some.injEq] at h
   subst h
   exact k2D n hh.2 H hh.1
  ·simp at h
 ·simp at h
theorem j4P (args : List AV) (H : Heap) (outs : List VH) (h : ovF args H = some outs) : CallTo Tryz.prog Tryz.tab 21 args H outs := by
 unfold ovF at h
 split at h
 ·rename_i n
  split at h
  ·rename_i hh
   simp only [Option.some.injEq] at h
   subst h
   exact j4N n hh.2 H hh.1
  ·simp at h
 ·simp at h
theorem z0w {n : Int} (hn : In64 n) : (z0U n).length ≤ 21 := Lib.itoa_length_le n hn.1 hn.2
def StrsAt (H : Heap) (v : AV) (l : List z0D) : Prop :=
 (v = .nilslice ∧ l = []) ∨ ∃ b q c x, v = .slice b 0 l.length q c ∧ (q = false → l.length ≤ c) ∧ H.blks.get b = some (.cells 9 x (l.map fun s => .str s))
theorem StrsAt.one {H : Heap} {v : AV} {l : List z0D} (h : StrsAt H v l) : z0H v = true := by
 rcases h with ⟨rfl, _⟩ | ⟨b, q, c, x, rfl, _⟩ <;> rfl
def z5M (l : List z0D) : Nat := (l.map List.length).sum + l.length
theorem z3E (l : List z0D) : (z6q l).length ≤ z5M l := by
 have key : ∀ r : List z0D, (Lib.joinTail [32] r).length = (r.map List.length).sum + r.length := by
  intro r
  induction r with
  | nil => rfl
  | cons y r ih =>
   have e : Lib.joinTail [32] (y :: r) = ([32] ++ y) ++ Lib.joinTail [32] r := rfl
   rw [e, List.length_append, ih, List.length_append, List.map_cons, List.sum_cons, List.length_cons]
   simp only [List.length_cons, List.length_nil]
   omega
 unfold z6q z5M
 cases l with
 | nil => simp [Lib.join]
 | cons x r =>
  rw [Lib.join_cons, List.length_append, key r, List.map_cons, List.sum_cons, List.length_cons]
  omega
theorem q7D (l : List z0D) (v : AV) (H : Heap) (h : StrsAt H v l) (hl : z5M l ≤ 1000000000) : CallTo Tryz.prog Tryz.tab 24 [v, .str [32]] H [(.str (z6q l), H)] :=
 CallTo.of_calls ⟨_, _, Tryz.func24, rfl, rfl⟩ fun ρ D w hH ha => ⟨trivial, by
  have hj := z3E l
  rcases h with ⟨rfl, rfl⟩ | ⟨b, q, c, x, rfl, hq, hb⟩
  ·refine (Tryz.strings_Join_none none 0 ⟨[32].toArray⟩ w).mono ?_
   rintro e w' ⟨rfl, rfl⟩
   exact ⟨rfl, Below.refl _ _⟩
  ·have hD : D b := ha.1.1
   obtain ⟨g1, g2, arr, fz, g3, g4, g5, g6, g7⟩ := hH.blk b _ hD hb
   have e1 : (l.map fun s => (⟨s.toArray⟩ : ByteArray)).length = l.length := by simp
   have e2 : (l.map fun s => (⟨s.toArray⟩ : ByteArray)).map (·.data.toList) = l := by simp [Function.comp_def]
   have hlen : l.length ≤ z5M l := by unfold z5M; omega
   have := Tryz.strings_Join (ρ.blk b) (ρ.base b) (if q then ρ.cap b - c else c) (l.map fun s => ⟨s.toArray⟩) ⟨[32].toArray⟩ w (fun j s hs => by
     rw [List.getElem?_map] at hs
     obtain ⟨u, hu, rfl⟩ := Option.map_eq_some_iff.1 hs
     have h6 := g6 j (.str u) (by rw [List.getElem?_map, hu]; rfl)
     simp only [World.cell?, g3, h6]; rfl) (hH.blk b _ hD hb).stands (by rw [e1]; omega) (by
     rw [e1]
     cases q with
     | false => exact hq rfl
     | true => have := ha.1.2 rfl; simp only [if_true]; omega) (by rw [e2]; exact Nat.le_trans hj (by omega))
   rw [e1, e2] at this
   exact this⟩
theorem q0T {a b : z0D} (h : a.length + b.length ≤ 1000000000) : catO a b = some (.str (a ++ b)) := by
 unfold catO
 rw [z1f, z1f, z2f, show Nat.ble (a.length + b.length) 1000000000 = true by rw [Nat.ble_eq]; exact h]; rfl
theorem cat_ (a b : z0D) (h : a.length + b.length ≤ 1000000000 := by first | (simp; omega) | (simp only [List.length_append, List.length_cons, List.length_nil]; omega) | omega) : catO a b = some (.str (a ++ b)) := q0T h
theorem q3S (a b : z0D) : sbin .add a b = catO a b := rfl
end Go.Proofs
namespace Go.Proofs
open Go.Sx
set_option maxRecDepth 100000
theorem q9d {e : EffN} : effB e = true ↔ 1 ≤ e.s ∧ e.s ≤ 9999 ∧ 0 ≤ e.t ∧ e.t < 8 ∧ 1 ≤ e.p ∧ e.p ≤ 3 := by
 simp [effB, and_assoc]
theorem q9e (p : Int) : (furB p).length = 1 := by unfold furB; split <;> (try split) <;> rfl
theorem z9v {e : EffN} (h : effB e = true) : (effT e).length ≤ 45 := by
 obtain ⟨h1, h2, h3, h4, h5, h6⟩ := q9d.1 h
 have l1 := z0w (n := e.s) ⟨by omega, by omega⟩
 have l2 := z0w (n := e.t) ⟨by omega, by omega⟩
 have l3 := q9e e.p
 simp only [effT, List.length_append, List.length_cons, List.length_nil]
 omega
theorem q9f (e : EffN) (he : effB e = true) (H : Heap) (hN : Neat H) (hP : PowAt H) : CallTo Tryz.prog Tryz.tab 135 [.agg [vi e.s, vi e.t, vi e.p]] H [(.tuple [.str (effT e), vi 0], H)] := by
 refine z0M Tryz.tabOk Tryz.func135 rfl rfl ?_
 show Gets Tryz.prog Tryz.tab ⟨none, 26⟩ _ _ _
 repeat refine Gets.seq ?_
 obtain ⟨h1, h2, h3, h4, h5, h6⟩ := q9d.1 he
 refine g0_ ?_
 refine Gets.ofH (fun h => h.blks.get H.next = some (.cells 26 true [vi e.s, vi e.t, vi e.p]) ∧ Grows H h ∧ Neat h) ⟨fo_, .push _ _, hN.push _⟩ ?_
 rintro h ⟨a0, ag, aN⟩
 have hPh := hP.grow hN ag
 have q := q0S e h aN
 rw [he] at q
 refine o1_ (z0g z0d q) (y5_ @z0B a0 (z0o ia26 sz26) @t_r3 @z4r) ?_
 refine g0_ ?_
 refine cFs_ ?_
 have n1 : In64 e.s := ⟨by omega, by omega⟩
 have n2 : In64 e.t := ⟨by omega, by omega⟩
 have l1 := z0w n1
 have l2 := z0w n2
 have l3 := q9e e.p
 have hw : z3g .i64 (e.p - 1) = e.p - 1 := z3N (by omega) (by omega)
 have hfur : z4T Tryz.tab 9 (.str [102, 117, 114]) (some (.int .i64 (e.p - 1))) (some (.int .i64 e.p)) none = some (.str (furB e.p)) := by
  rcases (by omega : e.p = 1 ∨ e.p = 2 ∨ e.p = 3) with h | h | h <;> rw [h] <;> kernel_rfl
 have c1 := cat_ (z0U e.s) [47]
 have c2 := cat_ (z0U e.s ++ [47]) (z0U e.t)
 have c3 := cat_ (z0U e.s ++ [47] ++ z0U e.t) [47]
 have c4 : catO (z0U e.s ++ [47] ++ z0U e.t ++ [47]) (furB e.p) = some (.str (effT e)) := q0T (by simp; omega)
 refine gk_ (ov := z4M noOv 20 ovI) (z2b z0d z7X) [.rd 0, .rd 1, .rd 4, .rd 5, .rd 9, .rd 10, .rd 11, .rd 12, .rd 13, .rd 14, .sm 2, .rd 3, .sm 6, .rd 7, .rd 8, .rd 15, .rd 16, .rd 17] (aN) (y8_ @z5O a0 @j1x @j1y @j1z (z0c ia3) hw (y8_ hfur @q3S @z7V @q8X @q8Y c1 c2 (y2_ c3 c4))) ?_
 refine Gets.ret Tryz.tabOk ?_
 exact z2I rfl (sr_ Tryz.f135.eq_1) ag hN ⟨trivial, trivial, trivial⟩
theorem q5H {x : ItemN} : z6N x = true ↔ 1 ≤ x.g ∧ x.g ≤ 7 ∧ ((x.m = 0 ∧ x.i = false ∧ effB x.e = true) ∨ (¬ (x.m = 0 ∧ x.i = false) ∧ 1 ≤ x.m ∧ x.m ≤ 64 ∧ x.e = effZ)) := by
 unfold z6N
 by_cases h : x.m = 0 ∧ x.i = false
 ·rw [if_pos h]
  simp only [Bool.and_eq_true, decide_eq_true_eq]
  exact ⟨fun ⟨⟨a, b⟩, c⟩ => ⟨a, b, .inl ⟨h.1, h.2, c⟩⟩, fun ⟨a, b, c⟩ => ⟨⟨a, b⟩, c.elim (fun c => c.2.2) fun c => absurd h c.1⟩⟩
 ·rw [if_neg h]
  simp only [Bool.and_eq_true, decide_eq_true_eq]
  exact ⟨fun ⟨⟨a, b⟩, ⟨c, d⟩, e⟩ => ⟨a, b, .inr ⟨h, c, d, e⟩⟩, fun ⟨a, b, c⟩ => ⟨⟨a, b⟩, c.elim (fun c => absurd ⟨c.1, c.2.1⟩ h) fun c => ⟨⟨c.2.1, c.2.2.1⟩, c.2.2.2⟩⟩⟩
theorem k2E {e : EffN} (h1 : e.s = 0) (h2 : e.t = 0) (h3 : e.p = 0) : e = effZ := by
 rcases e with ⟨a, b, c⟩
 simp only at h1 h2 h3
 subst h1 h2 h3
 rfl
abbrev itL (x : ItemN) : List AV := [vi x.e.s, vi x.e.t, vi x.e.p, vi x.m, .bool x.i, vi x.g]
theorem j7X (e : TypeId) (x : Bool) (a b c d f g : AV) : Sx.cellsIn (some (.cells e x [a, b, c, d, f, g])) 0 3 = some [a, b, c] := rfl
theorem t_r6 (e : TypeId) (x : Bool) (a b c d f g : AV) : Sx.cellsIn (some (.cells e x [a, b, c, d, f, g])) 0 6 = some [a, b, c, d, f, g] := rfl
theorem q7E : z7y Tryz.tab 26 [] = some (.agg [vi 0, vi 0, vi 0]) := by kernel_rfl
theorem eq26 (a b c a' b' c' : Int) : eqA Tryz.tab 60 26 (.agg [vi a, vi b, vi c]) (.agg [vi a', vi b', vi c']) = andO (some (ibeq a a')) (andO (some (ibeq b b')) (andO (some (ibeq c c')) (some true))) := by kernel_rfl
theorem nq26 : z5s (Tryz.tab.noEq.get 26) = true := by kernel_rfl
theorem z0Z (a b : Int) : ibeq a b = decide (a = b) := by rw [j3w]
theorem w5q (a b : EffN) : eqA Tryz.tab 60 26 (.agg [vi a.s, vi a.t, vi a.p]) (.agg [vi b.s, vi b.t, vi b.p]) = some (decide (a = b)) := by
 rw [eq26, z0Z, z0Z, z0Z]
 obtain ⟨a1, a2, a3⟩ := a
 obtain ⟨b1, b2, b3⟩ := b
 simp only [EffN.mk.injEq]
 by_cases h1 : a1 = b1 <;> by_cases h2 : a2 = b2 <;> by_cases h3 : a3 = b3 <;> simp [h1, h2, h3, andO]
theorem k6E (a b c : Int) : z9a .neq (eqA Tryz.tab 60 26 (.agg [.int .i64 a, .int .i64 b, .int .i64 c]) (.agg [.int .i64 0, .int .i64 0, .int .i64 0])) = some (.bool (!(decide (a = 0) && decide (b = 0) && decide (c = 0)))) := by
 rw [eq26, z0Z, z0Z, z0Z]
 by_cases h1 : a = 0 <;> by_cases h2 : b = 0 <;> by_cases h3 : c = 0 <;> simp [h1, h2, h3, andO] <;> rfl
set_option linter.defProp false
def k6F := y5_ z9A Tryz.f176.eq_1 @z8E @z7u (z0c ia3)
theorem q2p (x : ItemN) (H : Heap) (hN : Neat H) : CallTo Tryz.prog Tryz.tab 176 [.agg (itL x)] H [(vi (code (z6N x) 2), H)] := by
 have hN1 := hN.push (.cells 33 true (itL x))
 have q := q0S x.e _ hN1
 refine z0k (n := 20) Tryz.tabOk (ov := ptO noOv 129 [.agg [vi x.e.s, vi x.e.t, vi x.e.p]] (H.push (.cells 33 true (itL x))) [(vi (code (effB x.e) 2), H.push (.cells 33 true (itL x)))]) (z0g z0d q)
  (H' := H.push (.cells 33 true (itL x))) ?_ (.push _ _) hN trivial
 clear hN hN1 q
 rcases Classical.em (x.g < 1) with g1 | g1
 ·rw [show z6N x = false by simp [z6N]; omega]
  exact co_ (y4_ z9A Tryz.f176.eq_1 @z7u (z0c ia3))
 rcases Classical.em (7 < x.g) with g2 | g2
 ·rw [show z6N x = false by simp [z6N]; omega]
  exact co_ (y4_ z9A Tryz.f176.eq_1 @z7u (z0c ia3))
 have hg : (decide (1 ≤ x.g) && decide (x.g ≤ 7)) = true := by simp; omega
 have hB : z6N x = (if x.m = 0 ∧ x.i = false then effB x.e else decide (1 ≤ x.m) && decide (x.m ≤ 64) && decide (x.e = effZ)) := by unfold z6N; rw [hg, Bool.true_and]
 rw [hB]
 clear hB hg
 rcases Classical.em (x.m = 0) with m0 | m0
 ·cases hi : x.i with
  | false =>
   rw [if_pos ⟨m0, rfl⟩]
   exact co_ (y8_ z9A Tryz.f176.eq_1 @q4h @z8E @j1A @z7u (z0c ia3) (y3_ (z0c ia4) (z0o ia26 sz26) @j7X))
  | true =>
   have m1 : x.m < 1 := by omega
   rw [if_neg (by simp), show (decide (1 ≤ x.m) && decide (x.m ≤ 64) && decide (x.e = effZ)) = false by simp; omega]
   exact co_ (y8_ z9A Tryz.f176.eq_1 @q4h @z8E @j1A @z7u (z0c ia3) (z0c ia4))
 rw [if_neg (fun h => m0 h.1)]
 rcases Classical.em (x.m < 1) with m1 | m1
 ·rw [show (decide (1 ≤ x.m) && decide (x.m ≤ 64) && decide (x.e = effZ)) = false by simp; omega]
  exact co_ k6F
 rcases Classical.em (64 < x.m) with m2 | m2
 ·rw [show (decide (1 ≤ x.m) && decide (x.m ≤ 64) && decide (x.e = effZ)) = false by simp; omega]
  exact co_ k6F
 rcases Classical.em (x.e = effZ) with e0 | e0
 ·have hz := k6E x.e.s x.e.t x.e.p
  rw [show (decide (x.e.s = 0) && decide (x.e.t = 0) && decide (x.e.p = 0)) = true by rw [e0]; rfl] at hz
  rw [show (decide (1 ≤ x.m) && decide (x.m ≤ 64) && decide (x.e = effZ)) = true by simp [e0]; omega]
  clear e0
  exact co_ (y8_ z9A Tryz.f176.eq_1 @q4h @z8E @z7u (z0c ia3) (z0o ia26 sz26) (y4_ @j7X @q7E @nq26 @Bool.not_true))
 ·have hz := k6E x.e.s x.e.t x.e.p
  rw [show (decide (x.e.s = 0) && decide (x.e.t = 0) && decide (x.e.p = 0)) = false by
   rw [Bool.eq_false_iff]
   intro hh
   simp only [Bool.and_eq_true, decide_eq_true_eq] at hh
   exact e0 (k2E hh.1.1 hh.1.2 hh.2)] at hz
  rw [show (decide (1 ≤ x.m) && decide (x.m ≤ 64) && decide (x.e = effZ)) = false by simp [e0]]
  clear e0
  exact co_ (y8_ z9A Tryz.f176.eq_1 @q4h @z8E @z7u (z0c ia3) (z0o ia26 sz26) (y4_ @j7X @q7E @nq26 @Bool.not_false))
theorem q0U {x : ItemN} (h : z6N x = true) : (z9g x).length ≤ 80 := by
 obtain ⟨h1, h2, h3⟩ := q5H.1 h
 have l2 := z0w (n := x.g) ⟨by omega, by omega⟩
 unfold z9g
 rcases h3 with ⟨a, b, c⟩ | ⟨a, b, c, d⟩
 ·rw [if_pos a]
  have := z9v c
  simp only [List.length_append, List.length_cons, List.length_nil]
  omega
 ·rw [if_neg (by omega)]
  have l1 := z0w (n := x.m) ⟨by omega, by omega⟩
  have : (wayT x.i).length ≤ 4 := by cases x.i <;> decide
  simp only [List.length_append, List.length_cons, List.length_nil]
  omega
theorem j4Q (x : ItemN) (hx : z6N x = true) (H : Heap) (hN : Neat H) (hP : PowAt H) : CallTo Tryz.prog Tryz.tab 182 [.agg (itL x)] H [(.tuple [.str (z9g x), vi 0], H)] := by
 refine z0M Tryz.tabOk Tryz.func182 rfl rfl ?_
 show Gets Tryz.prog Tryz.tab ⟨none, 34⟩ _ _ _
 repeat refine Gets.seq ?_
 obtain ⟨h1, h2, h3⟩ := q5H.1 hx
 refine g0_ ?_
 refine Gets.ofH (fun h => h.blks.get H.next = some (.cells 33 true (itL x)) ∧ Grows H h ∧ Neat h) ⟨fo_, .push _ _, hN.push _⟩ ?_
 rintro h ⟨a0, ag, aN⟩
 have hPh := hP.grow hN ag
 have q := q2p x h aN
 rw [hx] at q
 refine o1_ (z0g z0d q) (y5_ @z0B a0 (z0o ia33 sz33) @t_r6 @z4r) ?_
 refine g0_ ?_
 refine cFs_ ?_
 have hm : 0 ≤ x.m ∧ x.m ≤ 64 := by rcases h3 with ⟨a, b, c⟩ | ⟨a, b, c, d⟩ <;> omega
 have n1 : In64 x.m := ⟨by omega, by omega⟩
 have n2 : In64 x.g := ⟨by omega, by omega⟩
 have l1 := z0w n1
 have l2 := z0w n2
 have l3 : (wayT x.i).length ≤ 4 := by cases x.i <;> decide
 have qw := k6C x.i h aN
 have c1 := cat_ [109] (z0U x.m)
 have c2 := cat_ ([109] ++ z0U x.m) (wayT x.i)
 refine gk_ (ov := ptO (z4M noOv 20 ovI) 275 [.bool x.i] h [(.str (wayT x.i), h)]) (z0g (z2b z0d z7X) qw) [.rd 0, .rd 1, .rd 4, .rd 5, .sm 2, .rd 3, .sm 6, .rd 7, .rd 8] (aN) (y8_ @z0B @z3P @z5O a0 @z8E @j1A (z0c ia3) (y4_ (z0c ia4) @q3S c1 c2)) ?_
 have tl := q0U hx
 rcases h3 with ⟨a, b, c⟩ | ⟨a, b, c, d⟩
 ·have hT : z9g x = effT x.e ++ [64] ++ z0U x.g := by unfold z9g; rw [if_pos a]
  have qe := q9f x.e c h aN hPh
  have el := z9v c
  have c3 := cat_ (effT x.e) [64]
  have c4 := cat_ (effT x.e ++ [64]) (z0U x.g)
  refine g1_ (y4_ a0 @z8E (z0c ia3) a) ?_
  refine cT_ ?_
  refine o1_ (z0g z0d qe) (y5_ @z0B a0 @q4h (z0o ia26 sz26) @j7X) ?_
  refine o1_ (ov := z4M noOv 20 ovI) (z2b z0d z7X) (y7_ (z5O hPh n2) a0 @z7u (z0c ia3) @q3S c3 c4) ?_
  refine Gets.ret Tryz.tabOk ?_
  rw [hT]
  exact z2I rfl (sr_ Tryz.f182.eq_1) ag hN ⟨trivial, trivial, trivial⟩
 ·have hm0 : ¬ x.m = 0 := by omega
  have hT : z9g x = [109] ++ z0U x.m ++ wayT x.i ++ [64] ++ z0U x.g := by unfold z9g; rw [if_neg hm0]
  have c3 := cat_ ([109] ++ z0U x.m ++ wayT x.i) [64]
  have c4 := cat_ ([109] ++ z0U x.m ++ wayT x.i ++ [64]) (z0U x.g)
  refine g1_ (y4_ a0 @z8E (z0c ia3) hm0) ?_
  refine cFs_ ?_
  refine o1_ (ov := z4M noOv 20 ovI) (z2b z0d z7X) (y7_ (z5O hPh n2) a0 @z7u (z0c ia3) @q3S c3 c4) ?_
  refine Gets.ret Tryz.tabOk ?_
  rw [hT]
  exact z2I rfl (sr_ Tryz.f182.eq_1) ag hN ⟨trivial, trivial, trivial⟩
theorem j4R : Tryz.tab.zero 9 = some (.str []) := by kernel_rfl
theorem w2J (H : Heap) (a b : z0D) : z0N Tryz.tab H 51 2 [(0, .str a), (1, .str b)] = some (.slice H.next 0 2 false 2, H.push (.cells 9 true [.str a, .str b])) := by
 show z0b (Sx.elemOf Tryz.tab 51) (fun e => z0b (Tryz.tab.size e) fun z => z0b (Tryz.tab.zero e) fun zero =>
  bif Nat.ble (2 * z) 10000 then
   bif Nat.beq (len zero.cells) z then z0b (z9L (fun i => some (i * z, z)) [(0, .str a), (1, .str b)] (z1o zero.cells 2)) (z0K H e 2 2) else none
  else none) = _
 rw [z2J ud51]
 show z0b (Tryz.tab.size 9) (fun z => z0b (Tryz.tab.zero 9) fun zero =>
  bif Nat.ble (2 * z) 10000 then
   bif Nat.beq (len zero.cells) z then z0b (z9L (fun i => some (i * z, z)) [(0, .str a), (1, .str b)] (z1o zero.cells 2)) (z0K H 9 2 2) else none
  else none) = _
 rw [sz9, j4R]
 show z0K H 9 2 2 [.str a, .str b] = _
 unfold z0K
 rw [z1t]; rfl
theorem q9g {a : z0D} (h : a ≠ []) : sbeq a [] = false := by rw [z5A]; simpa using h
theorem q3T : sbeq [] [] = true := rfl
theorem q5I (fr to : z0D) (hf : fr.length < 1000000000) (ht : to.length < 1000000000) (H : Heap) (hN : Neat H) : CallTo Tryz.prog Tryz.tab 152 [.agg [.str fr, .str to]] H [(vi (code (z5n fr to) 2), H)] := by
 refine z0M Tryz.tabOk Tryz.func152 rfl rfl ?_
 show Gets Tryz.prog Tryz.tab ⟨none, 33⟩ _ _ _
 repeat refine Gets.seq ?_
 refine g0_ ?_
 refine g1_ (y6_ @z0q @z9x @z9y (z0c ia9) @w2J (z5j ud51)) ?_
 refine Gets.ofS (fun tm h => tm.get 1 = some (.ptr H.next 0) ∧ tm.get 9 = some (.slice (H.next + 1) 0 2 false 2) ∧ tm.get 10 = some (vi 2) ∧ tm.get 11 = some (vi 0) ∧ h.blks.get H.next = some (.cells 28 true [.str fr, .str to]) ∧ h.blks.get (H.next + 1) = some (.cells 9 true [.str fr, .str to]) ∧ Grows H h ∧ Neat h)
  ⟨sx0_, sf1_ @z0n, sx0_, sx0_, fo_, fo_, (Grows.push _ _).trans (.push _ _), (by repeat' (first | exact hN | exact aN | exact bN | (refine Neat.push ?_ _) | (refine Neat.put ?_ (by ((try dsimp only); (try simp only [z0n, z0f]); omega)) _)))⟩ ?_
 rintro tm h ⟨i1, i9, i10, i11, a0, a1, ag, aN⟩
 refine Gets.upto 2 (fun i tm => tm.get 1 = some (.ptr H.next 0) ∧ tm.get 9 = some (.slice (H.next + 1) 0 2 false 2) ∧ tm.get 10 = some (vi 2) ∧ tm.get 11 = some (vi (i : Int)) ∧ (1 ≤ i → (decide (fr = []) || z2w fr) = true) ∧ (2 ≤ i → (decide (to = []) || z2w to) = true))
  ⟨i1, i9, i10, i11, fun hh => by omega, fun hh => by omega⟩ ?_
 clear i1 i9 i10 i11
 clear tm
 rintro i tm hi ⟨i1, i9, i10, i11, d1, d2⟩
 repeat refine Gets.seq ?_
 by_cases hlt : (i : Int) < 2
 ·obtain ⟨s, hs, hsl, hsn⟩ : ∃ s, z1c (h.blks.get (H.next + 1)) (i * 1) = some (.str s) ∧ s.length < 1000000000 ∧ ((i = 0 ∧ s = fr) ∨ (i = 1 ∧ s = to)) := by
   rcases (by omega : i = 0 ∨ i = 1) with rfl | rfl
   ·exact ⟨fr, by rw [a1]; rfl, hf, .inl ⟨rfl, rfl⟩⟩
   ·exact ⟨to, by rw [a1]; rfl, ht, .inr ⟨rfl, rfl⟩⟩
  have hidx : z1e Tryz.tab 51 (.slice (H.next + 1) 0 2 false 2) (.int .i64 (i : Int)) = some (.ptr (H.next + 1) (i * 1)) := by
   rw [z2W ud51 sz9, if_pos ⟨by omega, by omega⟩]; simp
  have v5 : z3g .i64 ((i : Int) + 1) = (i : Int) + 1 := z3N (by omega) (by omega)
  refine g1_ (y3_ i10 i11 hlt) ?_
  refine cTb_ ?_
  refine g1_ (y5_ i9 i11 hidx hs (z0c ia9)) ?_
  by_cases hne : s = []
  ·subst hne
   refine g1b_ @q3T ?_
   refine cFk_ ?_
   refine g1_ (y2_ i11 v5) ?_
   exact ⟨_, rfl, by omega, sx1_ i1, sx1_ i9, sx1_ i10, sx1_ @z2s, fun hh => by
    rcases hsn with ⟨e, e2⟩ | ⟨e, e2⟩
    ·rw [← e2]; rfl
    ·exact d1 (by omega), fun hh => by
    rcases hsn with ⟨e, e2⟩ | ⟨e, e2⟩
    ·omega
    ·rw [← e2]; rfl⟩
  ·have q := q3Q s hsl h aN
   have hb := q9g hne
   cases hnb : z2w s with
   | false =>
    rw [hnb] at q
    have hR : z5n fr to = false := by
     unfold z5n
     rcases hsn with ⟨e, e2⟩ | ⟨e, e2⟩ <;> subst e2 <;> simp [hne, hnb]
    rw [hR]
    refine o1b_ (z0g z0d q) (y2_ @z0B hb) ?_
    refine cT_ ?_
    refine g0_ ?_
    refine Gets.ret Tryz.tabOk ?_
    exact z0v rfl (sf1_ (y2_ Tryz.f152.eq_1 @z4B)) ag hN trivial
   | true =>
    rw [hnb] at q
    refine o1b_ (z0g z0d q) (y2_ @z0B hb) ?_
    refine cFk_ ?_
    refine g1_ (y2_ i11 v5) ?_
    exact ⟨_, rfl, by omega, sx1_ i1, sx1_ i9, sx1_ i10, sx1_ @z2s, fun hh => by
     rcases hsn with ⟨e, e2⟩ | ⟨e, e2⟩
     ·rw [← e2, hnb]; simp
     ·exact d1 (by omega), fun hh => by
     rcases hsn with ⟨e, e2⟩ | ⟨e, e2⟩
     ·omega
     ·rw [← e2, hnb]; simp⟩
 ·have h9 : i = 2 := by omega
  subst h9
  have e1 := d1 (by omega)
  have e2 := d2 (by omega)
  have hR : z5n fr to = (decide (to = []) || sblt fr to) := by unfold z5n; rw [e1, e2, Bool.true_and, Bool.true_and]
  refine g1_ (y2_ i10 i11) ?_
  refine cFx_ ?_
  rw [hR]
  by_cases hne : to = []
  ·subst hne
   refine g1b_ (y6_ i1 a0 @z9x @z9y (z0c ia9) @q3T) ?_
   refine cFs_ ?_
   refine g0_ ?_
   refine Gets.ret Tryz.tabOk ?_
   exact z0v rfl (sf1_ (y4_ Tryz.f152.eq_1 @decide_true @Bool.true_or @z4r)) ag hN trivial
  ·have hb := q9g hne
   have hd : (decide (to = []) || sblt fr to) = sblt fr to := by simp [hne]
   rw [hd]
   cases hs : sblt fr to with
   | false =>
    refine g1b_ (y7_ i1 a0 @z9x @z9y (z0c ia9) hb hs) ?_
    refine cT_ ?_
    refine g0_ ?_
    refine Gets.ret Tryz.tabOk ?_
    exact z0v rfl (sf1_ (y2_ Tryz.f152.eq_1 @z4B)) ag hN trivial
   | true =>
    refine g1b_ (y7_ i1 a0 @z9x @z9y (z0c ia9) hb hs) ?_
    refine cFs_ ?_
    refine g0_ ?_
    refine Gets.ret Tryz.tabOk ?_
    exact z0v rfl (sf1_ (y2_ Tryz.f152.eq_1 @z4r)) ag hN trivial
theorem j7Y (fr to : z0D) (hr : z5n fr to = true) (hf : fr.length < 1000000) (ht : to.length < 1000000) (H : Heap) (hN : Neat H) : CallTo Tryz.prog Tryz.tab 158 [.agg [.str fr, .str to]] H [(.tuple [.str (z6Z fr to), vi 0], H)] := by
 have hN1 := hN.push (.cells 28 true [.str fr, .str to])
 have q := q5I fr to (by omega) (by omega) _ hN1
 rw [hr] at q
 have c1 := cat_ [91] fr
 have c2 := cat_ ([91] ++ fr) [44]
 have c3 := cat_ ([91] ++ fr ++ [44]) to
 have c4 : catO ([91] ++ fr ++ [44] ++ to) [41] = some (.str (z6Z fr to)) := q0T (by simp; omega)
 refine z0k (n := 20) Tryz.tabOk (ov := ptO noOv 152 [.agg [.str fr, .str to]] (H.push (.cells 28 true [.str fr, .str to])) [(vi (code true 2), H.push (.cells 28 true [.str fr, .str to]))]) (z0g z0d q)
  (H' := H.push (.cells 28 true [.str fr, .str to])) ?_ (.push _ _) hN ⟨trivial, trivial, trivial⟩
 clear hN hN1 q hf ht hr
 exact co_ (y8_ k4b Tryz.f158.eq_1 (z0o ia28 sz28) @t_r2 @z9x @z9y (z0c ia9) @q3S)
end Go.Proofs
namespace Go.Proofs
open Go.Sx
set_option maxRecDepth 100000
theorem cc0 (c : CmdN) : z1c (some (.cells 36 true c.cells)) 0 = some (vi c.kind) := rfl
theorem cg0 (c : CmdN) : c.cells[0]? = some (vi c.kind) := rfl
theorem cc1 (c : CmdN) : z1c (some (.cells 36 true c.cells)) 1 = some (vi c.call) := rfl
theorem cg1 (c : CmdN) : c.cells[1]? = some (vi c.call) := rfl
theorem cc2 (c : CmdN) : z1c (some (.cells 36 true c.cells)) 2 = some (vi c.saga) := rfl
theorem cg2 (c : CmdN) : c.cells[2]? = some (vi c.saga) := rfl
theorem cc6 (c : CmdN) : z1c (some (.cells 36 true c.cells)) 6 = some (.str c.key) := rfl
theorem cg6 (c : CmdN) : c.cells[6]? = some (.str c.key) := rfl
theorem cc7 (c : CmdN) : z1c (some (.cells 36 true c.cells)) 7 = some (vi c.delta) := rfl
theorem cg7 (c : CmdN) : c.cells[7]? = some (vi c.delta) := rfl
theorem cc8 (c : CmdN) : z1c (some (.cells 36 true c.cells)) 8 = some (vi c.move) := rfl
theorem cg8 (c : CmdN) : c.cells[8]? = some (vi c.move) := rfl
theorem cc9 (c : CmdN) : z1c (some (.cells 36 true c.cells)) 9 = some (.str c.fr) := rfl
theorem cg9 (c : CmdN) : c.cells[9]? = some (.str c.fr) := rfl
theorem cc10 (c : CmdN) : z1c (some (.cells 36 true c.cells)) 10 = some (.str c.to) := rfl
theorem cg10 (c : CmdN) : c.cells[10]? = some (.str c.to) := rfl
theorem cc11 (c : CmdN) : z1c (some (.cells 36 true c.cells)) 11 = some (vi c.group) := rfl
theorem cg11 (c : CmdN) : c.cells[11]? = some (vi c.group) := rfl
theorem cc22 (c : CmdN) : z1c (some (.cells 36 true c.cells)) 22 = some (vi c.res) := rfl
theorem cg22 (c : CmdN) : c.cells[22]? = some (vi c.res) := rfl
theorem cc23 (c : CmdN) : z1c (some (.cells 36 true c.cells)) 23 = some (.str c.data) := rfl
theorem cg23 (c : CmdN) : c.cells[23]? = some (.str c.data) := rfl
theorem ccE (c : CmdN) : Sx.cellsIn (some (.cells 36 true c.cells)) 3 3 = some [vi c.e.s, vi c.e.t, vi c.e.p] := rfl
theorem ccR (c : CmdN) : Sx.cellsIn (some (.cells 36 true c.cells)) 9 2 = some [.str c.fr, .str c.to] := rfl
theorem ccD (c : CmdN) : Sx.cellsIn (some (.cells 36 true c.cells)) 12 4 = some [.str c.d.name, vi c.d.r, vi c.d.d, c.d.st] := rfl
theorem ccI (c : CmdN) : Sx.cellsIn (some (.cells 36 true c.cells)) 16 6 = some [vi c.it.e.s, vi c.it.e.t, vi c.it.e.p, vi c.it.m, .bool c.it.i, vi c.it.g] := rfl
theorem ccW (c : CmdN) : Sx.cellsIn (some (.cells 36 true c.cells)) 0 24 = some c.cells := rfl
set_option linter.defProp false in
def ccL := (And.intro (And.intro (And.intro (And.intro @cc0 (And.intro @cg0 @cc1)) (And.intro @cg1 (And.intro @cc2 @cg2))) (And.intro (And.intro @cc6 (And.intro @cg6 @cc7)) (And.intro (And.intro @cg7 @cc8) (And.intro @cg8 @cc9)))) (And.intro (And.intro (And.intro @cg9 (And.intro @cc10 @cg10)) (And.intro (And.intro @cc11 @cg11) (And.intro @cc22 @cg22))) (And.intro (And.intro @cc23 (And.intro @cg23 @ccE)) (And.intro (And.intro @ccR @ccD) (And.intro @ccI @ccW)))))
theorem one0 : z1T [] = .tuple [] := rfl
theorem z1s {H : Heap} {t : TypeId} {b off z : Nat} {e : TypeId} {x : Bool} {old new : List AV} {v : AV} (hb : H.blks.get b = some (.cells e x old)) (hz : Tryz.tab.size t = some z) (hl : v.cells.length = z) (h1 : z0W v.cells = true) (hne : v.cells ≠ [])
  (hs : z1F v.cells old off = some new) : z0P Tryz.tab H t (.ptr b off) v = some (z0i H b (some (.cells e x new))) := by
 have e1 : z0P Tryz.tab H t (.ptr b off) v = z0b (Tryz.tab.size t) fun s => bif Nat.beq (len v.cells) s then z1M H b off v.cells else none := rfl
 rw [e1, hz]
 show (bif Nat.beq (len v.cells) z then z1M H b off v.cells else none) = _
 rw [z1f, hl, z1h rfl, cond_true]
 cases hv : v.cells with
 | nil => exact absurd hv hne
 | cons a l =>
  rw [hv] at h1 hs
  show z4d H b off (a :: l) (H.blks.get b) = _
  rw [hb]
  show (bif z0W (a :: l) then z6t H b e x (z1F (a :: l) old off) else none) = _
  rw [h1, hs, cond_true]
  show z5q new (fun l => z0S H b (some (.cells e x l)) some) = _
  rw [z1G]
  unfold z0S z0i
  rw [T.setK_eq, T.setK_eq]
abbrev z0x (c : CmdN) : ABlk := .cells 36 true c.cells
theorem k6G {H : Heap} {p : Nat} {c : CmdN} (h : H.blks.get p = some (z0x c)) : z0P Tryz.tab H 3 (.ptr p 1) (vi 0) = some (z0i H p (some (z0x (fCall.cl c)))) := z1s h sz3 rfl rfl (by simp [AV.cells]) rfl
theorem k6H {H : Heap} {p : Nat} {c : CmdN} (h : H.blks.get p = some (z0x c)) : z0P Tryz.tab H 3 (.ptr p 2) (vi 0) = some (z0i H p (some (z0x (fSaga.cl c)))) := z1s h sz3 rfl rfl (by simp [AV.cells]) rfl
theorem k6I {H : Heap} {p : Nat} {c : CmdN} (h : H.blks.get p = some (z0x c)) : z0P Tryz.tab H 3 (.ptr p 8) (vi 0) = some (z0i H p (some (z0x (fMove.cl c)))) := z1s h sz3 rfl rfl (by simp [AV.cells]) rfl
theorem k2F {H : Heap} {p : Nat} {c : CmdN} (h : H.blks.get p = some (z0x c)) : z0P Tryz.tab H 3 (.ptr p 11) (vi 0) = some (z0i H p (some (z0x (fGroup.cl c)))) := z1s h sz3 rfl rfl (by simp [AV.cells]) rfl
theorem w2K {H : Heap} {p : Nat} {c : CmdN} (h : H.blks.get p = some (z0x c)) : z0P Tryz.tab H 9 (.ptr p 6) (.str []) = some (z0i H p (some (z0x (fKey.cl c)))) := z1s h sz9 rfl rfl (by simp [AV.cells]) rfl
theorem k6J {H : Heap} {p : Nat} {c : CmdN} (h : H.blks.get p = some (z0x c)) : z0P Tryz.tab H 9 (.ptr p 23) (.str []) = some (z0i H p (some (z0x (fData.cl c)))) := z1s h sz9 rfl rfl (by simp [AV.cells]) rfl
theorem w2L {H : Heap} {p : Nat} {c : CmdN} (h : H.blks.get p = some (z0x c)) : z0P Tryz.tab H 26 (.ptr p 3) (.agg [vi 0, vi 0, vi 0]) = some (z0i H p (some (z0x (fEff.cl c)))) := z1s h sz26 rfl rfl (by simp [AV.cells]) rfl
theorem k2G {H : Heap} {p : Nat} {c : CmdN} (h : H.blks.get p = some (z0x c)) : z0P Tryz.tab H 2 (.ptr p 7) (vi 0) = some (z0i H p (some (z0x (fDelta.cl c)))) := z1s h sz2 rfl rfl (by simp [AV.cells]) rfl
theorem k2H {H : Heap} {p : Nat} {c : CmdN} (h : H.blks.get p = some (z0x c)) : z0P Tryz.tab H 28 (.ptr p 9) (.agg [.str [], .str []]) = some (z0i H p (some (z0x (fRange.cl c)))) := z1s h sz28 rfl rfl (by simp [AV.cells]) rfl
theorem w2M {H : Heap} {p : Nat} {c : CmdN} (h : H.blks.get p = some (z0x c)) : z0P Tryz.tab H 31 (.ptr p 12) (.agg [.str [], vi 0, vi 0, .nilslice]) = some (z0i H p (some (z0x (fDef.cl c)))) := z1s h sz31 rfl rfl (by simp [AV.cells]) rfl
theorem k6K {H : Heap} {p : Nat} {c : CmdN} (h : H.blks.get p = some (z0x c)) : z0P Tryz.tab H 33 (.ptr p 16) (.agg [vi 0, vi 0, vi 0, vi 0, .bool false, vi 0]) = some (z0i H p (some (z0x (fItem.cl c)))) := z1s h sz33 rfl rfl (by simp [AV.cells]) rfl
theorem w2N {H : Heap} {p : Nat} {c : CmdN} (h : H.blks.get p = some (z0x c)) : z0P Tryz.tab H 34 (.ptr p 22) (vi 0) = some (z0i H p (some (z0x (fRes.cl c)))) := z1s h sz34 rfl rfl (by simp [AV.cells]) rfl
theorem k2I : z7y Tryz.tab 28 [] = some (.agg [.str [], .str []]) := by kernel_rfl
theorem w2O : z7y Tryz.tab 31 [] = some (.agg [.str [], .int .i64 0, .int .i64 0, .nilslice]) := by kernel_rfl
theorem k6L : z7y Tryz.tab 33 [] = some (.agg [.int .i64 0, .int .i64 0, .int .i64 0, .int .i64 0, .bool false, .int .i64 0]) := by kernel_rfl
end Go.Proofs
