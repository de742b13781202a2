/-
  Definitions; what is equal; the fields of a command and their makers.
-/
import Derived.Test.YthfkhidmeeajfaaGreatDoorLNtA
import Derived.Test.YthfkhidmeeajfaaGreatDoorLTaA
import Derived.Test.YthfkhidmeeajfaaGreatDoorLSxI
set_option linter.unusedSimpArgs false
set_option linter.unusedVariables false
namespace Go.Proofs
open Go.Sx
set_option maxRecDepth 100000
theorem z4C (a b : z0D) : sbeq a b = decide (a = b) := by rw [z5A, Bool.eq_iff_iff]; simp
theorem j9H : Tryz.tab.zero 97 = some (.agg [.str [], .int .i64 0]) := by kernel_rfl
abbrev j0S (l : List StepN) : ABlk := .big 97 (l.length * 2) (l.flatMap StepN.cells)
theorem j4S {H : Heap} {b : Nat} {l : List StepN} (hb : H.blks.get b = some (j0S l)) {i : Nat} {s : StepN} (hs : l[i]? = some s) :
  z1c (H.blks.get b) (i * 2) = some (.str s.key) ∧ z1c (H.blks.get b) (i * 2 + 1) = some (vi s.delta) ∧ Sx.cellsIn (H.blks.get b) (i * 2) 2 = some [.str s.key, vi s.delta] := by
 have hlen : (l.flatMap StepN.cells).length = l.length * 2 := z3w (k := 2) (fun _ => rfl) l
 have h0 : (l.flatMap StepN.cells)[i * 2 + 0]? = some (.str s.key) := z7p (f := StepN.cells) (k := 2) (fun _ => rfl) hs (by omega)
 have h1 : (l.flatMap StepN.cells)[i * 2 + 1]? = some (vi s.delta) := z7p (f := StepN.cells) (k := 2) (fun _ => rfl) hs (by omega)
 rw [hb]
 refine ⟨by rw [q8S hlen]; exact h0, by rw [q8S hlen]; exact h1, ?_⟩
 exact z5K (e := 97) hlen (l := [.str s.key, vi s.delta]) fun j v hv => by
  match j, hv with
  | 0, hv => rw [h0]; exact hv
  | 1, hv => rw [h1]; exact hv
  | j + 2, hv => simp at hv
theorem j0T (p : Nat) (s x : StepN) (H : Heap) (hN : Neat H) (hp : H.blks.get p = some (.cells 97 true [.str s.key, vi s.delta])) :
  CallTo Tryz.prog Tryz.tab 270 [.agg [.str x.key, vi x.delta], .ptr p 0] H [(.bool (decide (x.key = s.key)), H)] := by
 have hlt := hN _ _ hp
 refine z0k (n := 20) Tryz.tabOk z0d (H' := H.push (.cells 97 true [.str x.key, vi x.delta])) ?_ (.push _ _) hN trivial
 have hp' : (H.push (.cells 97 true [.str x.key, vi x.delta])).blks.get p = some (.cells 97 true [.str s.key, vi s.delta]) := by rw [z0r _ _ (by omega)]; exact hp
 have hs : sbeq x.key s.key = decide (x.key = s.key) := z4C _ _
 clear hp hlt hN
 exact cob_ (y4_ k4z Tryz.f270.eq_1 @q1D (z0c ia9))
theorem j4T (b c n : Nat) (l : List StepN) (hn : n ≤ l.length) (hl : l.length < 1000000) (p : Nat) (s : StepN) (H : Heap) (hN : Neat H) (hb : H.blks.get b = some (j0S l)) (hp : H.blks.get p = some (.cells 97 true [.str s.key, vi s.delta])) (r : Int)
  (hr : (r = -1 ∧ ∀ j x, j < n → l[j]? = some x → x.key ≠ s.key) ∨ (∃ j0 : Nat, ∃ x0, r = (j0 : Int) ∧ j0 < n ∧ l[j0]? = some x0 ∧ x0.key = s.key ∧ ∀ j x, j < j0 → l[j]? = some x → x.key ≠ s.key)) :
  CallTo Tryz.prog Tryz.tab 334 [.slice b 0 n false c, .func (.func 270) [] [.ptr p 0]] H [(vi r, H)] := by
 refine z0M Tryz.tabOk Tryz.func334 rfl rfl ?_
 show Gets Tryz.prog Tryz.tab ⟨none, 19⟩ _ _ _
 repeat refine Gets.seq ?_
 refine g0_ ?_
 refine g1_ (z5j ud29) ?_
 refine Gets.upto n (fun i tm => tm.get 0 = some (.slice b 0 n false c) ∧ tm.get 1 = some (.func (.func 270) [] [.ptr p 0]) ∧ tm.get 7 = some (vi (n : Int)) ∧ tm.get 8 = some (vi (i : Int)) ∧ ∀ j x, j < i → l[j]? = some x → x.key ≠ s.key)
  ⟨sx0_, sx0_, sx0_, sx0_, fun j x hj => absurd hj (Nat.not_lt_zero _)⟩ ?_
 rintro i tm hi ⟨i0, i1, i7, i8, hno⟩
 repeat refine Gets.seq ?_
 by_cases hlt : (i : Int) < (n : Int)
 ·obtain ⟨x, hx⟩ : ∃ x, l[i]? = some x := ⟨_, List.getElem?_eq_getElem (by omega)⟩
  obtain ⟨-, -, hc⟩ := j4S hb hx
  have hidx : z1e Tryz.tab 29 (.slice b 0 n false c) (.int .i64 (i : Int)) = some (.ptr b (i * 2)) := by
   rw [z2W ud29 sz97, if_pos ⟨by omega, by omega⟩]; simp
  have v5 : z3g .i64 ((i : Int) + 1) = (i : Int) + 1 := z3N (by omega) (by omega)
  have q := j0T p s x H hN hp
  refine g1_ (y3_ i7 i8 hlt) ?_
  refine cTb_ ?_
  refine g1_ i8 ?_
  by_cases hk : x.key = s.key
  ·have hri : r = (i : Int) := by
    rcases hr with ⟨_, h⟩ | ⟨j0, x0, h1, h2, h3, h4, h5⟩
    ·exact absurd hk (h i x (by omega) hx)
    ·rcases Nat.lt_trichotomy j0 i with h | h | h
     ·exact absurd h4 (hno j0 x0 h h3)
     ·rw [h1, h]
     ·exact absurd hk (h5 i x h hx)
   subst hri
   rw [show decide (x.key = s.key) = true by simp [hk]] at q
   refine o1_ (z0g z0d q) (y6_ @z0B i0 i1 hidx hc (z0o ia97 sz97)) ?_
   refine cT_ ?_
   refine g0_ ?_
   refine Gets.ret Tryz.tabOk ?_
   exact z0v rfl (sr_ Tryz.f334.eq_1) (.refl _) hN trivial
  ·rw [show decide (x.key = s.key) = false by simp [hk]] at q
   refine o1_ (z0g z0d q) (y6_ @z0B i0 i1 hidx hc (z0o ia97 sz97)) ?_
   refine cFk_ ?_
   refine g1_ (y2_ i8 v5) ?_
   exact ⟨_, rfl, by omega, sx1_ i0, sx1_ i1, sx1_ i7, sx1_ @z2s, fun j y hj hy => by
    by_cases e : j = i
    ·subst e
     rw [hx] at hy
     cases hy
     exact hk
    ·exact hno j y (by omega) hy⟩
 ·have h9 : i = n := by omega
  have hri : r = -1 := by
   rcases hr with ⟨h, _⟩ | ⟨j0, x0, h1, h2, h3, h4, h5⟩
   ·exact h
   ·exact absurd h4 (hno j0 x0 (by omega) h3)
  subst hri
  refine g1_ (y3_ i7 i8 hlt) ?_
  refine cFx_ ?_
  refine g0_ ?_
  refine Gets.ret Tryz.tabOk ?_
  exact z0v rfl (sr_ Tryz.f334.eq_1) (.refl _) hN trivial
theorem q5J (l : List StepN) (k : z0D) : ∀ n, n ≤ l.length → (∀ j x, j < n → l[j]? = some x → x.key ≠ k) ∨ ∃ j0 x0, j0 < n ∧ l[j0]? = some x0 ∧ x0.key = k ∧ ∀ j x, j < j0 → l[j]? = some x → x.key ≠ k
 | 0, _ => .inl fun j x hj => absurd hj (Nat.not_lt_zero _)
 | n + 1, hn => by
  rcases q5J l k n (by omega) with h | ⟨j0, x0, h1, h2, h3, h4⟩
  ·obtain ⟨x, hx⟩ : ∃ x, l[n]? = some x := ⟨_, List.getElem?_eq_getElem (by omega)⟩
   by_cases hk : x.key = k
   ·exact .inr ⟨n, x, by omega, hx, hk, h⟩
   ·refine .inl fun j y hj hy => ?_
    by_cases e : j = n
    ·subst e
     rw [hx] at hy
     cases hy
     exact hk
    ·exact h j y (by omega) hy
  ·exact .inr ⟨j0, x0, by omega, h2, h3, h4⟩
def q0V (l : List StepN) (k : z0D) : Bool := l.any fun x => decide (x.key = k)
theorem k2J (b c n : Nat) (l : List StepN) (hn : n ≤ l.length) (hl : l.length < 1000000) (p : Nat) (s : StepN) (H : Heap) (hN : Neat H) (hb : H.blks.get b = some (j0S l)) (hp : H.blks.get p = some (.cells 97 true [.str s.key, vi s.delta])) :
  CallTo Tryz.prog Tryz.tab 269 [.slice b 0 n false c, .func (.func 270) [] [.ptr p 0]] H [(.bool (q0V (l.take n) s.key), H)] := by
 rcases q5J l s.key n hn with h | ⟨j0, x0, h1, h2, h3, h4⟩
 ·have q := j4T b c n l hn hl p s H hN hb hp (-1) (.inl ⟨rfl, h⟩)
  have hk : q0V (l.take n) s.key = false := by
   unfold q0V
   rw [List.any_eq_false]
   intro x hx
   obtain ⟨j, hj⟩ := List.mem_iff_getElem?.1 hx
   rw [List.getElem?_take] at hj
   split at hj
   ·simpa using h j x (by assumption) hj
   ·simp at hj
  rw [hk]
  refine z0k (n := 20) Tryz.tabOk (ov := ptO noOv 334 [.slice b 0 n false c, .func (.func 270) [] [.ptr p 0]] H [(vi (-1), H)]) (z0g z0d q) (H' := H) ?_ (.refl _) hN trivial
  clear q hk h hb hp hN
  exact co_ (y2_ j9g Tryz.f269.eq_1)
 ·have q := j4T b c n l hn hl p s H hN hb hp (j0 : Int) (.inr ⟨j0, x0, rfl, h1, h2, h3, h4⟩)
  have hk : q0V (l.take n) s.key = true := by
   unfold q0V
   rw [List.any_eq_true]
   exact ⟨x0, List.mem_iff_getElem?.2 ⟨j0, by rw [List.getElem?_take, if_pos h1]; exact h2⟩, by simpa using h3⟩
  rw [hk]
  have h0 : ¬ (j0 : Int) < 0 := by omega
  refine z0k (n := 20) Tryz.tabOk (ov := ptO noOv 334 [.slice b 0 n false c, .func (.func 270) [] [.ptr p 0]] H [(vi (j0 : Int), H)]) (z0g z0d q) (H' := H) ?_ (.refl _) hN trivial
  clear q hk h1 h2 h3 h4 hb hp hN
  exact co_ (y2_ j9g Tryz.f269.eq_1)
theorem z6F : ∀ (l before : List StepN), z8Z before l = true ↔ ∀ i s, l[i]? = some s → q5G (before ++ l.take i) s = true
 | [], before => by simp [z8Z]
 | x :: l, before => by
  have ih := z6F l (before ++ [x])
  simp only [z8Z, Bool.and_eq_true, ih]
  constructor
  ·rintro ⟨h1, h2⟩ i s hs
   cases i with
   | zero => simp at hs; subst hs; simpa using h1
   | succ i =>
    have := h2 i s (by simpa using hs)
    simpa using this
  ·intro h
   refine ⟨by simpa using h 0 x rfl, fun i s hs => ?_⟩
   have := h (i + 1) s (by simpa using hs)
   simpa using this
abbrev dfL (d : DefN) : List AV := [.str d.name, vi d.r, vi d.d, d.st]
set_option linter.defProp false
def k6M := y8_ @z0B @j4K @z6P @z9z @q4g @z7t (z0c ia9) (y2_ (z0c ia3) (z0c ia29))
def k6N := y8_ @z0B @z3P @z4r @z4B @q1D @q7T (z0c ia9) (z0c ia2)
theorem q5K (d : DefN) (H : Heap) (hN : Neat H) (hd : z3D H d) (hnm : d.name.length < 1000000) (hkl : ∀ s ∈ d.ss, s.key.length < 1000000) (hl : d.ss.length < 1000000) :
  CallTo Tryz.prog Tryz.tab 165 [.agg (dfL d)] H [(vi (code (defB d) 15), H)] := by
 refine z0M Tryz.tabOk Tryz.func165 rfl rfl ?_
 show Gets Tryz.prog Tryz.tab ⟨none, 63⟩ _ _ _
 repeat refine Gets.seq ?_
 have k1 := hd.one
 have hln : ∀ h, lenA Tryz.tab h 29 d.st = some (.int .i64 (d.ss.length : Int)) := hd.len ud29
 refine g1_ k1 ?_
 refine Gets.ofH (fun h => h.blks.get H.next = some (.cells 31 true (dfL d)) ∧ Grows H h ∧ Neat h) ⟨fo_, .push _ _, hN.push _⟩ ?_
 rintro h ⟨a0, ag, aN⟩
 have hdh := hd.grow hN ag
 have q1 := q3Q d.name (by omega) h aN
 have q2 := q9c d.r 20 h aN
 have q3 := q9c d.d 100000 h aN
 have q4 := q9c ((d.ss.length : Int) - 1) 7 h aN
 have w1 : z3g .i64 ((d.ss.length : Int) - 1) = (d.ss.length : Int) - 1 := z3N (by omega) (by omega)
 have hfirst : defB d = (z2w d.name && inB d.r 20 && inB d.d 100000 && inB ((d.ss.length : Int) - 1) 7 && z8Z [] d.ss) := by
  have e : (decide (1 ≤ d.ss.length) && decide (d.ss.length ≤ 8)) = inB ((d.ss.length : Int) - 1) 7 := by
   unfold inB
   congr 1 <;> (rw [decide_eq_decide]; omega)
  unfold defB
  rw [e]; rfl
 rw [hfirst]
 clear hfirst
 refine Gets.midH (I := fun tm h' => h' = h ∧ tm.get 1 = some (.ptr H.next 0) ∧ tm.get 29 = some (.bool (!(z2w d.name && inB d.r 20 && inB d.d 100000 && inB ((d.ss.length : Int) - 1) 7)))) ?_ ?_
 ·cases hb1 : z2w d.name with
  | false =>
   rw [hb1] at q1
   refine o1_ (z0g z0d q1) (y4_ @z0B a0 @z6P (z0c ia9)) ?_
   exact ⟨rfl, _, _, rfl, rfl, sx0_, sx0_⟩
  | true =>
   rw [hb1] at q1
   cases hb2 : inB d.r 20 with
   | false =>
    rw [hb2] at q2
    refine o1_ (z0g (z0g z0d q1) q2) (y7_ @z0B @z3P a0 @z6P @z9z (z0c ia9) (z0c ia3)) ?_
    exact ⟨rfl, _, _, rfl, rfl, sx0_, sx0_⟩
   | true =>
    rw [hb2] at q2
    cases hb3 : inB d.d 100000 with
    | false =>
     rw [hb3] at q3
     refine o1_ (ov := z4M (ptO noOv 139 [.str d.name] h [(.bool true, h)]) 268 (ovIn h)) (z2b (z0g z0d q1) (q7C aN)) (y8_ @z0B @j4K hb2 hb3 a0 @z6P @z9z (y3_ @q4g (z0c ia9) (z0c ia3))) ?_
     exact ⟨rfl, _, _, rfl, rfl, sx0_, sx0_⟩
    | true =>
     cases hb4 : inB ((d.ss.length : Int) - 1) 7 with
     | false =>
      refine o1_ (ov := z4M (ptO noOv 139 [.str d.name] h [(.bool true, h)]) 268 (ovIn h)) (z2b (z0g z0d q1) (q7C aN)) (y7_ k6M hb2 hb3 hb4 a0 hln w1) ?_
      exact ⟨rfl, _, _, rfl, rfl, sx0_, sx0_⟩
     | true =>
      refine o1_ (ov := z4M (ptO noOv 139 [.str d.name] h [(.bool true, h)]) 268 (ovIn h)) (z2b (z0g z0d q1) (q7C aN)) (y7_ k6M hb2 hb3 hb4 a0 hln w1) ?_
      exact ⟨rfl, _, _, rfl, rfl, sx0_, sx0_⟩
 rintro tm h' ⟨rfl, i1, i29⟩
 change Gets _ _ _ _ _ _
 repeat refine Gets.seq ?_
 cases hb : (z2w d.name && inB d.r 20 && inB d.d 100000 && inB ((d.ss.length : Int) - 1) 7) with
 | false =>
  rw [hb] at i29
  rw [Bool.false_and]
  refine cT_ (hv := sf1_ (y2_ i29 @Bool.not_false)) ?_
  refine g0_ ?_
  refine Gets.ret Tryz.tabOk ?_
  exact z0v rfl (sf1_ (y2_ Tryz.f165.eq_1 @z4B)) ag hN trivial
 | true =>
  rw [hb] at i29
  rw [Bool.true_and]
  refine cFs_ (hv := sf1_ (y2_ i29 @Bool.not_true)) ?_
  have hne : d.ss ≠ [] := by
   intro e
   simp only [Bool.and_eq_true] at hb
   have := hb.2
   rw [e] at this
   exact absurd this (by decide)
  obtain ⟨b, c, hst, hbk, hcap⟩ : ∃ b c, d.st = .slice b 0 d.ss.length false c ∧ h'.blks.get b = some (j0S d.ss) ∧ d.ss.length ≤ c := by
   rcases hdh with ⟨_, e⟩ | ⟨b, c, e1, e2, e3⟩
   ·exact absurd e hne
   ·exact ⟨b, c, e1, e3, e2⟩
  refine g1_ (y5_ i1 a0 @z7t (z0c ia29) hln) ?_
  refine Gets.uptoH d.ss.length (fun i tm k => tm.get 1 = some (.ptr H.next 0) ∧ tm.get 31 = some d.st ∧ tm.get 32 = some (vi (d.ss.length : Int)) ∧ tm.get 33 = some (vi (i : Int)) ∧ (∀ j s, j < i → d.ss[j]? = some s → q5G (d.ss.take j) s = true) ∧ Grows h' k ∧ Neat k)
   ⟨sx1_ i1, sx0_, sx0_, sx0_, fun j s hj => absurd hj (Nat.not_lt_zero _), .refl _, aN⟩ ?_
  clear i1 i29
  clear tm
  rintro i tm k hi ⟨i1, i31, i32, i33, hok, kg, kN⟩
  repeat refine Gets.seq ?_
  have a0k : k.blks.get H.next = some (.cells 31 true (dfL d)) := by rw [kg.get _ (aN _ _ a0)]; exact a0
  have hbkk : k.blks.get b = some (j0S d.ss) := by rw [kg.get _ (aN _ _ hbk)]; exact hbk
  by_cases hlt : (i : Int) < (d.ss.length : Int)
  ·obtain ⟨s, hs⟩ : ∃ s, d.ss[i]? = some s := ⟨_, List.getElem?_eq_getElem (by omega)⟩
   obtain ⟨c0, c1, c2⟩ := j4S hbkk hs
   have hidx : z1e Tryz.tab 29 d.st (.int .i64 (i : Int)) = some (.ptr b (i * 2)) := by
    rw [hst, z2W ud29 sz97, if_pos ⟨by omega, by omega⟩]; simp
   have hsl : z4T Tryz.tab 29 d.st none (some (.int .i64 (i : Int))) none = some (.slice b 0 i false c) := by
    rw [hst]; exact j4L ud29 sz97 (by omega)
   have v5 : z3g .i64 ((i : Int) + 1) = (i : Int) + 1 := z3N (by omega) (by omega)
   have hkey := hkl s (List.mem_of_getElem? hs)
   refine g1_ (y3_ i32 i33 hlt) ?_
   refine cTb_ ?_
   refine g1_ (y8_ i31 i33 hidx c2 (z0o ia97 sz97) @j9H @stL @sz97) ?_
   refine Gets.ofS (fun tm m => tm.get 1 = some (.ptr H.next 0) ∧ tm.get 3 = some (vi (i : Int)) ∧ tm.get 4 = some (.ptr k.next 0) ∧ tm.get 31 = some d.st ∧ tm.get 32 = some (vi (d.ss.length : Int)) ∧ tm.get 33 = some (vi (i : Int)) ∧ m.blks.get k.next = some (.cells 97 true [.str s.key, vi s.delta]) ∧ Grows k m ∧ Neat m)
    ⟨sx1_ i1, sx0_, sx0_, sx1_ i31, sx1_ i32, sx1_ i33, fo_, ⟨fl_, fun x hx => fo_⟩, Neat.put (kN.push _) (fl_) _⟩ ?_
   clear i1 i31 i32 i33
   clear tm
   rintro tm m ⟨i1, i3, i4, i31, i32, i33, am, mg, mN⟩
   have a0m : m.blks.get H.next = some (.cells 31 true (dfL d)) := by rw [mg.get _ (kN _ _ a0k)]; exact a0k
   have hbm : m.blks.get b = some (j0S d.ss) := by rw [mg.get _ (kN _ _ hbkk)]; exact hbkk
   have p1 := k2J b c i d.ss (by omega) hl k.next s m mN hbm am
   have p2 := q3Q s.key (by omega) m mN
   have p3 := q0R s.delta m mN
   refine o1_ (z0g z0d p1) (y8_ @z0B i1 i3 i4 a0m @z7t (z0c ia29) (y5_ hsl @z7V @q8X @q8Y @j3O)) ?_
   refine Gets.midH (I := fun tm h2 => h2 = m ∧ tm.get 1 = some (.ptr H.next 0) ∧ tm.get 31 = some d.st ∧ tm.get 32 = some (vi (d.ss.length : Int)) ∧ tm.get 33 = some (vi (i : Int)) ∧ tm.get 61 = some (.bool (!q5G (d.ss.take i) s))) ?_ ?_
   ·have hB : q5G (d.ss.take i) s = (!q0V (d.ss.take i) s.key && z2w s.key && decide (s.delta ≠ 0) && numB s.delta) := rfl
    rw [hB]
    clear hB p1
    cases hb1 : q0V (d.ss.take i) s.key with
    | true =>
     refine g1_ hb1 ?_
     exact ⟨rfl, _, _, rfl, rfl, sx1_ i1, sx1_ i31, sx1_ i32, sx1_ i33, sx0_⟩
    | false =>
     cases hb2 : z2w s.key with
     | false =>
      rw [hb2] at p2
      refine o1_ (z0g z0d p2) (y6_ @z0B hb1 i4 am @q1D (z0c ia9)) ?_
      exact ⟨rfl, _, _, rfl, rfl, sx1_ i1, sx1_ i31, sx1_ i32, sx1_ i33, sx0_⟩
     | true =>
      rw [hb2] at p2
      by_cases hz : s.delta = 0
      ·refine o1_ (z0g z0d p2) (y8_ @z0B hb1 hz i4 am @q1D @q7T (y2_ (z0c ia9) (z0c ia2))) ?_
       exact ⟨rfl, _, _, rfl, rfl, sx1_ i1, sx1_ i31, sx1_ i32, sx1_ i33, by simp only [hz, ne_eq, not_true_eq_false, decide_false, Bool.and_false, Bool.false_and, Bool.not_false]; simp (disch := decide) only [sxL]⟩
      ·cases hb3 : numB s.delta with
       | false =>
        refine o1_ (z0g (z0g z0d p2) p3) (y6_ k6N hb1 hb3 hz i4 am) ?_
        exact ⟨rfl, _, _, rfl, rfl, sx1_ i1, sx1_ i31, sx1_ i32, sx1_ i33, by simp only [hz, ne_eq, not_false_eq_true, decide_true, Bool.and_true, Bool.true_and, Bool.not_false, Bool.not_true, Bool.and_false]; simp (disch := decide) only [sxL]⟩
       | true =>
        refine o1_ (z0g (z0g z0d p2) p3) (y6_ k6N hb1 hb3 hz i4 am) ?_
        exact ⟨rfl, _, _, rfl, rfl, sx1_ i1, sx1_ i31, sx1_ i32, sx1_ i33, by simp only [hz, ne_eq, not_false_eq_true, decide_true, Bool.and_true, Bool.true_and, Bool.not_false, Bool.not_true, Bool.and_false]; simp (disch := decide) only [sxL]⟩
   clear i1 i3 i4 i31 i32 i33
   clear tm
   rintro tm h2 ⟨rfl, i1, i31, i32, i33, i61⟩
   change Gets _ _ _ _ _ _
   repeat refine Gets.seq ?_
   have hg2 := (ag.trans kg).trans mg
   cases hb : q5G (d.ss.take i) s with
   | false =>
    rw [hb] at i61
    have hS : z8Z [] d.ss = false := by
     rw [Bool.eq_false_iff]
     intro e
     have := (z6F d.ss []).1 e i s hs
     rw [List.nil_append, hb] at this
     exact Bool.noConfusion this
    rw [hS]
    refine cT_ (hv := sf1_ (y2_ i61 @Bool.not_false)) ?_
    refine g0_ ?_
    refine Gets.ret Tryz.tabOk ?_
    exact z0v rfl (sf1_ (y2_ Tryz.f165.eq_1 @z4B)) hg2 hN trivial
   | true =>
    rw [hb] at i61
    refine cFk_ (hv := sf1_ (y2_ i61 @Bool.not_true)) ?_
    refine g1_ (y2_ i33 v5) ?_
    exact ⟨_, _, rfl, by omega, sx1_ i1, sx1_ i31, sx1_ i32, sx1_ @z2s, fun j y hj hy => by
     by_cases e : j = i
     ·subst e
      rw [hs] at hy
      cases hy
      exact hb
     ·exact hok j y (by omega) hy, kg.trans mg, mN⟩
  ·have h9 : i = d.ss.length := by omega
   have hS : z8Z [] d.ss = true := (z6F d.ss []).2 fun j s hs => by
    rw [List.nil_append]
    exact hok j s (by have := (List.getElem?_eq_some_iff.1 hs).1; omega) hs
   rw [hS]
   refine g1_ (y3_ i32 i33 hlt) ?_
   refine cFx_ ?_
   refine g0_ ?_
   refine Gets.ret Tryz.tabOk ?_
   exact z0v rfl (sf1_ (y2_ Tryz.f165.eq_1 @z4r)) (ag.trans kg) hN trivial
end Go.Proofs
namespace Go.Proofs
open Go.Sx
set_option maxRecDepth 100000
def StrsG (n0 : Nat) (H : Heap) (v : AV) (l : List z0D) : Prop :=
 l ≠ [] ∧ ((∃ b, n0 ≤ b ∧ v = .slice b 0 l.length false l.length ∧ H.blks.get b = some (.cells 9 true (l.map fun s => .str s))) ∨ (∃ b, n0 ≤ b ∧ v = .slice b 0 l.length true 0 ∧ H.blks.get b = some (.cells 9 false (l.map fun s => .str s))))
theorem StrsG.strs {n0 : Nat} {H : Heap} {v : AV} {l : List z0D} (h : StrsG n0 H v l) : StrsAt H v l := by
 obtain ⟨_, ⟨b, _, h1, h2⟩ | ⟨b, _, h1, h2⟩⟩ := h
 ·exact .inr ⟨b, false, _, true, h1, fun _ => Nat.le_refl _, h2⟩
 ·exact .inr ⟨b, true, _, false, h1, fun e => Bool.noConfusion e, h2⟩
theorem StrsG.one {n0 : Nat} {H : Heap} {v : AV} {l : List z0D} (h : StrsG n0 H v l) : z0H v = true := h.strs.one
theorem StrsG.to {n0 : Nat} {H H' : Heap} {v : AV} {l : List z0D} (h : StrsG n0 H v l) (hh : ∀ b x y, n0 ≤ b → H.blks.get b = some (.cells 9 x y) → H'.blks.get b = some (.cells 9 x y)) : StrsG n0 H' v l := by
 obtain ⟨h0, ⟨b, hb, h1, h2⟩ | ⟨b, hb, h1, h2⟩⟩ := h
 ·exact ⟨h0, .inl ⟨b, hb, h1, hh _ _ _ hb h2⟩⟩
 ·exact ⟨h0, .inr ⟨b, hb, h1, hh _ _ _ hb h2⟩⟩
theorem q9h (l : List z0D) : z0W (l.map fun s => AV.str s) = true := z2u.2 fun v hv => by
 obtain ⟨x, _, rfl⟩ := List.mem_map.1 hv; rfl
theorem ty9 : ∃ i, Tryz.tab.types.get 9 = some i ∧ i.size = 1 ∧ Nat.ble i.bytes 100000 = true := ⟨Tryz.t9, by kernel_rfl, by kernel_rfl, by kernel_rfl⟩
theorem q9i {n0 : Nat} {H : Heap} {v : AV} {l : List z0D} (h : StrsG n0 H v l) (hN : Neat H) (hn0 : n0 ≤ H.next) (hl : l.length ≤ 1000) {b : Nat} {s : z0D} (hb : H.blks.get b = some (.cells 9 true [.str s])) :
  ∃ v' H', z3a Tryz.tab H [51, 51] [v, .slice b 0 1 false 1] = some (v', H') ∧ StrsG n0 H' v' (l ++ [s]) ∧ Neat H' ∧ H'.next = H.next + 1 ∧ ∀ x, x < n0 → H'.blks.get x = H.blks.get x := by
 obtain ⟨i, t1, t2, t3⟩ := ty9
 obtain ⟨h0, h⟩ := h
 have hpos : 0 < l.length := List.length_pos_iff.2 h0
 have hml : (l.map fun s => AV.str s).length = l.length * 1 := by simp
 have hm : (l ++ [s]).map (fun s => AV.str s) = (l.map fun s => AV.str s) ++ [.str s] := by simp
 rcases h with ⟨d, hd, rfl, h2⟩ | ⟨d, hd, rfl, h2⟩
 ·refine ⟨_, _, q7z ud51 t1 t2 (by omega) t3 j4R rfl hb rfl rfl h2 hml (q9h l) hpos (by omega), ⟨by simp, .inr ⟨H.next, hn0, by rw [List.length_append]; rfl, ?_⟩⟩, hN.push _, z0n _ _, fun x hx => z0r _ _ (by omega)⟩
  rw [z0q, hm]
 ·have hnx : (z0i H d none).next = H.next := z0f _ _ _
  refine ⟨_, _, q2m ud51 t1 t2 (by omega) t3 j4R rfl hb rfl rfl h2 hml (q9h l) hpos (by omega), ⟨by simp, .inr ⟨H.next, hn0, by rw [List.length_append]; rfl, ?_⟩⟩, (z6p hN d).push _, by rw [z0n, hnx], fun x hx => ?_⟩
  ·have := z0q (z0i H d none) (.cells 9 false ((l.map fun s => AV.str s) ++ [.str s]))
   rw [hnx] at this
   rw [this, hm]
  ·rw [z0r _ _ (by rw [hnx]; omega), z0l _ _ _ (by omega)]
theorem k2K (H : Heap) (a : z0D) : z0N Tryz.tab H 51 1 [(0, .str a)] = some (.slice H.next 0 1 false 1, H.push (.cells 9 true [.str a])) := by
 show z0b (Sx.elemOf Tryz.tab 51) (fun e => z0b (Tryz.tab.size e) fun z => z0b (Tryz.tab.zero e) fun zero =>
  bif Nat.ble (1 * z) 10000 then
   bif Nat.beq (len zero.cells) z then z0b (z9L (fun i => some (i * z, z)) [(0, .str a)] (z1o zero.cells 1)) (z0K H e 1 1) else none
  else none) = _
 rw [z2J ud51]
 show z0b (Tryz.tab.size 9) (fun z => z0b (Tryz.tab.zero 9) fun zero =>
  bif Nat.ble (1 * z) 10000 then
   bif Nat.beq (len zero.cells) z then z0b (z9L (fun i => some (i * z, z)) [(0, .str a)] (z1o zero.cells 1)) (z0K H 9 1 1) else none
  else none) = _
 rw [sz9, j4R]
 show z0K H 9 1 1 [.str a] = _
 unfold z0K
 rw [z1t]; rfl
theorem k2L (H : Heap) (a b c : z0D) : z0N Tryz.tab H 51 3 [(0, .str a), (1, .str b), (2, .str c)] = some (.slice H.next 0 3 false 3, H.push (.cells 9 true [.str a, .str b, .str c])) := by
 show z0b (Sx.elemOf Tryz.tab 51) (fun e => z0b (Tryz.tab.size e) fun z => z0b (Tryz.tab.zero e) fun zero =>
  bif Nat.ble (3 * z) 10000 then
   bif Nat.beq (len zero.cells) z then z0b (z9L (fun i => some (i * z, z)) [(0, .str a), (1, .str b), (2, .str c)] (z1o zero.cells 3)) (z0K H e 3 3) else none
  else none) = _
 rw [z2J ud51]
 show z0b (Tryz.tab.size 9) (fun z => z0b (Tryz.tab.zero 9) fun zero =>
  bif Nat.ble (3 * z) 10000 then
   bif Nat.beq (len zero.cells) z then z0b (z9L (fun i => some (i * z, z)) [(0, .str a), (1, .str b), (2, .str c)] (z1o zero.cells 3)) (z0K H 9 3 3) else none
  else none) = _
 rw [sz9, j4R]
 show z0K H 9 3 3 [.str a, .str b, .str c] = _
 unfold z0K
 rw [z1t]; rfl
theorem z5o {s : z0D} (h : z2w s = true) : s.length ≤ 16 := by
 simp only [z2w, Bool.and_eq_true, Bool.not_eq_true', decide_eq_false_iff_not] at h
 omega
theorem q7F {before : List StepN} {s : StepN} (h : q5G before s = true) : z2w s.key = true ∧ In64 s.delta := by
 simp only [q5G, numB, q9b, Bool.and_eq_true, decide_eq_true_eq] at h
 exact ⟨h.1.1.2, by omega, by omega⟩
theorem z6G {d : DefN} (h : defB d = true) : z2w d.name = true ∧ In64 d.r ∧ In64 d.d ∧ 1 ≤ d.ss.length ∧ d.ss.length ≤ 8 ∧ ∀ (i : Nat) (s : StepN), d.ss[i]? = some s → z2w s.key = true ∧ In64 s.delta := by
 simp only [defB, Bool.and_eq_true, decide_eq_true_eq] at h
 obtain ⟨⟨⟨⟨h1, h2, h3⟩, h4, h5⟩, h6, h7⟩, h8⟩ := h
 exact ⟨h1, ⟨by omega, by omega⟩, ⟨by omega, by omega⟩, h6, h7, fun i s hs => q7F ((z6F d.ss []).1 h8 i s hs)⟩
theorem j4U {s : StepN} (h1 : z2w s.key = true) (h2 : In64 s.delta) : (q0Q s).length ≤ 40 := by
 have := z5o h1
 have := z0w h2
 simp only [q0Q, z9h, List.length_append]
 split <;> simp <;> omega
theorem q2q {l : List StepN} (h : ∀ (i : Nat) (s : StepN), l[i]? = some s → z2w s.key = true ∧ In64 s.delta) : ∀ n, (((l.take n).map q0Q).map List.length).sum ≤ 40 * n
 | 0 => by simp
 | n + 1 => by
  have ih := q2q h n
  by_cases hn : n < l.length
  ·have hx := h n l[n] (List.getElem?_eq_getElem hn)
   have := j4U hx.1 hx.2
   rw [List.take_add_one, List.getElem?_eq_getElem hn]
   simp only [List.map_append, List.sum_append, Option.toList_some, List.map_cons, List.map_nil, List.sum_cons, List.sum_nil]
   omega
  ·rw [List.take_of_length_le (by omega)]
   rw [List.take_of_length_le (by omega)] at ih
   omega
abbrev defW (d : DefN) (n : Nat) : List z0D := d.name :: z0U d.r :: z0U d.d :: (d.ss.take n).map q0Q
theorem q9j {d : DefN} (h : defB d = true) (n : Nat) (hn : n ≤ 8) : z5M (defW d n) ≤ 400 := by
 obtain ⟨h1, h2, h3, h4, h5, h6⟩ := z6G h
 have := z5o h1
 have := z0w h2
 have := z0w h3
 have := q2q h6 n
 simp only [z5M, defW, List.map_cons, List.sum_cons, List.length_cons, List.length_map, List.length_take]
 omega
theorem j7Z (d : DefN) (he : defB d = true) (H : Heap) (hN : Neat H) (hP : PowAt H) (hd : z3D H d) (hnm : d.name.length < 1000000) (hkl : ∀ s ∈ d.ss, s.key.length < 1000000) (hl : d.ss.length < 1000000) :
  CallTo Tryz.prog Tryz.tab 172 [.agg (dfL d)] H [(.tuple [.str (defT d), vi 0], H)] := by
 refine z0M Tryz.tabOk Tryz.func172 rfl rfl ?_
 show Gets Tryz.prog Tryz.tab ⟨none, 47⟩ _ _ _
 repeat refine Gets.seq ?_
 obtain ⟨b1, b2, b3, b4, b5, b6⟩ := z6G he
 have k1 := hd.one
 have hln : ∀ h, lenA Tryz.tab h 29 d.st = some (.int .i64 (d.ss.length : Int)) := hd.len ud29
 refine g1_ k1 ?_
 refine Gets.ofH (fun h => h.blks.get H.next = some (.cells 31 true (dfL d)) ∧ Grows H h ∧ Neat h ∧ h.next = H.next + 1) ⟨fo_, .push _ _, hN.push _, z0n _ _⟩ ?_
 rintro h ⟨a0, ag, aN, ax⟩
 have q := q5K d h aN (hd.grow hN ag) hnm hkl hl
 rw [he] at q
 have hPh := hP.grow hN ag
 refine o1_ (z0g z0d q) (y5_ @z0B a0 (z0o ia31 sz31) @t_r4 @z4r) ?_
 refine g0_ ?_
 refine cFs_ ?_
 refine gk_ (ov := z4M noOv 20 ovI) (z2b z0d z7X) [.rd 0, .rd 1, .rd 2, .rd 3, .rd 5, .rd 6, .sm 4, .sm 7, .rd 8, .rd 9] (aN) (y8_ (z5O hPh b2) (z5O hPh b3) a0 @z6P @z9z @q4g (z0c ia9) (y2_ (z0c ia3) @k2L)) ?_
 refine g1_ (y5_ @z0r a0 @z7t (z0c ia29) hln) ?_
 refine Gets.ofS (fun tm k => tm.get 1 = some (.ptr H.next 0) ∧ tm.get 5 = some (.slice (H.next + 1) 0 3 false 3) ∧ tm.get 24 = some d.st ∧ tm.get 25 = some (vi (d.ss.length : Int)) ∧ tm.get 26 = some (vi 0) ∧ k.blks.get H.next = some (.cells 31 true (dfL d)) ∧ k.blks.get (H.next + 1) = some (.cells 9 true [.str d.name, .str (z0U d.r), .str (z0U d.d)]) ∧ Grows h k ∧ Neat k)
  ⟨sx0_, sx1_ ax, sx0_, sx0_, sx0_, by ((try simp (disch := first | assumption | omega | (try simp only [z1Y, z0f]) <;> omega | fail) only [foL]); (try rfl)); exact a0, fo_, .push _ _, (by repeat' (first | exact hN | exact aN | exact bN | (refine Neat.push ?_ _) | (refine Neat.put ?_ (by ((try dsimp only); (try simp only [z0n, z0f]); omega)) _)))⟩ ?_
 rintro tm k ⟨i1, i5, i24, i25, i26, a0k, awk, kg, kN⟩
 refine Gets.uptoH d.ss.length (fun i tm m => tm.get 1 = some (.ptr H.next 0) ∧ (∃ v, tm.get 5 = some v ∧ StrsG (H.next + 1) m v (defW d i)) ∧ tm.get 24 = some d.st ∧ tm.get 25 = some (vi (d.ss.length : Int)) ∧ tm.get 26 = some (vi (i : Int)) ∧ H.next + 1 ≤ m.next ∧ (∀ x, x < H.next + 1 → m.blks.get x = h.blks.get x) ∧ Neat m)
  ⟨i1, ⟨_, i5, by simp, .inl ⟨H.next + 1, Nat.le_refl _, by simp, by simpa using awk⟩⟩, i24, i25, i26, by have := kg.next; omega, fun x hx => kg.get x (by omega), kN⟩ ?_
 clear i1 i5 i24 i25 i26 a0k awk kg kN k
 clear tm
 rintro i tm m hi ⟨i1, ⟨v, i5, hv⟩, i24, i25, i26, mx, mg, mN⟩
 repeat refine Gets.seq ?_
 have hdm : z3D m d := hd.grow hN ⟨by omega, fun x hx => by rw [mg x (by omega)]; exact ag.get x hx⟩
 have hPm : PowAt m := hP.grow hN ⟨by omega, fun x hx => by rw [mg x (by omega)]; exact ag.get x hx⟩
 by_cases hlt : (i : Int) < (d.ss.length : Int)
 ·obtain ⟨s, hs⟩ : ∃ s, d.ss[i]? = some s := ⟨_, List.getElem?_eq_getElem (by omega)⟩
  obtain ⟨b, hidx, -, hc⟩ := hdm.row ud29 sz97 (fun _ => rfl) hs
  have hc2 : Sx.cellsIn (m.blks.get b) (i * 2) 2 = some [.str s.key, vi s.delta] := hc 0 2 (by omega)
  have v5 : z3g .i64 ((i : Int) + 1) = (i : Int) + 1 := z3N (by omega) (by omega)
  obtain ⟨s1, s2⟩ := b6 i s hs
  have sl := z5o s1
  have dl := z0w s2
  have hvo := hv.one
  refine g1_ (y3_ i25 i26 hlt) ?_
  refine cTb_ ?_
  refine g1_ (y8_ i24 i26 hidx hc2 (z0o ia97 sz97) @j9H @stL @sz97) ?_
  refine g0_ ?_
  refine Gets.ofS (fun tm n => tm.get 1 = some (.ptr H.next 0) ∧ tm.get 5 = some v ∧ tm.get 7 = some (.ptr m.next 0) ∧ tm.get 8 = some (.str []) ∧ tm.get 24 = some d.st ∧ tm.get 25 = some (vi (d.ss.length : Int)) ∧ tm.get 26 = some (vi (i : Int)) ∧ n.blks.get m.next = some (.cells 97 true [.str s.key, vi s.delta]) ∧ Grows m n ∧ Neat n)
   ⟨sx1_ i1, sx1_ i5, sx0_, sx0_, sx1_ i24, sx1_ i25, sx1_ i26, fo_, ⟨fl_, fun x hx => fo_⟩, Neat.put (mN.push _) (fl_) _⟩ ?_
  clear i1 i5 i24 i25 i26
  clear tm
  rintro tm n ⟨i1, i5, i7, i8, i24, i25, i26, an, ng, nN⟩
  refine g1_ (y4_ i7 an @q7T (z0c ia2)) ?_
  refine Gets.midH (I := fun tm n' => n' = n ∧ tm.get 1 = some (.ptr H.next 0) ∧ tm.get 5 = some v ∧ tm.get 7 = some (.ptr m.next 0) ∧ tm.get 8 = some (.str (if 0 < s.delta then [43] else [])) ∧ tm.get 24 = some d.st ∧ tm.get 25 = some (vi (d.ss.length : Int)) ∧ tm.get 26 = some (vi (i : Int))) ?_ ?_
  ·by_cases h0 : 0 < s.delta
   ·rw [if_pos h0]
    refine cT_ (hv := sx1_ h0) ?_
    refine g0_ ?_
    exact ⟨rfl, _, _, rfl, rfl, sx1_ i1, sx1_ i5, sx1_ i7, sx0_, sx1_ i24, sx1_ i25, sx1_ i26⟩
   ·rw [if_neg h0]
    refine Gets.condF (sx1_ h0) (Gets.skip Tryz.tabOk ?_)
    exact ⟨rfl, _, _, rfl, rfl, sx1_ i1, sx1_ i5, sx1_ i7, sx1_ i8, sx1_ i24, sx1_ i25, sx1_ i26⟩
  clear i1 i5 i7 i8 i24 i25 i26
  clear tm
  rintro tm n' ⟨rfl, i1, i5, i7, i8, i24, i25, i26⟩
  change Gets _ _ _ _ _ _
  repeat refine Gets.seq ?_
  generalize hsg : (if 0 < s.delta then ([43] : z0D) else []) = sg at i8
  have sgl : sg.length ≤ 1 := by rw [← hsg]; split <;> simp
  have hst : q0Q s = s.key ++ sg ++ z0U s.delta := by unfold q0Q z9h; rw [hsg, List.append_assoc]
  have c1 : catO s.key sg = some (.str (s.key ++ sg)) := q0T (by omega)
  have c2 : catO (s.key ++ sg) (z0U s.delta) = some (.str (q0Q s)) := by rw [hst]; exact q0T (by rw [List.length_append]; omega)
  have hPn : PowAt n' := hPm.grow mN ng
  obtain ⟨v', m', p1, p2, p3, p4, p5⟩ := q9i (n0 := H.next + 1) (H := n'.push (.cells 9 true [.str (q0Q s)])) (hv.to fun b x y hb hy => by
   rw [z0r _ _ (Nat.ne_of_lt (nN b _ (by rw [ng.get b (mN b _ hy)]; exact hy))), ng.get b (mN b _ hy)]; exact hy) (nN.push _) (by rw [z0n]; have := ng.next; omega) (by simp; omega) (z0q _ _)
  have hdw : defW d i ++ [q0Q s] = defW d (i + 1) := by
   simp only [defW, List.cons_append]
   rw [List.take_add_one, hs]
   simp
  rw [hdw] at p2
  refine gk_ (ov := z4M noOv 21 ovF) (z2b z0d j4P) [.rd 0, .rd 1, .rd 2, .rd 3, .rd 4, .rd 5, .rd 6, .sm 7, .rd 8, .rd 9, .lk 10 [], .rd 11] (nN) (y8_ (j4O hPn s2) i5 i7 i8 an @q1D @q7T (y8_ (z0c ia9) (z0c ia2) @q3S c1 c2 @k2K @q3A p1)) ?_
  refine g1_ (y2_ i26 v5) ?_
  exact ⟨_, _, rfl, by omega, sx1_ i1, ⟨v', sx0_, p2⟩, sx1_ i24, sx1_ i25, sx1_ @z2s, by rw [p4, z0n]; have := ng.next; omega, fun x hx => by
   rw [p5 x hx, z0r _ _ (by have := ng.next; omega), ng.get x (by omega)]; exact mg x hx, p3⟩
 ·have h9 : i = d.ss.length := by omega
  subst h9
  have hw : defW d d.ss.length = d.name :: z0U d.r :: z0U d.d :: d.ss.map q0Q := by simp [defW]
  have q2 := q7D _ v m hv.strs (Nat.le_trans (q9j he _ b5) (by omega))
  rw [show z6q (defW d d.ss.length) = defT d by unfold defT; rw [hw]] at q2
  refine g1_ (y3_ i25 i26 hlt) ?_
  refine cFx_ ?_
  refine o1_ (z0g z0d q2) (y2_ @z0B i5) ?_
  refine Gets.ret Tryz.tabOk ?_
  exact z2I rfl (sr_ Tryz.f172.eq_1) ⟨by show H.next ≤ m.next; omega, fun x hx => by show m.blks.get x = _; rw [mg x (by omega)]; exact ag.get x hx⟩ hN ⟨trivial, trivial, trivial⟩
end Go.Proofs
namespace Go.Proofs
open Go.Sx
set_option maxRecDepth 100000
theorem eq28 (a b a' b' : z0D) : eqA Tryz.tab 60 28 (.agg [.str a, .str b]) (.agg [.str a', .str b']) = andO (some (sbeq a a')) (andO (some (sbeq b b')) (some true)) := by kernel_rfl
theorem nq28 : z5s (Tryz.tab.noEq.get 28) = true := by kernel_rfl
theorem nq33 : z5s (Tryz.tab.noEq.get 33) = true := by kernel_rfl
theorem nq97 : z5s (Tryz.tab.noEq.get 97) = true := by kernel_rfl
theorem eq97 (a a' : z0D) (d d' : Int) : eqA Tryz.tab 60 97 (.agg [.str a, .int .i64 d]) (.agg [.str a', .int .i64 d']) = andO (some (sbeq a a')) (andO (some (ibeq d d')) (some true)) := by kernel_rfl
theorem eq33 (a b c m : Int) (i : Bool) (g a' b' c' m' : Int) (i' : Bool) (g' : Int) : eqA Tryz.tab 60 33 (.agg [vi a, vi b, vi c, vi m, .bool i, vi g]) (.agg [vi a', vi b', vi c', vi m', .bool i', vi g']) =
  andO (andO (some (ibeq a a')) (andO (some (ibeq b b')) (andO (some (ibeq c c')) (some true)))) (andO (some (ibeq m m')) (andO (some (bbeq i i')) (andO (some (ibeq g g')) (some true)))) := by kernel_rfl
theorem z3f (a b : Bool) : andO (some a) (some b) = some (a && b) := by cases a <;> rfl
theorem j8a (a b : Bool) : bbeq a b = decide (a = b) := by cases a <;> cases b <;> rfl
theorem w2P (a b : EffN) : eqA Tryz.tab 60 26 (.agg [vi a.s, vi a.t, vi a.p]) (.agg [vi b.s, vi b.t, vi b.p]) = some (decide (a = b)) := by
 rw [eq26, z0Z, z0Z, z0Z, z3f, z3f, z3f]
 rcases a with ⟨a1, a2, a3⟩
 rcases b with ⟨b1, b2, b3⟩
 congr 1
 simp only [EffN.mk.injEq, Bool.and_true, Bool.decide_and]
theorem k6O (a b : ItemN) : eqA Tryz.tab 60 33 (.agg (itL a)) (.agg (itL b)) = some (decide (a = b)) := by
 show eqA Tryz.tab 60 33 (.agg [vi a.e.s, vi a.e.t, vi a.e.p, vi a.m, .bool a.i, vi a.g]) (.agg [vi b.e.s, vi b.e.t, vi b.e.p, vi b.m, .bool b.i, vi b.g]) = _
 rw [eq33, z0Z, z0Z, z0Z, z0Z, j8a, z0Z, z3f, z3f, z3f, z3f, z3f, z3f, z3f]
 rcases a with ⟨⟨a1, a2, a3⟩, a4, a5, a6⟩
 rcases b with ⟨⟨b1, b2, b3⟩, b4, b5, b6⟩
 congr 1
 simp only [ItemN.mk.injEq, EffN.mk.injEq, Bool.and_true, Bool.decide_and]
theorem k2M (a b a' b' : z0D) : eqA Tryz.tab 60 28 (.agg [.str a, .str b]) (.agg [.str a', .str b']) = some (decide (a = a') && decide (b = b')) := by
 rw [eq28, z4C, z4C, z3f, z3f, Bool.and_true]
theorem k6P (a b : StepN) : eqA Tryz.tab 60 97 (.agg [.str a.key, vi a.delta]) (.agg [.str b.key, vi b.delta]) = some (decide (a = b)) := by
 show eqA Tryz.tab 60 97 (.agg [.str a.key, .int .i64 a.delta]) (.agg [.str b.key, .int .i64 b.delta]) = _
 rw [eq97, z0Z, z4C, z3f, z3f]
 rcases a with ⟨a1, a2⟩
 rcases b with ⟨b1, b2⟩
 congr 1
 simp only [StepN.mk.injEq, Bool.and_true, Bool.decide_and]
theorem k2N (v v' : AV) (l m : List StepN) (H : Heap) (hN : Neat H) (h1 : q3R H v l) (h2 : q3R H v' m) (hl : l.length < 1000000) (hm : m.length < 1000000) :
  CallTo Tryz.prog Tryz.tab 244 [v, v'] H [(.bool (decide (l = m)), H)] := by
 refine z0M Tryz.tabOk Tryz.func244 rfl rfl ?_
 show Gets Tryz.prog Tryz.tab ⟨none, 26⟩ _ _ _
 repeat refine Gets.seq ?_
 have n1 : ∀ h, lenA Tryz.tab h 29 v = some (.int .i64 (l.length : Int)) := h1.len ud29
 have n2 : ∀ h, lenA Tryz.tab h 29 v' = some (.int .i64 (m.length : Int)) := h2.len ud29
 refine g0_ ?_
 by_cases hlm : (l.length : Int) = (m.length : Int)
 ·have hlm' : l.length = m.length := by omega
  refine g1_ (y3_ n1 n2 hlm) ?_
  refine cFs_ ?_
  refine g1_ n1 ?_
  refine Gets.upto l.length (fun i tm => tm.get 0 = some v ∧ tm.get 1 = some v' ∧ tm.get 12 = some (vi (l.length : Int)) ∧ tm.get 13 = some (vi (i : Int)) ∧ ∀ j, j < i → l[j]? = m[j]?)
   ⟨sx0_, sx0_, sx1_ hlm, sx0_, fun j hj => absurd hj (Nat.not_lt_zero _)⟩ ?_
  rintro i tm hi ⟨i0, i1, i12, i13, heq⟩
  repeat refine Gets.seq ?_
  by_cases hlt : (i : Int) < (l.length : Int)
  ·obtain ⟨x, hx⟩ : ∃ x, l[i]? = some x := ⟨_, List.getElem?_eq_getElem (by omega)⟩
   obtain ⟨y, hy⟩ : ∃ y, m[i]? = some y := ⟨_, List.getElem?_eq_getElem (by omega)⟩
   obtain ⟨b1, hx1, -, hc1⟩ := h1.row ud29 sz97 (fun _ => rfl) hx
   obtain ⟨b2, hx2, -, hc2⟩ := h2.row ud29 sz97 (fun _ => rfl) hy
   have hc1 : Sx.cellsIn (H.blks.get b1) (i * 2) 2 = some [.str x.key, vi x.delta] := hc1 0 2 (by omega)
   have hc2 : Sx.cellsIn (H.blks.get b2) (i * 2) 2 = some [.str y.key, vi y.delta] := hc2 0 2 (by omega)
   have v5 : z3g .i64 ((i : Int) + 1) = (i : Int) + 1 := z3N (by omega) (by omega)
   have he := k6P x y
   refine g1_ (y3_ i12 i13 hlt) ?_
   refine cTb_ ?_
   refine g1_ i13 ?_
   by_cases hxy : x = y
   ·subst hxy
    rw [show decide (x = x) = true by simp] at he
    refine Gets.l0 Tryz.tabOk (s' := ?sn1) ?hn1 ?kn1; (case hn1 => (simp -implicitDefEqProofs (disch := first | exact d_ | fail) only [sxM, Nat.reduceAdd, reduceCtorEq, Int.reduceToNat, Nat.reduceEqDiff, Int.reduceEq, Int.reduceLT, z3O, i0, i1, hx1, hx2, hc1, hc2, z0o ia97 sz97, nq97, he, z9a, notO] <;> rfl)); (try (change Gets _ _ _ _ _ _; repeat refine Gets.seq ?_))
    refine cFk_ ?_
    refine g1_ (y2_ i13 v5) ?_
    exact ⟨_, rfl, by omega, sx1_ i0, sx1_ i1, sx1_ i12, sx1_ @z2s, fun j hj => by
     by_cases e : j = i
     ·subst e; rw [hx, hy]
     ·exact heq j (by omega)⟩
   ·rw [show decide (x = y) = false by simp [hxy]] at he
    have hd : decide (l = m) = false := by
     rw [decide_eq_false_iff_not]
     intro e
     rw [e, hy] at hx
     exact hxy (Option.some.inj hx).symm
    rw [hd]
    refine Gets.l0 Tryz.tabOk (s' := ?sn2) ?hn2 ?kn2; (case hn2 => (simp -implicitDefEqProofs (disch := first | exact d_ | fail) only [sxM, Nat.reduceAdd, reduceCtorEq, Int.reduceToNat, Nat.reduceEqDiff, Int.reduceEq, Int.reduceLT, z3O, i0, i1, hx1, hx2, hc1, hc2, z0o ia97 sz97, nq97, he, z9a, notO] <;> rfl)); (try (change Gets _ _ _ _ _ _; repeat refine Gets.seq ?_))
    refine cT_ ?_
    refine g0_ ?_
    refine Gets.ret Tryz.tabOk ?_
    exact z0v rfl (sr_ Tryz.f244.eq_1) (.refl _) hN trivial
  ·have hd : decide (l = m) = true := by
    rw [decide_eq_true_eq]
    apply List.ext_getElem?
    intro j
    by_cases hj : j < i
    ·exact heq j hj
    ·rw [List.getElem?_eq_none (by omega), List.getElem?_eq_none (by omega)]
   rw [hd]
   refine g1_ (y3_ i12 i13 hlt) ?_
   refine cFx_ ?_
   refine g0_ ?_
   refine Gets.ret Tryz.tabOk ?_
   exact z0v rfl (sr_ Tryz.f244.eq_1) (.refl _) hN trivial
 ·have hd : decide (l = m) = false := by
   rw [decide_eq_false_iff_not]
   intro e
   exact hlm (by rw [e])
  rw [hd]
  refine g1_ (y3_ n1 n2 hlm) ?_
  refine cT_ ?_
  refine g0_ ?_
  refine Gets.ret Tryz.tabOk ?_
  exact z0v rfl (sr_ Tryz.f244.eq_1) (.refl _) hN trivial
theorem j4V (a b : DefN) (H : Heap) (hN : Neat H) (ha : z3D H a) (hb : z3D H b) (h1 : a.ss.length < 1000000) (h2 : b.ss.length < 1000000) :
  CallTo Tryz.prog Tryz.tab 127 [.agg (dfL a), .agg (dfL b)] H [(.bool (j4H a b), H)] := by
 have o1 := ha.one
 have o2 := hb.one
 have gg : Grows H ((H.push (.cells 31 true (dfL a))).push (.cells 31 true (dfL b))) := (Grows.push _ _).trans (.push _ _)
 have hN2 := (hN.push (.cells 31 true (dfL a))).push (.cells 31 true (dfL b))
 have q := k2N a.st b.st a.ss b.ss _ hN2 (ha.grow hN gg) (hb.grow hN gg) h1 h2
 have e1 := z4C a.name b.name
 have e2 := z0Z a.r b.r
 have e3 := z0Z a.d b.d
 refine z0k (n := 20) Tryz.tabOk (ov := ptO noOv 244 [a.st, b.st] ((H.push (.cells 31 true (dfL a))).push (.cells 31 true (dfL b))) [(.bool (decide (a.ss = b.ss)), (H.push (.cells 31 true (dfL a))).push (.cells 31 true (dfL b)))]) (z0g z0d q)
  (H' := (H.push (.cells 31 true (dfL a))).push (.cells 31 true (dfL b))) ?_ gg hN trivial
 clear hN hN2 gg q ha hb h1 h2
 unfold j4H
 cases x0 : decide (a.name = b.name)
 ·rw [Bool.false_and, Bool.false_and, Bool.false_and]
  exact cob_ (y4_ q7U Tryz.f127.eq_1 @z6P (z0c ia9))
 cases x1 : decide (a.r = b.r)
 ·rw [Bool.and_false, Bool.false_and, Bool.false_and]
  exact cob_ (y6_ q7U Tryz.f127.eq_1 @z6P @z9z (z0c ia9) (z0c ia3))
 cases x2 : decide (a.d = b.d)
 ·rw [Bool.and_false, Bool.false_and]
  exact cob_ (y7_ q7U Tryz.f127.eq_1 @z6P @z9z @q4g (z0c ia9) (z0c ia3))
 rw [Bool.true_and, Bool.true_and, Bool.true_and]
 exact cob_ (y8_ q7U Tryz.f127.eq_1 @z6P @z9z @q4g @z7t (z0c ia9) (y2_ (z0c ia3) (z0c ia29)))
end Go.Proofs
namespace Go.Proofs
open Go.Sx
set_option maxRecDepth 100000
set_option linter.defProp false
def z4D := y8_ k9b Tryz.f68.eq_1 @q7R @j9a @j9c @q7S @q7O (y8_ @q4f @j9b @q1B @j9d @q4e @q2v @q2w (y8_ @q2u @ccL (z0o ia31 sz31) (z0o ia26 sz26) (z0o ia28 sz28) (z0o ia33 sz33) (z0c ia3) (y6_ (z0c ia2) (z0c ia9) (z0c ia34) @nq26 @nq28 @nq33)))
theorem j4W (a b : CmdN) (H : Heap) (hN : Neat H) (ha : z3D H a.d) (hb : z3D H b.d) (h1 : a.d.ss.length < 1000000) (h2 : b.d.ss.length < 1000000) :
  CallTo Tryz.prog Tryz.tab 68 [.agg a.cells, .agg b.cells] H [(.bool (j4I a b), H)] := by
 have o1 := z8B ha.one
 have o2 := z8B hb.one
 have gg : Grows H ((H.push (z0x a)).push (z0x b)) := (Grows.push _ _).trans (.push _ _)
 have hN2 := (hN.push (z0x a)).push (z0x b)
 have q := j4V a.d b.d _ hN2 (ha.grow hN gg) (hb.grow hN gg) h1 h2
 have e1 := w2P a.e b.e
 have e2 := k2M a.fr a.to b.fr b.to
 have e3 := k6O a.it b.it
 have d0 := z0Z a.kind b.kind
 have d1 := z0Z a.call b.call
 have d2 := z0Z a.saga b.saga
 have d3 := z4C a.key b.key
 have d4 := z0Z a.delta b.delta
 have d5 := z0Z a.move b.move
 have d6 := z0Z a.group b.group
 have d7 := z0Z a.res b.res
 have d8 := z4C a.data b.data
 refine z0k (n := 20) Tryz.tabOk (ov := ptO noOv 127 [.agg (dfL a.d), .agg (dfL b.d)] ((H.push (z0x a)).push (z0x b)) [(.bool (j4H a.d b.d), (H.push (z0x a)).push (z0x b))]) (z0g z0d q)
  (H' := (H.push (z0x a)).push (z0x b)) ?_ gg hN trivial
 clear hN hN2 gg q ha hb h1 h2
 unfold j4I
 cases x0 : j4H a.d b.d
 ·simp only [Bool.true_and, Bool.false_and, Bool.and_false, Bool.and_true]
  exact coe_ z4D
 cases x1 : decide (a.e = b.e)
 ·rw [x1] at e1
  simp only [Bool.true_and, Bool.false_and, Bool.and_false, Bool.and_true]
  exact coe_ z4D
 rw [x1] at e1
 cases x2 : (decide (a.fr = b.fr) && decide (a.to = b.to))
 ·rw [x2] at e2
  simp only [Bool.true_and, Bool.false_and, Bool.and_false, Bool.and_true]
  exact coe_ z4D
 rw [x2] at e2
 cases x3 : decide (a.it = b.it)
 ·rw [x3] at e3
  simp only [Bool.true_and, Bool.false_and, Bool.and_false, Bool.and_true]
  exact coe_ z4D
 rw [x3] at e3
 cases x4 : decide (a.kind = b.kind)
 ·simp only [Bool.true_and, Bool.false_and, Bool.and_false, Bool.and_true]
  exact coe_ z4D
 cases x5 : decide (a.call = b.call)
 ·simp only [Bool.true_and, Bool.false_and, Bool.and_false, Bool.and_true]
  exact coe_ z4D
 cases x6 : decide (a.saga = b.saga)
 ·simp only [Bool.true_and, Bool.false_and, Bool.and_false, Bool.and_true]
  exact coe_ z4D
 cases x7 : decide (a.key = b.key)
 ·simp only [Bool.true_and, Bool.false_and, Bool.and_false, Bool.and_true]
  exact coe_ z4D
 cases x8 : decide (a.delta = b.delta)
 ·simp only [Bool.true_and, Bool.false_and, Bool.and_false, Bool.and_true]
  exact coe_ z4D
 cases x9 : decide (a.move = b.move)
 ·simp only [Bool.true_and, Bool.false_and, Bool.and_false, Bool.and_true]
  exact coe_ z4D
 cases x10 : decide (a.group = b.group)
 ·simp only [Bool.true_and, Bool.false_and, Bool.and_false, Bool.and_true]
  exact coe_ z4D
 cases x11 : decide (a.res = b.res)
 ·simp only [Bool.true_and, Bool.false_and, Bool.and_false, Bool.and_true]
  exact coe_ z4D
 cases x12 : decide (a.data = b.data)
 ·simp only [Bool.true_and, Bool.false_and, Bool.and_false, Bool.and_true]
  exact coe_ z4D
 simp only [Bool.true_and, Bool.false_and, Bool.and_false, Bool.and_true]
 exact coe_ z4D
end Go.Proofs
namespace Go.Proofs
open Go.Sx
set_option maxRecDepth 100000
theorem j8b (c : CmdN) (p : Nat) (H : Heap) (hN : Neat H) (hc : z7q H p c) : CallTo Tryz.prog Tryz.tab 128 [.ptr p 0] H [(.bool (effB c.e), H)] := by
 have q := q0S c.e H hN
 have a0 := hc.1
 refine z0k (n := 20) Tryz.tabOk (ov := ptO noOv 129 [.agg [vi c.e.s, vi c.e.t, vi c.e.p]] H [(vi (code (effB c.e) 2), H)]) (z0g z0d q) (H' := H) ?_ (.refl _) hN trivial
 clear q hc hN
 cases effB c.e
 all_goals exact co_ (y5_ k3P Tryz.f128.eq_1 @q7S (z0o ia26 sz26) @ccL)
theorem j8c (c : CmdN) (p : Nat) (H : Heap) (hN : Neat H) (hc : z7q H p c) (he : effB c.e = true) (hP : PowAt H) : CallTo Tryz.prog Tryz.tab 134 [.ptr p 0] H [(.str (effT c.e), H)] := by
 have q := q9f c.e he H hN hP
 have a0 := hc.1
 refine z0k (n := 20) Tryz.tabOk (ov := ptO noOv 135 [.agg [vi c.e.s, vi c.e.t, vi c.e.p]] H [(.tuple [.str (effT c.e), vi 0], H)]) (z0g z0d q) (H' := H) ?_ (.refl _) hN trivial
 clear q hc hN
 all_goals exact co_ (y5_ k3R Tryz.f134.eq_1 @q7S (z0o ia26 sz26) @ccL)
theorem j0U (c : CmdN) (p : Nat) (H : Heap) (hN : Neat H) (hc : z7q H p c) (hb : CmdSm c) : CallTo Tryz.prog Tryz.tab 151 [.ptr p 0] H [(.bool (z5n c.fr c.to), H)] := by
 have q := q5I c.fr c.to (by have := hb.fr; omega) (by have := hb.to; omega) H hN
 have a0 := hc.1
 refine z0k (n := 20) Tryz.tabOk (ov := ptO noOv 152 [.agg [.str c.fr, .str c.to]] H [(vi (code (z5n c.fr c.to) 2), H)]) (z0g z0d q) (H' := H) ?_ (.refl _) hN trivial
 clear q hc hN
 cases z5n c.fr c.to
 all_goals exact co_ (y5_ k3Z Tryz.f151.eq_1 @q1B (z0o ia28 sz28) @ccL)
theorem j0V (c : CmdN) (p : Nat) (H : Heap) (hN : Neat H) (hc : z7q H p c) (hb : CmdSm c) (he : z5n c.fr c.to = true) : CallTo Tryz.prog Tryz.tab 157 [.ptr p 0] H [(.str (z6Z c.fr c.to), H)] := by
 have q := j7Y c.fr c.to he (by have := hb.fr; omega) (by have := hb.to; omega) H hN
 have a0 := hc.1
 refine z0k (n := 20) Tryz.tabOk (ov := ptO noOv 158 [.agg [.str c.fr, .str c.to]] H [(.tuple [.str (z6Z c.fr c.to), vi 0], H)]) (z0g z0d q) (H' := H) ?_ (.refl _) hN trivial
 clear q hc hN
 all_goals exact co_ (y5_ k4a Tryz.f157.eq_1 @q1B (z0o ia28 sz28) @ccL)
theorem j8d (c : CmdN) (p : Nat) (H : Heap) (hN : Neat H) (hc : z7q H p c) (hb : CmdSm c) : CallTo Tryz.prog Tryz.tab 164 [.ptr p 0] H [(.bool (defB c.d), H)] := by
 have q := q5K c.d H hN hc.2 (by have := hb.dn; omega) (fun s hs => by have := hb.dk s hs; omega) (by have := hb.dl; omega)
 have a0 := hc.1
 refine z0k (n := 20) Tryz.tabOk (ov := ptO noOv 165 [.agg (dfL c.d)] H [(vi (code (defB c.d) 15), H)]) (z0g z0d q) (H' := H) ?_ (.refl _) hN trivial
 clear q hc hN
 cases defB c.d
 all_goals exact co_ (y5_ k4g Tryz.f164.eq_1 @q4e (z0o ia31 sz31) @ccL)
theorem j8e (c : CmdN) (p : Nat) (H : Heap) (hN : Neat H) (hc : z7q H p c) (hb : CmdSm c) (he : defB c.d = true) (hP : PowAt H) : CallTo Tryz.prog Tryz.tab 171 [.ptr p 0] H [(.str (defT c.d), H)] := by
 have q := j7Z c.d he H hN hP hc.2 (by have := hb.dn; omega) (fun s hs => by have := hb.dk s hs; omega) (by have := hb.dl; omega)
 have a0 := hc.1
 refine z0k (n := 20) Tryz.tabOk (ov := ptO noOv 172 [.agg (dfL c.d)] H [(.tuple [.str (defT c.d), vi 0], H)]) (z0g z0d q) (H' := H) ?_ (.refl _) hN trivial
 clear q hc hN
 all_goals exact co_ (y5_ k4h Tryz.f171.eq_1 @q4e (z0o ia31 sz31) @ccL)
theorem j4X (c : CmdN) (p : Nat) (H : Heap) (hN : Neat H) (hc : z7q H p c) : CallTo Tryz.prog Tryz.tab 175 [.ptr p 0] H [(.bool (z6N c.it), H)] := by
 have q := q2p c.it H hN
 have a0 := hc.1
 refine z0k (n := 20) Tryz.tabOk (ov := ptO noOv 176 [.agg (itL c.it)] H [(vi (code (z6N c.it) 2), H)]) (z0g z0d q) (H' := H) ?_ (.refl _) hN trivial
 clear q hc hN
 cases z6N c.it
 all_goals exact co_ (y5_ k4k Tryz.f175.eq_1 @q2v (z0o ia33 sz33) @ccL)
theorem j4Y (c : CmdN) (p : Nat) (H : Heap) (hN : Neat H) (hc : z7q H p c) (he : z6N c.it = true) (hP : PowAt H) : CallTo Tryz.prog Tryz.tab 181 [.ptr p 0] H [(.str (z9g c.it), H)] := by
 have q := j4Q c.it he H hN hP
 have a0 := hc.1
 refine z0k (n := 20) Tryz.tabOk (ov := ptO noOv 182 [.agg (itL c.it)] H [(.tuple [.str (z9g c.it), vi 0], H)]) (z0g z0d q) (H' := H) ?_ (.refl _) hN trivial
 clear q hc hN
 all_goals exact co_ (y5_ k4l Tryz.f181.eq_1 @q2v (z0o ia33 sz33) @ccL)
theorem j8f (c : CmdN) (p : Nat) (H : Heap) (hc : H.blks.get p = some (z0x c)) : CallTo Tryz.prog Tryz.tab 136 [.ptr p 0] H [(.tuple [], z0i H p (some (z0x (fEff.cl c))))] := by
 have hs := w2L hc
 refine z0I Tryz.tabOk z0d (n := 20) ?_
 clear hc
 exact co_ (y5_ k3S Tryz.f136.eq_1 @one0 @q7S @q7E)
theorem j0W (c : CmdN) (p : Nat) (H : Heap) (hc : H.blks.get p = some (z0x c)) : CallTo Tryz.prog Tryz.tab 159 [.ptr p 0] H [(.tuple [], z0i H p (some (z0x (fRange.cl c))))] := by
 have hs := k2H hc
 refine z0I Tryz.tabOk z0d (n := 20) ?_
 clear hc
 exact co_ (y5_ k4c Tryz.f159.eq_1 @one0 @q1B @k2I)
theorem j8g (c : CmdN) (p : Nat) (H : Heap) (hc : H.blks.get p = some (z0x c)) : CallTo Tryz.prog Tryz.tab 173 [.ptr p 0] H [(.tuple [], z0i H p (some (z0x (fDef.cl c))))] := by
 have hs := w2M hc
 refine z0I Tryz.tabOk z0d (n := 20) ?_
 clear hc
 exact co_ (y5_ k4i Tryz.f173.eq_1 @one0 @q4e @w2O)
theorem j4Z (c : CmdN) (p : Nat) (H : Heap) (hc : H.blks.get p = some (z0x c)) : CallTo Tryz.prog Tryz.tab 183 [.ptr p 0] H [(.tuple [], z0i H p (some (z0x (fItem.cl c))))] := by
 have hs := k6K hc
 refine z0I Tryz.tabOk z0d (n := 20) ?_
 clear hc
 exact co_ (y5_ k4m Tryz.f183.eq_1 @one0 @q2v @k6L)
theorem j0X (c : CmdN) (p : Nat) (H : Heap) (hc : H.blks.get p = some (z0x c)) : CallTo Tryz.prog Tryz.tab 147 [.ptr p 0] H [(.tuple [], z0i H p (some (z0x (fDelta.cl c))))] := by
 have hs := k2G hc
 refine z0I Tryz.tabOk z0d (n := 20) ?_
 clear hc
 exact co_ (y4_ k3W Tryz.f147.eq_1 @one0 @q4f)
theorem j8h (c : CmdN) (p : Nat) (H : Heap) (hc : H.blks.get p = some (z0x c)) : CallTo Tryz.prog Tryz.tab 188 [.ptr p 0] H [(.tuple [], z0i H p (some (z0x (fRes.cl c))))] := by
 have hs := w2N hc
 refine z0I Tryz.tabOk z0d (n := 20) ?_
 clear hc
 exact co_ (y4_ k4p Tryz.f188.eq_1 @one0 @q2w)
theorem j0Y (c : CmdN) (p : Nat) (H : Heap) (hN : Neat H) (hc : z7q H p c) : CallTo Tryz.prog Tryz.tab 141 [.ptr p 0] H [(.bool (decide (c.delta ≠ 0) && numB c.delta), H)] := by
 have q := q0R c.delta H hN
 have a0 := hc.1
 refine z0k (n := 20) Tryz.tabOk (ov := ptO noOv 35 [vi c.delta] H [(vi (code (numB c.delta) 7), H)]) (z0g z0d q) (H' := H) ?_ (.refl _) hN trivial
 clear q hc hN
 by_cases hz : c.delta = 0
 ·rw [show decide (c.delta ≠ 0) = false by simp [hz], Bool.false_and]
  exact co_ (y5_ j9e Tryz.f141.eq_1 @q4f (z0c ia2) @ccL)
 ·rw [show decide (c.delta ≠ 0) = true by simp [hz], Bool.true_and]
  cases numB c.delta
  all_goals exact co_ (y5_ j9e Tryz.f141.eq_1 @q4f (z0c ia2) @ccL)
set_option linter.defProp false
def k6Q := y6_ k3V Tryz.f146.eq_1 @q4f (z0c ia2) @ccL @q3S
theorem j0Z (c : CmdN) (p : Nat) (H : Heap) (hN : Neat H) (hc : z7q H p c) (hn : In64 c.delta) (hP : PowAt H) : CallTo Tryz.prog Tryz.tab 146 [.ptr p 0] H [(.str (z9h c.delta), H)] := by
 have a0 := hc.1
 have l1 := z0w hn
 refine z0k (n := 20) Tryz.tabOk (ov := z4M noOv 21 ovF) (z2b z0d j4P) (H' := H) ?_ (.refl _) hN trivial
 have hF := j4O hP hn
 have c1 := cat_ [43] (z0U c.delta)
 clear hc hN l1 hP hn
 unfold z9h
 by_cases h0 : 0 < c.delta
 ·rw [if_pos h0]
  exact co_ k6Q
 ·rw [if_neg h0, List.nil_append]
  exact co_ k6Q
theorem j8i (c : CmdN) (p : Nat) (H : Heap) (hN : Neat H) (hc : z7q H p c) : CallTo Tryz.prog Tryz.tab 184 [.ptr p 0] H [(.bool (z2S c.res 0 18), H)] := by
 have a0 := hc.1
 refine z0k (n := 20) Tryz.tabOk z0d (H' := H) ?_ (.refl _) hN trivial
 clear hc hN
 simp only [z2S, nle, nleN]
 rcases Classical.em (c.res < 0) with h1 | h1
 rotate_left
 rcases Classical.em (18 < c.res) with h2 | h2
 rotate_left
 all_goals simp only [*, decide_true, decide_false, not_false_eq_true, Bool.not_true, Bool.not_false, Bool.and_true, Bool.and_false, Bool.true_and, Bool.false_and]
 all_goals exact co_ (y5_ k4n Tryz.f184.eq_1 @q2w (z0c ia34) @ccL)
theorem j8j (c : CmdN) (p : Nat) (H : Heap) (hN : Neat H) (hc : z7q H p c) (hn : In64 c.res) (hP : PowAt H) : CallTo Tryz.prog Tryz.tab 187 [.ptr p 0] H [(.str (z0U c.res), H)] := by
 have a0 := hc.1
 refine z0k (n := 20) Tryz.tabOk (ov := z4M noOv 20 ovI) (z2b z0d z7X) (H' := H) ?_ (.refl _) hN trivial
 have hF := z5O hP hn
 clear hc hN hP hn
 exact co_ (y5_ k4o Tryz.f187.eq_1 @q2w (z0c ia34) @ccL)
theorem j5a (c : CmdN) (p : Nat) (H : Heap) (hN : Neat H) (hp : p < H.next) : CallTo Tryz.prog Tryz.tab 149 [.ptr p 0] H [(.ptr p 1, H)] := by
 refine z0k (n := 20) Tryz.tabOk z0d (H' := H) ?_ (.refl _) hN hp
 clear hN hp
 exact co_ (y3_ k3X Tryz.f149.eq_1 @j9a)
theorem j5b (c : CmdN) (p : Nat) (H : Heap) (hN : Neat H) (hp : p < H.next) : CallTo Tryz.prog Tryz.tab 163 [.ptr p 0] H [(.ptr p 2, H)] := by
 refine z0k (n := 20) Tryz.tabOk z0d (H' := H) ?_ (.refl _) hN hp
 clear hN hp
 exact co_ (y3_ k4f Tryz.f163.eq_1 @j9c)
theorem j5c (c : CmdN) (p : Nat) (H : Heap) (hN : Neat H) (hp : p < H.next) : CallTo Tryz.prog Tryz.tab 150 [.ptr p 0] H [(.ptr p 8, H)] := by
 refine z0k (n := 20) Tryz.tabOk z0d (H' := H) ?_ (.refl _) hN hp
 clear hN hp
 exact co_ (y3_ k3Y Tryz.f150.eq_1 @j9b)
theorem j1a (c : CmdN) (p : Nat) (H : Heap) (hN : Neat H) (hp : p < H.next) : CallTo Tryz.prog Tryz.tab 174 [.ptr p 0] H [(.ptr p 11, H)] := by
 refine z0k (n := 20) Tryz.tabOk z0d (H' := H) ?_ (.refl _) hN hp
 clear hN hp
 exact co_ (y3_ k4j Tryz.f174.eq_1 @j9d)
theorem j8k (c : CmdN) (p : Nat) (H : Heap) (hN : Neat H) (hp : p < H.next) : CallTo Tryz.prog Tryz.tab 138 [.ptr p 0] H [(.ptr p 6, H)] := by
 refine z0k (n := 20) Tryz.tabOk z0d (H' := H) ?_ (.refl _) hN hp
 clear hN hp
 exact co_ (y3_ k3T Tryz.f138.eq_1 @q7O)
theorem j5d (c : CmdN) (p : Nat) (H : Heap) (hN : Neat H) (hp : p < H.next) : CallTo Tryz.prog Tryz.tab 160 [.ptr p 0] H [(.ptr p 23, H)] := by
 refine z0k (n := 20) Tryz.tabOk z0d (H' := H) ?_ (.refl _) hN hp
 clear hN hp
 exact co_ (y3_ k4d Tryz.f160.eq_1 @q2u)
theorem j8l (s : z0D) (H : Heap) (hN : Neat H) : CallTo Tryz.prog Tryz.tab 140 [.str s] H [(.str s, H)] := by
 refine z0k (n := 20) Tryz.tabOk z0d (H' := H) ?_ (.refl _) hN trivial
 clear hN
 exact co_ (y2_ k3U Tryz.f140.eq_1)
theorem j5e (s : z0D) (H : Heap) (hN : Neat H) : CallTo Tryz.prog Tryz.tab 161 [.str s] H [(.bool (decide (s.length ≤ 65536)), H)] := by
 refine z0k (n := 20) Tryz.tabOk z0d (H' := H) ?_ (.refl _) hN trivial
 clear hN
 by_cases h : 65536 < (s.length : Int)
 ·rw [show decide (s.length ≤ 65536) = false by simp; omega]
  exact co_ (y3_ j9f Tryz.f161.eq_1 (z0Q ud9))
 ·rw [show decide (s.length ≤ 65536) = true by simp; omega]
  exact co_ (y3_ j9f Tryz.f161.eq_1 (z0Q ud9))
theorem j5f (s : z0D) (hl : s.length < 1000000) (H : Heap) (hN : Neat H) (hP : PowAt H) : CallTo Tryz.prog Tryz.tab 162 [.str s] H [(.str (z0U s.length), H)] := by
 refine z0k (n := 20) Tryz.tabOk (ov := z4M noOv 20 ovI) (z2b z0d z7X) (H' := H) ?_ (.refl _) hN trivial
 have hF := z5O (n := (s.length : Int)) hP ⟨by omega, by omega⟩
 clear hN hP hl
 exact co_ (y3_ k4e Tryz.f162.eq_1 (z0Q ud9))
end Go.Proofs
namespace Go.Sx
theorem Grows.some_ {K h : Heap} (hg : Grows K h) (hN : Neat K) {b : Nat} {o : ABlk} (hb : K.blks.get b = some o) : h.blks.get b = some o := by rw [hg.get b (hN b o hb)]; exact hb
end Go.Sx
namespace Go.Proofs
open Go.Sx
set_option maxRecDepth 100000
def FldOk (k : Heap) (fs : List AV) (F : Fld) : Prop := ∃ (a b c d e : Nat) (x y z u v : List AV), fs = [.func (.func a) [] x, .func (.func b) [] y, .func (.func c) [] z, .func (.func d) [] u, .func (.func e) [] v] ∧
 ∀ h, Grows k h → Neat h → ∀ (p : Nat) (m : CmdN), z7q h p m → CmdSm m →
  CallTo Tryz.prog Tryz.tab a (.ptr p 0 :: x) h [(.bool (F.ok m), h)] ∧ (F.ok m = true → PowAt h → CallTo Tryz.prog Tryz.tab d (.ptr p 0 :: u) h [(.str (F.tx m), h)]) ∧
  CallTo Tryz.prog Tryz.tab e (.ptr p 0 :: v) h [(.tuple [], z0i h p (some (z0x (F.cl m))))]
theorem FldOk.grow {k k' : Heap} {fs : List AV} {F : Fld} (h : FldOk k fs F) (hg : Grows k k') : FldOk k' fs F := by
 obtain ⟨a, b, c, d, e, x, y, z, u, v, h1, h2⟩ := h
 exact ⟨a, b, c, d, e, x, y, z, u, v, h1, fun h hh => h2 h (hg.trans hh)⟩
def z7Y (H : Heap) (f : FuncId) (F : Fld) : Prop := ∃ fs K, CallTo Tryz.prog Tryz.tab f [] H [(.agg fs, K)] ∧ FldOk K fs F ∧ ltL K.next fs ∧ Grows H K ∧ Neat K
theorem q3U {n : Int} (h : (decide (n ≠ 0) && numB n) = true) : In64 n := by
 simp only [numB, q9b, Bool.and_eq_true, decide_eq_true_eq] at h
 exact ⟨by omega, by omega⟩
theorem z2K {n lo hi : Int} (h : z2S n lo hi = true) (h1 : -9223372036854775808 ≤ lo) (h2 : hi ≤ 9223372036854775807) : In64 n := by
 simp only [z2S, Bool.and_eq_true, decide_eq_true_eq] at h
 exact ⟨by omega, by omega⟩
theorem j5g {n : Int} (h : z2S n 0 18 = true) : In64 n := z2K h (by omega) (by omega)
theorem z6H {H : Heap} {f : FuncId} {F : Fld} {fs : List AV} (h : ∃ v h, (v = AV.agg fs ∧ Grows H h) ∧ H.next ≤ h.next ∧ CallTo Tryz.prog Tryz.tab f [] H [(v, z1Q H h)]) (hl : ∀ n, ltL n fs) (hF : FldOk H fs F) : z7Y H f F := by
 obtain ⟨v, h, ⟨rfl, hg⟩, hle, hc⟩ := h
 have hg' : Grows H (z1Q H h) := ⟨hle, fun b hb => z3T hb hle (hg.get b hb)⟩
 exact ⟨fs, z1Q H h, hc, hF.grow hg', hl _, hg', z1K _ _⟩
theorem j9I (f : Fn) (a b : List AV) : (AV.func f a b).cells = [.func f a b] := rfl
theorem j5h : z0H .nilFunc = true := rfl
theorem t_c5 (H : Heap) (b off : Nat) (x y z w v : AV) : stC H b off [x, y, z, w, v] (some 5) = z4d H b off [x, y, z, w, v] (H.blks.get b) := rfl
theorem t_r5 (e : TypeId) (x : Bool) (a b c d f : AV) : Sx.cellsIn (some (.cells e x [a, b, c, d, f])) 0 5 = some [a, b, c, d, f] := rfl
theorem j8m (at_ off : Nat) (x lo hi : Int) (p b0 b1 b2 : Nat) (H : Heap) (hN : Neat H) (hne : 261 ≠ at_) (q0 : CallTo Tryz.prog Tryz.tab at_ [.ptr p 0] H [(.ptr p off, H)]) (h0 : H.blks.get b0 = some (.cells 255 true [.func (.func at_) [] []]))
  (h1 : H.blks.get b1 = some (.cells 3 true [vi lo])) (h2 : H.blks.get b2 = some (.cells 3 true [vi hi])) (hx : z1c (H.blks.get p) off = some (vi x)) :
  CallTo Tryz.prog Tryz.tab 260 [.ptr p 0, .ptr b0 0, .ptr b1 0, .ptr b2 0] H [(.bool (z2S x lo hi), H)] := by
 refine z0M Tryz.tabOk Tryz.func260 rfl rfl ?_
 show Gets Tryz.prog Tryz.tab ⟨none, 14⟩ _ _ _
 repeat refine Gets.seq ?_
 have q1 := j4J x lo hi H hN
 refine g0_ ?_
 refine gk_ (ov := ptO (ptO noOv 261 [vi x, vi lo, vi hi] H [(.bool (z2S x lo hi), H)]) at_ [.ptr p 0] H [(.ptr p off, H)]) (z0g (z0g z0d q1) q0) [.rd 0, .rd 1, .rd 5, .rd 6, .sm 2, .rd 3, .rd 4, .sm 7, .rd 8] (hN) (y8_ @z0B (fun o => z3P o hne) h0 h1 h2 hx (z0c j6w) (z0c ia3)) ?_
 refine Gets.ret Tryz.tabOk ?_
 exact z0v rfl (sr_ Tryz.f260.eq_1) (.refl _) hN trivial
theorem j8n (at_ off : Nat) (x : Int) (p b0 : Nat) (H : Heap) (hN : Neat H) (hP : PowAt H) (hn : In64 x) (hne : 20 ≠ at_) (q0 : CallTo Tryz.prog Tryz.tab at_ [.ptr p 0] H [(.ptr p off, H)]) (h0 : H.blks.get b0 = some (.cells 255 true [.func (.func at_) [] []]))
  (hx : z1c (H.blks.get p) off = some (vi x)) : CallTo Tryz.prog Tryz.tab 264 [.ptr p 0, .ptr b0 0] H [(.str (z0U x), H)] := by
 refine z0M Tryz.tabOk Tryz.func264 rfl rfl ?_
 show Gets Tryz.prog Tryz.tab ⟨none, 10⟩ _ _ _
 repeat refine Gets.seq ?_
 refine g0_ ?_
 refine o1_ (ov := ptO (z4M noOv 20 ovI) at_ [.ptr p 0] H [(.ptr p off, H)]) (z0g (z2b z0d z7X) q0) (y7_ @z0B (fun o => z3P o hne) (z5O hP hn) h0 hx (z0c j6w) (z0c ia3)) ?_
 refine Gets.ret Tryz.tabOk ?_
 exact z0v rfl (sr_ Tryz.f264.eq_1) (.refl _) hN trivial
theorem j8o (at_ off : Nat) (p b0 : Nat) (c : CmdN) (H : Heap) (hne : 265 ≠ at_) (q0 : CallTo Tryz.prog Tryz.tab at_ [.ptr p 0] H [(.ptr p off, H)]) (h0 : H.blks.get b0 = some (.cells 255 true [.func (.func at_) [] []]))
  (hs : z0P Tryz.tab H 3 (.ptr p off) (vi 0) = some (z0i H p (some (z0x c)))) : CallTo Tryz.prog Tryz.tab 265 [.ptr p 0, .ptr b0 0] H [(.tuple [], z0i H p (some (z0x c)))] := by
 refine z0I Tryz.tabOk (ov := ptO noOv at_ [.ptr p 0] H [(.ptr p off, H)]) (z0g z0d q0) (n := 20) ?_
 rw [z4N]
 simp -implicitDefEqProofs (disch := first | exact d_ | fail) only [sxM, Nat.reduceAdd, reduceCtorEq, Int.reduceToNat, Nat.reduceEqDiff, Int.reduceEq, Int.reduceLT, z4O, z0B, k4x, Tryz.f265, z3P _ hne, one0, h0, hs, z0c j6w]
theorem j8p (at_ ck off : Nat) (x : z0D) (ok : Bool) (p b0 b1 : Nat) (H : Heap) (hN : Neat H) (hne : ck ≠ at_) (q0 : CallTo Tryz.prog Tryz.tab at_ [.ptr p 0] H [(.ptr p off, H)]) (q1 : CallTo Tryz.prog Tryz.tab ck [.str x] H [(.bool ok, H)])
  (h0 : H.blks.get b0 = some (.cells 249 true [.func (.func ck) [] []])) (h1 : H.blks.get b1 = some (.cells 248 true [.func (.func at_) [] []])) (hx : z1c (H.blks.get p) off = some (.str x)) :
  CallTo Tryz.prog Tryz.tab 247 [.ptr p 0, .ptr b0 0, .ptr b1 0] H [(.bool ok, H)] := by
 refine z0M Tryz.tabOk Tryz.func247 rfl rfl ?_
 show Gets Tryz.prog Tryz.tab ⟨none, 12⟩ _ _ _
 repeat refine Gets.seq ?_
 refine g0_ ?_
 refine gk_ (ov := ptO (ptO noOv ck [.str x] H [(.bool ok, H)]) at_ [.ptr p 0] H [(.ptr p off, H)]) (z0g (z0g z0d q1) q0) [.rd 0, .rd 1, .rd 2, .sm 3, .rd 4, .rd 5, .sm 6, .rd 7] (hN) (y8_ @z0B (fun o => z3P o hne) h0 h1 hx (z0c k4r) (z0c j6v) (z0c ia9)) ?_
 refine Gets.ret Tryz.tabOk ?_
 exact z0v rfl (sr_ Tryz.f247.eq_1) (.refl _) hN trivial
theorem j8q (at_ sh off : Nat) (x y : z0D) (p b0 b1 : Nat) (H : Heap) (hN : Neat H) (hne : sh ≠ at_) (q0 : CallTo Tryz.prog Tryz.tab at_ [.ptr p 0] H [(.ptr p off, H)]) (q1 : CallTo Tryz.prog Tryz.tab sh [.str x] H [(.str y, H)])
  (h0 : H.blks.get b0 = some (.cells 250 true [.func (.func sh) [] []])) (h1 : H.blks.get b1 = some (.cells 248 true [.func (.func at_) [] []])) (hx : z1c (H.blks.get p) off = some (.str x)) :
  CallTo Tryz.prog Tryz.tab 250 [.ptr p 0, .ptr b0 0, .ptr b1 0] H [(.str y, H)] := by
 refine z0M Tryz.tabOk Tryz.func250 rfl rfl ?_
 show Gets Tryz.prog Tryz.tab ⟨none, 12⟩ _ _ _
 repeat refine Gets.seq ?_
 refine g0_ ?_
 refine gk_ (ov := ptO (ptO noOv sh [.str x] H [(.str y, H)]) at_ [.ptr p 0] H [(.ptr p off, H)]) (z0g (z0g z0d q1) q0) [.rd 0, .rd 1, .rd 2, .sm 3, .rd 4, .rd 5, .sm 6, .rd 7] (hN) (y8_ @z0B (fun o => z3P o hne) h0 h1 hx (z0c k4s) (z0c j6v) (z0c ia9)) ?_
 refine Gets.ret Tryz.tabOk ?_
 exact z0v rfl (sr_ Tryz.f250.eq_1) (.refl _) hN trivial
theorem j8r (at_ off : Nat) (p b0 : Nat) (c : CmdN) (H : Heap) (hne : 251 ≠ at_) (q0 : CallTo Tryz.prog Tryz.tab at_ [.ptr p 0] H [(.ptr p off, H)]) (h0 : H.blks.get b0 = some (.cells 248 true [.func (.func at_) [] []]))
  (hs : z0P Tryz.tab H 9 (.ptr p off) (.str []) = some (z0i H p (some (z0x c)))) : CallTo Tryz.prog Tryz.tab 251 [.ptr p 0, .ptr b0 0] H [(.tuple [], z0i H p (some (z0x c)))] := by
 refine z0I Tryz.tabOk (ov := ptO noOv at_ [.ptr p 0] H [(.ptr p off, H)]) (z0g z0d q0) (n := 20) ?_
 rw [z4N]
 simp -implicitDefEqProofs (disch := first | exact d_ | fail) only [sxM, Nat.reduceAdd, reduceCtorEq, Int.reduceToNat, Nat.reduceEqDiff, Int.reduceEq, Int.reduceLT, z4O, z0B, k4t, Tryz.f251, z3P _ hne, one0, h0, hs, z0c j6v]
end Go.Proofs
namespace Go.Proofs
open Go.Sx
set_option maxRecDepth 100000
theorem q0W : Tryz.tab.zero 109 = some (.agg [.nilFunc, .nilFunc, .nilFunc, .nilFunc, .nilFunc]) := by kernel_rfl
abbrev fl5 (a b c d e : Nat) (x y z u v : List AV) : List AV := [.func (.func a) [] x, .func (.func b) [] y, .func (.func c) [] z, .func (.func d) [] u, .func (.func e) [] v]
theorem q3V (a b c d e : Nat) (x y z u v : List AV) : z7y Tryz.tab 109 [(0, .func (.func a) [] x), (1, .func (.func b) [] y), (2, .func (.func c) [] z), (3, .func (.func d) [] u), (4, .func (.func e) [] v)] = some (.agg (fl5 a b c d e x y z u v)) := by kernel_rfl
set_option linter.defProp false
def z9i := y2_ @q0W @j5h
def j1b := y4_ @q3V @stL @t_c5 @z4c
theorem k2O (H : Heap) (hN : Neat H) : z7Y H 69 fEff := by
 refine z6H (z2m (R := fun v h => v = .agg (fl5 128 130 132 134 136 [] [] [] [] []) ∧ Grows H h) Tryz.tabOk Tryz.func69 rfl rfl (args := []) (H := H) ?_) (fun _ => by simp [ltL, ltV])
  ⟨_, _, _, _, _, _, _, _, _, _, rfl, fun h _ hN p c hc hb => ⟨j8b c p h hN hc, fun e hP => j8c c p h hN hc e hP, j8f c p h hc.1⟩⟩
 show GetsE Tryz.prog Tryz.tab ⟨none, 2⟩ _ _ _
 repeat refine GetsE.seq ?_
 refine g1x_ z9i ?_
 refine g1x_ j1b ?_
 refine GetsE.ret Tryz.tabOk ?_
 exact z7U (vs := [.agg (fl5 128 130 132 134 136 [] [] [] [] [])]) (R := fun v h => v = .agg (fl5 128 130 132 134 136 [] [] [] [] []) ∧ Grows H h) rfl (sq1_ (y5_ Tryz.f69.eq_1 (z0o z6J z4c) @z0J @t_r5 @stL)) (fl_) (by simp [z1T, ltV, ltL]) ⟨rfl, ⟨fl_, fun b hb => fo_⟩⟩
theorem j5i (H : Heap) (hN : Neat H) : z7Y H 71 fDelta := by
 refine z6H (z2m (R := fun v h => v = .agg (fl5 141 142 144 146 147 [] [] [] [] []) ∧ Grows H h) Tryz.tabOk Tryz.func71 rfl rfl (args := []) (H := H) ?_) (fun _ => by simp [ltL, ltV])
  ⟨_, _, _, _, _, _, _, _, _, _, rfl, fun h _ hN p c hc hb => ⟨j0Y c p h hN hc, fun e hP => j0Z c p h hN hc (q3U e) hP, j0X c p h hc.1⟩⟩
 show GetsE Tryz.prog Tryz.tab ⟨none, 2⟩ _ _ _
 repeat refine GetsE.seq ?_
 refine g1x_ z9i ?_
 refine g1x_ j1b ?_
 refine GetsE.ret Tryz.tabOk ?_
 exact z7U (vs := [.agg (fl5 141 142 144 146 147 [] [] [] [] [])]) (R := fun v h => v = .agg (fl5 141 142 144 146 147 [] [] [] [] []) ∧ Grows H h) rfl (sq1_ (y5_ Tryz.f71.eq_1 (z0o z6J z4c) @z0J @t_r5 @stL)) (fl_) (by simp [z1T, ltV, ltL]) ⟨rfl, ⟨fl_, fun b hb => fo_⟩⟩
theorem q0X (H : Heap) (hN : Neat H) : z7Y H 74 fRange := by
 refine z6H (z2m (R := fun v h => v = .agg (fl5 151 153 155 157 159 [] [] [] [] []) ∧ Grows H h) Tryz.tabOk Tryz.func74 rfl rfl (args := []) (H := H) ?_) (fun _ => by simp [ltL, ltV])
  ⟨_, _, _, _, _, _, _, _, _, _, rfl, fun h _ hN p c hc hb => ⟨j0U c p h hN hc hb, fun e hP => j0V c p h hN hc hb e, j0W c p h hc.1⟩⟩
 show GetsE Tryz.prog Tryz.tab ⟨none, 2⟩ _ _ _
 repeat refine GetsE.seq ?_
 refine g1x_ z9i ?_
 refine g1x_ j1b ?_
 refine GetsE.ret Tryz.tabOk ?_
 exact z7U (vs := [.agg (fl5 151 153 155 157 159 [] [] [] [] [])]) (R := fun v h => v = .agg (fl5 151 153 155 157 159 [] [] [] [] []) ∧ Grows H h) rfl (sq1_ (y5_ Tryz.f74.eq_1 (z0o z6J z4c) @z0J @t_r5 @stL)) (fl_) (by simp [z1T, ltV, ltL]) ⟨rfl, ⟨fl_, fun b hb => fo_⟩⟩
theorem k2P (H : Heap) (hN : Neat H) : z7Y H 77 fDef := by
 refine z6H (z2m (R := fun v h => v = .agg (fl5 164 166 168 171 173 [] [] [] [] []) ∧ Grows H h) Tryz.tabOk Tryz.func77 rfl rfl (args := []) (H := H) ?_) (fun _ => by simp [ltL, ltV])
  ⟨_, _, _, _, _, _, _, _, _, _, rfl, fun h _ hN p c hc hb => ⟨j8d c p h hN hc hb, fun e hP => j8e c p h hN hc hb e hP, j8g c p h hc.1⟩⟩
 show GetsE Tryz.prog Tryz.tab ⟨none, 2⟩ _ _ _
 repeat refine GetsE.seq ?_
 refine g1x_ z9i ?_
 refine g1x_ j1b ?_
 refine GetsE.ret Tryz.tabOk ?_
 exact z7U (vs := [.agg (fl5 164 166 168 171 173 [] [] [] [] [])]) (R := fun v h => v = .agg (fl5 164 166 168 171 173 [] [] [] [] []) ∧ Grows H h) rfl (sq1_ (y5_ Tryz.f77.eq_1 (z0o z6J z4c) @z0J @t_r5 @stL)) (fl_) (by simp [z1T, ltV, ltL]) ⟨rfl, ⟨fl_, fun b hb => fo_⟩⟩
theorem j8s (H : Heap) (hN : Neat H) : z7Y H 79 fItem := by
 refine z6H (z2m (R := fun v h => v = .agg (fl5 175 177 179 181 183 [] [] [] [] []) ∧ Grows H h) Tryz.tabOk Tryz.func79 rfl rfl (args := []) (H := H) ?_) (fun _ => by simp [ltL, ltV])
  ⟨_, _, _, _, _, _, _, _, _, _, rfl, fun h _ hN p c hc hb => ⟨j4X c p h hN hc, fun e hP => j4Y c p h hN hc e hP, j4Z c p h hc.1⟩⟩
 show GetsE Tryz.prog Tryz.tab ⟨none, 2⟩ _ _ _
 repeat refine GetsE.seq ?_
 refine g1x_ z9i ?_
 refine g1x_ j1b ?_
 refine GetsE.ret Tryz.tabOk ?_
 exact z7U (vs := [.agg (fl5 175 177 179 181 183 [] [] [] [] [])]) (R := fun v h => v = .agg (fl5 175 177 179 181 183 [] [] [] [] []) ∧ Grows H h) rfl (sq1_ (y5_ Tryz.f79.eq_1 (z0o z6J z4c) @z0J @t_r5 @stL)) (fl_) (by simp [z1T, ltV, ltL]) ⟨rfl, ⟨fl_, fun b hb => fo_⟩⟩
theorem k2Q (H : Heap) (hN : Neat H) : z7Y H 80 fRes := by
 refine z6H (z2m (R := fun v h => v = .agg (fl5 184 185 186 187 188 [] [] [] [] []) ∧ Grows H h) Tryz.tabOk Tryz.func80 rfl rfl (args := []) (H := H) ?_) (fun _ => by simp [ltL, ltV])
  ⟨_, _, _, _, _, _, _, _, _, _, rfl, fun h _ hN p c hc hb => ⟨j8i c p h hN hc, fun e hP => j8j c p h hN hc (j5g e) hP, j8h c p h hc.1⟩⟩
 show GetsE Tryz.prog Tryz.tab ⟨none, 2⟩ _ _ _
 repeat refine GetsE.seq ?_
 refine g1x_ z9i ?_
 refine g1x_ j1b ?_
 refine GetsE.ret Tryz.tabOk ?_
 exact z7U (vs := [.agg (fl5 184 185 186 187 188 [] [] [] [] [])]) (R := fun v h => v = .agg (fl5 184 185 186 187 188 [] [] [] [] []) ∧ Grows H h) rfl (sq1_ (y5_ Tryz.f80.eq_1 (z0o z6J z4c) @z0J @t_r5 @stL)) (fl_) (by simp [z1T, ltV, ltL]) ⟨rfl, ⟨fl_, fun b hb => fo_⟩⟩
abbrev z5 : ABlk := .cells 109 true [.nilFunc, .nilFunc, .nilFunc, .nilFunc, .nilFunc]
abbrev q3W (at_ : Nat) (lo hi : Int) (n : Nat) (h : Heap) : Prop := h.blks.get n = some (.cells 255 true [.func (.func at_) [] []]) ∧ h.blks.get (n + 1) = some (.cells 3 true [vi lo]) ∧ h.blks.get (n + 2) = some (.cells 3 true [vi hi])
abbrev numV (n : Nat) : List AV := fl5 260 262 263 264 265 [.ptr n 0, .ptr (n + 1) 0, .ptr (n + 2) 0] [.ptr n 0] [.ptr (n + 2) 0, .ptr n 0] [.ptr n 0] [.ptr n 0]
theorem z7Z (at_ : Nat) (lo hi : Int) (H : Heap) (hN : Neat H) : ∃ v h, (v = .agg (numV H.next) ∧ Grows H h ∧ q3W at_ lo hi H.next h ∧ Neat h ∧ H.next + 2 < h.next) ∧ H.next ≤ h.next ∧ CallTo Tryz.prog Tryz.tab 148 [.func (.func at_) [] [], vi lo, vi hi] H [(v, z1Q H h)] := by
 refine z2m Tryz.tabOk Tryz.func148 rfl rfl ?_
 show GetsE Tryz.prog Tryz.tab ⟨none, 13⟩ _ _ _
 repeat refine GetsE.seq ?_
 refine g1x_ (y5_ @q0W @j5h @j9I (z0c j6w) (z0c ia3)) ?_
 refine g1x_ (y5_ @j3O @q3V @stL @t_c5 @z4c) ?_
 refine GetsE.ret Tryz.tabOk ?_
 exact z7U (vs := [.agg (numV H.next)]) (R := fun v h => v = .agg (numV H.next) ∧ Grows H h ∧ q3W at_ lo hi H.next h ∧ Neat h ∧ H.next + 2 < h.next) rfl (sq1_ (y5_ Tryz.f148.eq_1 (z0o z6J z4c) @z0J @t_r5 @stL)) (fl_) (by (try dsimp only); simp only [z1T, ltV, ltL, z0n, z0f, true_and, and_true]; omega) ⟨rfl, ⟨fl_, fun b hb => fo_⟩, ⟨fo_, fo_, fo_⟩, (by repeat' (first | exact hN | exact aN | exact bN | (refine Neat.push ?_ _) | (refine Neat.put ?_ (by ((try dsimp only); (try simp only [z0n, z0f]); omega)) _))), fl_⟩
theorem q9k {K : Heap} {at_ off : Nat} {lo hi : Int} {n : Nat} {g : CmdN → Int} {F : Fld} (hx : ∀ c, F.ok c = z2S (g c) lo hi) (ht : ∀ c, F.tx c = z0U (g c)) (h1 : -9223372036854775808 ≤ lo) (h2 : hi ≤ 9223372036854775807) (hne : 261 ≠ at_) (hne' : 20 ≠ at_) (hne5 : 265 ≠ at_)
  (qa : ∀ h, Neat h → ∀ p c, z7q h p c → CallTo Tryz.prog Tryz.tab at_ [.ptr p 0] h [(.ptr p off, h)]) (hr : ∀ c, z1c (some (z0x c)) off = some (vi (g c)))
  (hs : ∀ h p c, h.blks.get p = some (z0x c) → z0P Tryz.tab h 3 (.ptr p off) (vi 0) = some (z0i h p (some (z0x (F.cl c))))) (hK : q3W at_ lo hi n K) (hKN : Neat K) : FldOk K (numV n) F :=
 ⟨_, _, _, _, _, _, _, _, _, _, rfl, fun h hg hN p c hc hb => by
  have b0 := hg.some_ hKN hK.1
  have b1 := hg.some_ hKN hK.2.1
  have b2 := hg.some_ hKN hK.2.2
  have hx' : z1c (h.blks.get p) off = some (vi (g c)) := by rw [hc.1]; exact hr c
  refine ⟨?_, fun e hP => ?_, ?_⟩
  ·rw [hx]; exact j8m at_ off (g c) lo hi p n (n + 1) (n + 2) h hN hne (qa h hN p c hc) b0 b1 b2 hx'
  ·rw [ht]; exact j8n at_ off (g c) p n h hN hP (z2K (by rw [← hx]; exact e) h1 h2) hne' (qa h hN p c hc) b0 hx'
  ·exact j8o at_ off p n _ h hne5 (qa h hN p c hc) b0 (hs h p c hc.1)⟩
theorem z4b {H h : Heap} {f : FuncId} {F : Fld} {fs : List AV} (hg : Grows H h) (hc : CallTo Tryz.prog Tryz.tab f [] H [(.agg fs, z1Q H h)]) (hF : FldOk (z1Q H h) fs F) (hl : ltL h.next fs) : z7Y H f F :=
 ⟨fs, z1Q H h, hc, hF, hl, ⟨hg.next, fun b hb => z3T hb hg.next (hg.get b hb)⟩, z1K _ _⟩
theorem z2X {at_ : Nat} {lo hi : Int} {n : Nat} {H h : Heap} (hN : Neat h) (hb : q3W at_ lo hi n h) : q3W at_ lo hi n (z1Q H h) :=
 ⟨z5L hN hb.1 ⟨⟨trivial, trivial⟩, trivial⟩, z5L hN hb.2.1 ⟨trivial, trivial⟩, z5L hN hb.2.2 ⟨trivial, trivial⟩⟩
def j1c := y4_ @z0B @stL @t_c5 @z4c
theorem z8a (H : Heap) (hN : Neat H) : z7Y H 72 fCall := by
 obtain ⟨v, k, ⟨rfl, kg, kb, kN, kl⟩, -, hc⟩ := z7Z 149 0 2147483648 (H.push z5) (hN.push z5)
 have kg' : Grows (H.push z5) (z1Q (H.push z5) k) := ⟨kg.next, fun b hb => z3T hb kg.next (kg.get b hb)⟩
 have kb' := z2X (H := H.push z5) kN kb
 have kz : (z1Q (H.push z5) k).blks.get H.next = some z5 := kg'.some_ (hN.push z5) (fo_)
 have kN' := z1K (H.push z5) k
 have kl' : H.next + 1 + 2 < (z1Q (H.push z5) k).next := kl
 obtain ⟨K, hK⟩ : ∃ K, K = z1Q (H.push z5) k := ⟨_, rfl⟩
 rw [← hK] at hc kg' kb' kz kN' kl'
 have hgr : Grows H (z0i K H.next (some (.cells 109 true (numV (H.next + 1))))) := ⟨by have := kg'.next; ((try dsimp only); (try simp only [z0n, z0f]); omega), fun b hb => by rw [z0l _ _ _ (by omega), kg'.get b (fl_), z0r _ _ (by omega)]⟩
 have hbs : q3W 149 0 2147483648 (H.next + 1) (z0i K H.next (some (.cells 109 true (numV (H.next + 1))))) :=
  ⟨by rw [z0l _ _ _ (by omega)]; exact kb'.1, by rw [z0l _ _ _ (by omega)]; exact kb'.2.1, by rw [z0l _ _ _ (by omega)]; exact kb'.2.2⟩
 have hNs : Neat (z0i K H.next (some (.cells 109 true (numV (H.next + 1))))) := Neat.put kN' (by omega) _
 obtain ⟨v, h, ⟨rfl, rfl⟩, -, hm⟩ := z2m (R := fun v h => v = .agg (numV (H.next + 1)) ∧ h = z0i K H.next (some (.cells 109 true (numV (H.next + 1))))) Tryz.tabOk Tryz.func72 rfl rfl (args := []) (H := H) (by
  show GetsE Tryz.prog Tryz.tab ⟨none, 2⟩ _ _ _
  repeat refine GetsE.seq ?_
  refine g1x_ z9i ?_
  refine o1x_ (z0g z0d hc) (y2_ j1c kz) ?_
  refine GetsE.ret Tryz.tabOk ?_
  exact z7U (vs := [.agg (numV (H.next + 1))]) (R := fun v h => v = .agg (numV (H.next + 1)) ∧ h = z0i K H.next (some (.cells 109 true (numV (H.next + 1))))) rfl (sq1_ (y5_ Tryz.f72.eq_1 (z0o z6J z4c) @z0J @t_r5 @stL)) (by have := hgr.next; ((try dsimp only); (try simp only [z0n, z0f]); omega)) (by (try dsimp only); simp only [z1T, ltV, ltL, z0f, true_and, and_true]; omega) ⟨rfl, rfl⟩)
 exact z4b hgr hm (q9k (g := fun c => c.call) (off := 1) (fun _ => rfl) (fun _ => rfl) (by omega) (by omega) (by decide) (by decide) (by decide) (fun h hN p c hc => j5a c p h hN (hN p _ hc.1)) (fun _ => rfl) (fun h p c hc => k6G hc) (z2X hNs hbs) (z1K _ _)) (by simp only [ltV, ltL, z0f, true_and, and_true]; omega)
theorem q3X (H : Heap) (hN : Neat H) : z7Y H 76 fSaga := by
 obtain ⟨v, k, ⟨rfl, kg, kb, kN, kl⟩, -, hc⟩ := z7Z 163 1 9999 (H.push z5) (hN.push z5)
 have kg' : Grows (H.push z5) (z1Q (H.push z5) k) := ⟨kg.next, fun b hb => z3T hb kg.next (kg.get b hb)⟩
 have kb' := z2X (H := H.push z5) kN kb
 have kz : (z1Q (H.push z5) k).blks.get H.next = some z5 := kg'.some_ (hN.push z5) (fo_)
 have kN' := z1K (H.push z5) k
 have kl' : H.next + 1 + 2 < (z1Q (H.push z5) k).next := kl
 obtain ⟨K, hK⟩ : ∃ K, K = z1Q (H.push z5) k := ⟨_, rfl⟩
 rw [← hK] at hc kg' kb' kz kN' kl'
 have hgr : Grows H (z0i K H.next (some (.cells 109 true (numV (H.next + 1))))) := ⟨by have := kg'.next; ((try dsimp only); (try simp only [z0n, z0f]); omega), fun b hb => by rw [z0l _ _ _ (by omega), kg'.get b (fl_), z0r _ _ (by omega)]⟩
 have hbs : q3W 163 1 9999 (H.next + 1) (z0i K H.next (some (.cells 109 true (numV (H.next + 1))))) :=
  ⟨by rw [z0l _ _ _ (by omega)]; exact kb'.1, by rw [z0l _ _ _ (by omega)]; exact kb'.2.1, by rw [z0l _ _ _ (by omega)]; exact kb'.2.2⟩
 have hNs : Neat (z0i K H.next (some (.cells 109 true (numV (H.next + 1))))) := Neat.put kN' (by omega) _
 obtain ⟨v, h, ⟨rfl, rfl⟩, -, hm⟩ := z2m (R := fun v h => v = .agg (numV (H.next + 1)) ∧ h = z0i K H.next (some (.cells 109 true (numV (H.next + 1))))) Tryz.tabOk Tryz.func76 rfl rfl (args := []) (H := H) (by
  show GetsE Tryz.prog Tryz.tab ⟨none, 2⟩ _ _ _
  repeat refine GetsE.seq ?_
  refine g1x_ z9i ?_
  refine o1x_ (z0g z0d hc) (y2_ j1c kz) ?_
  refine GetsE.ret Tryz.tabOk ?_
  exact z7U (vs := [.agg (numV (H.next + 1))]) (R := fun v h => v = .agg (numV (H.next + 1)) ∧ h = z0i K H.next (some (.cells 109 true (numV (H.next + 1))))) rfl (sq1_ (y5_ Tryz.f76.eq_1 (z0o z6J z4c) @z0J @t_r5 @stL)) (by have := hgr.next; ((try dsimp only); (try simp only [z0n, z0f]); omega)) (by (try dsimp only); simp only [z1T, ltV, ltL, z0f, true_and, and_true]; omega) ⟨rfl, rfl⟩)
 exact z4b hgr hm (q9k (g := fun c => c.saga) (off := 2) (fun _ => rfl) (fun _ => rfl) (by omega) (by omega) (by decide) (by decide) (by decide) (fun h hN p c hc => j5b c p h hN (hN p _ hc.1)) (fun _ => rfl) (fun h p c hc => k6H hc) (z2X hNs hbs) (z1K _ _)) (by simp only [ltV, ltL, z0f, true_and, and_true]; omega)
theorem q9l (H : Heap) (hN : Neat H) : z7Y H 73 fMove := by
 obtain ⟨v, k, ⟨rfl, kg, kb, kN, kl⟩, -, hc⟩ := z7Z 150 1 64 (H.push z5) (hN.push z5)
 have kg' : Grows (H.push z5) (z1Q (H.push z5) k) := ⟨kg.next, fun b hb => z3T hb kg.next (kg.get b hb)⟩
 have kb' := z2X (H := H.push z5) kN kb
 have kz : (z1Q (H.push z5) k).blks.get H.next = some z5 := kg'.some_ (hN.push z5) (fo_)
 have kN' := z1K (H.push z5) k
 have kl' : H.next + 1 + 2 < (z1Q (H.push z5) k).next := kl
 obtain ⟨K, hK⟩ : ∃ K, K = z1Q (H.push z5) k := ⟨_, rfl⟩
 rw [← hK] at hc kg' kb' kz kN' kl'
 have hgr : Grows H (z0i K H.next (some (.cells 109 true (numV (H.next + 1))))) := ⟨by have := kg'.next; ((try dsimp only); (try simp only [z0n, z0f]); omega), fun b hb => by rw [z0l _ _ _ (by omega), kg'.get b (fl_), z0r _ _ (by omega)]⟩
 have hbs : q3W 150 1 64 (H.next + 1) (z0i K H.next (some (.cells 109 true (numV (H.next + 1))))) :=
  ⟨by rw [z0l _ _ _ (by omega)]; exact kb'.1, by rw [z0l _ _ _ (by omega)]; exact kb'.2.1, by rw [z0l _ _ _ (by omega)]; exact kb'.2.2⟩
 have hNs : Neat (z0i K H.next (some (.cells 109 true (numV (H.next + 1))))) := Neat.put kN' (by omega) _
 obtain ⟨v, h, ⟨rfl, rfl⟩, -, hm⟩ := z2m (R := fun v h => v = .agg (numV (H.next + 1)) ∧ h = z0i K H.next (some (.cells 109 true (numV (H.next + 1))))) Tryz.tabOk Tryz.func73 rfl rfl (args := []) (H := H) (by
  show GetsE Tryz.prog Tryz.tab ⟨none, 2⟩ _ _ _
  repeat refine GetsE.seq ?_
  refine g1x_ z9i ?_
  refine o1x_ (z0g z0d hc) (y2_ j1c kz) ?_
  refine GetsE.ret Tryz.tabOk ?_
  exact z7U (vs := [.agg (numV (H.next + 1))]) (R := fun v h => v = .agg (numV (H.next + 1)) ∧ h = z0i K H.next (some (.cells 109 true (numV (H.next + 1))))) rfl (sq1_ (y5_ Tryz.f73.eq_1 (z0o z6J z4c) @z0J @t_r5 @stL)) (by have := hgr.next; ((try dsimp only); (try simp only [z0n, z0f]); omega)) (by (try dsimp only); simp only [z1T, ltV, ltL, z0f, true_and, and_true]; omega) ⟨rfl, rfl⟩)
 exact z4b hgr hm (q9k (g := fun c => c.move) (off := 8) (fun _ => rfl) (fun _ => rfl) (by omega) (by omega) (by decide) (by decide) (by decide) (fun h hN p c hc => j5c c p h hN (hN p _ hc.1)) (fun _ => rfl) (fun h p c hc => k6I hc) (z2X hNs hbs) (z1K _ _)) (by simp only [ltV, ltL, z0f, true_and, and_true]; omega)
theorem j5j (H : Heap) (hN : Neat H) : z7Y H 78 fGroup := by
 obtain ⟨v, k, ⟨rfl, kg, kb, kN, kl⟩, -, hc⟩ := z7Z 174 1 7 (H.push z5) (hN.push z5)
 have kg' : Grows (H.push z5) (z1Q (H.push z5) k) := ⟨kg.next, fun b hb => z3T hb kg.next (kg.get b hb)⟩
 have kb' := z2X (H := H.push z5) kN kb
 have kz : (z1Q (H.push z5) k).blks.get H.next = some z5 := kg'.some_ (hN.push z5) (fo_)
 have kN' := z1K (H.push z5) k
 have kl' : H.next + 1 + 2 < (z1Q (H.push z5) k).next := kl
 obtain ⟨K, hK⟩ : ∃ K, K = z1Q (H.push z5) k := ⟨_, rfl⟩
 rw [← hK] at hc kg' kb' kz kN' kl'
 have hgr : Grows H (z0i K H.next (some (.cells 109 true (numV (H.next + 1))))) := ⟨by have := kg'.next; ((try dsimp only); (try simp only [z0n, z0f]); omega), fun b hb => by rw [z0l _ _ _ (by omega), kg'.get b (fl_), z0r _ _ (by omega)]⟩
 have hbs : q3W 174 1 7 (H.next + 1) (z0i K H.next (some (.cells 109 true (numV (H.next + 1))))) :=
  ⟨by rw [z0l _ _ _ (by omega)]; exact kb'.1, by rw [z0l _ _ _ (by omega)]; exact kb'.2.1, by rw [z0l _ _ _ (by omega)]; exact kb'.2.2⟩
 have hNs : Neat (z0i K H.next (some (.cells 109 true (numV (H.next + 1))))) := Neat.put kN' (by omega) _
 obtain ⟨v, h, ⟨rfl, rfl⟩, -, hm⟩ := z2m (R := fun v h => v = .agg (numV (H.next + 1)) ∧ h = z0i K H.next (some (.cells 109 true (numV (H.next + 1))))) Tryz.tabOk Tryz.func78 rfl rfl (args := []) (H := H) (by
  show GetsE Tryz.prog Tryz.tab ⟨none, 2⟩ _ _ _
  repeat refine GetsE.seq ?_
  refine g1x_ z9i ?_
  refine o1x_ (z0g z0d hc) (y2_ j1c kz) ?_
  refine GetsE.ret Tryz.tabOk ?_
  exact z7U (vs := [.agg (numV (H.next + 1))]) (R := fun v h => v = .agg (numV (H.next + 1)) ∧ h = z0i K H.next (some (.cells 109 true (numV (H.next + 1))))) rfl (sq1_ (y5_ Tryz.f78.eq_1 (z0o z6J z4c) @z0J @t_r5 @stL)) (by have := hgr.next; ((try dsimp only); (try simp only [z0n, z0f]); omega)) (by (try dsimp only); simp only [z1T, ltV, ltL, z0f, true_and, and_true]; omega) ⟨rfl, rfl⟩)
 exact z4b hgr hm (q9k (g := fun c => c.group) (off := 11) (fun _ => rfl) (fun _ => rfl) (by omega) (by omega) (by decide) (by decide) (by decide) (fun h hN p c hc => j1a c p h hN (hN p _ hc.1)) (fun _ => rfl) (fun h p c hc => k2F hc) (z2X hNs hbs) (z1K _ _)) (by simp only [ltV, ltL, z0f, true_and, and_true]; omega)
abbrev q7G (at_ ck sh n : Nat) (h : Heap) : Prop := h.blks.get n = some (.cells 248 true [.func (.func at_) [] []]) ∧ h.blks.get (n + 1) = some (.cells 249 true [.func (.func ck) [] []]) ∧ h.blks.get (n + 2) = some (.cells 250 true [.func (.func sh) [] []])
abbrev txtV (n : Nat) : List AV := fl5 247 248 249 250 251 [.ptr (n + 1) 0, .ptr n 0] [.ptr n 0] [.ptr n 0] [.ptr (n + 2) 0, .ptr n 0] [.ptr n 0]
theorem j5k (at_ ck sh : Nat) (H : Heap) (hN : Neat H) : ∃ v h, (v = .agg (txtV H.next) ∧ Grows H h ∧ q7G at_ ck sh H.next h ∧ Neat h ∧ H.next + 2 < h.next) ∧ H.next ≤ h.next ∧ CallTo Tryz.prog Tryz.tab 137 [.func (.func at_) [] [], .func (.func ck) [] [], .func (.func sh) [] []] H [(v, z1Q H h)] := by
 refine z2m Tryz.tabOk Tryz.func137 rfl rfl ?_
 show GetsE Tryz.prog Tryz.tab ⟨none, 13⟩ _ _ _
 repeat refine GetsE.seq ?_
 refine g1x_ (y6_ @q0W @j5h @j9I (z0c j6v) (z0c k4r) (z0c k4s)) ?_
 refine g1x_ (y5_ @j3O @q3V @stL @t_c5 @z4c) ?_
 refine GetsE.ret Tryz.tabOk ?_
 exact z7U (vs := [.agg (txtV H.next)]) (R := fun v h => v = .agg (txtV H.next) ∧ Grows H h ∧ q7G at_ ck sh H.next h ∧ Neat h ∧ H.next + 2 < h.next) rfl (sq1_ (y5_ Tryz.f137.eq_1 (z0o z6J z4c) @z0J @t_r5 @stL)) (fl_) (by (try dsimp only); simp only [z1T, ltV, ltL, z0n, z0f, true_and, and_true]; omega) ⟨rfl, ⟨fl_, fun b hb => fo_⟩, ⟨fo_, fo_, fo_⟩, (by repeat' (first | exact hN | exact aN | exact bN | (refine Neat.push ?_ _) | (refine Neat.put ?_ (by ((try dsimp only); (try simp only [z0n, z0f]); omega)) _))), fl_⟩
theorem j9J {K : Heap} {at_ ck sh off : Nat} {n : Nat} {g : CmdN → z0D} {F : Fld} (hne : ck ≠ at_) (hne' : sh ≠ at_) (hne5 : 251 ≠ at_)
  (qa : ∀ h, Neat h → ∀ p c, z7q h p c → CallTo Tryz.prog Tryz.tab at_ [.ptr p 0] h [(.ptr p off, h)]) (q1 : ∀ h, Neat h → ∀ c, CmdSm c → CallTo Tryz.prog Tryz.tab ck [.str (g c)] h [(.bool (F.ok c), h)])
  (q2 : ∀ h, Neat h → PowAt h → ∀ c, CmdSm c → CallTo Tryz.prog Tryz.tab sh [.str (g c)] h [(.str (F.tx c), h)]) (hr : ∀ c, z1c (some (z0x c)) off = some (.str (g c)))
  (hs : ∀ h p c, h.blks.get p = some (z0x c) → z0P Tryz.tab h 9 (.ptr p off) (.str []) = some (z0i h p (some (z0x (F.cl c))))) (hK : q7G at_ ck sh n K) (hKN : Neat K) : FldOk K (txtV n) F :=
 ⟨_, _, _, _, _, _, _, _, _, _, rfl, fun h hg hN p c hc hb => by
  have b0 := hg.some_ hKN hK.1
  have b1 := hg.some_ hKN hK.2.1
  have b2 := hg.some_ hKN hK.2.2
  have hx' : z1c (h.blks.get p) off = some (.str (g c)) := by rw [hc.1]; exact hr c
  exact ⟨j8p at_ ck off (g c) _ p (n + 1) n h hN hne (qa h hN p c hc) (q1 h hN c hb) b1 b0 hx', fun e hP => j8q at_ sh off (g c) _ p (n + 2) n h hN hne' (qa h hN p c hc) (q2 h hN hP c hb) b2 b0 hx', j8r at_ off p n _ h hne5 (qa h hN p c hc) b0 (hs h p c hc.1)⟩⟩
theorem z6I {at_ ck sh n : Nat} {H h : Heap} (hN : Neat h) (hb : q7G at_ ck sh n h) : q7G at_ ck sh n (z1Q H h) :=
 ⟨z5L hN hb.1 ⟨⟨trivial, trivial⟩, trivial⟩, z5L hN hb.2.1 ⟨⟨trivial, trivial⟩, trivial⟩, z5L hN hb.2.2 ⟨⟨trivial, trivial⟩, trivial⟩⟩
theorem j5l (H : Heap) (hN : Neat H) : z7Y H 70 fKey := by
 obtain ⟨v, k, ⟨rfl, kg, kb, kN, kl⟩, -, hc⟩ := j5k 138 139 140 (H.push z5) (hN.push z5)
 have kg' : Grows (H.push z5) (z1Q (H.push z5) k) := ⟨kg.next, fun b hb => z3T hb kg.next (kg.get b hb)⟩
 have kb' := z6I (H := H.push z5) kN kb
 have kz : (z1Q (H.push z5) k).blks.get H.next = some z5 := kg'.some_ (hN.push z5) (fo_)
 have kN' := z1K (H.push z5) k
 have kl' : H.next + 1 + 2 < (z1Q (H.push z5) k).next := kl
 obtain ⟨K, hK⟩ : ∃ K, K = z1Q (H.push z5) k := ⟨_, rfl⟩
 rw [← hK] at hc kg' kb' kz kN' kl'
 have hgr : Grows H (z0i K H.next (some (.cells 109 true (txtV (H.next + 1))))) := ⟨by have := kg'.next; ((try dsimp only); (try simp only [z0n, z0f]); omega), fun b hb => by rw [z0l _ _ _ (by omega), kg'.get b (fl_), z0r _ _ (by omega)]⟩
 have hbs : q7G 138 139 140 (H.next + 1) (z0i K H.next (some (.cells 109 true (txtV (H.next + 1))))) :=
  ⟨by rw [z0l _ _ _ (by omega)]; exact kb'.1, by rw [z0l _ _ _ (by omega)]; exact kb'.2.1, by rw [z0l _ _ _ (by omega)]; exact kb'.2.2⟩
 have hNs : Neat (z0i K H.next (some (.cells 109 true (txtV (H.next + 1))))) := Neat.put kN' (by omega) _
 obtain ⟨v, h, ⟨rfl, rfl⟩, -, hm⟩ := z2m (R := fun v h => v = .agg (txtV (H.next + 1)) ∧ h = z0i K H.next (some (.cells 109 true (txtV (H.next + 1))))) Tryz.tabOk Tryz.func70 rfl rfl (args := []) (H := H) (by
  show GetsE Tryz.prog Tryz.tab ⟨none, 2⟩ _ _ _
  repeat refine GetsE.seq ?_
  refine g1x_ z9i ?_
  refine o1x_ (z0g z0d hc) (y2_ j1c kz) ?_
  refine GetsE.ret Tryz.tabOk ?_
  exact z7U (vs := [.agg (txtV (H.next + 1))]) (R := fun v h => v = .agg (txtV (H.next + 1)) ∧ h = z0i K H.next (some (.cells 109 true (txtV (H.next + 1))))) rfl (sq1_ (y5_ Tryz.f70.eq_1 (z0o z6J z4c) @z0J @t_r5 @stL)) (by have := hgr.next; ((try dsimp only); (try simp only [z0n, z0f]); omega)) (by (try dsimp only); simp only [z1T, ltV, ltL, z0f, true_and, and_true]; omega) ⟨rfl, rfl⟩)
 exact z4b hgr hm (j9J (g := fun c => c.key) (off := 6) (by decide) (by decide) (by decide) (fun h hN p c hc => j8k c p h hN (hN p _ hc.1)) (fun h hN c hb => q3Q c.key (by have := hb.key; omega) h hN) (fun h hN _ c _ => j8l c.key h hN) (fun _ => rfl) (fun h p c hc => w2K hc) (z6I hNs hbs) (z1K _ _)) (by simp only [ltV, ltL, z0f, true_and, and_true]; omega)
theorem q9m (H : Heap) (hN : Neat H) : z7Y H 75 fData := by
 obtain ⟨v, k, ⟨rfl, kg, kb, kN, kl⟩, -, hc⟩ := j5k 160 161 162 (H.push z5) (hN.push z5)
 have kg' : Grows (H.push z5) (z1Q (H.push z5) k) := ⟨kg.next, fun b hb => z3T hb kg.next (kg.get b hb)⟩
 have kb' := z6I (H := H.push z5) kN kb
 have kz : (z1Q (H.push z5) k).blks.get H.next = some z5 := kg'.some_ (hN.push z5) (fo_)
 have kN' := z1K (H.push z5) k
 have kl' : H.next + 1 + 2 < (z1Q (H.push z5) k).next := kl
 obtain ⟨K, hK⟩ : ∃ K, K = z1Q (H.push z5) k := ⟨_, rfl⟩
 rw [← hK] at hc kg' kb' kz kN' kl'
 have hgr : Grows H (z0i K H.next (some (.cells 109 true (txtV (H.next + 1))))) := ⟨by have := kg'.next; ((try dsimp only); (try simp only [z0n, z0f]); omega), fun b hb => by rw [z0l _ _ _ (by omega), kg'.get b (fl_), z0r _ _ (by omega)]⟩
 have hbs : q7G 160 161 162 (H.next + 1) (z0i K H.next (some (.cells 109 true (txtV (H.next + 1))))) :=
  ⟨by rw [z0l _ _ _ (by omega)]; exact kb'.1, by rw [z0l _ _ _ (by omega)]; exact kb'.2.1, by rw [z0l _ _ _ (by omega)]; exact kb'.2.2⟩
 have hNs : Neat (z0i K H.next (some (.cells 109 true (txtV (H.next + 1))))) := Neat.put kN' (by omega) _
 obtain ⟨v, h, ⟨rfl, rfl⟩, -, hm⟩ := z2m (R := fun v h => v = .agg (txtV (H.next + 1)) ∧ h = z0i K H.next (some (.cells 109 true (txtV (H.next + 1))))) Tryz.tabOk Tryz.func75 rfl rfl (args := []) (H := H) (by
  show GetsE Tryz.prog Tryz.tab ⟨none, 2⟩ _ _ _
  repeat refine GetsE.seq ?_
  refine g1x_ z9i ?_
  refine o1x_ (z0g z0d hc) (y2_ j1c kz) ?_
  refine GetsE.ret Tryz.tabOk ?_
  exact z7U (vs := [.agg (txtV (H.next + 1))]) (R := fun v h => v = .agg (txtV (H.next + 1)) ∧ h = z0i K H.next (some (.cells 109 true (txtV (H.next + 1))))) rfl (sq1_ (y5_ Tryz.f75.eq_1 (z0o z6J z4c) @z0J @t_r5 @stL)) (by have := hgr.next; ((try dsimp only); (try simp only [z0n, z0f]); omega)) (by (try dsimp only); simp only [z1T, ltV, ltL, z0f, true_and, and_true]; omega) ⟨rfl, rfl⟩)
 exact z4b hgr hm (j9J (g := fun c => c.data) (off := 23) (by decide) (by decide) (by decide) (fun h hN p c hc => j5d c p h hN (hN p _ hc.1)) (fun h hN c hb => j5e c.data h hN) (fun h hN hP c hb => j5f c.data (by have := hb.data; omega) h hN hP) (fun _ => rfl) (fun h p c hc => k6J hc) (z6I hNs hbs) (z1K _ _)) (by simp only [ltV, ltL, z0f, true_and, and_true]; omega)
end Go.Proofs
