/-
  Definitions; what is equal; the fields of a command and their makers.
-/
import Derived.Test.YthfkhidmeeajfaaGreatDoorNtA
import Derived.Test.YthfkhidmeeajfaaGreatDoorTaA
import Derived.Test.YthfkhidmeeajfaaGreatDoorSxI
set_option linter.unusedSimpArgs false
set_option linter.unusedVariables false
namespace Go.Proofs
open Go.Sx
set_option maxRecDepth 100000
theorem z3f (a b : z0L) : sbeq a b = decide (a = b) := by rw [z5W, Bool.eq_iff_iff]; simp
theorem j0c : Tryz.tab.zero 97 = some (.agg [.str [], .int .i64 0]) := by kernel_rfl
abbrev j1Q (l : List StepN) : ABlk := .big 97 (l.length * 2) (l.flatMap StepN.cells)
theorem j5L {H : Heap} {b : Nat} {l : List StepN} (hb : H.blks.get b = some (j1Q l)) {i : Nat} {s : StepN} (hs : l[i]? = some s) :
  z1g (H.blks.get b) (i * 2) = some (.str s.key) ∧ z1g (H.blks.get b) (i * 2 + 1) = some (vi s.delta) ∧ Sx.cellsIn (H.blks.get b) (i * 2) 2 = some [.str s.key, vi s.delta] := by
 have hlen : (l.flatMap StepN.cells).length = l.length * 2 := z4T (k := 2) (fun _ => rfl) l
 have h0 : (l.flatMap StepN.cells)[i * 2 + 0]? = some (.str s.key) := z7Z (f := StepN.cells) (k := 2) (fun _ => rfl) hs (by omega)
 have h1 : (l.flatMap StepN.cells)[i * 2 + 1]? = some (vi s.delta) := z7Z (f := StepN.cells) (k := 2) (fun _ => rfl) hs (by omega)
 rw [hb]
 refine ⟨by rw [q9Q hlen]; exact h0, by rw [q9Q hlen]; exact h1, ?_⟩
 exact z7Y (e := 97) hlen (l := [.str s.key, vi s.delta]) fun j v hv => by
  match j, hv with
  | 0, hv => rw [h0]; exact hv
  | 1, hv => rw [h1]; exact hv
  | j + 2, hv => simp at hv
theorem j1R (p : Nat) (s x : StepN) (H : Heap) (hN : Neat H) (hp : H.blks.get p = some (.cells 97 true [.str s.key, vi s.delta])) :
  CallTo Tryz.prog Tryz.tab 270 [.agg [.str x.key, vi x.delta], .ptr p 0] H [(.bool (decide (x.key = s.key)), H)] := by
 have hlt := hN _ _ hp
 refine z0j (n := 20) Tryz.tabOk z0c (H' := H.push (.cells 97 true [.str x.key, vi x.delta])) ?_ (.push _ _) hN trivial
 have hp' : (H.push (.cells 97 true [.str x.key, vi x.delta])).blks.get p = some (.cells 97 true [.str s.key, vi s.delta]) := by rw [z0u _ _ (by omega)]; exact hp
 have hs : sbeq x.key s.key = decide (x.key = s.key) := z3f _ _
 clear hp hlt hN
 exact cob_ (y4_ k6b Tryz.f270.eq_1 @z6r (z0b ia9))
theorem j5M (b c n : Nat) (l : List StepN) (hn : n ≤ l.length) (hl : l.length < 1000000) (p : Nat) (s : StepN) (H : Heap) (hN : Neat H) (hb : H.blks.get b = some (j1Q l)) (hp : H.blks.get p = some (.cells 97 true [.str s.key, vi s.delta])) (r : Int)
  (hr : (r = -1 ∧ ∀ j x, j < n → l[j]? = some x → x.key ≠ s.key) ∨ (∃ j0 : Nat, ∃ x0, r = (j0 : Int) ∧ j0 < n ∧ l[j0]? = some x0 ∧ x0.key = s.key ∧ ∀ j x, j < j0 → l[j]? = some x → x.key ≠ s.key)) :
  CallTo Tryz.prog Tryz.tab 334 [.slice b 0 n false c, .func (.func 270) [] [.ptr p 0]] H [(vi r, H)] := by
 refine z0A Tryz.tabOk Tryz.func334 rfl rfl ?_
 show Gets Tryz.prog Tryz.tab ⟨none, 19⟩ _ _ _
 repeat refine Gets.seq ?_
 refine g0_ ?_
 refine g1_ (z5C ud29) ?_
 refine Gets.upto n (fun i tm => tm.get 0 = some (.slice b 0 n false c) ∧ tm.get 1 = some (.func (.func 270) [] [.ptr p 0]) ∧ tm.get 7 = some (vi (n : Int)) ∧ tm.get 8 = some (vi (i : Int)) ∧ ∀ j x, j < i → l[j]? = some x → x.key ≠ s.key)
  ⟨sx0_, sx0_, sx0_, sx0_, fun j x hj => absurd hj (Nat.not_lt_zero _)⟩ ?_
 rintro i tm hi ⟨i0, i1, i7, i8, hno⟩
 repeat refine Gets.seq ?_
 by_cases hlt : (i : Int) < (n : Int)
 ·obtain ⟨x, hx⟩ : ∃ x, l[i]? = some x := ⟨_, List.getElem?_eq_getElem (by omega)⟩
  obtain ⟨-, -, hc⟩ := j5L hb hx
  have hidx : z1h Tryz.tab 29 (.slice b 0 n false c) (.int .i64 (i : Int)) = some (.ptr b (i * 2)) := by
   rw [z2L ud29 sz97, if_pos ⟨by omega, by omega⟩]; simp
  have v5 : z1V .i64 ((i : Int) + 1) = (i : Int) + 1 := z2C (by omega) (by omega)
  have q := j1R p s x H hN hp
  refine g1_ (y3_ i7 i8 hlt) ?_
  refine cTb_ ?_
  refine g1_ i8 ?_
  by_cases hk : x.key = s.key
  ·have hri : r = (i : Int) := by
    rcases hr with ⟨_, h⟩ | ⟨j0, x0, h1, h2, h3, h4, h5⟩
    ·exact absurd hk (h i x (by omega) hx)
    ·rcases Nat.lt_trichotomy j0 i with h | h | h
     ·exact absurd h4 (hno j0 x0 h h3)
     ·rw [h1, h]
     ·exact absurd hk (h5 i x h hx)
   subst hri
   rw [show decide (x.key = s.key) = true by simp [hk]] at q
   refine o1_ (z0e z0c q) (y6_ @z0y i0 i1 hidx hc (z0f ia97 sz97)) ?_
   refine cT_ ?_
   refine g0_ ?_
   refine Gets.ret Tryz.tabOk ?_
   exact z0v rfl (sr_ Tryz.f334.eq_1) (.refl _) hN trivial
  ·rw [show decide (x.key = s.key) = false by simp [hk]] at q
   refine o1_ (z0e z0c q) (y6_ @z0y i0 i1 hidx hc (z0f ia97 sz97)) ?_
   refine cFk_ ?_
   refine g1_ (y2_ i8 v5) ?_
   exact ⟨_, rfl, by omega, sx1_ i0, sx1_ i1, sx1_ i7, sx1_ @z2l, fun j y hj hy => by
    by_cases e : j = i
    ·subst e
     rw [hx] at hy
     cases hy
     exact hk
    ·exact hno j y (by omega) hy⟩
 ·have h9 : i = n := by omega
  have hri : r = -1 := by
   rcases hr with ⟨h, _⟩ | ⟨j0, x0, h1, h2, h3, h4, h5⟩
   ·exact h
   ·exact absurd h4 (hno j0 x0 (by omega) h3)
  subst hri
  refine g1_ (y3_ i7 i8 hlt) ?_
  refine cFx_ ?_
  refine g0_ ?_
  refine Gets.ret Tryz.tabOk ?_
  exact z0v rfl (sr_ Tryz.f334.eq_1) (.refl _) hN trivial
theorem q6H (l : List StepN) (k : z0L) : ∀ n, n ≤ l.length → (∀ j x, j < n → l[j]? = some x → x.key ≠ k) ∨ ∃ j0 x0, j0 < n ∧ l[j0]? = some x0 ∧ x0.key = k ∧ ∀ j x, j < j0 → l[j]? = some x → x.key ≠ k
 | 0, _ => .inl fun j x hj => absurd hj (Nat.not_lt_zero _)
 | n + 1, hn => by
  rcases q6H l k n (by omega) with h | ⟨j0, x0, h1, h2, h3, h4⟩
  ·obtain ⟨x, hx⟩ : ∃ x, l[n]? = some x := ⟨_, List.getElem?_eq_getElem (by omega)⟩
   by_cases hk : x.key = k
   ·exact .inr ⟨n, x, by omega, hx, hk, h⟩
   ·refine .inl fun j y hj hy => ?_
    by_cases e : j = n
    ·subst e
     rw [hx] at hy
     cases hy
     exact hk
    ·exact h j y (by omega) hy
  ·exact .inr ⟨j0, x0, by omega, h2, h3, h4⟩
def z5I (l : List StepN) (k : z0L) : Bool := l.any fun x => decide (x.key = k)
theorem k3V (b c n : Nat) (l : List StepN) (hn : n ≤ l.length) (hl : l.length < 1000000) (p : Nat) (s : StepN) (H : Heap) (hN : Neat H) (hb : H.blks.get b = some (j1Q l)) (hp : H.blks.get p = some (.cells 97 true [.str s.key, vi s.delta])) :
  CallTo Tryz.prog Tryz.tab 269 [.slice b 0 n false c, .func (.func 270) [] [.ptr p 0]] H [(.bool (z5I (l.take n) s.key), H)] := by
 rcases q6H l s.key n hn with h | ⟨j0, x0, h1, h2, h3, h4⟩
 ·have q := j5M b c n l hn hl p s H hN hb hp (-1) (.inl ⟨rfl, h⟩)
  have hk : z5I (l.take n) s.key = false := by
   unfold z5I
   rw [List.any_eq_false]
   intro x hx
   obtain ⟨j, hj⟩ := List.mem_iff_getElem?.1 hx
   rw [List.getElem?_take] at hj
   split at hj
   ·simpa using h j x (by assumption) hj
   ·simp at hj
  rw [hk]
  refine z0j (n := 20) Tryz.tabOk (ov := ptO noOv 334 [.slice b 0 n false c, .func (.func 270) [] [.ptr p 0]] H [(vi (-1), H)]) (z0e z0c q) (H' := H) ?_ (.refl _) hN trivial
  clear q hk h hb hp hN
  exact co_ (y2_ k0o Tryz.f269.eq_1)
 ·have q := j5M b c n l hn hl p s H hN hb hp (j0 : Int) (.inr ⟨j0, x0, rfl, h1, h2, h3, h4⟩)
  have hk : z5I (l.take n) s.key = true := by
   unfold z5I
   rw [List.any_eq_true]
   exact ⟨x0, List.mem_iff_getElem?.2 ⟨j0, by rw [List.getElem?_take, if_pos h1]; exact h2⟩, by simpa using h3⟩
  rw [hk]
  have h0 : ¬ (j0 : Int) < 0 := by omega
  refine z0j (n := 20) Tryz.tabOk (ov := ptO noOv 334 [.slice b 0 n false c, .func (.func 270) [] [.ptr p 0]] H [(vi (j0 : Int), H)]) (z0e z0c q) (H' := H) ?_ (.refl _) hN trivial
  clear q hk h1 h2 h3 h4 hb hp hN
  exact co_ (y2_ k0o Tryz.f269.eq_1)
theorem z3N : ∀ (l before : List StepN), z6R before l = true ↔ ∀ i s, l[i]? = some s → z9v (before ++ l.take i) s = true
 | [], before => by simp [z6R]
 | x :: l, before => by
  have ih := z3N l (before ++ [x])
  simp only [z6R, Bool.and_eq_true, ih]
  constructor
  ·rintro ⟨h1, h2⟩ i s hs
   cases i with
   | zero => simp at hs; subst hs; simpa using h1
   | succ i =>
    have := h2 i s (by simpa using hs)
    simpa using this
  ·intro h
   refine ⟨by simpa using h 0 x rfl, fun i s hs => ?_⟩
   have := h (i + 1) s (by simpa using hs)
   simpa using this
abbrev dfL (d : DefN) : List AV := [.str d.name, vi d.r, vi d.d, d.st]
set_option linter.defProp false
def k8q := y8_ @z0y @j5C @z3o @z4L @z7w @z2G (z0b ia9) (y2_ (z0b ia3) (z0b ia29))
def k8r := y8_ @z0y @z3Z @z2m @z2p @z6r @q0v (z0b ia9) (z0b ia2)
theorem q6I (d : DefN) (H : Heap) (hN : Neat H) (hd : z1n H d) (hnm : d.name.length < 1000000) (hkl : ∀ s ∈ d.ss, s.key.length < 1000000) (hl : d.ss.length < 1000000) :
  CallTo Tryz.prog Tryz.tab 165 [.agg (dfL d)] H [(vi (code (defB d) 15), H)] := by
 refine z0A Tryz.tabOk Tryz.func165 rfl rfl ?_
 show Gets Tryz.prog Tryz.tab ⟨none, 63⟩ _ _ _
 repeat refine Gets.seq ?_
 have k1 := hd.one
 have hln : ∀ h, lenA Tryz.tab h 29 d.st = some (.int .i64 (d.ss.length : Int)) := hd.len ud29
 refine g1_ k1 ?_
 refine Gets.ofH (fun h => h.blks.get H.next = some (.cells 31 true (dfL d)) ∧ Grows H h ∧ Neat h) ⟨fo_, .push _ _, hN.push _⟩ ?_
 rintro h ⟨a0, ag, aN⟩
 have hdh := hd.grow hN ag
 have q1 := q4N d.name (by omega) h aN
 have q2 := j0a d.r 20 h aN
 have q3 := j0a d.d 100000 h aN
 have q4 := j0a ((d.ss.length : Int) - 1) 7 h aN
 have w1 : z1V .i64 ((d.ss.length : Int) - 1) = (d.ss.length : Int) - 1 := z2C (by omega) (by omega)
 have hfirst : defB d = (z1S d.name && inB d.r 20 && inB d.d 100000 && inB ((d.ss.length : Int) - 1) 7 && z6R [] d.ss) := by
  have e : (decide (1 ≤ d.ss.length) && decide (d.ss.length ≤ 8)) = inB ((d.ss.length : Int) - 1) 7 := by
   unfold inB
   congr 1 <;> (rw [decide_eq_decide]; omega)
  unfold defB
  rw [e]; rfl
 rw [hfirst]
 clear hfirst
 refine Gets.midH (I := fun tm h' => h' = h ∧ tm.get 1 = some (.ptr H.next 0) ∧ tm.get 29 = some (.bool (!(z1S d.name && inB d.r 20 && inB d.d 100000 && inB ((d.ss.length : Int) - 1) 7)))) ?_ ?_
 ·cases hb1 : z1S d.name with
  | false =>
   rw [hb1] at q1
   refine o1_ (z0e z0c q1) (y4_ @z0y a0 @z3o (z0b ia9)) ?_
   exact ⟨rfl, _, _, rfl, rfl, sx0_, sx0_⟩
  | true =>
   rw [hb1] at q1
   cases hb2 : inB d.r 20 with
   | false =>
    rw [hb2] at q2
    refine o1_ (z0e (z0e z0c q1) q2) (y7_ @z0y @z3Z a0 @z3o @z4L (z0b ia9) (z0b ia3)) ?_
    exact ⟨rfl, _, _, rfl, rfl, sx0_, sx0_⟩
   | true =>
    rw [hb2] at q2
    cases hb3 : inB d.d 100000 with
    | false =>
     rw [hb3] at q3
     refine o1_ (ov := z1O (ptO noOv 139 [.str d.name] h [(.bool true, h)]) 268 (ovIn h)) (z0I (z0e z0c q1) (q8B aN)) (y8_ @z0y @j5C hb2 hb3 a0 @z3o @z4L (y3_ @z7w (z0b ia9) (z0b ia3))) ?_
     exact ⟨rfl, _, _, rfl, rfl, sx0_, sx0_⟩
    | true =>
     cases hb4 : inB ((d.ss.length : Int) - 1) 7 with
     | false =>
      refine o1_ (ov := z1O (ptO noOv 139 [.str d.name] h [(.bool true, h)]) 268 (ovIn h)) (z0I (z0e z0c q1) (q8B aN)) (y7_ k8q hb2 hb3 hb4 a0 hln w1) ?_
      exact ⟨rfl, _, _, rfl, rfl, sx0_, sx0_⟩
     | true =>
      refine o1_ (ov := z1O (ptO noOv 139 [.str d.name] h [(.bool true, h)]) 268 (ovIn h)) (z0I (z0e z0c q1) (q8B aN)) (y7_ k8q hb2 hb3 hb4 a0 hln w1) ?_
      exact ⟨rfl, _, _, rfl, rfl, sx0_, sx0_⟩
 rintro tm h' ⟨rfl, i1, i29⟩
 change Gets _ _ _ _ _ _
 repeat refine Gets.seq ?_
 cases hb : (z1S d.name && inB d.r 20 && inB d.d 100000 && inB ((d.ss.length : Int) - 1) 7) with
 | false =>
  rw [hb] at i29
  rw [Bool.false_and]
  refine cT_ (hv := sf1_ (y2_ i29 @Bool.not_false)) ?_
  refine g0_ ?_
  refine Gets.ret Tryz.tabOk ?_
  exact z0v rfl (sf1_ (y2_ Tryz.f165.eq_1 @z2p)) ag hN trivial
 | true =>
  rw [hb] at i29
  rw [Bool.true_and]
  refine cFs_ (hv := sf1_ (y2_ i29 @Bool.not_true)) ?_
  have hne : d.ss ≠ [] := by
   intro e
   simp only [Bool.and_eq_true] at hb
   have := hb.2
   rw [e] at this
   exact absurd this (by decide)
  obtain ⟨b, c, hst, hbk, hcap⟩ : ∃ b c, d.st = .slice b 0 d.ss.length false c ∧ h'.blks.get b = some (j1Q d.ss) ∧ d.ss.length ≤ c := by
   rcases hdh with ⟨_, e⟩ | ⟨b, c, e1, e2, e3⟩
   ·exact absurd e hne
   ·exact ⟨b, c, e1, e3, e2⟩
  refine g1_ (y5_ i1 a0 @z2G (z0b ia29) hln) ?_
  refine Gets.uptoH d.ss.length (fun i tm k => tm.get 1 = some (.ptr H.next 0) ∧ tm.get 31 = some d.st ∧ tm.get 32 = some (vi (d.ss.length : Int)) ∧ tm.get 33 = some (vi (i : Int)) ∧ (∀ j s, j < i → d.ss[j]? = some s → z9v (d.ss.take j) s = true) ∧ Grows h' k ∧ Neat k)
   ⟨sx1_ i1, sx0_, sx0_, sx0_, fun j s hj => absurd hj (Nat.not_lt_zero _), .refl _, aN⟩ ?_
  clear i1 i29
  clear tm
  rintro i tm k hi ⟨i1, i31, i32, i33, hok, kg, kN⟩
  repeat refine Gets.seq ?_
  have a0k : k.blks.get H.next = some (.cells 31 true (dfL d)) := by rw [kg.get _ (aN _ _ a0)]; exact a0
  have hbkk : k.blks.get b = some (j1Q d.ss) := by rw [kg.get _ (aN _ _ hbk)]; exact hbk
  by_cases hlt : (i : Int) < (d.ss.length : Int)
  ·obtain ⟨s, hs⟩ : ∃ s, d.ss[i]? = some s := ⟨_, List.getElem?_eq_getElem (by omega)⟩
   obtain ⟨c0, c1, c2⟩ := j5L hbkk hs
   have hidx : z1h Tryz.tab 29 d.st (.int .i64 (i : Int)) = some (.ptr b (i * 2)) := by
    rw [hst, z2L ud29 sz97, if_pos ⟨by omega, by omega⟩]; simp
   have hsl : z5l Tryz.tab 29 d.st none (some (.int .i64 (i : Int))) none = some (.slice b 0 i false c) := by
    rw [hst]; exact j5D ud29 sz97 (by omega)
   have v5 : z1V .i64 ((i : Int) + 1) = (i : Int) + 1 := z2C (by omega) (by omega)
   have hkey := hkl s (List.mem_of_getElem? hs)
   refine g1_ (y3_ i32 i33 hlt) ?_
   refine cTb_ ?_
   refine g1_ (y8_ i31 i33 hidx c2 (z0f ia97 sz97) @j0c @stL @sz97) ?_
   refine Gets.ofS (fun tm m => tm.get 1 = some (.ptr H.next 0) ∧ tm.get 3 = some (vi (i : Int)) ∧ tm.get 4 = some (.ptr k.next 0) ∧ tm.get 31 = some d.st ∧ tm.get 32 = some (vi (d.ss.length : Int)) ∧ tm.get 33 = some (vi (i : Int)) ∧ m.blks.get k.next = some (.cells 97 true [.str s.key, vi s.delta]) ∧ Grows k m ∧ Neat m)
    ⟨sx1_ i1, sx0_, sx0_, sx1_ i31, sx1_ i32, sx1_ i33, fo_, ⟨fl_, fun x hx => fo_⟩, Neat.put (kN.push _) (fl_) _⟩ ?_
   clear i1 i31 i32 i33
   clear tm
   rintro tm m ⟨i1, i3, i4, i31, i32, i33, am, mg, mN⟩
   have a0m : m.blks.get H.next = some (.cells 31 true (dfL d)) := by rw [mg.get _ (kN _ _ a0k)]; exact a0k
   have hbm : m.blks.get b = some (j1Q d.ss) := by rw [mg.get _ (kN _ _ hbkk)]; exact hbkk
   have p1 := k3V b c i d.ss (by omega) hl k.next s m mN hbm am
   have p2 := q4N s.key (by omega) m mN
   have p3 := q1Q s.delta m mN
   refine o1_ (z0e z0c p1) (y8_ @z0y i1 i3 i4 a0m @z2G (z0b ia29) (y5_ hsl @z8J @q9V @q9W @j4J)) ?_
   refine Gets.midH (I := fun tm h2 => h2 = m ∧ tm.get 1 = some (.ptr H.next 0) ∧ tm.get 31 = some d.st ∧ tm.get 32 = some (vi (d.ss.length : Int)) ∧ tm.get 33 = some (vi (i : Int)) ∧ tm.get 61 = some (.bool (!z9v (d.ss.take i) s))) ?_ ?_
   ·have hB : z9v (d.ss.take i) s = (!z5I (d.ss.take i) s.key && z1S s.key && decide (s.delta ≠ 0) && numB s.delta) := rfl
    rw [hB]
    clear hB p1
    cases hb1 : z5I (d.ss.take i) s.key with
    | true =>
     refine g1_ hb1 ?_
     exact ⟨rfl, _, _, rfl, rfl, sx1_ i1, sx1_ i31, sx1_ i32, sx1_ i33, sx0_⟩
    | false =>
     cases hb2 : z1S s.key with
     | false =>
      rw [hb2] at p2
      refine o1_ (z0e z0c p2) (y6_ @z0y hb1 i4 am @z6r (z0b ia9)) ?_
      exact ⟨rfl, _, _, rfl, rfl, sx1_ i1, sx1_ i31, sx1_ i32, sx1_ i33, sx0_⟩
     | true =>
      rw [hb2] at p2
      by_cases hz : s.delta = 0
      ·refine o1_ (z0e z0c p2) (y8_ @z0y hb1 hz i4 am @z6r @q0v (y2_ (z0b ia9) (z0b ia2))) ?_
       exact ⟨rfl, _, _, rfl, rfl, sx1_ i1, sx1_ i31, sx1_ i32, sx1_ i33, by simp only [hz, ne_eq, not_true_eq_false, decide_false, Bool.and_false, Bool.false_and, Bool.not_false]; simp (disch := decide) only [sxL]⟩
      ·cases hb3 : numB s.delta with
       | false =>
        refine o1_ (z0e (z0e z0c p2) p3) (y6_ k8r hb1 hb3 hz i4 am) ?_
        exact ⟨rfl, _, _, rfl, rfl, sx1_ i1, sx1_ i31, sx1_ i32, sx1_ i33, by simp only [hz, ne_eq, not_false_eq_true, decide_true, Bool.and_true, Bool.true_and, Bool.not_false, Bool.not_true, Bool.and_false]; simp (disch := decide) only [sxL]⟩
       | true =>
        refine o1_ (z0e (z0e z0c p2) p3) (y6_ k8r hb1 hb3 hz i4 am) ?_
        exact ⟨rfl, _, _, rfl, rfl, sx1_ i1, sx1_ i31, sx1_ i32, sx1_ i33, by simp only [hz, ne_eq, not_false_eq_true, decide_true, Bool.and_true, Bool.true_and, Bool.not_false, Bool.not_true, Bool.and_false]; simp (disch := decide) only [sxL]⟩
   clear i1 i3 i4 i31 i32 i33
   clear tm
   rintro tm h2 ⟨rfl, i1, i31, i32, i33, i61⟩
   change Gets _ _ _ _ _ _
   repeat refine Gets.seq ?_
   have hg2 := (ag.trans kg).trans mg
   cases hb : z9v (d.ss.take i) s with
   | false =>
    rw [hb] at i61
    have hS : z6R [] d.ss = false := by
     rw [Bool.eq_false_iff]
     intro e
     have := (z3N d.ss []).1 e i s hs
     rw [List.nil_append, hb] at this
     exact Bool.noConfusion this
    rw [hS]
    refine cT_ (hv := sf1_ (y2_ i61 @Bool.not_false)) ?_
    refine g0_ ?_
    refine Gets.ret Tryz.tabOk ?_
    exact z0v rfl (sf1_ (y2_ Tryz.f165.eq_1 @z2p)) hg2 hN trivial
   | true =>
    rw [hb] at i61
    refine cFk_ (hv := sf1_ (y2_ i61 @Bool.not_true)) ?_
    refine g1_ (y2_ i33 v5) ?_
    exact ⟨_, _, rfl, by omega, sx1_ i1, sx1_ i31, sx1_ i32, sx1_ @z2l, fun j y hj hy => by
     by_cases e : j = i
     ·subst e
      rw [hs] at hy
      cases hy
      exact hb
     ·exact hok j y (by omega) hy, kg.trans mg, mN⟩
  ·have h9 : i = d.ss.length := by omega
   have hS : z6R [] d.ss = true := (z3N d.ss []).2 fun j s hs => by
    rw [List.nil_append]
    exact hok j s (by have := (List.getElem?_eq_some_iff.1 hs).1; omega) hs
   rw [hS]
   refine g1_ (y3_ i32 i33 hlt) ?_
   refine cFx_ ?_
   refine g0_ ?_
   refine Gets.ret Tryz.tabOk ?_
   exact z0v rfl (sf1_ (y2_ Tryz.f165.eq_1 @z2m)) (ag.trans kg) hN trivial
end Go.Proofs
namespace Go.Proofs
open Go.Sx
set_option maxRecDepth 100000
def StrsG (n0 : Nat) (H : Heap) (v : AV) (l : List z0L) : Prop :=
 l ≠ [] ∧ ((∃ b, n0 ≤ b ∧ v = .slice b 0 l.length false l.length ∧ H.blks.get b = some (.cells 9 true (l.map fun s => .str s))) ∨ (∃ b, n0 ≤ b ∧ v = .slice b 0 l.length true 0 ∧ H.blks.get b = some (.cells 9 false (l.map fun s => .str s))))
theorem StrsG.strs {n0 : Nat} {H : Heap} {v : AV} {l : List z0L} (h : StrsG n0 H v l) : StrsAt H v l := by
 obtain ⟨_, ⟨b, _, h1, h2⟩ | ⟨b, _, h1, h2⟩⟩ := h
 ·exact .inr ⟨b, false, _, true, h1, fun _ => Nat.le_refl _, h2⟩
 ·exact .inr ⟨b, true, _, false, h1, fun e => Bool.noConfusion e, h2⟩
theorem StrsG.one {n0 : Nat} {H : Heap} {v : AV} {l : List z0L} (h : StrsG n0 H v l) : z0P v = true := h.strs.one
theorem StrsG.to {n0 : Nat} {H H' : Heap} {v : AV} {l : List z0L} (h : StrsG n0 H v l) (hh : ∀ b x y, n0 ≤ b → H.blks.get b = some (.cells 9 x y) → H'.blks.get b = some (.cells 9 x y)) : StrsG n0 H' v l := by
 obtain ⟨h0, ⟨b, hb, h1, h2⟩ | ⟨b, hb, h1, h2⟩⟩ := h
 ·exact ⟨h0, .inl ⟨b, hb, h1, hh _ _ _ hb h2⟩⟩
 ·exact ⟨h0, .inr ⟨b, hb, h1, hh _ _ _ hb h2⟩⟩
theorem j0d (l : List z0L) : z1c (l.map fun s => AV.str s) = true := z2P.2 fun v hv => by
 obtain ⟨x, _, rfl⟩ := List.mem_map.1 hv; rfl
theorem ty9 : ∃ i, Tryz.tab.types.get 9 = some i ∧ i.size = 1 ∧ Nat.ble i.bytes 100000 = true := ⟨Tryz.t9, by kernel_rfl, by kernel_rfl, by kernel_rfl⟩
theorem j0e {n0 : Nat} {H : Heap} {v : AV} {l : List z0L} (h : StrsG n0 H v l) (hN : Neat H) (hn0 : n0 ≤ H.next) (hl : l.length ≤ 1000) {b : Nat} {s : z0L} (hb : H.blks.get b = some (.cells 9 true [.str s])) :
  ∃ v' H', z4b Tryz.tab H [51, 51] [v, .slice b 0 1 false 1] = some (v', H') ∧ StrsG n0 H' v' (l ++ [s]) ∧ Neat H' ∧ H'.next = H.next + 1 ∧ ∀ x, x < n0 → H'.blks.get x = H.blks.get x := by
 obtain ⟨i, t1, t2, t3⟩ := ty9
 obtain ⟨h0, h⟩ := h
 have hpos : 0 < l.length := List.length_pos_iff.2 h0
 have hml : (l.map fun s => AV.str s).length = l.length * 1 := by simp
 have hm : (l ++ [s]).map (fun s => AV.str s) = (l.map fun s => AV.str s) ++ [.str s] := by simp
 rcases h with ⟨d, hd, rfl, h2⟩ | ⟨d, hd, rfl, h2⟩
 ·refine ⟨_, _, q8y ud51 t1 t2 (by omega) t3 j5K rfl hb rfl rfl h2 hml (j0d l) hpos (by omega), ⟨by simp, .inr ⟨H.next, hn0, by rw [List.length_append]; rfl, ?_⟩⟩, hN.push _, z0i _ _, fun x hx => z0u _ _ (by omega)⟩
  rw [z0w, hm]
 ·have hnx : (z0n H d none).next = H.next := z0h _ _ _
  refine ⟨_, _, q3k ud51 t1 t2 (by omega) t3 j5K rfl hb rfl rfl h2 hml (j0d l) hpos (by omega), ⟨by simp, .inr ⟨H.next, hn0, by rw [List.length_append]; rfl, ?_⟩⟩, (z8I hN d).push _, by rw [z0i, hnx], fun x hx => ?_⟩
  ·have := z0w (z0n H d none) (.cells 9 false ((l.map fun s => AV.str s) ++ [.str s]))
   rw [hnx] at this
   rw [this, hm]
  ·rw [z0u _ _ (by rw [hnx]; omega), z0k _ _ _ (by omega)]
theorem k3W (H : Heap) (a : z0L) : z1b Tryz.tab H 51 1 [(0, .str a)] = some (.slice H.next 0 1 false 1, H.push (.cells 9 true [.str a])) := by
 show z0d (Sx.elemOf Tryz.tab 51) (fun e => z0d (Tryz.tab.size e) fun z => z0d (Tryz.tab.zero e) fun zero =>
  bif Nat.ble (1 * z) 10000 then
   bif Nat.beq (len zero.cells) z then z0d (q0I (fun i => some (i * z, z)) [(0, .str a)] (z1x zero.cells 1)) (z0V H e 1 1) else none
  else none) = _
 rw [z3v ud51]
 show z0d (Tryz.tab.size 9) (fun z => z0d (Tryz.tab.zero 9) fun zero =>
  bif Nat.ble (1 * z) 10000 then
   bif Nat.beq (len zero.cells) z then z0d (q0I (fun i => some (i * z, z)) [(0, .str a)] (z1x zero.cells 1)) (z0V H 9 1 1) else none
  else none) = _
 rw [sz9, j5K]
 show z0V H 9 1 1 [.str a] = _
 unfold z0V
 rw [z1W]; rfl
theorem j8V (H : Heap) (a b c : z0L) : z1b Tryz.tab H 51 3 [(0, .str a), (1, .str b), (2, .str c)] = some (.slice H.next 0 3 false 3, H.push (.cells 9 true [.str a, .str b, .str c])) := by
 show z0d (Sx.elemOf Tryz.tab 51) (fun e => z0d (Tryz.tab.size e) fun z => z0d (Tryz.tab.zero e) fun zero =>
  bif Nat.ble (3 * z) 10000 then
   bif Nat.beq (len zero.cells) z then z0d (q0I (fun i => some (i * z, z)) [(0, .str a), (1, .str b), (2, .str c)] (z1x zero.cells 3)) (z0V H e 3 3) else none
  else none) = _
 rw [z3v ud51]
 show z0d (Tryz.tab.size 9) (fun z => z0d (Tryz.tab.zero 9) fun zero =>
  bif Nat.ble (3 * z) 10000 then
   bif Nat.beq (len zero.cells) z then z0d (q0I (fun i => some (i * z, z)) [(0, .str a), (1, .str b), (2, .str c)] (z1x zero.cells 3)) (z0V H 9 3 3) else none
  else none) = _
 rw [sz9, j5K]
 show z0V H 9 3 3 [.str a, .str b, .str c] = _
 unfold z0V
 rw [z1W]; rfl
theorem z6S {s : z0L} (h : z1S s = true) : s.length ≤ 16 := by
 simp only [z1S, Bool.and_eq_true, Bool.not_eq_true', decide_eq_false_iff_not] at h
 omega
theorem q8D {before : List StepN} {s : StepN} (h : z9v before s = true) : z1S s.key = true ∧ In64 s.delta := by
 simp only [z9v, numB, q9Z, Bool.and_eq_true, decide_eq_true_eq] at h
 exact ⟨h.1.1.2, by omega, by omega⟩
theorem z7h {d : DefN} (h : defB d = true) : z1S d.name = true ∧ In64 d.r ∧ In64 d.d ∧ 1 ≤ d.ss.length ∧ d.ss.length ≤ 8 ∧ ∀ (i : Nat) (s : StepN), d.ss[i]? = some s → z1S s.key = true ∧ In64 s.delta := by
 simp only [defB, Bool.and_eq_true, decide_eq_true_eq] at h
 obtain ⟨⟨⟨⟨h1, h2, h3⟩, h4, h5⟩, h6, h7⟩, h8⟩ := h
 exact ⟨h1, ⟨by omega, by omega⟩, ⟨by omega, by omega⟩, h6, h7, fun i s hs => q8D ((z3N d.ss []).1 h8 i s hs)⟩
theorem j5N {s : StepN} (h1 : z1S s.key = true) (h2 : In64 s.delta) : (z5H s).length ≤ 40 := by
 have := z6S h1
 have := z0r h2
 simp only [z5H, z7q, List.length_append]
 split <;> simp <;> omega
theorem q3o {l : List StepN} (h : ∀ (i : Nat) (s : StepN), l[i]? = some s → z1S s.key = true ∧ In64 s.delta) : ∀ n, (((l.take n).map z5H).map List.length).sum ≤ 40 * n
 | 0 => by simp
 | n + 1 => by
  have ih := q3o h n
  by_cases hn : n < l.length
  ·have hx := h n l[n] (List.getElem?_eq_getElem hn)
   have := j5N hx.1 hx.2
   rw [List.take_add_one, List.getElem?_eq_getElem hn]
   simp only [List.map_append, List.sum_append, Option.toList_some, List.map_cons, List.map_nil, List.sum_cons, List.sum_nil]
   omega
  ·rw [List.take_of_length_le (by omega)]
   rw [List.take_of_length_le (by omega)] at ih
   omega
abbrev defW (d : DefN) (n : Nat) : List z0L := d.name :: z0o d.r :: z0o d.d :: (d.ss.take n).map z5H
theorem q4T {d : DefN} (h : defB d = true) (n : Nat) (hn : n ≤ 8) : z8b (defW d n) ≤ 400 := by
 obtain ⟨h1, h2, h3, h4, h5, h6⟩ := z7h h
 have := z6S h1
 have := z0r h2
 have := z0r h3
 have := q3o h6 n
 simp only [z8b, defW, List.map_cons, List.sum_cons, List.length_cons, List.length_map, List.length_take]
 omega
theorem j8W (d : DefN) (he : defB d = true) (H : Heap) (hN : Neat H) (hP : PowAt H) (hd : z1n H d) (hnm : d.name.length < 1000000) (hkl : ∀ s ∈ d.ss, s.key.length < 1000000) (hl : d.ss.length < 1000000) :
  CallTo Tryz.prog Tryz.tab 172 [.agg (dfL d)] H [(.tuple [.str (defT d), vi 0], H)] := by
 refine z0A Tryz.tabOk Tryz.func172 rfl rfl ?_
 show Gets Tryz.prog Tryz.tab ⟨none, 47⟩ _ _ _
 repeat refine Gets.seq ?_
 obtain ⟨b1, b2, b3, b4, b5, b6⟩ := z7h he
 have k1 := hd.one
 have hln : ∀ h, lenA Tryz.tab h 29 d.st = some (.int .i64 (d.ss.length : Int)) := hd.len ud29
 refine g1_ k1 ?_
 refine Gets.ofH (fun h => h.blks.get H.next = some (.cells 31 true (dfL d)) ∧ Grows H h ∧ Neat h ∧ h.next = H.next + 1) ⟨fo_, .push _ _, hN.push _, z0i _ _⟩ ?_
 rintro h ⟨a0, ag, aN, ax⟩
 have q := q6I d h aN (hd.grow hN ag) hnm hkl hl
 rw [he] at q
 have hPh := hP.grow hN ag
 refine o1_ (z0e z0c q) (y5_ @z0y a0 (z0f ia31 sz31) @t_r4 @z2m) ?_
 refine g0_ ?_
 refine cFs_ ?_
 refine gk_ (ov := z1O noOv 20 ovI) (z0I z0c z8M) [.rd 0, .rd 1, .rd 2, .rd 3, .rd 5, .rd 6, .sm 4, .sm 7, .rd 8, .rd 9] (aN) (y8_ (z6j hPh b2) (z6j hPh b3) a0 @z3o @z4L @z7w (z0b ia9) (y2_ (z0b ia3) @j8V)) ?_
 refine g1_ (y5_ @z0u a0 @z2G (z0b ia29) hln) ?_
 refine Gets.ofS (fun tm k => tm.get 1 = some (.ptr H.next 0) ∧ tm.get 5 = some (.slice (H.next + 1) 0 3 false 3) ∧ tm.get 24 = some d.st ∧ tm.get 25 = some (vi (d.ss.length : Int)) ∧ tm.get 26 = some (vi 0) ∧ k.blks.get H.next = some (.cells 31 true (dfL d)) ∧ k.blks.get (H.next + 1) = some (.cells 9 true [.str d.name, .str (z0o d.r), .str (z0o d.d)]) ∧ Grows h k ∧ Neat k)
  ⟨sx0_, sx1_ ax, sx0_, sx0_, sx0_, by ((try simp (disch := first | assumption | omega | (try simp only [z2o, z0h]) <;> omega | fail) only [foL]); (try rfl)); exact a0, fo_, .push _ _, (by repeat' (first | exact hN | exact aN | exact bN | (refine Neat.push ?_ _) | (refine Neat.put ?_ (by ((try dsimp only); (try simp only [z0i, z0h]); omega)) _)))⟩ ?_
 rintro tm k ⟨i1, i5, i24, i25, i26, a0k, awk, kg, kN⟩
 refine Gets.uptoH d.ss.length (fun i tm m => tm.get 1 = some (.ptr H.next 0) ∧ (∃ v, tm.get 5 = some v ∧ StrsG (H.next + 1) m v (defW d i)) ∧ tm.get 24 = some d.st ∧ tm.get 25 = some (vi (d.ss.length : Int)) ∧ tm.get 26 = some (vi (i : Int)) ∧ H.next + 1 ≤ m.next ∧ (∀ x, x < H.next + 1 → m.blks.get x = h.blks.get x) ∧ Neat m)
  ⟨i1, ⟨_, i5, by simp, .inl ⟨H.next + 1, Nat.le_refl _, by simp, by simpa using awk⟩⟩, i24, i25, i26, by have := kg.next; omega, fun x hx => kg.get x (by omega), kN⟩ ?_
 clear i1 i5 i24 i25 i26 a0k awk kg kN k
 clear tm
 rintro i tm m hi ⟨i1, ⟨v, i5, hv⟩, i24, i25, i26, mx, mg, mN⟩
 repeat refine Gets.seq ?_
 have hdm : z1n m d := hd.grow hN ⟨by omega, fun x hx => by rw [mg x (by omega)]; exact ag.get x hx⟩
 have hPm : PowAt m := hP.grow hN ⟨by omega, fun x hx => by rw [mg x (by omega)]; exact ag.get x hx⟩
 by_cases hlt : (i : Int) < (d.ss.length : Int)
 ·obtain ⟨s, hs⟩ : ∃ s, d.ss[i]? = some s := ⟨_, List.getElem?_eq_getElem (by omega)⟩
  obtain ⟨b, hidx, -, hc⟩ := hdm.row ud29 sz97 (fun _ => rfl) hs
  have hc2 : Sx.cellsIn (m.blks.get b) (i * 2) 2 = some [.str s.key, vi s.delta] := hc 0 2 (by omega)
  have v5 : z1V .i64 ((i : Int) + 1) = (i : Int) + 1 := z2C (by omega) (by omega)
  obtain ⟨s1, s2⟩ := b6 i s hs
  have sl := z6S s1
  have dl := z0r s2
  have hvo := hv.one
  refine g1_ (y3_ i25 i26 hlt) ?_
  refine cTb_ ?_
  refine g1_ (y8_ i24 i26 hidx hc2 (z0f ia97 sz97) @j0c @stL @sz97) ?_
  refine g0_ ?_
  refine Gets.ofS (fun tm n => tm.get 1 = some (.ptr H.next 0) ∧ tm.get 5 = some v ∧ tm.get 7 = some (.ptr m.next 0) ∧ tm.get 8 = some (.str []) ∧ tm.get 24 = some d.st ∧ tm.get 25 = some (vi (d.ss.length : Int)) ∧ tm.get 26 = some (vi (i : Int)) ∧ n.blks.get m.next = some (.cells 97 true [.str s.key, vi s.delta]) ∧ Grows m n ∧ Neat n)
   ⟨sx1_ i1, sx1_ i5, sx0_, sx0_, sx1_ i24, sx1_ i25, sx1_ i26, fo_, ⟨fl_, fun x hx => fo_⟩, Neat.put (mN.push _) (fl_) _⟩ ?_
  clear i1 i5 i24 i25 i26
  clear tm
  rintro tm n ⟨i1, i5, i7, i8, i24, i25, i26, an, ng, nN⟩
  refine g1_ (y4_ i7 an @q0v (z0b ia2)) ?_
  refine Gets.midH (I := fun tm n' => n' = n ∧ tm.get 1 = some (.ptr H.next 0) ∧ tm.get 5 = some v ∧ tm.get 7 = some (.ptr m.next 0) ∧ tm.get 8 = some (.str (if 0 < s.delta then [43] else [])) ∧ tm.get 24 = some d.st ∧ tm.get 25 = some (vi (d.ss.length : Int)) ∧ tm.get 26 = some (vi (i : Int))) ?_ ?_
  ·by_cases h0 : 0 < s.delta
   ·rw [if_pos h0]
    refine cT_ (hv := sx1_ h0) ?_
    refine g0_ ?_
    exact ⟨rfl, _, _, rfl, rfl, sx1_ i1, sx1_ i5, sx1_ i7, sx0_, sx1_ i24, sx1_ i25, sx1_ i26⟩
   ·rw [if_neg h0]
    refine Gets.condF (sx1_ h0) (Gets.skip Tryz.tabOk ?_)
    exact ⟨rfl, _, _, rfl, rfl, sx1_ i1, sx1_ i5, sx1_ i7, sx1_ i8, sx1_ i24, sx1_ i25, sx1_ i26⟩
  clear i1 i5 i7 i8 i24 i25 i26
  clear tm
  rintro tm n' ⟨rfl, i1, i5, i7, i8, i24, i25, i26⟩
  change Gets _ _ _ _ _ _
  repeat refine Gets.seq ?_
  generalize hsg : (if 0 < s.delta then ([43] : z0L) else []) = sg at i8
  have sgl : sg.length ≤ 1 := by rw [← hsg]; split <;> simp
  have hst : z5H s = s.key ++ sg ++ z0o s.delta := by unfold z5H z7q; rw [hsg, List.append_assoc]
  have c1 : catO s.key sg = some (.str (s.key ++ sg)) := z2E (by omega)
  have c2 : catO (s.key ++ sg) (z0o s.delta) = some (.str (z5H s)) := by rw [hst]; exact z2E (by rw [List.length_append]; omega)
  have hPn : PowAt n' := hPm.grow mN ng
  obtain ⟨v', m', p1, p2, p3, p4, p5⟩ := j0e (n0 := H.next + 1) (H := n'.push (.cells 9 true [.str (z5H s)])) (hv.to fun b x y hb hy => by
   rw [z0u _ _ (Nat.ne_of_lt (nN b _ (by rw [ng.get b (mN b _ hy)]; exact hy))), ng.get b (mN b _ hy)]; exact hy) (nN.push _) (by rw [z0i]; have := ng.next; omega) (by simp; omega) (z0w _ _)
  have hdw : defW d i ++ [z5H s] = defW d (i + 1) := by
   simp only [defW, List.cons_append]
   rw [List.take_add_one, hs]
   simp
  rw [hdw] at p2
  refine gk_ (ov := z1O noOv 21 ovF) (z0I z0c j5H) [.rd 0, .rd 1, .rd 2, .rd 3, .rd 4, .rd 5, .rd 6, .sm 7, .rd 8, .rd 9, .lk 10 [], .rd 11] (nN) (y8_ (j5G hPn s2) i5 i7 i8 an @z6r @q0v (y8_ (z0b ia9) (z0b ia2) @z3w c1 c2 @k3W @q8h p1)) ?_
  refine g1_ (y2_ i26 v5) ?_
  exact ⟨_, _, rfl, by omega, sx1_ i1, ⟨v', sx0_, p2⟩, sx1_ i24, sx1_ i25, sx1_ @z2l, by rw [p4, z0i]; have := ng.next; omega, fun x hx => by
   rw [p5 x hx, z0u _ _ (by have := ng.next; omega), ng.get x (by omega)]; exact mg x hx, p3⟩
 ·have h9 : i = d.ss.length := by omega
  subst h9
  have hw : defW d d.ss.length = d.name :: z0o d.r :: z0o d.d :: d.ss.map z5H := by simp [defW]
  have q2 := q8C _ v m hv.strs (Nat.le_trans (q4T he _ b5) (by omega))
  rw [show z1P (defW d d.ss.length) = defT d by unfold defT; rw [hw]] at q2
  refine g1_ (y3_ i25 i26 hlt) ?_
  refine cFx_ ?_
  refine o1_ (z0e z0c q2) (y2_ @z0y i5) ?_
  refine Gets.ret Tryz.tabOk ?_
  exact z1e rfl (sr_ Tryz.f172.eq_1) ⟨by show H.next ≤ m.next; omega, fun x hx => by show m.blks.get x = _; rw [mg x (by omega)]; exact ag.get x hx⟩ hN ⟨trivial, trivial, trivial⟩
end Go.Proofs
namespace Go.Proofs
open Go.Sx
set_option maxRecDepth 100000
theorem eq28 (a b a' b' : z0L) : eqA Tryz.tab 60 28 (.agg [.str a, .str b]) (.agg [.str a', .str b']) = andO (some (sbeq a a')) (andO (some (sbeq b b')) (some true)) := by kernel_rfl
theorem nq28 : z5O (Tryz.tab.noEq.get 28) = true := by kernel_rfl
theorem nq33 : z5O (Tryz.tab.noEq.get 33) = true := by kernel_rfl
theorem nq97 : z5O (Tryz.tab.noEq.get 97) = true := by kernel_rfl
theorem eq97 (a a' : z0L) (d d' : Int) : eqA Tryz.tab 60 97 (.agg [.str a, .int .i64 d]) (.agg [.str a', .int .i64 d']) = andO (some (sbeq a a')) (andO (some (ibeq d d')) (some true)) := by kernel_rfl
theorem eq33 (a b c m : Int) (i : Bool) (g a' b' c' m' : Int) (i' : Bool) (g' : Int) : eqA Tryz.tab 60 33 (.agg [vi a, vi b, vi c, vi m, .bool i, vi g]) (.agg [vi a', vi b', vi c', vi m', .bool i', vi g']) =
  andO (andO (some (ibeq a a')) (andO (some (ibeq b b')) (andO (some (ibeq c c')) (some true)))) (andO (some (ibeq m m')) (andO (some (bbeq i i')) (andO (some (ibeq g g')) (some true)))) := by kernel_rfl
theorem z3x (a b : Bool) : andO (some a) (some b) = some (a && b) := by cases a <;> rfl
theorem j8X (a b : Bool) : bbeq a b = decide (a = b) := by cases a <;> cases b <;> rfl
theorem k8s (a b : EffN) : eqA Tryz.tab 60 26 (.agg [vi a.s, vi a.t, vi a.p]) (.agg [vi b.s, vi b.t, vi b.p]) = some (decide (a = b)) := by
 rw [eq26, z1j, z1j, z1j, z3x, z3x, z3x]
 rcases a with ⟨a1, a2, a3⟩
 rcases b with ⟨b1, b2, b3⟩
 congr 1
 simp only [EffN.mk.injEq, Bool.and_true, Bool.decide_and]
theorem k0P (a b : ItemN) : eqA Tryz.tab 60 33 (.agg (itL a)) (.agg (itL b)) = some (decide (a = b)) := by
 show eqA Tryz.tab 60 33 (.agg [vi a.e.s, vi a.e.t, vi a.e.p, vi a.m, .bool a.i, vi a.g]) (.agg [vi b.e.s, vi b.e.t, vi b.e.p, vi b.m, .bool b.i, vi b.g]) = _
 rw [eq33, z1j, z1j, z1j, z1j, j8X, z1j, z3x, z3x, z3x, z3x, z3x, z3x, z3x]
 rcases a with ⟨⟨a1, a2, a3⟩, a4, a5, a6⟩
 rcases b with ⟨⟨b1, b2, b3⟩, b4, b5, b6⟩
 congr 1
 simp only [ItemN.mk.injEq, EffN.mk.injEq, Bool.and_true, Bool.decide_and]
theorem j5O (a b a' b' : z0L) : eqA Tryz.tab 60 28 (.agg [.str a, .str b]) (.agg [.str a', .str b']) = some (decide (a = a') && decide (b = b')) := by
 rw [eq28, z3f, z3f, z3x, z3x, Bool.and_true]
theorem k0Q (a b : StepN) : eqA Tryz.tab 60 97 (.agg [.str a.key, vi a.delta]) (.agg [.str b.key, vi b.delta]) = some (decide (a = b)) := by
 show eqA Tryz.tab 60 97 (.agg [.str a.key, .int .i64 a.delta]) (.agg [.str b.key, .int .i64 b.delta]) = _
 rw [eq97, z1j, z3f, z3x, z3x]
 rcases a with ⟨a1, a2⟩
 rcases b with ⟨b1, b2⟩
 congr 1
 simp only [StepN.mk.injEq, Bool.and_true, Bool.decide_and]
theorem k3X (v v' : AV) (l m : List StepN) (H : Heap) (hN : Neat H) (h1 : q4O H v l) (h2 : q4O H v' m) (hl : l.length < 1000000) (hm : m.length < 1000000) :
  CallTo Tryz.prog Tryz.tab 244 [v, v'] H [(.bool (decide (l = m)), H)] := by
 refine z0A Tryz.tabOk Tryz.func244 rfl rfl ?_
 show Gets Tryz.prog Tryz.tab ⟨none, 26⟩ _ _ _
 repeat refine Gets.seq ?_
 have n1 : ∀ h, lenA Tryz.tab h 29 v = some (.int .i64 (l.length : Int)) := h1.len ud29
 have n2 : ∀ h, lenA Tryz.tab h 29 v' = some (.int .i64 (m.length : Int)) := h2.len ud29
 refine g0_ ?_
 by_cases hlm : (l.length : Int) = (m.length : Int)
 ·have hlm' : l.length = m.length := by omega
  refine g1_ (y3_ n1 n2 hlm) ?_
  refine cFs_ ?_
  refine g1_ n1 ?_
  refine Gets.upto l.length (fun i tm => tm.get 0 = some v ∧ tm.get 1 = some v' ∧ tm.get 12 = some (vi (l.length : Int)) ∧ tm.get 13 = some (vi (i : Int)) ∧ ∀ j, j < i → l[j]? = m[j]?)
   ⟨sx0_, sx0_, sx1_ hlm, sx0_, fun j hj => absurd hj (Nat.not_lt_zero _)⟩ ?_
  rintro i tm hi ⟨i0, i1, i12, i13, heq⟩
  repeat refine Gets.seq ?_
  by_cases hlt : (i : Int) < (l.length : Int)
  ·obtain ⟨x, hx⟩ : ∃ x, l[i]? = some x := ⟨_, List.getElem?_eq_getElem (by omega)⟩
   obtain ⟨y, hy⟩ : ∃ y, m[i]? = some y := ⟨_, List.getElem?_eq_getElem (by omega)⟩
   obtain ⟨b1, hx1, -, hc1⟩ := h1.row ud29 sz97 (fun _ => rfl) hx
   obtain ⟨b2, hx2, -, hc2⟩ := h2.row ud29 sz97 (fun _ => rfl) hy
   have hc1 : Sx.cellsIn (H.blks.get b1) (i * 2) 2 = some [.str x.key, vi x.delta] := hc1 0 2 (by omega)
   have hc2 : Sx.cellsIn (H.blks.get b2) (i * 2) 2 = some [.str y.key, vi y.delta] := hc2 0 2 (by omega)
   have v5 : z1V .i64 ((i : Int) + 1) = (i : Int) + 1 := z2C (by omega) (by omega)
   have he := k0Q x y
   refine g1_ (y3_ i12 i13 hlt) ?_
   refine cTb_ ?_
   refine g1_ i13 ?_
   by_cases hxy : x = y
   ·subst hxy
    rw [show decide (x = x) = true by simp] at he
    refine Gets.l0 Tryz.tabOk (s' := ?sn1) ?hn1 ?kn1; (case hn1 => (simp -implicitDefEqProofs (disch := first | exact d_ | fail) only [sxM, Nat.reduceAdd, reduceCtorEq, Int.reduceToNat, Nat.reduceEqDiff, Int.reduceEq, Int.reduceLT, z4k, i0, i1, hx1, hx2, hc1, hc2, z0f ia97 sz97, nq97, he, z9Z, notO] <;> rfl)); (try (change Gets _ _ _ _ _ _; repeat refine Gets.seq ?_))
    refine cFk_ ?_
    refine g1_ (y2_ i13 v5) ?_
    exact ⟨_, rfl, by omega, sx1_ i0, sx1_ i1, sx1_ i12, sx1_ @z2l, fun j hj => by
     by_cases e : j = i
     ·subst e; rw [hx, hy]
     ·exact heq j (by omega)⟩
   ·rw [show decide (x = y) = false by simp [hxy]] at he
    have hd : decide (l = m) = false := by
     rw [decide_eq_false_iff_not]
     intro e
     rw [e, hy] at hx
     exact hxy (Option.some.inj hx).symm
    rw [hd]
    refine Gets.l0 Tryz.tabOk (s' := ?sn2) ?hn2 ?kn2; (case hn2 => (simp -implicitDefEqProofs (disch := first | exact d_ | fail) only [sxM, Nat.reduceAdd, reduceCtorEq, Int.reduceToNat, Nat.reduceEqDiff, Int.reduceEq, Int.reduceLT, z4k, i0, i1, hx1, hx2, hc1, hc2, z0f ia97 sz97, nq97, he, z9Z, notO] <;> rfl)); (try (change Gets _ _ _ _ _ _; repeat refine Gets.seq ?_))
    refine cT_ ?_
    refine g0_ ?_
    refine Gets.ret Tryz.tabOk ?_
    exact z0v rfl (sr_ Tryz.f244.eq_1) (.refl _) hN trivial
  ·have hd : decide (l = m) = true := by
    rw [decide_eq_true_eq]
    apply List.ext_getElem?
    intro j
    by_cases hj : j < i
    ·exact heq j hj
    ·rw [List.getElem?_eq_none (by omega), List.getElem?_eq_none (by omega)]
   rw [hd]
   refine g1_ (y3_ i12 i13 hlt) ?_
   refine cFx_ ?_
   refine g0_ ?_
   refine Gets.ret Tryz.tabOk ?_
   exact z0v rfl (sr_ Tryz.f244.eq_1) (.refl _) hN trivial
 ·have hd : decide (l = m) = false := by
   rw [decide_eq_false_iff_not]
   intro e
   exact hlm (by rw [e])
  rw [hd]
  refine g1_ (y3_ n1 n2 hlm) ?_
  refine cT_ ?_
  refine g0_ ?_
  refine Gets.ret Tryz.tabOk ?_
  exact z0v rfl (sr_ Tryz.f244.eq_1) (.refl _) hN trivial
theorem j5P (a b : DefN) (H : Heap) (hN : Neat H) (ha : z1n H a) (hb : z1n H b) (h1 : a.ss.length < 1000000) (h2 : b.ss.length < 1000000) :
  CallTo Tryz.prog Tryz.tab 127 [.agg (dfL a), .agg (dfL b)] H [(.bool (q0e a b), H)] := by
 have o1 := ha.one
 have o2 := hb.one
 have gg : Grows H ((H.push (.cells 31 true (dfL a))).push (.cells 31 true (dfL b))) := (Grows.push _ _).trans (.push _ _)
 have hN2 := (hN.push (.cells 31 true (dfL a))).push (.cells 31 true (dfL b))
 have q := k3X a.st b.st a.ss b.ss _ hN2 (ha.grow hN gg) (hb.grow hN gg) h1 h2
 have e1 := z3f a.name b.name
 have e2 := z1j a.r b.r
 have e3 := z1j a.d b.d
 refine z0j (n := 20) Tryz.tabOk (ov := ptO noOv 244 [a.st, b.st] ((H.push (.cells 31 true (dfL a))).push (.cells 31 true (dfL b))) [(.bool (decide (a.ss = b.ss)), (H.push (.cells 31 true (dfL a))).push (.cells 31 true (dfL b)))]) (z0e z0c q)
  (H' := (H.push (.cells 31 true (dfL a))).push (.cells 31 true (dfL b))) ?_ gg hN trivial
 clear hN hN2 gg q ha hb h1 h2
 unfold q0e
 cases x0 : decide (a.name = b.name)
 ·rw [Bool.false_and, Bool.false_and, Bool.false_and]
  exact cob_ (y4_ q8S Tryz.f127.eq_1 @z3o (z0b ia9))
 cases x1 : decide (a.r = b.r)
 ·rw [Bool.and_false, Bool.false_and, Bool.false_and]
  exact cob_ (y6_ q8S Tryz.f127.eq_1 @z3o @z4L (z0b ia9) (z0b ia3))
 cases x2 : decide (a.d = b.d)
 ·rw [Bool.and_false, Bool.false_and]
  exact cob_ (y7_ q8S Tryz.f127.eq_1 @z3o @z4L @z7w (z0b ia9) (z0b ia3))
 rw [Bool.true_and, Bool.true_and, Bool.true_and]
 exact cob_ (y8_ q8S Tryz.f127.eq_1 @z3o @z4L @z7w @z2G (z0b ia9) (y2_ (z0b ia3) (z0b ia29)))
end Go.Proofs
namespace Go.Proofs
open Go.Sx
set_option maxRecDepth 100000
set_option linter.defProp false
def z4U := y8_ w0N Tryz.f68.eq_1 @z6s @z9B @z7v @z9A @z6p (y8_ @z6t @z8h @z6q @z9C @z8g @z6u @z4Y (y8_ @z4u @ccL (z0f ia31 sz31) (z0f ia26 sz26) (z0f ia28 sz28) (z0f ia33 sz33) (z0b ia3) (y6_ (z0b ia2) (z0b ia9) (z0b ia34) @nq26 @nq28 @nq33)))
theorem j5Q (a b : CmdN) (H : Heap) (hN : Neat H) (ha : z1n H a.d) (hb : z1n H b.d) (h1 : a.d.ss.length < 1000000) (h2 : b.d.ss.length < 1000000) :
  CallTo Tryz.prog Tryz.tab 68 [.agg a.cells, .agg b.cells] H [(.bool (z1B a b), H)] := by
 have o1 := z2u ha.one
 have o2 := z2u hb.one
 have gg : Grows H ((H.push (z0p a)).push (z0p b)) := (Grows.push _ _).trans (.push _ _)
 have hN2 := (hN.push (z0p a)).push (z0p b)
 have q := j5P a.d b.d _ hN2 (ha.grow hN gg) (hb.grow hN gg) h1 h2
 have e1 := k8s a.e b.e
 have e2 := j5O a.fr a.to b.fr b.to
 have e3 := k0P a.it b.it
 have d0 := z1j a.kind b.kind
 have d1 := z1j a.call b.call
 have d2 := z1j a.saga b.saga
 have d3 := z3f a.key b.key
 have d4 := z1j a.delta b.delta
 have d5 := z1j a.move b.move
 have d6 := z1j a.group b.group
 have d7 := z1j a.res b.res
 have d8 := z3f a.data b.data
 refine z0j (n := 20) Tryz.tabOk (ov := ptO noOv 127 [.agg (dfL a.d), .agg (dfL b.d)] ((H.push (z0p a)).push (z0p b)) [(.bool (q0e a.d b.d), (H.push (z0p a)).push (z0p b))]) (z0e z0c q)
  (H' := (H.push (z0p a)).push (z0p b)) ?_ gg hN trivial
 clear hN hN2 gg q ha hb h1 h2
 unfold z1B
 cases x0 : q0e a.d b.d
 ·simp only [Bool.true_and, Bool.false_and, Bool.and_false, Bool.and_true]
  exact coe_ z4U
 cases x1 : decide (a.e = b.e)
 ·rw [x1] at e1
  simp only [Bool.true_and, Bool.false_and, Bool.and_false, Bool.and_true]
  exact coe_ z4U
 rw [x1] at e1
 cases x2 : (decide (a.fr = b.fr) && decide (a.to = b.to))
 ·rw [x2] at e2
  simp only [Bool.true_and, Bool.false_and, Bool.and_false, Bool.and_true]
  exact coe_ z4U
 rw [x2] at e2
 cases x3 : decide (a.it = b.it)
 ·rw [x3] at e3
  simp only [Bool.true_and, Bool.false_and, Bool.and_false, Bool.and_true]
  exact coe_ z4U
 rw [x3] at e3
 cases x4 : decide (a.kind = b.kind)
 ·simp only [Bool.true_and, Bool.false_and, Bool.and_false, Bool.and_true]
  exact coe_ z4U
 cases x5 : decide (a.call = b.call)
 ·simp only [Bool.true_and, Bool.false_and, Bool.and_false, Bool.and_true]
  exact coe_ z4U
 cases x6 : decide (a.saga = b.saga)
 ·simp only [Bool.true_and, Bool.false_and, Bool.and_false, Bool.and_true]
  exact coe_ z4U
 cases x7 : decide (a.key = b.key)
 ·simp only [Bool.true_and, Bool.false_and, Bool.and_false, Bool.and_true]
  exact coe_ z4U
 cases x8 : decide (a.delta = b.delta)
 ·simp only [Bool.true_and, Bool.false_and, Bool.and_false, Bool.and_true]
  exact coe_ z4U
 cases x9 : decide (a.move = b.move)
 ·simp only [Bool.true_and, Bool.false_and, Bool.and_false, Bool.and_true]
  exact coe_ z4U
 cases x10 : decide (a.group = b.group)
 ·simp only [Bool.true_and, Bool.false_and, Bool.and_false, Bool.and_true]
  exact coe_ z4U
 cases x11 : decide (a.res = b.res)
 ·simp only [Bool.true_and, Bool.false_and, Bool.and_false, Bool.and_true]
  exact coe_ z4U
 cases x12 : decide (a.data = b.data)
 ·simp only [Bool.true_and, Bool.false_and, Bool.and_false, Bool.and_true]
  exact coe_ z4U
 simp only [Bool.true_and, Bool.false_and, Bool.and_false, Bool.and_true]
 exact coe_ z4U
end Go.Proofs
namespace Go.Proofs
open Go.Sx
set_option maxRecDepth 100000
theorem j8Y (c : CmdN) (p : Nat) (H : Heap) (hN : Neat H) (hc : z8a H p c) : CallTo Tryz.prog Tryz.tab 128 [.ptr p 0] H [(.bool (effB c.e), H)] := by
 have q := q1R c.e H hN
 have a0 := hc.1
 refine z0j (n := 20) Tryz.tabOk (ov := ptO noOv 129 [.agg [vi c.e.s, vi c.e.t, vi c.e.p]] H [(vi (code (effB c.e) 2), H)]) (z0e z0c q) (H' := H) ?_ (.refl _) hN trivial
 clear q hc hN
 cases effB c.e
 all_goals exact co_ (y5_ k5p Tryz.f128.eq_1 @z9A (z0f ia26 sz26) @ccL)
theorem j8Z (c : CmdN) (p : Nat) (H : Heap) (hN : Neat H) (hc : z8a H p c) (he : effB c.e = true) (hP : PowAt H) : CallTo Tryz.prog Tryz.tab 134 [.ptr p 0] H [(.str (effT c.e), H)] := by
 have q := j0b c.e he H hN hP
 have a0 := hc.1
 refine z0j (n := 20) Tryz.tabOk (ov := ptO noOv 135 [.agg [vi c.e.s, vi c.e.t, vi c.e.p]] H [(.tuple [.str (effT c.e), vi 0], H)]) (z0e z0c q) (H' := H) ?_ (.refl _) hN trivial
 clear q hc hN
 all_goals exact co_ (y5_ k5r Tryz.f134.eq_1 @z9A (z0f ia26 sz26) @ccL)
theorem j1S (c : CmdN) (p : Nat) (H : Heap) (hN : Neat H) (hc : z8a H p c) (hb : CmdSm c) : CallTo Tryz.prog Tryz.tab 151 [.ptr p 0] H [(.bool (z1Y c.fr c.to), H)] := by
 have q := q6G c.fr c.to (by have := hb.fr; omega) (by have := hb.to; omega) H hN
 have a0 := hc.1
 refine z0j (n := 20) Tryz.tabOk (ov := ptO noOv 152 [.agg [.str c.fr, .str c.to]] H [(vi (code (z1Y c.fr c.to) 2), H)]) (z0e z0c q) (H' := H) ?_ (.refl _) hN trivial
 clear q hc hN
 cases z1Y c.fr c.to
 all_goals exact co_ (y5_ k5z Tryz.f151.eq_1 @z6q (z0f ia28 sz28) @ccL)
theorem j1T (c : CmdN) (p : Nat) (H : Heap) (hN : Neat H) (hc : z8a H p c) (hb : CmdSm c) (he : z1Y c.fr c.to = true) : CallTo Tryz.prog Tryz.tab 157 [.ptr p 0] H [(.str (z2v c.fr c.to), H)] := by
 have q := j8U c.fr c.to he (by have := hb.fr; omega) (by have := hb.to; omega) H hN
 have a0 := hc.1
 refine z0j (n := 20) Tryz.tabOk (ov := ptO noOv 158 [.agg [.str c.fr, .str c.to]] H [(.tuple [.str (z2v c.fr c.to), vi 0], H)]) (z0e z0c q) (H' := H) ?_ (.refl _) hN trivial
 clear q hc hN
 all_goals exact co_ (y5_ k5A Tryz.f157.eq_1 @z6q (z0f ia28 sz28) @ccL)
theorem j9a (c : CmdN) (p : Nat) (H : Heap) (hN : Neat H) (hc : z8a H p c) (hb : CmdSm c) : CallTo Tryz.prog Tryz.tab 164 [.ptr p 0] H [(.bool (defB c.d), H)] := by
 have q := q6I c.d H hN hc.2 (by have := hb.dn; omega) (fun s hs => by have := hb.dk s hs; omega) (by have := hb.dl; omega)
 have a0 := hc.1
 refine z0j (n := 20) Tryz.tabOk (ov := ptO noOv 165 [.agg (dfL c.d)] H [(vi (code (defB c.d) 15), H)]) (z0e z0c q) (H' := H) ?_ (.refl _) hN trivial
 clear q hc hN
 cases defB c.d
 all_goals exact co_ (y5_ k5G Tryz.f164.eq_1 @z8g (z0f ia31 sz31) @ccL)
theorem j9b (c : CmdN) (p : Nat) (H : Heap) (hN : Neat H) (hc : z8a H p c) (hb : CmdSm c) (he : defB c.d = true) (hP : PowAt H) : CallTo Tryz.prog Tryz.tab 171 [.ptr p 0] H [(.str (defT c.d), H)] := by
 have q := j8W c.d he H hN hP hc.2 (by have := hb.dn; omega) (fun s hs => by have := hb.dk s hs; omega) (by have := hb.dl; omega)
 have a0 := hc.1
 refine z0j (n := 20) Tryz.tabOk (ov := ptO noOv 172 [.agg (dfL c.d)] H [(.tuple [.str (defT c.d), vi 0], H)]) (z0e z0c q) (H' := H) ?_ (.refl _) hN trivial
 clear q hc hN
 all_goals exact co_ (y5_ k5H Tryz.f171.eq_1 @z8g (z0f ia31 sz31) @ccL)
theorem j5R (c : CmdN) (p : Nat) (H : Heap) (hN : Neat H) (hc : z8a H p c) : CallTo Tryz.prog Tryz.tab 175 [.ptr p 0] H [(.bool (z4a c.it), H)] := by
 have q := q3n c.it H hN
 have a0 := hc.1
 refine z0j (n := 20) Tryz.tabOk (ov := ptO noOv 176 [.agg (itL c.it)] H [(vi (code (z4a c.it) 2), H)]) (z0e z0c q) (H' := H) ?_ (.refl _) hN trivial
 clear q hc hN
 cases z4a c.it
 all_goals exact co_ (y5_ k5K Tryz.f175.eq_1 @z6u (z0f ia33 sz33) @ccL)
theorem j5S (c : CmdN) (p : Nat) (H : Heap) (hN : Neat H) (hc : z8a H p c) (he : z4a c.it = true) (hP : PowAt H) : CallTo Tryz.prog Tryz.tab 181 [.ptr p 0] H [(.str (z6n c.it), H)] := by
 have q := j5J c.it he H hN hP
 have a0 := hc.1
 refine z0j (n := 20) Tryz.tabOk (ov := ptO noOv 182 [.agg (itL c.it)] H [(.tuple [.str (z6n c.it), vi 0], H)]) (z0e z0c q) (H' := H) ?_ (.refl _) hN trivial
 clear q hc hN
 all_goals exact co_ (y5_ k5L Tryz.f181.eq_1 @z6u (z0f ia33 sz33) @ccL)
theorem j9c (c : CmdN) (p : Nat) (H : Heap) (hc : H.blks.get p = some (z0p c)) : CallTo Tryz.prog Tryz.tab 136 [.ptr p 0] H [(.tuple [], z0n H p (some (z0p (fEff.cl c))))] := by
 have hs := w4x hc
 refine z0T Tryz.tabOk z0c (n := 20) ?_
 clear hc
 exact co_ (y5_ k5s Tryz.f136.eq_1 @one0 @z9A @q1T)
theorem j1U (c : CmdN) (p : Nat) (H : Heap) (hc : H.blks.get p = some (z0p c)) : CallTo Tryz.prog Tryz.tab 159 [.ptr p 0] H [(.tuple [], z0n H p (some (z0p (fRange.cl c))))] := by
 have hs := k3T hc
 refine z0T Tryz.tabOk z0c (n := 20) ?_
 clear hc
 exact co_ (y5_ k5C Tryz.f159.eq_1 @one0 @z6q @k3U)
theorem j9d (c : CmdN) (p : Nat) (H : Heap) (hc : H.blks.get p = some (z0p c)) : CallTo Tryz.prog Tryz.tab 173 [.ptr p 0] H [(.tuple [], z0n H p (some (z0p (fDef.cl c))))] := by
 have hs := w4y hc
 refine z0T Tryz.tabOk z0c (n := 20) ?_
 clear hc
 exact co_ (y5_ k5I Tryz.f173.eq_1 @one0 @z8g @w4A)
theorem j5T (c : CmdN) (p : Nat) (H : Heap) (hc : H.blks.get p = some (z0p c)) : CallTo Tryz.prog Tryz.tab 183 [.ptr p 0] H [(.tuple [], z0n H p (some (z0p (fItem.cl c))))] := by
 have hs := k8o hc
 refine z0T Tryz.tabOk z0c (n := 20) ?_
 clear hc
 exact co_ (y5_ k5M Tryz.f183.eq_1 @one0 @z6u @k8p)
theorem j1V (c : CmdN) (p : Nat) (H : Heap) (hc : H.blks.get p = some (z0p c)) : CallTo Tryz.prog Tryz.tab 147 [.ptr p 0] H [(.tuple [], z0n H p (some (z0p (fDelta.cl c))))] := by
 have hs := k3S hc
 refine z0T Tryz.tabOk z0c (n := 20) ?_
 clear hc
 exact co_ (y4_ k5w Tryz.f147.eq_1 @one0 @z6t)
theorem j9e (c : CmdN) (p : Nat) (H : Heap) (hc : H.blks.get p = some (z0p c)) : CallTo Tryz.prog Tryz.tab 188 [.ptr p 0] H [(.tuple [], z0n H p (some (z0p (fRes.cl c))))] := by
 have hs := w4z hc
 refine z0T Tryz.tabOk z0c (n := 20) ?_
 clear hc
 exact co_ (y4_ k5P Tryz.f188.eq_1 @one0 @z4Y)
theorem j1W (c : CmdN) (p : Nat) (H : Heap) (hN : Neat H) (hc : z8a H p c) : CallTo Tryz.prog Tryz.tab 141 [.ptr p 0] H [(.bool (decide (c.delta ≠ 0) && numB c.delta), H)] := by
 have q := q1Q c.delta H hN
 have a0 := hc.1
 refine z0j (n := 20) Tryz.tabOk (ov := ptO noOv 35 [vi c.delta] H [(vi (code (numB c.delta) 7), H)]) (z0e z0c q) (H' := H) ?_ (.refl _) hN trivial
 clear q hc hN
 by_cases hz : c.delta = 0
 ·rw [show decide (c.delta ≠ 0) = false by simp [hz], Bool.false_and]
  exact co_ (y5_ k0m Tryz.f141.eq_1 @z6t (z0b ia2) @ccL)
 ·rw [show decide (c.delta ≠ 0) = true by simp [hz], Bool.true_and]
  cases numB c.delta
  all_goals exact co_ (y5_ k0m Tryz.f141.eq_1 @z6t (z0b ia2) @ccL)
set_option linter.defProp false
def k8t := y6_ k5v Tryz.f146.eq_1 @z6t (z0b ia2) @ccL @z3w
theorem j1X (c : CmdN) (p : Nat) (H : Heap) (hN : Neat H) (hc : z8a H p c) (hn : In64 c.delta) (hP : PowAt H) : CallTo Tryz.prog Tryz.tab 146 [.ptr p 0] H [(.str (z7q c.delta), H)] := by
 have a0 := hc.1
 have l1 := z0r hn
 refine z0j (n := 20) Tryz.tabOk (ov := z1O noOv 21 ovF) (z0I z0c j5H) (H' := H) ?_ (.refl _) hN trivial
 have hF := j5G hP hn
 have c1 := cat_ [43] (z0o c.delta)
 clear hc hN l1 hP hn
 unfold z7q
 by_cases h0 : 0 < c.delta
 ·rw [if_pos h0]
  exact co_ k8t
 ·rw [if_neg h0, List.nil_append]
  exact co_ k8t
theorem j9f (c : CmdN) (p : Nat) (H : Heap) (hN : Neat H) (hc : z8a H p c) : CallTo Tryz.prog Tryz.tab 184 [.ptr p 0] H [(.bool (z0x c.res 0 18), H)] := by
 have a0 := hc.1
 refine z0j (n := 20) Tryz.tabOk z0c (H' := H) ?_ (.refl _) hN trivial
 clear hc hN
 simp only [z0x, nle, nleN]
 rcases Classical.em (c.res < 0) with h1 | h1
 rotate_left
 rcases Classical.em (18 < c.res) with h2 | h2
 rotate_left
 all_goals simp only [*, decide_true, decide_false, not_false_eq_true, Bool.not_true, Bool.not_false, Bool.and_true, Bool.and_false, Bool.true_and, Bool.false_and]
 all_goals exact co_ (y5_ k5N Tryz.f184.eq_1 @z4Y (z0b ia34) @ccL)
theorem j9g (c : CmdN) (p : Nat) (H : Heap) (hN : Neat H) (hc : z8a H p c) (hn : In64 c.res) (hP : PowAt H) : CallTo Tryz.prog Tryz.tab 187 [.ptr p 0] H [(.str (z0o c.res), H)] := by
 have a0 := hc.1
 refine z0j (n := 20) Tryz.tabOk (ov := z1O noOv 20 ovI) (z0I z0c z8M) (H' := H) ?_ (.refl _) hN trivial
 have hF := z6j hP hn
 clear hc hN hP hn
 exact co_ (y5_ k5O Tryz.f187.eq_1 @z4Y (z0b ia34) @ccL)
theorem j5U (c : CmdN) (p : Nat) (H : Heap) (hN : Neat H) (hp : p < H.next) : CallTo Tryz.prog Tryz.tab 149 [.ptr p 0] H [(.ptr p 1, H)] := by
 refine z0j (n := 20) Tryz.tabOk z0c (H' := H) ?_ (.refl _) hN hp
 clear hN hp
 exact co_ (y3_ k5x Tryz.f149.eq_1 @z9B)
theorem j5V (c : CmdN) (p : Nat) (H : Heap) (hN : Neat H) (hp : p < H.next) : CallTo Tryz.prog Tryz.tab 163 [.ptr p 0] H [(.ptr p 2, H)] := by
 refine z0j (n := 20) Tryz.tabOk z0c (H' := H) ?_ (.refl _) hN hp
 clear hN hp
 exact co_ (y3_ k5F Tryz.f163.eq_1 @z7v)
theorem j5W (c : CmdN) (p : Nat) (H : Heap) (hN : Neat H) (hp : p < H.next) : CallTo Tryz.prog Tryz.tab 150 [.ptr p 0] H [(.ptr p 8, H)] := by
 refine z0j (n := 20) Tryz.tabOk z0c (H' := H) ?_ (.refl _) hN hp
 clear hN hp
 exact co_ (y3_ k5y Tryz.f150.eq_1 @z8h)
theorem j1Y (c : CmdN) (p : Nat) (H : Heap) (hN : Neat H) (hp : p < H.next) : CallTo Tryz.prog Tryz.tab 174 [.ptr p 0] H [(.ptr p 11, H)] := by
 refine z0j (n := 20) Tryz.tabOk z0c (H' := H) ?_ (.refl _) hN hp
 clear hN hp
 exact co_ (y3_ k5J Tryz.f174.eq_1 @z9C)
theorem j9h (c : CmdN) (p : Nat) (H : Heap) (hN : Neat H) (hp : p < H.next) : CallTo Tryz.prog Tryz.tab 138 [.ptr p 0] H [(.ptr p 6, H)] := by
 refine z0j (n := 20) Tryz.tabOk z0c (H' := H) ?_ (.refl _) hN hp
 clear hN hp
 exact co_ (y3_ k5t Tryz.f138.eq_1 @z6p)
theorem j5X (c : CmdN) (p : Nat) (H : Heap) (hN : Neat H) (hp : p < H.next) : CallTo Tryz.prog Tryz.tab 160 [.ptr p 0] H [(.ptr p 23, H)] := by
 refine z0j (n := 20) Tryz.tabOk z0c (H' := H) ?_ (.refl _) hN hp
 clear hN hp
 exact co_ (y3_ k5D Tryz.f160.eq_1 @z4u)
theorem j9i (s : z0L) (H : Heap) (hN : Neat H) : CallTo Tryz.prog Tryz.tab 140 [.str s] H [(.str s, H)] := by
 refine z0j (n := 20) Tryz.tabOk z0c (H' := H) ?_ (.refl _) hN trivial
 clear hN
 exact co_ (y2_ k5u Tryz.f140.eq_1)
theorem j5Y (s : z0L) (H : Heap) (hN : Neat H) : CallTo Tryz.prog Tryz.tab 161 [.str s] H [(.bool (decide (s.length ≤ 65536)), H)] := by
 refine z0j (n := 20) Tryz.tabOk z0c (H' := H) ?_ (.refl _) hN trivial
 clear hN
 by_cases h : 65536 < (s.length : Int)
 ·rw [show decide (s.length ≤ 65536) = false by simp; omega]
  exact co_ (y3_ k0n Tryz.f161.eq_1 (z0S ud9))
 ·rw [show decide (s.length ≤ 65536) = true by simp; omega]
  exact co_ (y3_ k0n Tryz.f161.eq_1 (z0S ud9))
theorem j5Z (s : z0L) (hl : s.length < 1000000) (H : Heap) (hN : Neat H) (hP : PowAt H) : CallTo Tryz.prog Tryz.tab 162 [.str s] H [(.str (z0o s.length), H)] := by
 refine z0j (n := 20) Tryz.tabOk (ov := z1O noOv 20 ovI) (z0I z0c z8M) (H' := H) ?_ (.refl _) hN trivial
 have hF := z6j (n := (s.length : Int)) hP ⟨by omega, by omega⟩
 clear hN hP hl
 exact co_ (y3_ k5E Tryz.f162.eq_1 (z0S ud9))
end Go.Proofs
namespace Go.Proofs
open Go.Sx
set_option maxRecDepth 100000
def FldOk (k : Heap) (fs : List AV) (F : Fld) : Prop := ∃ (a b c d e : Nat) (x y z u v : List AV), fs = [.func (.func a) [] x, .func (.func b) [] y, .func (.func c) [] z, .func (.func d) [] u, .func (.func e) [] v] ∧
 ∀ h, Grows k h → Neat h → ∀ (p : Nat) (m : CmdN), z8a h p m → CmdSm m →
  CallTo Tryz.prog Tryz.tab a (.ptr p 0 :: x) h [(.bool (F.ok m), h)] ∧ (F.ok m = true → PowAt h → CallTo Tryz.prog Tryz.tab d (.ptr p 0 :: u) h [(.str (F.tx m), h)]) ∧
  CallTo Tryz.prog Tryz.tab e (.ptr p 0 :: v) h [(.tuple [], z0n h p (some (z0p (F.cl m))))]
theorem FldOk.grow {k k' : Heap} {fs : List AV} {F : Fld} (h : FldOk k fs F) (hg : Grows k k') : FldOk k' fs F := by
 obtain ⟨a, b, c, d, e, x, y, z, u, v, h1, h2⟩ := h
 exact ⟨a, b, c, d, e, x, y, z, u, v, h1, fun h hh => h2 h (hg.trans hh)⟩
def z8P (H : Heap) (f : FuncId) (F : Fld) : Prop := ∃ fs K, CallTo Tryz.prog Tryz.tab f [] H [(.agg fs, K)] ∧ FldOk K fs F ∧ ltL K.next fs ∧ Grows H K ∧ Neat K
theorem j0f {n : Int} (h : (decide (n ≠ 0) && numB n) = true) : In64 n := by
 simp only [numB, q9Z, Bool.and_eq_true, decide_eq_true_eq] at h
 exact ⟨by omega, by omega⟩
theorem z5J {n lo hi : Int} (h : z0x n lo hi = true) (h1 : -9223372036854775808 ≤ lo) (h2 : hi ≤ 9223372036854775807) : In64 n := by
 simp only [z0x, Bool.and_eq_true, decide_eq_true_eq] at h
 exact ⟨by omega, by omega⟩
theorem k0R {n : Int} (h : z0x n 0 18 = true) : In64 n := z5J h (by omega) (by omega)
theorem z7i {H : Heap} {f : FuncId} {F : Fld} {fs : List AV} (h : ∃ v h, (v = AV.agg fs ∧ Grows H h) ∧ H.next ≤ h.next ∧ CallTo Tryz.prog Tryz.tab f [] H [(v, z2d H h)]) (hl : ∀ n, ltL n fs) (hF : FldOk H fs F) : z8P H f F := by
 obtain ⟨v, h, ⟨rfl, hg⟩, hle, hc⟩ := h
 have hg' : Grows H (z2d H h) := ⟨hle, fun b hb => z4m hb hle (hg.get b hb)⟩
 exact ⟨fs, z2d H h, hc, hF.grow hg', hl _, hg', z1X _ _⟩
end Go.Proofs
namespace Go.Sx
theorem Grows.some_ {K h : Heap} (hg : Grows K h) (hN : Neat K) {b : Nat} {o : ABlk} (hb : K.blks.get b = some o) : h.blks.get b = some o := by rw [hg.get b (hN b o hb)]; exact hb
end Go.Sx
namespace Go.Proofs
open Go.Sx
theorem k0S (f : Fn) (a b : List AV) : (AV.func f a b).cells = [.func f a b] := rfl
theorem j6a : z0P .nilFunc = true := rfl
theorem t_c5 (H : Heap) (b off : Nat) (x y z w v : AV) : stC H b off [x, y, z, w, v] (some 5) = z4x H b off [x, y, z, w, v] (H.blks.get b) := rfl
theorem t_r5 (e : TypeId) (x : Bool) (a b c d f : AV) : Sx.cellsIn (some (.cells e x [a, b, c, d, f])) 0 5 = some [a, b, c, d, f] := rfl
theorem j9j (at_ off : Nat) (x lo hi : Int) (p b0 b1 b2 : Nat) (H : Heap) (hN : Neat H) (hne : 261 ≠ at_) (q0 : CallTo Tryz.prog Tryz.tab at_ [.ptr p 0] H [(.ptr p off, H)]) (h0 : H.blks.get b0 = some (.cells 255 true [.func (.func at_) [] []]))
  (h1 : H.blks.get b1 = some (.cells 3 true [vi lo])) (h2 : H.blks.get b2 = some (.cells 3 true [vi hi])) (hx : z1g (H.blks.get p) off = some (vi x)) :
  CallTo Tryz.prog Tryz.tab 260 [.ptr p 0, .ptr b0 0, .ptr b1 0, .ptr b2 0] H [(.bool (z0x x lo hi), H)] := by
 refine z0A Tryz.tabOk Tryz.func260 rfl rfl ?_
 show Gets Tryz.prog Tryz.tab ⟨none, 14⟩ _ _ _
 repeat refine Gets.seq ?_
 have q1 := j5B x lo hi H hN
 refine g0_ ?_
 refine gk_ (ov := ptO (ptO noOv 261 [vi x, vi lo, vi hi] H [(.bool (z0x x lo hi), H)]) at_ [.ptr p 0] H [(.ptr p off, H)]) (z0e (z0e z0c q1) q0) [.rd 0, .rd 1, .rd 5, .rd 6, .sm 2, .rd 3, .rd 4, .sm 7, .rd 8] (hN) (y8_ @z0y (fun o => z3Z o hne) h0 h1 h2 hx (z0b j7s) (z0b ia3)) ?_
 refine Gets.ret Tryz.tabOk ?_
 exact z0v rfl (sr_ Tryz.f260.eq_1) (.refl _) hN trivial
theorem j9k (at_ off : Nat) (x : Int) (p b0 : Nat) (H : Heap) (hN : Neat H) (hP : PowAt H) (hn : In64 x) (hne : 20 ≠ at_) (q0 : CallTo Tryz.prog Tryz.tab at_ [.ptr p 0] H [(.ptr p off, H)]) (h0 : H.blks.get b0 = some (.cells 255 true [.func (.func at_) [] []]))
  (hx : z1g (H.blks.get p) off = some (vi x)) : CallTo Tryz.prog Tryz.tab 264 [.ptr p 0, .ptr b0 0] H [(.str (z0o x), H)] := by
 refine z0A Tryz.tabOk Tryz.func264 rfl rfl ?_
 show Gets Tryz.prog Tryz.tab ⟨none, 10⟩ _ _ _
 repeat refine Gets.seq ?_
 refine g0_ ?_
 refine o1_ (ov := ptO (z1O noOv 20 ovI) at_ [.ptr p 0] H [(.ptr p off, H)]) (z0e (z0I z0c z8M) q0) (y7_ @z0y (fun o => z3Z o hne) (z6j hP hn) h0 hx (z0b j7s) (z0b ia3)) ?_
 refine Gets.ret Tryz.tabOk ?_
 exact z0v rfl (sr_ Tryz.f264.eq_1) (.refl _) hN trivial
theorem j9l (at_ off : Nat) (p b0 : Nat) (c : CmdN) (H : Heap) (hne : 265 ≠ at_) (q0 : CallTo Tryz.prog Tryz.tab at_ [.ptr p 0] H [(.ptr p off, H)]) (h0 : H.blks.get b0 = some (.cells 255 true [.func (.func at_) [] []]))
  (hs : z0E Tryz.tab H 3 (.ptr p off) (vi 0) = some (z0n H p (some (z0p c)))) : CallTo Tryz.prog Tryz.tab 265 [.ptr p 0, .ptr b0 0] H [(.tuple [], z0n H p (some (z0p c)))] := by
 refine z0T Tryz.tabOk (ov := ptO noOv at_ [.ptr p 0] H [(.ptr p off, H)]) (z0e z0c q0) (n := 20) ?_
 rw [z5d]
 simp -implicitDefEqProofs (disch := first | exact d_ | fail) only [sxM, Nat.reduceAdd, reduceCtorEq, Int.reduceToNat, Nat.reduceEqDiff, Int.reduceEq, Int.reduceLT, z5e, z0y, k5Z, Tryz.f265, z3Z _ hne, one0, h0, hs, z0b j7s]
theorem j9m (at_ ck off : Nat) (x : z0L) (ok : Bool) (p b0 b1 : Nat) (H : Heap) (hN : Neat H) (hne : ck ≠ at_) (q0 : CallTo Tryz.prog Tryz.tab at_ [.ptr p 0] H [(.ptr p off, H)]) (q1 : CallTo Tryz.prog Tryz.tab ck [.str x] H [(.bool ok, H)])
  (h0 : H.blks.get b0 = some (.cells 249 true [.func (.func ck) [] []])) (h1 : H.blks.get b1 = some (.cells 248 true [.func (.func at_) [] []])) (hx : z1g (H.blks.get p) off = some (.str x)) :
  CallTo Tryz.prog Tryz.tab 247 [.ptr p 0, .ptr b0 0, .ptr b1 0] H [(.bool ok, H)] := by
 refine z0A Tryz.tabOk Tryz.func247 rfl rfl ?_
 show Gets Tryz.prog Tryz.tab ⟨none, 12⟩ _ _ _
 repeat refine Gets.seq ?_
 refine g0_ ?_
 refine gk_ (ov := ptO (ptO noOv ck [.str x] H [(.bool ok, H)]) at_ [.ptr p 0] H [(.ptr p off, H)]) (z0e (z0e z0c q1) q0) [.rd 0, .rd 1, .rd 2, .sm 3, .rd 4, .rd 5, .sm 6, .rd 7] (hN) (y8_ @z0y (fun o => z3Z o hne) h0 h1 hx (z0b k5T) (z0b j7r) (z0b ia9)) ?_
 refine Gets.ret Tryz.tabOk ?_
 exact z0v rfl (sr_ Tryz.f247.eq_1) (.refl _) hN trivial
theorem j9n (at_ sh off : Nat) (x y : z0L) (p b0 b1 : Nat) (H : Heap) (hN : Neat H) (hne : sh ≠ at_) (q0 : CallTo Tryz.prog Tryz.tab at_ [.ptr p 0] H [(.ptr p off, H)]) (q1 : CallTo Tryz.prog Tryz.tab sh [.str x] H [(.str y, H)])
  (h0 : H.blks.get b0 = some (.cells 250 true [.func (.func sh) [] []])) (h1 : H.blks.get b1 = some (.cells 248 true [.func (.func at_) [] []])) (hx : z1g (H.blks.get p) off = some (.str x)) :
  CallTo Tryz.prog Tryz.tab 250 [.ptr p 0, .ptr b0 0, .ptr b1 0] H [(.str y, H)] := by
 refine z0A Tryz.tabOk Tryz.func250 rfl rfl ?_
 show Gets Tryz.prog Tryz.tab ⟨none, 12⟩ _ _ _
 repeat refine Gets.seq ?_
 refine g0_ ?_
 refine gk_ (ov := ptO (ptO noOv sh [.str x] H [(.str y, H)]) at_ [.ptr p 0] H [(.ptr p off, H)]) (z0e (z0e z0c q1) q0) [.rd 0, .rd 1, .rd 2, .sm 3, .rd 4, .rd 5, .sm 6, .rd 7] (hN) (y8_ @z0y (fun o => z3Z o hne) h0 h1 hx (z0b k5U) (z0b j7r) (z0b ia9)) ?_
 refine Gets.ret Tryz.tabOk ?_
 exact z0v rfl (sr_ Tryz.f250.eq_1) (.refl _) hN trivial
theorem j9o (at_ off : Nat) (p b0 : Nat) (c : CmdN) (H : Heap) (hne : 251 ≠ at_) (q0 : CallTo Tryz.prog Tryz.tab at_ [.ptr p 0] H [(.ptr p off, H)]) (h0 : H.blks.get b0 = some (.cells 248 true [.func (.func at_) [] []]))
  (hs : z0E Tryz.tab H 9 (.ptr p off) (.str []) = some (z0n H p (some (z0p c)))) : CallTo Tryz.prog Tryz.tab 251 [.ptr p 0, .ptr b0 0] H [(.tuple [], z0n H p (some (z0p c)))] := by
 refine z0T Tryz.tabOk (ov := ptO noOv at_ [.ptr p 0] H [(.ptr p off, H)]) (z0e z0c q0) (n := 20) ?_
 rw [z5d]
 simp -implicitDefEqProofs (disch := first | exact d_ | fail) only [sxM, Nat.reduceAdd, reduceCtorEq, Int.reduceToNat, Nat.reduceEqDiff, Int.reduceEq, Int.reduceLT, z5e, z0y, k5V, Tryz.f251, z3Z _ hne, one0, h0, hs, z0b j7r]
end Go.Proofs
namespace Go.Proofs
open Go.Sx
set_option maxRecDepth 100000
theorem q1U : Tryz.tab.zero 109 = some (.agg [.nilFunc, .nilFunc, .nilFunc, .nilFunc, .nilFunc]) := by kernel_rfl
abbrev fl5 (a b c d e : Nat) (x y z u v : List AV) : List AV := [.func (.func a) [] x, .func (.func b) [] y, .func (.func c) [] z, .func (.func d) [] u, .func (.func e) [] v]
theorem q4U (a b c d e : Nat) (x y z u v : List AV) : z8k Tryz.tab 109 [(0, .func (.func a) [] x), (1, .func (.func b) [] y), (2, .func (.func c) [] z), (3, .func (.func d) [] u), (4, .func (.func e) [] v)] = some (.agg (fl5 a b c d e x y z u v)) := by kernel_rfl
set_option linter.defProp false
def q0f := y2_ @q1U @j6a
def j1Z := y4_ @q4U @stL @t_c5 @z4v
theorem k3Y (H : Heap) (hN : Neat H) : z8P H 69 fEff := by
 refine z7i (z2D (R := fun v h => v = .agg (fl5 128 130 132 134 136 [] [] [] [] []) ∧ Grows H h) Tryz.tabOk Tryz.func69 rfl rfl (args := []) (H := H) ?_) (fun _ => by simp [ltL, ltV])
  ⟨_, _, _, _, _, _, _, _, _, _, rfl, fun h _ hN p c hc hb => ⟨j8Y c p h hN hc, fun e hP => j8Z c p h hN hc e hP, j9c c p h hc.1⟩⟩
 show GetsE Tryz.prog Tryz.tab ⟨none, 2⟩ _ _ _
 repeat refine GetsE.seq ?_
 refine g1x_ q0f ?_
 refine g1x_ j1Z ?_
 refine GetsE.ret Tryz.tabOk ?_
 exact z8H (vs := [.agg (fl5 128 130 132 134 136 [] [] [] [] [])]) (R := fun v h => v = .agg (fl5 128 130 132 134 136 [] [] [] [] []) ∧ Grows H h) rfl (sq1_ (y5_ Tryz.f69.eq_1 (z0f z7m z4v) @z0K @t_r5 @stL)) (fl_) (by simp [z2h, ltV, ltL]) ⟨rfl, ⟨fl_, fun b hb => fo_⟩⟩
theorem j6b (H : Heap) (hN : Neat H) : z8P H 71 fDelta := by
 refine z7i (z2D (R := fun v h => v = .agg (fl5 141 142 144 146 147 [] [] [] [] []) ∧ Grows H h) Tryz.tabOk Tryz.func71 rfl rfl (args := []) (H := H) ?_) (fun _ => by simp [ltL, ltV])
  ⟨_, _, _, _, _, _, _, _, _, _, rfl, fun h _ hN p c hc hb => ⟨j1W c p h hN hc, fun e hP => j1X c p h hN hc (j0f e) hP, j1V c p h hc.1⟩⟩
 show GetsE Tryz.prog Tryz.tab ⟨none, 2⟩ _ _ _
 repeat refine GetsE.seq ?_
 refine g1x_ q0f ?_
 refine g1x_ j1Z ?_
 refine GetsE.ret Tryz.tabOk ?_
 exact z8H (vs := [.agg (fl5 141 142 144 146 147 [] [] [] [] [])]) (R := fun v h => v = .agg (fl5 141 142 144 146 147 [] [] [] [] []) ∧ Grows H h) rfl (sq1_ (y5_ Tryz.f71.eq_1 (z0f z7m z4v) @z0K @t_r5 @stL)) (fl_) (by simp [z2h, ltV, ltL]) ⟨rfl, ⟨fl_, fun b hb => fo_⟩⟩
theorem q1V (H : Heap) (hN : Neat H) : z8P H 74 fRange := by
 refine z7i (z2D (R := fun v h => v = .agg (fl5 151 153 155 157 159 [] [] [] [] []) ∧ Grows H h) Tryz.tabOk Tryz.func74 rfl rfl (args := []) (H := H) ?_) (fun _ => by simp [ltL, ltV])
  ⟨_, _, _, _, _, _, _, _, _, _, rfl, fun h _ hN p c hc hb => ⟨j1S c p h hN hc hb, fun e hP => j1T c p h hN hc hb e, j1U c p h hc.1⟩⟩
 show GetsE Tryz.prog Tryz.tab ⟨none, 2⟩ _ _ _
 repeat refine GetsE.seq ?_
 refine g1x_ q0f ?_
 refine g1x_ j1Z ?_
 refine GetsE.ret Tryz.tabOk ?_
 exact z8H (vs := [.agg (fl5 151 153 155 157 159 [] [] [] [] [])]) (R := fun v h => v = .agg (fl5 151 153 155 157 159 [] [] [] [] []) ∧ Grows H h) rfl (sq1_ (y5_ Tryz.f74.eq_1 (z0f z7m z4v) @z0K @t_r5 @stL)) (fl_) (by simp [z2h, ltV, ltL]) ⟨rfl, ⟨fl_, fun b hb => fo_⟩⟩
theorem k3Z (H : Heap) (hN : Neat H) : z8P H 77 fDef := by
 refine z7i (z2D (R := fun v h => v = .agg (fl5 164 166 168 171 173 [] [] [] [] []) ∧ Grows H h) Tryz.tabOk Tryz.func77 rfl rfl (args := []) (H := H) ?_) (fun _ => by simp [ltL, ltV])
  ⟨_, _, _, _, _, _, _, _, _, _, rfl, fun h _ hN p c hc hb => ⟨j9a c p h hN hc hb, fun e hP => j9b c p h hN hc hb e hP, j9d c p h hc.1⟩⟩
 show GetsE Tryz.prog Tryz.tab ⟨none, 2⟩ _ _ _
 repeat refine GetsE.seq ?_
 refine g1x_ q0f ?_
 refine g1x_ j1Z ?_
 refine GetsE.ret Tryz.tabOk ?_
 exact z8H (vs := [.agg (fl5 164 166 168 171 173 [] [] [] [] [])]) (R := fun v h => v = .agg (fl5 164 166 168 171 173 [] [] [] [] []) ∧ Grows H h) rfl (sq1_ (y5_ Tryz.f77.eq_1 (z0f z7m z4v) @z0K @t_r5 @stL)) (fl_) (by simp [z2h, ltV, ltL]) ⟨rfl, ⟨fl_, fun b hb => fo_⟩⟩
theorem j9p (H : Heap) (hN : Neat H) : z8P H 79 fItem := by
 refine z7i (z2D (R := fun v h => v = .agg (fl5 175 177 179 181 183 [] [] [] [] []) ∧ Grows H h) Tryz.tabOk Tryz.func79 rfl rfl (args := []) (H := H) ?_) (fun _ => by simp [ltL, ltV])
  ⟨_, _, _, _, _, _, _, _, _, _, rfl, fun h _ hN p c hc hb => ⟨j5R c p h hN hc, fun e hP => j5S c p h hN hc e hP, j5T c p h hc.1⟩⟩
 show GetsE Tryz.prog Tryz.tab ⟨none, 2⟩ _ _ _
 repeat refine GetsE.seq ?_
 refine g1x_ q0f ?_
 refine g1x_ j1Z ?_
 refine GetsE.ret Tryz.tabOk ?_
 exact z8H (vs := [.agg (fl5 175 177 179 181 183 [] [] [] [] [])]) (R := fun v h => v = .agg (fl5 175 177 179 181 183 [] [] [] [] []) ∧ Grows H h) rfl (sq1_ (y5_ Tryz.f79.eq_1 (z0f z7m z4v) @z0K @t_r5 @stL)) (fl_) (by simp [z2h, ltV, ltL]) ⟨rfl, ⟨fl_, fun b hb => fo_⟩⟩
theorem k4a (H : Heap) (hN : Neat H) : z8P H 80 fRes := by
 refine z7i (z2D (R := fun v h => v = .agg (fl5 184 185 186 187 188 [] [] [] [] []) ∧ Grows H h) Tryz.tabOk Tryz.func80 rfl rfl (args := []) (H := H) ?_) (fun _ => by simp [ltL, ltV])
  ⟨_, _, _, _, _, _, _, _, _, _, rfl, fun h _ hN p c hc hb => ⟨j9f c p h hN hc, fun e hP => j9g c p h hN hc (k0R e) hP, j9e c p h hc.1⟩⟩
 show GetsE Tryz.prog Tryz.tab ⟨none, 2⟩ _ _ _
 repeat refine GetsE.seq ?_
 refine g1x_ q0f ?_
 refine g1x_ j1Z ?_
 refine GetsE.ret Tryz.tabOk ?_
 exact z8H (vs := [.agg (fl5 184 185 186 187 188 [] [] [] [] [])]) (R := fun v h => v = .agg (fl5 184 185 186 187 188 [] [] [] [] []) ∧ Grows H h) rfl (sq1_ (y5_ Tryz.f80.eq_1 (z0f z7m z4v) @z0K @t_r5 @stL)) (fl_) (by simp [z2h, ltV, ltL]) ⟨rfl, ⟨fl_, fun b hb => fo_⟩⟩
abbrev z5 : ABlk := .cells 109 true [.nilFunc, .nilFunc, .nilFunc, .nilFunc, .nilFunc]
abbrev q4V (at_ : Nat) (lo hi : Int) (n : Nat) (h : Heap) : Prop := h.blks.get n = some (.cells 255 true [.func (.func at_) [] []]) ∧ h.blks.get (n + 1) = some (.cells 3 true [vi lo]) ∧ h.blks.get (n + 2) = some (.cells 3 true [vi hi])
abbrev numV (n : Nat) : List AV := fl5 260 262 263 264 265 [.ptr n 0, .ptr (n + 1) 0, .ptr (n + 2) 0] [.ptr n 0] [.ptr (n + 2) 0, .ptr n 0] [.ptr n 0] [.ptr n 0]
theorem z8Q (at_ : Nat) (lo hi : Int) (H : Heap) (hN : Neat H) : ∃ v h, (v = .agg (numV H.next) ∧ Grows H h ∧ q4V at_ lo hi H.next h ∧ Neat h ∧ H.next + 2 < h.next) ∧ H.next ≤ h.next ∧ CallTo Tryz.prog Tryz.tab 148 [.func (.func at_) [] [], vi lo, vi hi] H [(v, z2d H h)] := by
 refine z2D Tryz.tabOk Tryz.func148 rfl rfl ?_
 show GetsE Tryz.prog Tryz.tab ⟨none, 13⟩ _ _ _
 repeat refine GetsE.seq ?_
 refine g1x_ (y5_ @q1U @j6a @k0S (z0b j7s) (z0b ia3)) ?_
 refine g1x_ (y5_ @j4J @q4U @stL @t_c5 @z4v) ?_
 refine GetsE.ret Tryz.tabOk ?_
 exact z8H (vs := [.agg (numV H.next)]) (R := fun v h => v = .agg (numV H.next) ∧ Grows H h ∧ q4V at_ lo hi H.next h ∧ Neat h ∧ H.next + 2 < h.next) rfl (sq1_ (y5_ Tryz.f148.eq_1 (z0f z7m z4v) @z0K @t_r5 @stL)) (fl_) (by (try dsimp only); simp only [z2h, ltV, ltL, z0i, z0h, true_and, and_true]; omega) ⟨rfl, ⟨fl_, fun b hb => fo_⟩, ⟨fo_, fo_, fo_⟩, (by repeat' (first | exact hN | exact aN | exact bN | (refine Neat.push ?_ _) | (refine Neat.put ?_ (by ((try dsimp only); (try simp only [z0i, z0h]); omega)) _))), fl_⟩
theorem j0g {K : Heap} {at_ off : Nat} {lo hi : Int} {n : Nat} {g : CmdN → Int} {F : Fld} (hx : ∀ c, F.ok c = z0x (g c) lo hi) (ht : ∀ c, F.tx c = z0o (g c)) (h1 : -9223372036854775808 ≤ lo) (h2 : hi ≤ 9223372036854775807) (hne : 261 ≠ at_) (hne' : 20 ≠ at_) (hne5 : 265 ≠ at_)
  (qa : ∀ h, Neat h → ∀ p c, z8a h p c → CallTo Tryz.prog Tryz.tab at_ [.ptr p 0] h [(.ptr p off, h)]) (hr : ∀ c, z1g (some (z0p c)) off = some (vi (g c)))
  (hs : ∀ h p c, h.blks.get p = some (z0p c) → z0E Tryz.tab h 3 (.ptr p off) (vi 0) = some (z0n h p (some (z0p (F.cl c))))) (hK : q4V at_ lo hi n K) (hKN : Neat K) : FldOk K (numV n) F :=
 ⟨_, _, _, _, _, _, _, _, _, _, rfl, fun h hg hN p c hc hb => by
  have b0 := hg.some_ hKN hK.1
  have b1 := hg.some_ hKN hK.2.1
  have b2 := hg.some_ hKN hK.2.2
  have hx' : z1g (h.blks.get p) off = some (vi (g c)) := by rw [hc.1]; exact hr c
  refine ⟨?_, fun e hP => ?_, ?_⟩
  ·rw [hx]; exact j9j at_ off (g c) lo hi p n (n + 1) (n + 2) h hN hne (qa h hN p c hc) b0 b1 b2 hx'
  ·rw [ht]; exact j9k at_ off (g c) p n h hN hP (z5J (by rw [← hx]; exact e) h1 h2) hne' (qa h hN p c hc) b0 hx'
  ·exact j9l at_ off p n _ h hne5 (qa h hN p c hc) b0 (hs h p c hc.1)⟩
theorem z4t {H h : Heap} {f : FuncId} {F : Fld} {fs : List AV} (hg : Grows H h) (hc : CallTo Tryz.prog Tryz.tab f [] H [(.agg fs, z2d H h)]) (hF : FldOk (z2d H h) fs F) (hl : ltL h.next fs) : z8P H f F :=
 ⟨fs, z2d H h, hc, hF, hl, ⟨hg.next, fun b hb => z4m hb hg.next (hg.get b hb)⟩, z1X _ _⟩
theorem z3n {at_ : Nat} {lo hi : Int} {n : Nat} {H h : Heap} (hN : Neat h) (hb : q4V at_ lo hi n h) : q4V at_ lo hi n (z2d H h) :=
 ⟨z6g hN hb.1 ⟨⟨trivial, trivial⟩, trivial⟩, z6g hN hb.2.1 ⟨trivial, trivial⟩, z6g hN hb.2.2 ⟨trivial, trivial⟩⟩
def j2a := y4_ @z0y @stL @t_c5 @z4v
theorem z8R (H : Heap) (hN : Neat H) : z8P H 72 fCall := by
 obtain ⟨v, k, ⟨rfl, kg, kb, kN, kl⟩, -, hc⟩ := z8Q 149 0 2147483648 (H.push z5) (hN.push z5)
 have kg' : Grows (H.push z5) (z2d (H.push z5) k) := ⟨kg.next, fun b hb => z4m hb kg.next (kg.get b hb)⟩
 have kb' := z3n (H := H.push z5) kN kb
 have kz : (z2d (H.push z5) k).blks.get H.next = some z5 := kg'.some_ (hN.push z5) (fo_)
 have kN' := z1X (H.push z5) k
 have kl' : H.next + 1 + 2 < (z2d (H.push z5) k).next := kl
 obtain ⟨K, hK⟩ : ∃ K, K = z2d (H.push z5) k := ⟨_, rfl⟩
 rw [← hK] at hc kg' kb' kz kN' kl'
 have hgr : Grows H (z0n K H.next (some (.cells 109 true (numV (H.next + 1))))) := ⟨by have := kg'.next; ((try dsimp only); (try simp only [z0i, z0h]); omega), fun b hb => by rw [z0k _ _ _ (by omega), kg'.get b (fl_), z0u _ _ (by omega)]⟩
 have hbs : q4V 149 0 2147483648 (H.next + 1) (z0n K H.next (some (.cells 109 true (numV (H.next + 1))))) :=
  ⟨by rw [z0k _ _ _ (by omega)]; exact kb'.1, by rw [z0k _ _ _ (by omega)]; exact kb'.2.1, by rw [z0k _ _ _ (by omega)]; exact kb'.2.2⟩
 have hNs : Neat (z0n K H.next (some (.cells 109 true (numV (H.next + 1))))) := Neat.put kN' (by omega) _
 obtain ⟨v, h, ⟨rfl, rfl⟩, -, hm⟩ := z2D (R := fun v h => v = .agg (numV (H.next + 1)) ∧ h = z0n K H.next (some (.cells 109 true (numV (H.next + 1))))) Tryz.tabOk Tryz.func72 rfl rfl (args := []) (H := H) (by
  show GetsE Tryz.prog Tryz.tab ⟨none, 2⟩ _ _ _
  repeat refine GetsE.seq ?_
  refine g1x_ q0f ?_
  refine o1x_ (z0e z0c hc) (y2_ j2a kz) ?_
  refine GetsE.ret Tryz.tabOk ?_
  exact z8H (vs := [.agg (numV (H.next + 1))]) (R := fun v h => v = .agg (numV (H.next + 1)) ∧ h = z0n K H.next (some (.cells 109 true (numV (H.next + 1))))) rfl (sq1_ (y5_ Tryz.f72.eq_1 (z0f z7m z4v) @z0K @t_r5 @stL)) (by have := hgr.next; ((try dsimp only); (try simp only [z0i, z0h]); omega)) (by (try dsimp only); simp only [z2h, ltV, ltL, z0h, true_and, and_true]; omega) ⟨rfl, rfl⟩)
 exact z4t hgr hm (j0g (g := fun c => c.call) (off := 1) (fun _ => rfl) (fun _ => rfl) (by omega) (by omega) (by decide) (by decide) (by decide) (fun h hN p c hc => j5U c p h hN (hN p _ hc.1)) (fun _ => rfl) (fun h p c hc => k8k hc) (z3n hNs hbs) (z1X _ _)) (by simp only [ltV, ltL, z0h, true_and, and_true]; omega)
theorem q4W (H : Heap) (hN : Neat H) : z8P H 76 fSaga := by
 obtain ⟨v, k, ⟨rfl, kg, kb, kN, kl⟩, -, hc⟩ := z8Q 163 1 9999 (H.push z5) (hN.push z5)
 have kg' : Grows (H.push z5) (z2d (H.push z5) k) := ⟨kg.next, fun b hb => z4m hb kg.next (kg.get b hb)⟩
 have kb' := z3n (H := H.push z5) kN kb
 have kz : (z2d (H.push z5) k).blks.get H.next = some z5 := kg'.some_ (hN.push z5) (fo_)
 have kN' := z1X (H.push z5) k
 have kl' : H.next + 1 + 2 < (z2d (H.push z5) k).next := kl
 obtain ⟨K, hK⟩ : ∃ K, K = z2d (H.push z5) k := ⟨_, rfl⟩
 rw [← hK] at hc kg' kb' kz kN' kl'
 have hgr : Grows H (z0n K H.next (some (.cells 109 true (numV (H.next + 1))))) := ⟨by have := kg'.next; ((try dsimp only); (try simp only [z0i, z0h]); omega), fun b hb => by rw [z0k _ _ _ (by omega), kg'.get b (fl_), z0u _ _ (by omega)]⟩
 have hbs : q4V 163 1 9999 (H.next + 1) (z0n K H.next (some (.cells 109 true (numV (H.next + 1))))) :=
  ⟨by rw [z0k _ _ _ (by omega)]; exact kb'.1, by rw [z0k _ _ _ (by omega)]; exact kb'.2.1, by rw [z0k _ _ _ (by omega)]; exact kb'.2.2⟩
 have hNs : Neat (z0n K H.next (some (.cells 109 true (numV (H.next + 1))))) := Neat.put kN' (by omega) _
 obtain ⟨v, h, ⟨rfl, rfl⟩, -, hm⟩ := z2D (R := fun v h => v = .agg (numV (H.next + 1)) ∧ h = z0n K H.next (some (.cells 109 true (numV (H.next + 1))))) Tryz.tabOk Tryz.func76 rfl rfl (args := []) (H := H) (by
  show GetsE Tryz.prog Tryz.tab ⟨none, 2⟩ _ _ _
  repeat refine GetsE.seq ?_
  refine g1x_ q0f ?_
  refine o1x_ (z0e z0c hc) (y2_ j2a kz) ?_
  refine GetsE.ret Tryz.tabOk ?_
  exact z8H (vs := [.agg (numV (H.next + 1))]) (R := fun v h => v = .agg (numV (H.next + 1)) ∧ h = z0n K H.next (some (.cells 109 true (numV (H.next + 1))))) rfl (sq1_ (y5_ Tryz.f76.eq_1 (z0f z7m z4v) @z0K @t_r5 @stL)) (by have := hgr.next; ((try dsimp only); (try simp only [z0i, z0h]); omega)) (by (try dsimp only); simp only [z2h, ltV, ltL, z0h, true_and, and_true]; omega) ⟨rfl, rfl⟩)
 exact z4t hgr hm (j0g (g := fun c => c.saga) (off := 2) (fun _ => rfl) (fun _ => rfl) (by omega) (by omega) (by decide) (by decide) (by decide) (fun h hN p c hc => j5V c p h hN (hN p _ hc.1)) (fun _ => rfl) (fun h p c hc => k8l hc) (z3n hNs hbs) (z1X _ _)) (by simp only [ltV, ltL, z0h, true_and, and_true]; omega)
theorem j0h (H : Heap) (hN : Neat H) : z8P H 73 fMove := by
 obtain ⟨v, k, ⟨rfl, kg, kb, kN, kl⟩, -, hc⟩ := z8Q 150 1 64 (H.push z5) (hN.push z5)
 have kg' : Grows (H.push z5) (z2d (H.push z5) k) := ⟨kg.next, fun b hb => z4m hb kg.next (kg.get b hb)⟩
 have kb' := z3n (H := H.push z5) kN kb
 have kz : (z2d (H.push z5) k).blks.get H.next = some z5 := kg'.some_ (hN.push z5) (fo_)
 have kN' := z1X (H.push z5) k
 have kl' : H.next + 1 + 2 < (z2d (H.push z5) k).next := kl
 obtain ⟨K, hK⟩ : ∃ K, K = z2d (H.push z5) k := ⟨_, rfl⟩
 rw [← hK] at hc kg' kb' kz kN' kl'
 have hgr : Grows H (z0n K H.next (some (.cells 109 true (numV (H.next + 1))))) := ⟨by have := kg'.next; ((try dsimp only); (try simp only [z0i, z0h]); omega), fun b hb => by rw [z0k _ _ _ (by omega), kg'.get b (fl_), z0u _ _ (by omega)]⟩
 have hbs : q4V 150 1 64 (H.next + 1) (z0n K H.next (some (.cells 109 true (numV (H.next + 1))))) :=
  ⟨by rw [z0k _ _ _ (by omega)]; exact kb'.1, by rw [z0k _ _ _ (by omega)]; exact kb'.2.1, by rw [z0k _ _ _ (by omega)]; exact kb'.2.2⟩
 have hNs : Neat (z0n K H.next (some (.cells 109 true (numV (H.next + 1))))) := Neat.put kN' (by omega) _
 obtain ⟨v, h, ⟨rfl, rfl⟩, -, hm⟩ := z2D (R := fun v h => v = .agg (numV (H.next + 1)) ∧ h = z0n K H.next (some (.cells 109 true (numV (H.next + 1))))) Tryz.tabOk Tryz.func73 rfl rfl (args := []) (H := H) (by
  show GetsE Tryz.prog Tryz.tab ⟨none, 2⟩ _ _ _
  repeat refine GetsE.seq ?_
  refine g1x_ q0f ?_
  refine o1x_ (z0e z0c hc) (y2_ j2a kz) ?_
  refine GetsE.ret Tryz.tabOk ?_
  exact z8H (vs := [.agg (numV (H.next + 1))]) (R := fun v h => v = .agg (numV (H.next + 1)) ∧ h = z0n K H.next (some (.cells 109 true (numV (H.next + 1))))) rfl (sq1_ (y5_ Tryz.f73.eq_1 (z0f z7m z4v) @z0K @t_r5 @stL)) (by have := hgr.next; ((try dsimp only); (try simp only [z0i, z0h]); omega)) (by (try dsimp only); simp only [z2h, ltV, ltL, z0h, true_and, and_true]; omega) ⟨rfl, rfl⟩)
 exact z4t hgr hm (j0g (g := fun c => c.move) (off := 8) (fun _ => rfl) (fun _ => rfl) (by omega) (by omega) (by decide) (by decide) (by decide) (fun h hN p c hc => j5W c p h hN (hN p _ hc.1)) (fun _ => rfl) (fun h p c hc => k8m hc) (z3n hNs hbs) (z1X _ _)) (by simp only [ltV, ltL, z0h, true_and, and_true]; omega)
theorem j6c (H : Heap) (hN : Neat H) : z8P H 78 fGroup := by
 obtain ⟨v, k, ⟨rfl, kg, kb, kN, kl⟩, -, hc⟩ := z8Q 174 1 7 (H.push z5) (hN.push z5)
 have kg' : Grows (H.push z5) (z2d (H.push z5) k) := ⟨kg.next, fun b hb => z4m hb kg.next (kg.get b hb)⟩
 have kb' := z3n (H := H.push z5) kN kb
 have kz : (z2d (H.push z5) k).blks.get H.next = some z5 := kg'.some_ (hN.push z5) (fo_)
 have kN' := z1X (H.push z5) k
 have kl' : H.next + 1 + 2 < (z2d (H.push z5) k).next := kl
 obtain ⟨K, hK⟩ : ∃ K, K = z2d (H.push z5) k := ⟨_, rfl⟩
 rw [← hK] at hc kg' kb' kz kN' kl'
 have hgr : Grows H (z0n K H.next (some (.cells 109 true (numV (H.next + 1))))) := ⟨by have := kg'.next; ((try dsimp only); (try simp only [z0i, z0h]); omega), fun b hb => by rw [z0k _ _ _ (by omega), kg'.get b (fl_), z0u _ _ (by omega)]⟩
 have hbs : q4V 174 1 7 (H.next + 1) (z0n K H.next (some (.cells 109 true (numV (H.next + 1))))) :=
  ⟨by rw [z0k _ _ _ (by omega)]; exact kb'.1, by rw [z0k _ _ _ (by omega)]; exact kb'.2.1, by rw [z0k _ _ _ (by omega)]; exact kb'.2.2⟩
 have hNs : Neat (z0n K H.next (some (.cells 109 true (numV (H.next + 1))))) := Neat.put kN' (by omega) _
 obtain ⟨v, h, ⟨rfl, rfl⟩, -, hm⟩ := z2D (R := fun v h => v = .agg (numV (H.next + 1)) ∧ h = z0n K H.next (some (.cells 109 true (numV (H.next + 1))))) Tryz.tabOk Tryz.func78 rfl rfl (args := []) (H := H) (by
  show GetsE Tryz.prog Tryz.tab ⟨none, 2⟩ _ _ _
  repeat refine GetsE.seq ?_
  refine g1x_ q0f ?_
  refine o1x_ (z0e z0c hc) (y2_ j2a kz) ?_
  refine GetsE.ret Tryz.tabOk ?_
  exact z8H (vs := [.agg (numV (H.next + 1))]) (R := fun v h => v = .agg (numV (H.next + 1)) ∧ h = z0n K H.next (some (.cells 109 true (numV (H.next + 1))))) rfl (sq1_ (y5_ Tryz.f78.eq_1 (z0f z7m z4v) @z0K @t_r5 @stL)) (by have := hgr.next; ((try dsimp only); (try simp only [z0i, z0h]); omega)) (by (try dsimp only); simp only [z2h, ltV, ltL, z0h, true_and, and_true]; omega) ⟨rfl, rfl⟩)
 exact z4t hgr hm (j0g (g := fun c => c.group) (off := 11) (fun _ => rfl) (fun _ => rfl) (by omega) (by omega) (by decide) (by decide) (by decide) (fun h hN p c hc => j1Y c p h hN (hN p _ hc.1)) (fun _ => rfl) (fun h p c hc => k3R hc) (z3n hNs hbs) (z1X _ _)) (by simp only [ltV, ltL, z0h, true_and, and_true]; omega)
abbrev q8E (at_ ck sh n : Nat) (h : Heap) : Prop := h.blks.get n = some (.cells 248 true [.func (.func at_) [] []]) ∧ h.blks.get (n + 1) = some (.cells 249 true [.func (.func ck) [] []]) ∧ h.blks.get (n + 2) = some (.cells 250 true [.func (.func sh) [] []])
abbrev txtV (n : Nat) : List AV := fl5 247 248 249 250 251 [.ptr (n + 1) 0, .ptr n 0] [.ptr n 0] [.ptr n 0] [.ptr (n + 2) 0, .ptr n 0] [.ptr n 0]
theorem j6d (at_ ck sh : Nat) (H : Heap) (hN : Neat H) : ∃ v h, (v = .agg (txtV H.next) ∧ Grows H h ∧ q8E at_ ck sh H.next h ∧ Neat h ∧ H.next + 2 < h.next) ∧ H.next ≤ h.next ∧ CallTo Tryz.prog Tryz.tab 137 [.func (.func at_) [] [], .func (.func ck) [] [], .func (.func sh) [] []] H [(v, z2d H h)] := by
 refine z2D Tryz.tabOk Tryz.func137 rfl rfl ?_
 show GetsE Tryz.prog Tryz.tab ⟨none, 13⟩ _ _ _
 repeat refine GetsE.seq ?_
 refine g1x_ (y6_ @q1U @j6a @k0S (z0b j7r) (z0b k5T) (z0b k5U)) ?_
 refine g1x_ (y5_ @j4J @q4U @stL @t_c5 @z4v) ?_
 refine GetsE.ret Tryz.tabOk ?_
 exact z8H (vs := [.agg (txtV H.next)]) (R := fun v h => v = .agg (txtV H.next) ∧ Grows H h ∧ q8E at_ ck sh H.next h ∧ Neat h ∧ H.next + 2 < h.next) rfl (sq1_ (y5_ Tryz.f137.eq_1 (z0f z7m z4v) @z0K @t_r5 @stL)) (fl_) (by (try dsimp only); simp only [z2h, ltV, ltL, z0i, z0h, true_and, and_true]; omega) ⟨rfl, ⟨fl_, fun b hb => fo_⟩, ⟨fo_, fo_, fo_⟩, (by repeat' (first | exact hN | exact aN | exact bN | (refine Neat.push ?_ _) | (refine Neat.put ?_ (by ((try dsimp only); (try simp only [z0i, z0h]); omega)) _))), fl_⟩
theorem k0T {K : Heap} {at_ ck sh off : Nat} {n : Nat} {g : CmdN → z0L} {F : Fld} (hne : ck ≠ at_) (hne' : sh ≠ at_) (hne5 : 251 ≠ at_)
  (qa : ∀ h, Neat h → ∀ p c, z8a h p c → CallTo Tryz.prog Tryz.tab at_ [.ptr p 0] h [(.ptr p off, h)]) (q1 : ∀ h, Neat h → ∀ c, CmdSm c → CallTo Tryz.prog Tryz.tab ck [.str (g c)] h [(.bool (F.ok c), h)])
  (q2 : ∀ h, Neat h → PowAt h → ∀ c, CmdSm c → CallTo Tryz.prog Tryz.tab sh [.str (g c)] h [(.str (F.tx c), h)]) (hr : ∀ c, z1g (some (z0p c)) off = some (.str (g c)))
  (hs : ∀ h p c, h.blks.get p = some (z0p c) → z0E Tryz.tab h 9 (.ptr p off) (.str []) = some (z0n h p (some (z0p (F.cl c))))) (hK : q8E at_ ck sh n K) (hKN : Neat K) : FldOk K (txtV n) F :=
 ⟨_, _, _, _, _, _, _, _, _, _, rfl, fun h hg hN p c hc hb => by
  have b0 := hg.some_ hKN hK.1
  have b1 := hg.some_ hKN hK.2.1
  have b2 := hg.some_ hKN hK.2.2
  have hx' : z1g (h.blks.get p) off = some (.str (g c)) := by rw [hc.1]; exact hr c
  exact ⟨j9m at_ ck off (g c) _ p (n + 1) n h hN hne (qa h hN p c hc) (q1 h hN c hb) b1 b0 hx', fun e hP => j9n at_ sh off (g c) _ p (n + 2) n h hN hne' (qa h hN p c hc) (q2 h hN hP c hb) b2 b0 hx', j9o at_ off p n _ h hne5 (qa h hN p c hc) b0 (hs h p c hc.1)⟩⟩
theorem z7j {at_ ck sh n : Nat} {H h : Heap} (hN : Neat h) (hb : q8E at_ ck sh n h) : q8E at_ ck sh n (z2d H h) :=
 ⟨z6g hN hb.1 ⟨⟨trivial, trivial⟩, trivial⟩, z6g hN hb.2.1 ⟨⟨trivial, trivial⟩, trivial⟩, z6g hN hb.2.2 ⟨⟨trivial, trivial⟩, trivial⟩⟩
theorem j6e (H : Heap) (hN : Neat H) : z8P H 70 fKey := by
 obtain ⟨v, k, ⟨rfl, kg, kb, kN, kl⟩, -, hc⟩ := j6d 138 139 140 (H.push z5) (hN.push z5)
 have kg' : Grows (H.push z5) (z2d (H.push z5) k) := ⟨kg.next, fun b hb => z4m hb kg.next (kg.get b hb)⟩
 have kb' := z7j (H := H.push z5) kN kb
 have kz : (z2d (H.push z5) k).blks.get H.next = some z5 := kg'.some_ (hN.push z5) (fo_)
 have kN' := z1X (H.push z5) k
 have kl' : H.next + 1 + 2 < (z2d (H.push z5) k).next := kl
 obtain ⟨K, hK⟩ : ∃ K, K = z2d (H.push z5) k := ⟨_, rfl⟩
 rw [← hK] at hc kg' kb' kz kN' kl'
 have hgr : Grows H (z0n K H.next (some (.cells 109 true (txtV (H.next + 1))))) := ⟨by have := kg'.next; ((try dsimp only); (try simp only [z0i, z0h]); omega), fun b hb => by rw [z0k _ _ _ (by omega), kg'.get b (fl_), z0u _ _ (by omega)]⟩
 have hbs : q8E 138 139 140 (H.next + 1) (z0n K H.next (some (.cells 109 true (txtV (H.next + 1))))) :=
  ⟨by rw [z0k _ _ _ (by omega)]; exact kb'.1, by rw [z0k _ _ _ (by omega)]; exact kb'.2.1, by rw [z0k _ _ _ (by omega)]; exact kb'.2.2⟩
 have hNs : Neat (z0n K H.next (some (.cells 109 true (txtV (H.next + 1))))) := Neat.put kN' (by omega) _
 obtain ⟨v, h, ⟨rfl, rfl⟩, -, hm⟩ := z2D (R := fun v h => v = .agg (txtV (H.next + 1)) ∧ h = z0n K H.next (some (.cells 109 true (txtV (H.next + 1))))) Tryz.tabOk Tryz.func70 rfl rfl (args := []) (H := H) (by
  show GetsE Tryz.prog Tryz.tab ⟨none, 2⟩ _ _ _
  repeat refine GetsE.seq ?_
  refine g1x_ q0f ?_
  refine o1x_ (z0e z0c hc) (y2_ j2a kz) ?_
  refine GetsE.ret Tryz.tabOk ?_
  exact z8H (vs := [.agg (txtV (H.next + 1))]) (R := fun v h => v = .agg (txtV (H.next + 1)) ∧ h = z0n K H.next (some (.cells 109 true (txtV (H.next + 1))))) rfl (sq1_ (y5_ Tryz.f70.eq_1 (z0f z7m z4v) @z0K @t_r5 @stL)) (by have := hgr.next; ((try dsimp only); (try simp only [z0i, z0h]); omega)) (by (try dsimp only); simp only [z2h, ltV, ltL, z0h, true_and, and_true]; omega) ⟨rfl, rfl⟩)
 exact z4t hgr hm (k0T (g := fun c => c.key) (off := 6) (by decide) (by decide) (by decide) (fun h hN p c hc => j9h c p h hN (hN p _ hc.1)) (fun h hN c hb => q4N c.key (by have := hb.key; omega) h hN) (fun h hN _ c _ => j9i c.key h hN) (fun _ => rfl) (fun h p c hc => w4w hc) (z7j hNs hbs) (z1X _ _)) (by simp only [ltV, ltL, z0h, true_and, and_true]; omega)
theorem j0i (H : Heap) (hN : Neat H) : z8P H 75 fData := by
 obtain ⟨v, k, ⟨rfl, kg, kb, kN, kl⟩, -, hc⟩ := j6d 160 161 162 (H.push z5) (hN.push z5)
 have kg' : Grows (H.push z5) (z2d (H.push z5) k) := ⟨kg.next, fun b hb => z4m hb kg.next (kg.get b hb)⟩
 have kb' := z7j (H := H.push z5) kN kb
 have kz : (z2d (H.push z5) k).blks.get H.next = some z5 := kg'.some_ (hN.push z5) (fo_)
 have kN' := z1X (H.push z5) k
 have kl' : H.next + 1 + 2 < (z2d (H.push z5) k).next := kl
 obtain ⟨K, hK⟩ : ∃ K, K = z2d (H.push z5) k := ⟨_, rfl⟩
 rw [← hK] at hc kg' kb' kz kN' kl'
 have hgr : Grows H (z0n K H.next (some (.cells 109 true (txtV (H.next + 1))))) := ⟨by have := kg'.next; ((try dsimp only); (try simp only [z0i, z0h]); omega), fun b hb => by rw [z0k _ _ _ (by omega), kg'.get b (fl_), z0u _ _ (by omega)]⟩
 have hbs : q8E 160 161 162 (H.next + 1) (z0n K H.next (some (.cells 109 true (txtV (H.next + 1))))) :=
  ⟨by rw [z0k _ _ _ (by omega)]; exact kb'.1, by rw [z0k _ _ _ (by omega)]; exact kb'.2.1, by rw [z0k _ _ _ (by omega)]; exact kb'.2.2⟩
 have hNs : Neat (z0n K H.next (some (.cells 109 true (txtV (H.next + 1))))) := Neat.put kN' (by omega) _
 obtain ⟨v, h, ⟨rfl, rfl⟩, -, hm⟩ := z2D (R := fun v h => v = .agg (txtV (H.next + 1)) ∧ h = z0n K H.next (some (.cells 109 true (txtV (H.next + 1))))) Tryz.tabOk Tryz.func75 rfl rfl (args := []) (H := H) (by
  show GetsE Tryz.prog Tryz.tab ⟨none, 2⟩ _ _ _
  repeat refine GetsE.seq ?_
  refine g1x_ q0f ?_
  refine o1x_ (z0e z0c hc) (y2_ j2a kz) ?_
  refine GetsE.ret Tryz.tabOk ?_
  exact z8H (vs := [.agg (txtV (H.next + 1))]) (R := fun v h => v = .agg (txtV (H.next + 1)) ∧ h = z0n K H.next (some (.cells 109 true (txtV (H.next + 1))))) rfl (sq1_ (y5_ Tryz.f75.eq_1 (z0f z7m z4v) @z0K @t_r5 @stL)) (by have := hgr.next; ((try dsimp only); (try simp only [z0i, z0h]); omega)) (by (try dsimp only); simp only [z2h, ltV, ltL, z0h, true_and, and_true]; omega) ⟨rfl, rfl⟩)
 exact z4t hgr hm (k0T (g := fun c => c.data) (off := 23) (by decide) (by decide) (by decide) (fun h hN p c hc => j5X c p h hN (hN p _ hc.1)) (fun h hN c hb => j5Y c.data h hN) (fun h hN hP c hb => j5Z c.data (by have := hb.data; omega) h hN hP) (fun _ => rfl) (fun h p c hc => k8n hc) (z7j hNs hbs) (z1X _ _)) (by simp only [ltV, ltL, z0h, true_and, and_true]; omega)
end Go.Proofs
