/-
  Check on both sides is one function of the configuration.
-/
import Derived.Test.YtnhnepmjdgfelaaGreatDoorPaA
set_option linter.unusedSimpArgs false
set_option linter.unusedVariables false
namespace Go.Proofs
open Go.Sx
set_option maxRecDepth 100000
theorem s_isBool_u (b : Bool) : isBool b (some undefA) = false := rfl
theorem nameR_next {s : List UInt8} {i : Nat} {c : UInt8} (hn : ∀ j c, j < i → s[j]? = some c → lowA c = true) (hc : s[i]? = some c) (h : lowA c = true) : ∀ j c, j < i + 1 → s[j]? = some c → lowA c = true := fun j d hj hd => by
 by_cases e : j = i
 ·subst e
  rw [hc] at hd
  simp only [Option.some.injEq] at hd
  subst hd; exact h
 ·exact hn j d (by omega) hd
theorem nameR_bad {s : List UInt8} {i : Nat} {c : UInt8} (hc : s[i]? = some c) (h : lowA c = false) : nameB s = false := by
 have : s.all lowA = false := by
  cases ha : s.all lowA
  ·rfl
  ·have := List.all_eq_true.1 ha c (List.mem_of_getElem? hc)
   rw [h] at this; simp at this
 simp [nameB, this]
theorem nameR_to (s : List UInt8) (hl : s.length < 1000000000) (H : Heap) (hN : Neat H) : CallTo Tryz.prog Tryz.tab 53 [.str s] H [(.bool (nameB s), H)] := by
 refine callTo_of Tryz.tabOk Tryz.func53 rfl rfl ?_
 show Gets Tryz.prog Tryz.tab ⟨none, 40⟩ _ _ _
 repeat refine Gets.seq ?_
 refine Gets.l0 Tryz.tabOk (s' := ?sn1) ?hn1 ?kn1; (case hn1 => (simp -implicitDefEqProofs (disch := first | decide | assumption | (try simp only [q_next, s_put_next]) <;> omega | exact pd_ (by kernel_rfl) | fail) only [sxM, Nat.reduceAdd, reduceCtorEq, Int.reduceToNat, Nat.reduceEqDiff, Int.reduceEq, Int.reduceLT, s_draw] <;> rfl)); (try (change Gets _ _ _ _ _ _; repeat refine Gets.seq ?_))
 refine Gets.l0 Tryz.tabOk (s' := ?sn2) ?hn2 ?kn2; (case hn2 => (simp -implicitDefEqProofs (disch := first | decide | assumption | (try simp only [q_next, s_put_next]) <;> omega | exact pd_ (by kernel_rfl) | fail) only [sxM, Nat.reduceAdd, reduceCtorEq, Int.reduceToNat, Nat.reduceEqDiff, Int.reduceEq, Int.reduceLT, s_draw] <;> rfl)); (try (change Gets _ _ _ _ _ _; repeat refine Gets.seq ?_))
 refine Gets.upto s.length (fun i tm => tm.get 0 = some (.str s) ∧ tm.get 3 = some (.int .i64 (i : Int)) ∧ ∀ j c, j < i → s[j]? = some c → lowA c = true) ⟨by simp (disch := decide) only [sxL], by simp (disch := decide) only [sxL], fun j b hj => absurd hj (Nat.not_lt_zero _)⟩ ?_
 rintro i tm hi ⟨i0, i3, hn⟩
 repeat refine Gets.seq ?_
 by_cases hlt : (i : Int) < (s.length : Int)
 ·obtain ⟨c, hc⟩ : ∃ c, s[i]? = some c := ⟨_, List.getElem?_eq_getElem (by omega)⟩
  have hx : indexA Tryz.tab 9 (.str s) (.int .i64 (i : Int)) = some (.int .u8 (c.toNat : Int)) := s_indexStr ud9 s .i64 i hc
  have hw : awrap .i64 ((i : Int) + 1) = (i : Int) + 1 := s_wrap (by omega) (by omega)
  refine Gets.l0 Tryz.tabOk (s' := ?sn3) ?hn3 ?kn3; (case hn3 => (simp -implicitDefEqProofs (disch := first | decide | assumption | (try simp only [q_next, s_put_next]) <;> omega | exact pd_ (by kernel_rfl) | fail) only [sxM, Nat.reduceAdd, reduceCtorEq, Int.reduceToNat, Nat.reduceEqDiff, Int.reduceEq, Int.reduceLT, s_draw, i0, i3, s_lenStr ud9, hlt] <;> rfl)); (try (change Gets _ _ _ _ _ _; repeat refine Gets.seq ?_))
  refine Gets.condT (by simp (disch := decide) only [sxL]) (Gets.skip Tryz.tabOk ?_)
  change Gets _ _ _ _ _ _
  refine Gets.seq (Gets.blk ?_)
  repeat refine Gets.seq ?_
  by_cases x1 : (c.toNat : Int) < 97
  ·by_cases x3 : (c.toNat : Int) < 48
   ·have hlow : lowA c = false := by simp only [lowA, low, Bool.or_eq_false_iff, decide_eq_false_iff_not]; omega
    refine Gets.l0 Tryz.tabOk (s' := ?sn4) ?hn4 ?kn4; (case hn4 => (simp -implicitDefEqProofs (disch := first | decide | assumption | (try simp only [q_next, s_put_next]) <;> omega | exact pd_ (by kernel_rfl) | fail) only [sxM, Nat.reduceAdd, reduceCtorEq, Int.reduceToNat, Nat.reduceEqDiff, Int.reduceEq, Int.reduceLT, s_draw, i0, i3, z_opIndex, hx, x1, x3] <;> rfl)); (try (change Gets _ _ _ _ _ _; repeat refine Gets.seq ?_))
    refine Gets.condT (by simp (disch := decide) only [sxL]) ?_
    change Gets _ _ _ _ _ _
    repeat refine Gets.seq ?_
    refine Gets.l0 Tryz.tabOk (s' := ?sn5) ?hn5 ?kn5; (case hn5 => (simp -implicitDefEqProofs (disch := first | decide | assumption | (try simp only [q_next, s_put_next]) <;> omega | exact pd_ (by kernel_rfl) | fail) only [sxM, Nat.reduceAdd, reduceCtorEq, Int.reduceToNat, Nat.reduceEqDiff, Int.reduceEq, Int.reduceLT, s_draw] <;> rfl)); (try (change Gets _ _ _ _ _ _; repeat refine Gets.seq ?_))
    refine Gets.ret Tryz.tabOk ?_
    exact fin_pure rfl (by rw [nameR_bad hc hlow]; simp (disch := decide) only [sxL, Tryz.f53, resultA]) (.refl _) hN trivial
   by_cases x4 : 57 < (c.toNat : Int)
   ·have hlow : lowA c = false := by simp only [lowA, low, Bool.or_eq_false_iff, decide_eq_false_iff_not]; omega
    refine Gets.l0 Tryz.tabOk (s' := ?sn6) ?hn6 ?kn6; (case hn6 => (simp -implicitDefEqProofs (disch := first | decide | assumption | (try simp only [q_next, s_put_next]) <;> omega | exact pd_ (by kernel_rfl) | fail) only [sxM, Nat.reduceAdd, reduceCtorEq, Int.reduceToNat, Nat.reduceEqDiff, Int.reduceEq, Int.reduceLT, s_draw, i0, i3, z_opIndex, hx, x1, x3, x4] <;> rfl)); (try (change Gets _ _ _ _ _ _; repeat refine Gets.seq ?_))
    refine Gets.condT (by simp (disch := decide) only [sxL]) ?_
    change Gets _ _ _ _ _ _
    repeat refine Gets.seq ?_
    refine Gets.l0 Tryz.tabOk (s' := ?sn7) ?hn7 ?kn7; (case hn7 => (simp -implicitDefEqProofs (disch := first | decide | assumption | (try simp only [q_next, s_put_next]) <;> omega | exact pd_ (by kernel_rfl) | fail) only [sxM, Nat.reduceAdd, reduceCtorEq, Int.reduceToNat, Nat.reduceEqDiff, Int.reduceEq, Int.reduceLT, s_draw] <;> rfl)); (try (change Gets _ _ _ _ _ _; repeat refine Gets.seq ?_))
    refine Gets.ret Tryz.tabOk ?_
    exact fin_pure rfl (by rw [nameR_bad hc hlow]; simp (disch := decide) only [sxL, Tryz.f53, resultA]) (.refl _) hN trivial
   have hlow : lowA c = true := by simp only [lowA, low, Bool.or_eq_true, decide_eq_true_eq]; omega
   refine Gets.l0 Tryz.tabOk (s' := ?sn8) ?hn8 ?kn8; (case hn8 => (simp -implicitDefEqProofs (disch := first | decide | assumption | (try simp only [q_next, s_put_next]) <;> omega | exact pd_ (by kernel_rfl) | fail) only [sxM, Nat.reduceAdd, reduceCtorEq, Int.reduceToNat, Nat.reduceEqDiff, Int.reduceEq, Int.reduceLT, s_draw, i0, i3, z_opIndex, hx, x1, x3, x4] <;> rfl)); (try (change Gets _ _ _ _ _ _; repeat refine Gets.seq ?_))
   refine Gets.condF (by simp (disch := decide) only [sxL]) (Gets.skip Tryz.tabOk ?_)
   refine inBlk_normal ?_
   change Gets _ _ _ _ _ _
   refine Gets.l0 Tryz.tabOk (s' := ?sn9) ?hn9 ?kn9; (case hn9 => (simp -implicitDefEqProofs (disch := first | decide | assumption | (try simp only [q_next, s_put_next]) <;> omega | exact pd_ (by kernel_rfl) | fail) only [sxM, Nat.reduceAdd, reduceCtorEq, Int.reduceToNat, Nat.reduceEqDiff, Int.reduceEq, Int.reduceLT, s_draw, i3, hw] <;> rfl)); (try (change Gets _ _ _ _ _ _; repeat refine Gets.seq ?_))
   exact ⟨_, rfl, by omega, by simp (disch := decide) only [sxL, i0], by simp (disch := decide) only [sxL, s_castS], nameR_next hn hc hlow⟩
  by_cases x2 : 122 < (c.toNat : Int)
  ·by_cases x3 : (c.toNat : Int) < 48
   ·have hlow : lowA c = false := by simp only [lowA, low, Bool.or_eq_false_iff, decide_eq_false_iff_not]; omega
    refine Gets.l0 Tryz.tabOk (s' := ?sn10) ?hn10 ?kn10; (case hn10 => (simp -implicitDefEqProofs (disch := first | decide | assumption | (try simp only [q_next, s_put_next]) <;> omega | exact pd_ (by kernel_rfl) | fail) only [sxM, Nat.reduceAdd, reduceCtorEq, Int.reduceToNat, Nat.reduceEqDiff, Int.reduceEq, Int.reduceLT, s_draw, i0, i3, z_opIndex, hx, x1, x2, x3] <;> rfl)); (try (change Gets _ _ _ _ _ _; repeat refine Gets.seq ?_))
    refine Gets.condT (by simp (disch := decide) only [sxL]) ?_
    change Gets _ _ _ _ _ _
    repeat refine Gets.seq ?_
    refine Gets.l0 Tryz.tabOk (s' := ?sn11) ?hn11 ?kn11; (case hn11 => (simp -implicitDefEqProofs (disch := first | decide | assumption | (try simp only [q_next, s_put_next]) <;> omega | exact pd_ (by kernel_rfl) | fail) only [sxM, Nat.reduceAdd, reduceCtorEq, Int.reduceToNat, Nat.reduceEqDiff, Int.reduceEq, Int.reduceLT, s_draw] <;> rfl)); (try (change Gets _ _ _ _ _ _; repeat refine Gets.seq ?_))
    refine Gets.ret Tryz.tabOk ?_
    exact fin_pure rfl (by rw [nameR_bad hc hlow]; simp (disch := decide) only [sxL, Tryz.f53, resultA]) (.refl _) hN trivial
   by_cases x4 : 57 < (c.toNat : Int)
   ·have hlow : lowA c = false := by simp only [lowA, low, Bool.or_eq_false_iff, decide_eq_false_iff_not]; omega
    refine Gets.l0 Tryz.tabOk (s' := ?sn12) ?hn12 ?kn12; (case hn12 => (simp -implicitDefEqProofs (disch := first | decide | assumption | (try simp only [q_next, s_put_next]) <;> omega | exact pd_ (by kernel_rfl) | fail) only [sxM, Nat.reduceAdd, reduceCtorEq, Int.reduceToNat, Nat.reduceEqDiff, Int.reduceEq, Int.reduceLT, s_draw, i0, i3, z_opIndex, hx, x1, x2, x3, x4] <;> rfl)); (try (change Gets _ _ _ _ _ _; repeat refine Gets.seq ?_))
    refine Gets.condT (by simp (disch := decide) only [sxL]) ?_
    change Gets _ _ _ _ _ _
    repeat refine Gets.seq ?_
    refine Gets.l0 Tryz.tabOk (s' := ?sn13) ?hn13 ?kn13; (case hn13 => (simp -implicitDefEqProofs (disch := first | decide | assumption | (try simp only [q_next, s_put_next]) <;> omega | exact pd_ (by kernel_rfl) | fail) only [sxM, Nat.reduceAdd, reduceCtorEq, Int.reduceToNat, Nat.reduceEqDiff, Int.reduceEq, Int.reduceLT, s_draw] <;> rfl)); (try (change Gets _ _ _ _ _ _; repeat refine Gets.seq ?_))
    refine Gets.ret Tryz.tabOk ?_
    exact fin_pure rfl (by rw [nameR_bad hc hlow]; simp (disch := decide) only [sxL, Tryz.f53, resultA]) (.refl _) hN trivial
   have hlow : lowA c = true := by simp only [lowA, low, Bool.or_eq_true, decide_eq_true_eq]; omega
   refine Gets.l0 Tryz.tabOk (s' := ?sn14) ?hn14 ?kn14; (case hn14 => (simp -implicitDefEqProofs (disch := first | decide | assumption | (try simp only [q_next, s_put_next]) <;> omega | exact pd_ (by kernel_rfl) | fail) only [sxM, Nat.reduceAdd, reduceCtorEq, Int.reduceToNat, Nat.reduceEqDiff, Int.reduceEq, Int.reduceLT, s_draw, i0, i3, z_opIndex, hx, x1, x2, x3, x4] <;> rfl)); (try (change Gets _ _ _ _ _ _; repeat refine Gets.seq ?_))
   refine Gets.condF (by simp (disch := decide) only [sxL]) (Gets.skip Tryz.tabOk ?_)
   refine inBlk_normal ?_
   change Gets _ _ _ _ _ _
   refine Gets.l0 Tryz.tabOk (s' := ?sn15) ?hn15 ?kn15; (case hn15 => (simp -implicitDefEqProofs (disch := first | decide | assumption | (try simp only [q_next, s_put_next]) <;> omega | exact pd_ (by kernel_rfl) | fail) only [sxM, Nat.reduceAdd, reduceCtorEq, Int.reduceToNat, Nat.reduceEqDiff, Int.reduceEq, Int.reduceLT, s_draw, i3, hw] <;> rfl)); (try (change Gets _ _ _ _ _ _; repeat refine Gets.seq ?_))
   exact ⟨_, rfl, by omega, by simp (disch := decide) only [sxL, i0], by simp (disch := decide) only [sxL, s_castS], nameR_next hn hc hlow⟩
  have hlow : lowA c = true := by simp only [lowA, low, Bool.or_eq_true, decide_eq_true_eq]; omega
  refine Gets.l0 Tryz.tabOk (s' := ?sn16) ?hn16 ?kn16; (case hn16 => (simp -implicitDefEqProofs (disch := first | decide | assumption | (try simp only [q_next, s_put_next]) <;> omega | exact pd_ (by kernel_rfl) | fail) only [sxM, Nat.reduceAdd, reduceCtorEq, Int.reduceToNat, Nat.reduceEqDiff, Int.reduceEq, Int.reduceLT, s_draw, i0, i3, z_opIndex, hx, x1, x2, s_isBool_u] <;> rfl)); (try (change Gets _ _ _ _ _ _; repeat refine Gets.seq ?_))
  refine Gets.condF (by simp (disch := decide) only [sxL]) (Gets.skip Tryz.tabOk ?_)
  refine inBlk_normal ?_
  change Gets _ _ _ _ _ _
  refine Gets.l0 Tryz.tabOk (s' := ?sn17) ?hn17 ?kn17; (case hn17 => (simp -implicitDefEqProofs (disch := first | decide | assumption | (try simp only [q_next, s_put_next]) <;> omega | exact pd_ (by kernel_rfl) | fail) only [sxM, Nat.reduceAdd, reduceCtorEq, Int.reduceToNat, Nat.reduceEqDiff, Int.reduceEq, Int.reduceLT, s_draw, i3, hw] <;> rfl)); (try (change Gets _ _ _ _ _ _; repeat refine Gets.seq ?_))
  exact ⟨_, rfl, by omega, by simp (disch := decide) only [sxL, i0], by simp (disch := decide) only [sxL, s_castS], nameR_next hn hc hlow⟩
 ·have h5 : i = s.length := by omega
  subst h5
  refine Gets.l0 Tryz.tabOk (s' := ?sn18) ?hn18 ?kn18; (case hn18 => (simp -implicitDefEqProofs (disch := first | decide | assumption | (try simp only [q_next, s_put_next]) <;> omega | exact pd_ (by kernel_rfl) | fail) only [sxM, Nat.reduceAdd, reduceCtorEq, Int.reduceToNat, Nat.reduceEqDiff, Int.reduceEq, Int.reduceLT, s_draw, i0, i3, s_lenStr ud9, hlt] <;> rfl)); (try (change Gets _ _ _ _ _ _; repeat refine Gets.seq ?_))
  refine Gets.condF (by simp (disch := decide) only [sxL]) (Gets.exit Tryz.tabOk ?_)
  refine inBlk_exit ?_
  change Gets _ _ _ _ _ _
  repeat refine Gets.seq ?_
  have hall : s.all lowA = true := List.all_eq_true.2 fun c hc => by
   obtain ⟨j, hj⟩ := List.mem_iff_getElem?.1 hc
   exact hn j c (List.getElem?_eq_some_iff.1 hj).1 hj
  by_cases h1 : (s.length : Int) < 1
  ·refine Gets.l0 Tryz.tabOk (s' := ?sn19) ?hn19 ?kn19; (case hn19 => (simp -implicitDefEqProofs (disch := first | decide | assumption | (try simp only [q_next, s_put_next]) <;> omega | exact pd_ (by kernel_rfl) | fail) only [sxM, Nat.reduceAdd, reduceCtorEq, Int.reduceToNat, Nat.reduceEqDiff, Int.reduceEq, Int.reduceLT, s_draw, i0, s_lenStr ud9, h1] <;> rfl)); (try (change Gets _ _ _ _ _ _; repeat refine Gets.seq ?_))
   refine Gets.ret Tryz.tabOk ?_
   exact fin_pure rfl (by simp only [nameB, h1]; simp (disch := decide) only [sxL, Tryz.f53, resultA]) (.refl _) hN trivial
  by_cases h2 : 16 < (s.length : Int)
  ·refine Gets.l0 Tryz.tabOk (s' := ?sn20) ?hn20 ?kn20; (case hn20 => (simp -implicitDefEqProofs (disch := first | decide | assumption | (try simp only [q_next, s_put_next]) <;> omega | exact pd_ (by kernel_rfl) | fail) only [sxM, Nat.reduceAdd, reduceCtorEq, Int.reduceToNat, Nat.reduceEqDiff, Int.reduceEq, Int.reduceLT, s_draw, i0, s_lenStr ud9, h1, h2] <;> rfl)); (try (change Gets _ _ _ _ _ _; repeat refine Gets.seq ?_))
   refine Gets.ret Tryz.tabOk ?_
   exact fin_pure rfl (by simp only [nameB, h1, h2]; simp (disch := decide) only [sxL, Tryz.f53, resultA]) (.refl _) hN trivial
  refine Gets.l0 Tryz.tabOk (s' := ?sn21) ?hn21 ?kn21; (case hn21 => (simp -implicitDefEqProofs (disch := first | decide | assumption | (try simp only [q_next, s_put_next]) <;> omega | exact pd_ (by kernel_rfl) | fail) only [sxM, Nat.reduceAdd, reduceCtorEq, Int.reduceToNat, Nat.reduceEqDiff, Int.reduceEq, Int.reduceLT, s_draw, i0, s_lenStr ud9, h1, h2] <;> rfl)); (try (change Gets _ _ _ _ _ _; repeat refine Gets.seq ?_))
  refine Gets.ret Tryz.tabOk ?_
  exact fin_pure rfl (by simp only [nameB, h1, h2, hall]; simp (disch := decide) only [sxL, Tryz.f53, resultA]) (.refl _) hN trivial
end Go.Proofs
namespace Go.Proofs
open Go.Sx
set_option maxRecDepth 100000
def entsF : Nat → List (List UInt8) → List AEntry
 | _, [] => []
 | n, k :: l => ⟨.str k, .bool true, n⟩ :: entsF (n + 1) l
theorem entsF_snoc (x : List UInt8) : ∀ (l : List (List UInt8)) (n : Nat), entsF n (l ++ [x]) = entsF n l ++ [⟨.str x, .bool true, n + l.length⟩]
 | [], n => rfl
 | k :: l, n => by
  show AEntry.mk (.str k) (.bool true) n :: entsF (n + 1) (l ++ [x]) = _
  rw [entsF_snoc x l (n + 1), List.length_cons, show n + 1 + l.length = n + (l.length + 1) by omega]; rfl
theorem keyTypes114 (s : List UInt8) : keyTypes Tryz.tab 114 (.str s) = some (9, 4) := by kernel_rfl
theorem keyEqS (a b : List UInt8) : keyEq Tryz.tab 9 (.str a) (.str b) = some (sbeq a b) := by kernel_rfl
theorem find_in (x : List UInt8) : ∀ (l : List (List UInt8)) (n i : Nat), (x ∈ l → ∃ j e, findA Tryz.tab 9 (.str x) (entsF n l) i = some (some (j, e)) ∧ e.val = .bool true) ∧ (x ∉ l → findA Tryz.tab 9 (.str x) (entsF n l) i = some none)
 | [], n, i => ⟨fun h => by simp at h, fun _ => rfl⟩
 | k :: l, n, i => by
  have e : findA Tryz.tab 9 (.str x) (entsF n (k :: l)) i = foundO i ⟨.str k, .bool true, n⟩ (findA Tryz.tab 9 (.str x) (entsF (n + 1) l) (i + 1)) (keyEq Tryz.tab 9 (.str x) (.str k)) := rfl
  rw [e, keyEqS, sbeq_eq]
  obtain ⟨h1, h2⟩ := find_in x l (n + 1) (i + 1)
  by_cases hk : x = k
  ·subst hk
   have : (x == x) = true := by simp
   rw [this]
   exact ⟨fun _ => ⟨i, _, rfl, rfl⟩, fun h => absurd List.mem_cons_self h⟩
  ·have : (x == k) = false := by simpa using hk
   rw [this]
   refine ⟨fun h => ?_, fun h => ?_⟩
   ·exact h1 ((List.mem_cons.1 h).resolve_left hk)
   ·exact h2 fun hm => h (List.mem_cons_of_mem _ hm)
theorem zeroB : Tryz.tab.zero 4 = some (.bool false) := by kernel_rfl
theorem lookup_seen {H : Heap} {r c : Nat} {l : List (List UInt8)} (hb : H.blks.get r = some (.map (entsF 0 l) c)) (x : List UInt8) : lookupA Tryz.tab H 114 false (.map r) (.str x) = some (.bool (decide (x ∈ l))) := by
 unfold lookupA
 rw [keyTypes114, s_bindO]
 have em : mapOf H (.map r) = some (entsF 0 l) := by
  show bindO (mapIn (H.blks.get r)) (fun p => some p.1) = _
  rw [hb]; rfl
 rw [em, s_bindO]
 obtain ⟨h1, h2⟩ := find_in x l 0 0
 by_cases hx : x ∈ l
 ·obtain ⟨j, e, h3, h4⟩ := h1 hx
  rw [h3, s_bindO, decide_eq_true hx]
  show some (bif false then AV.tuple [e.val, .bool true] else e.val) = _
  rw [h4]; rfl
 ·rw [h2 hx, s_bindO, decide_eq_false hx]
  show bindO (Tryz.tab.zero 4) (fun z => some (bif false then AV.tuple [z, .bool false] else z)) = some (.bool false)
  rw [zeroB]; rfl
theorem update_seen {H : Heap} {r : Nat} {l : List (List UInt8)} (hb : H.blks.get r = some (.map (entsF 0 l) l.length)) {x : List UInt8} (hx : x ∉ l) :
  mapUpdateA Tryz.tab H 114 (.map r) (.str x) (.bool true) = some (putBlk H r (some (.map (entsF 0 (l ++ [x])) (l ++ [x]).length))) := by
 show bindO (keyTypes Tryz.tab 114 (.str x)) (fun kt => bindO (mapIn (H.blks.get r)) fun p => bindO (findA Tryz.tab kt.1 (.str x) p.1 0) (mapPut H r p.1 p.2 (.str x) (.bool true))) = _
 rw [keyTypes114, s_bindO, hb]
 show bindO (findA Tryz.tab 9 (.str x) (entsF 0 l) 0) (mapPut H r (entsF 0 l) l.length (.str x) (.bool true)) = _
 rw [(find_in x l 0 0).2 hx, s_bindO]
 show putMapK H r (app (entsF 0 l) [⟨.str x, .bool true, l.length⟩]) (l.length + 1) some = _
 rw [putMapK_eq, app_eq, entsF_snoc, Nat.zero_add, List.length_append]; rfl
def cfgE (nodes groups : Int) (ks : List (List UInt8)) (cs : List CntV) : Int :=
 if nodes < 1 ∨ 7 < nodes ∨ groups < 2 ∨ 8 < groups then 2
 else if 64 < (ks.length : Int) then 12
 else if (ks.any fun a => !nameB a) = true then 14
 else if ¬ ks.Nodup then 6
 else if (cs.length : Int) ≠ (ks.length : Int) then 2
 else if (cs.any fun a => wrongB a) = true then 2
 else 0
theorem nodup_take {α : Type} {l : List α} {i : Nat} {x : α} (h : l[i]? = some x) : l.take (i + 1) = l.take i ++ [x] := by
 have hi := (List.getElem?_eq_some_iff.1 h).1
 rw [List.take_add_one, h]; rfl
theorem dup_of {α : Type} {l : List α} {i : Nat} {x : α} (h : l[i]? = some x) (hm : x ∈ l.take i) : ¬ l.Nodup := fun hn => by
 have h2 : (l.take (i + 1)).Nodup := hn.sublist (List.take_sublist _ _)
 rw [nodup_take h, List.nodup_append] at h2
 exact h2.2.2 x hm x (List.mem_singleton.2 rfl) rfl
theorem nodup_of {α : Type} {l : List α} {i : Nat} {x : α} (h : l[i]? = some x) (hn : (l.take i).Nodup) (hm : x ∉ l.take i) : (l.take (i + 1)).Nodup := by
 rw [nodup_take h, List.nodup_append]
 exact ⟨hn, by simp, fun a ha b hb e => by rw [List.mem_singleton.1 hb] at e; subst e; exact hm ha⟩
end Go.Proofs
namespace Go.Proofs
open Go.Sx
set_option maxRecDepth 100000
abbrev confC (n g : Int) (kv cv : AV) : List AV := [.int .i64 n, .int .i64 g, kv, cv]
theorem cchk_to (n g : Int) (kv cv : AV) (ks : List (List UInt8)) (cs : List CntV) (H : Heap) (hN : Neat H) (hk : KeysAt H kv ks) (hc : CntsAt H cv cs) (hks : ∀ s ∈ ks, s.length < 1000000000) (hkl : ks.length < 1000000000) (hcl : cs.length < 1000000000) :
  CallTo Tryz.prog Tryz.tab 17 [.agg (confC n g kv cv)] H [(.int .i64 (cfgE n g ks cs), H)] := by
 refine callTo_of Tryz.tabOk Tryz.func17 rfl rfl ?_
 show Gets Tryz.prog Tryz.tab ⟨none, 62⟩ _ _ _
 repeat refine Gets.seq ?_
 have k1 := hk.one
 have k2 := hc.one
 have hone : allOne (confC n g kv cv) = true := by simp (disch := decide) only [sxL, k1, k2]
 have hg : Grows H (H.push (.cells 25 true (confC n g kv cv))) := .push _ _
 have hat : (H.push (.cells 25 true (confC n g kv cv))).blks.get H.next = some (.cells 25 true (confC n g kv cv)) := s_push_same _ _
 have hN1 : Neat (H.push (.cells 25 true (confC n g kv cv))) := hN.push _
 have hnx : (H.push (.cells 25 true (confC n g kv cv))).next = H.next + 1 := rfl
 generalize hH1 : H.push (.cells 25 true (confC n g kv cv)) = H1 at hg hat hN1 hnx
 have f0 : cellIn (H1.blks.get H.next) 0 = some (.int .i64 n) := by rw [hat]; rfl
 have f1 : cellIn (H1.blks.get H.next) 1 = some (.int .i64 g) := by rw [hat]; rfl
 have f2 : cellIn (H1.blks.get H.next) 2 = some kv := by rw [hat]; rfl
 have f3 : cellIn (H1.blks.get H.next) 3 = some cv := by rw [hat]; rfl
 have hk1 := hk.grow hN hg
 have hkn := hk1.len ud22 H1
 unfold confC at hone hH1
 refine Gets.l0 Tryz.tabOk (s' := ?sn1) ?hn1 ?kn1; (case hn1 => (simp -implicitDefEqProofs (disch := first | decide | assumption | (try simp only [q_next, s_put_next]) <;> omega | exact pd_ (by kernel_rfl) | fail) only [sxM, Nat.reduceAdd, reduceCtorEq, Int.reduceToNat, Nat.reduceEqDiff, Int.reduceEq, Int.reduceLT, s_draw, hone, hH1] <;> rfl)); (try (change Gets _ _ _ _ _ _; repeat refine Gets.seq ?_))
 refine Gets.blk ?_
 repeat refine Gets.seq ?_
 by_cases h1 : n < 1
 ·refine Gets.l0 Tryz.tabOk (s' := ?sn2) ?hn2 ?kn2; (case hn2 => (simp -implicitDefEqProofs (disch := first | decide | assumption | (try simp only [q_next, s_put_next]) <;> omega | exact pd_ (by kernel_rfl) | fail) only [sxM, Nat.reduceAdd, reduceCtorEq, Int.reduceToNat, Nat.reduceEqDiff, Int.reduceEq, Int.reduceLT, s_draw, fa25_0, fa25_1, f0, f1, s_varFalse ia3, h1] <;> rfl)); (try (change Gets _ _ _ _ _ _; repeat refine Gets.seq ?_))
  refine Gets.condT (by simp (disch := decide) only [sxL]) ?_
  change Gets _ _ _ _ _ _
  repeat refine Gets.seq ?_
  refine Gets.l0 Tryz.tabOk (s' := ?sn3) ?hn3 ?kn3; (case hn3 => (simp -implicitDefEqProofs (disch := first | decide | assumption | (try simp only [q_next, s_put_next]) <;> omega | exact pd_ (by kernel_rfl) | fail) only [sxM, Nat.reduceAdd, reduceCtorEq, Int.reduceToNat, Nat.reduceEqDiff, Int.reduceEq, Int.reduceLT, s_draw] <;> rfl)); (try (change Gets _ _ _ _ _ _; repeat refine Gets.seq ?_))
  refine Gets.ret Tryz.tabOk ?_
  have hf : cfgE n g ks cs = 2 := if_pos (.inl h1)
  exact inBlk_ret (fin_pure rfl (by rw [hf]; simp (disch := decide) only [sxL, Tryz.f17, resultA]) hg hN trivial)
 by_cases h2 : 7 < n
 ·refine Gets.l0 Tryz.tabOk (s' := ?sn4) ?hn4 ?kn4; (case hn4 => (simp -implicitDefEqProofs (disch := first | decide | assumption | (try simp only [q_next, s_put_next]) <;> omega | exact pd_ (by kernel_rfl) | fail) only [sxM, Nat.reduceAdd, reduceCtorEq, Int.reduceToNat, Nat.reduceEqDiff, Int.reduceEq, Int.reduceLT, s_draw, fa25_0, fa25_1, f0, f1, s_varFalse ia3, h1, h2] <;> rfl)); (try (change Gets _ _ _ _ _ _; repeat refine Gets.seq ?_))
  refine Gets.condT (by simp (disch := decide) only [sxL]) ?_
  change Gets _ _ _ _ _ _
  repeat refine Gets.seq ?_
  refine Gets.l0 Tryz.tabOk (s' := ?sn5) ?hn5 ?kn5; (case hn5 => (simp -implicitDefEqProofs (disch := first | decide | assumption | (try simp only [q_next, s_put_next]) <;> omega | exact pd_ (by kernel_rfl) | fail) only [sxM, Nat.reduceAdd, reduceCtorEq, Int.reduceToNat, Nat.reduceEqDiff, Int.reduceEq, Int.reduceLT, s_draw] <;> rfl)); (try (change Gets _ _ _ _ _ _; repeat refine Gets.seq ?_))
  refine Gets.ret Tryz.tabOk ?_
  have hf : cfgE n g ks cs = 2 := if_pos (.inr (.inl h2))
  exact inBlk_ret (fin_pure rfl (by rw [hf]; simp (disch := decide) only [sxL, Tryz.f17, resultA]) hg hN trivial)
 by_cases h3 : g < 2
 ·refine Gets.l0 Tryz.tabOk (s' := ?sn6) ?hn6 ?kn6; (case hn6 => (simp -implicitDefEqProofs (disch := first | decide | assumption | (try simp only [q_next, s_put_next]) <;> omega | exact pd_ (by kernel_rfl) | fail) only [sxM, Nat.reduceAdd, reduceCtorEq, Int.reduceToNat, Nat.reduceEqDiff, Int.reduceEq, Int.reduceLT, s_draw, fa25_0, fa25_1, f0, f1, s_varFalse ia3, h1, h2, h3] <;> rfl)); (try (change Gets _ _ _ _ _ _; repeat refine Gets.seq ?_))
  refine Gets.condT (by simp (disch := decide) only [sxL]) ?_
  change Gets _ _ _ _ _ _
  repeat refine Gets.seq ?_
  refine Gets.l0 Tryz.tabOk (s' := ?sn7) ?hn7 ?kn7; (case hn7 => (simp -implicitDefEqProofs (disch := first | decide | assumption | (try simp only [q_next, s_put_next]) <;> omega | exact pd_ (by kernel_rfl) | fail) only [sxM, Nat.reduceAdd, reduceCtorEq, Int.reduceToNat, Nat.reduceEqDiff, Int.reduceEq, Int.reduceLT, s_draw] <;> rfl)); (try (change Gets _ _ _ _ _ _; repeat refine Gets.seq ?_))
  refine Gets.ret Tryz.tabOk ?_
  have hf : cfgE n g ks cs = 2 := if_pos (.inr (.inr (.inl h3)))
  exact inBlk_ret (fin_pure rfl (by rw [hf]; simp (disch := decide) only [sxL, Tryz.f17, resultA]) hg hN trivial)
 by_cases h4 : 8 < g
 ·refine Gets.l0 Tryz.tabOk (s' := ?sn8) ?hn8 ?kn8; (case hn8 => (simp -implicitDefEqProofs (disch := first | decide | assumption | (try simp only [q_next, s_put_next]) <;> omega | exact pd_ (by kernel_rfl) | fail) only [sxM, Nat.reduceAdd, reduceCtorEq, Int.reduceToNat, Nat.reduceEqDiff, Int.reduceEq, Int.reduceLT, s_draw, fa25_0, fa25_1, f0, f1, s_varFalse ia3, h1, h2, h3, h4] <;> rfl)); (try (change Gets _ _ _ _ _ _; repeat refine Gets.seq ?_))
  refine Gets.condT (by simp (disch := decide) only [sxL]) ?_
  change Gets _ _ _ _ _ _
  repeat refine Gets.seq ?_
  refine Gets.l0 Tryz.tabOk (s' := ?sn9) ?hn9 ?kn9; (case hn9 => (simp -implicitDefEqProofs (disch := first | decide | assumption | (try simp only [q_next, s_put_next]) <;> omega | exact pd_ (by kernel_rfl) | fail) only [sxM, Nat.reduceAdd, reduceCtorEq, Int.reduceToNat, Nat.reduceEqDiff, Int.reduceEq, Int.reduceLT, s_draw] <;> rfl)); (try (change Gets _ _ _ _ _ _; repeat refine Gets.seq ?_))
  refine Gets.ret Tryz.tabOk ?_
  have hf : cfgE n g ks cs = 2 := if_pos (.inr (.inr (.inr h4)))
  exact inBlk_ret (fin_pure rfl (by rw [hf]; simp (disch := decide) only [sxL, Tryz.f17, resultA]) hg hN trivial)
 have hgood : ¬ (n < 1 ∨ 7 < n ∨ g < 2 ∨ 8 < g) := by omega
 refine Gets.l0 Tryz.tabOk (s' := ?sn10) ?hn10 ?kn10; (case hn10 => (simp -implicitDefEqProofs (disch := first | decide | assumption | (try simp only [q_next, s_put_next]) <;> omega | exact pd_ (by kernel_rfl) | fail) only [sxM, Nat.reduceAdd, reduceCtorEq, Int.reduceToNat, Nat.reduceEqDiff, Int.reduceEq, Int.reduceLT, s_draw, fa25_0, fa25_1, f0, f1, s_varFalse ia3, h1, h2, h3, h4] <;> rfl)); (try (change Gets _ _ _ _ _ _; repeat refine Gets.seq ?_))
 refine Gets.condF (by simp (disch := decide) only [sxL]) ?_
 change Gets _ _ _ _ _ _
 repeat refine Gets.seq ?_
 by_cases h5 : 64 < (ks.length : Int)
 ·refine Gets.l0 Tryz.tabOk (s' := ?sn11) ?hn11 ?kn11; (case hn11 => (simp -implicitDefEqProofs (disch := first | decide | assumption | (try simp only [q_next, s_put_next]) <;> omega | exact pd_ (by kernel_rfl) | fail) only [sxM, Nat.reduceAdd, reduceCtorEq, Int.reduceToNat, Nat.reduceEqDiff, Int.reduceEq, Int.reduceLT, s_draw, fa25_2, f2, s_varFalse ia22, hkn, h5] <;> rfl)); (try (change Gets _ _ _ _ _ _; repeat refine Gets.seq ?_))
  refine Gets.condT (by simp (disch := decide) only [sxL]) ?_
  change Gets _ _ _ _ _ _
  repeat refine Gets.seq ?_
  refine Gets.l0 Tryz.tabOk (s' := ?sn12) ?hn12 ?kn12; (case hn12 => (simp -implicitDefEqProofs (disch := first | decide | assumption | (try simp only [q_next, s_put_next]) <;> omega | exact pd_ (by kernel_rfl) | fail) only [sxM, Nat.reduceAdd, reduceCtorEq, Int.reduceToNat, Nat.reduceEqDiff, Int.reduceEq, Int.reduceLT, s_draw] <;> rfl)); (try (change Gets _ _ _ _ _ _; repeat refine Gets.seq ?_))
  refine Gets.ret Tryz.tabOk ?_
  have hf : cfgE n g ks cs = 12 := by unfold cfgE; rw [if_neg hgood, if_pos h5]
  exact inBlk_ret (fin_pure rfl (by rw [hf]; simp (disch := decide) only [sxL, Tryz.f17, resultA]) hg hN trivial)
 refine Gets.l0 Tryz.tabOk (s' := ?sn13) ?hn13 ?kn13; (case hn13 => (simp -implicitDefEqProofs (disch := first | decide | assumption | (try simp only [q_next, s_put_next]) <;> omega | exact pd_ (by kernel_rfl) | fail) only [sxM, Nat.reduceAdd, reduceCtorEq, Int.reduceToNat, Nat.reduceEqDiff, Int.reduceEq, Int.reduceLT, s_draw, fa25_2, f2, s_varFalse ia22, hkn, h5] <;> rfl)); (try (change Gets _ _ _ _ _ _; repeat refine Gets.seq ?_))
 refine Gets.condF (by simp (disch := decide) only [sxL]) ?_
 change Gets _ _ _ _ _ _
 repeat refine Gets.seq ?_
 have q1 := cfS_to kv ks H1 hN1 hk1 hks hkl
 by_cases h6 : (ks.any fun a => !nameB a) = true
 ·rw [h6] at q1
  refine Gets.last Tryz.tabOk (ov := ptO noOv 37 [kv, .func (.func 38) [] []] H1 [(.bool true, H1)]) (ptO_ok noOv_ok q1) 8 (s' := ?sn14) ?hn14 ?kn14; (case hn14 => (simp -implicitDefEqProofs (disch := first | decide | assumption | (try simp only [q_next, s_put_next]) <;> omega | exact pd_ (by kernel_rfl) | fail) only [sxM, Nat.reduceAdd, reduceCtorEq, Int.reduceToNat, Nat.reduceEqDiff, Int.reduceEq, Int.reduceLT, s_draw, s_ptEq, fa25_2, f2, s_varFalse ia22] <;> rfl)); (try (change Gets _ _ _ _ _ _; repeat refine Gets.seq ?_))
  refine Gets.condT (by simp (disch := decide) only [sxL]) ?_
  change Gets _ _ _ _ _ _
  repeat refine Gets.seq ?_
  refine Gets.l0 Tryz.tabOk (s' := ?sn15) ?hn15 ?kn15; (case hn15 => (simp -implicitDefEqProofs (disch := first | decide | assumption | (try simp only [q_next, s_put_next]) <;> omega | exact pd_ (by kernel_rfl) | fail) only [sxM, Nat.reduceAdd, reduceCtorEq, Int.reduceToNat, Nat.reduceEqDiff, Int.reduceEq, Int.reduceLT, s_draw] <;> rfl)); (try (change Gets _ _ _ _ _ _; repeat refine Gets.seq ?_))
  refine Gets.ret Tryz.tabOk ?_
  have hf : cfgE n g ks cs = 14 := by unfold cfgE; rw [if_neg hgood, if_neg h5, if_pos h6]
  exact inBlk_ret (fin_pure rfl (by rw [hf]; simp (disch := decide) only [sxL, Tryz.f17, resultA]) hg hN trivial)
 rw [(by simpa using h6 : (ks.any fun a => !nameB a) = false)] at q1
 refine Gets.last Tryz.tabOk (ov := ptO noOv 37 [kv, .func (.func 38) [] []] H1 [(.bool false, H1)]) (ptO_ok noOv_ok q1) 8 (s' := ?sn16) ?hn16 ?kn16; (case hn16 => (simp -implicitDefEqProofs (disch := first | decide | assumption | (try simp only [q_next, s_put_next]) <;> omega | exact pd_ (by kernel_rfl) | fail) only [sxM, Nat.reduceAdd, reduceCtorEq, Int.reduceToNat, Nat.reduceEqDiff, Int.reduceEq, Int.reduceLT, s_draw, s_ptEq, fa25_2, f2, s_varFalse ia22] <;> rfl)); (try (change Gets _ _ _ _ _ _; repeat refine Gets.seq ?_))
 refine Gets.condF (by simp (disch := decide) only [sxL]) (Gets.skip Tryz.tabOk ?_)
 refine inBlk_normal ?_
 change Gets _ _ _ _ _ _
 repeat refine Gets.seq ?_
 clear q1
 have hg0 : Grows H (H1.push (.map [] 0)) := hg.trans (.push _ _)
 have hN0 : Neat (H1.push (.map [] 0)) := hN1.push _
 have hx0 : (H1.push (.map [] 0)).next = H.next + 2 := by rw [s_push_next, hnx]
 have hm0 : (H1.push (.map [] 0)).blks.get (H.next + 1) = some (.map (entsF 0 (ks.take 0)) 0) := by rw [← hnx]; exact s_push_same _ _
 have ha0 : (H1.push (.map [] 0)).blks.get H.next = some (.cells 25 true (confC n g kv cv)) := by rw [s_push_other _ _ (by omega)]; exact hat
 refine Gets.l0 Tryz.tabOk (s' := ?sn17) ?hn17 ?kn17; (case hn17 => (simp -implicitDefEqProofs (disch := first | decide | assumption | (try simp only [q_next, s_put_next]) <;> omega | exact pd_ (by kernel_rfl) | fail) only [sxM, Nat.reduceAdd, reduceCtorEq, Int.reduceToNat, Nat.reduceEqDiff, Int.reduceEq, Int.reduceLT, s_draw] <;> rfl)); (try (change Gets _ _ _ _ _ _; repeat refine Gets.seq ?_))
 rw [hnx]
 generalize H1.push (.map [] 0) = h0 at hg0 hN0 hx0 hm0 ha0 ⊢
 have hkn0 := (hk.grow hN hg0).len ud22 h0
 have f20 : cellIn (h0.blks.get H.next) 2 = some kv := by rw [ha0]; rfl
 refine Gets.l0 Tryz.tabOk (s' := ?sn18) ?hn18 ?kn18; (case hn18 => (simp -implicitDefEqProofs (disch := first | decide | assumption | (try simp only [q_next, s_put_next]) <;> omega | exact pd_ (by kernel_rfl) | fail) only [sxM, Nat.reduceAdd, reduceCtorEq, Int.reduceToNat, Nat.reduceEqDiff, Int.reduceEq, Int.reduceLT, s_draw, fa25_2, f20, s_varFalse ia22, hkn0] <;> rfl)); (try (change Gets _ _ _ _ _ _; repeat refine Gets.seq ?_))
 refine Gets.uptoH ks.length (fun i tm h => tm.get 1 = some (.ptr H.next 0) ∧ tm.get 3 = some (.map (H.next + 1)) ∧ tm.get 37 = some kv ∧ tm.get 38 = some (.int .i64 (ks.length : Int)) ∧ tm.get 39 = some (.int .i64 (i : Int)) ∧
  h.blks.get (H.next + 1) = some (.map (entsF 0 (ks.take i)) i) ∧ h.blks.get H.next = some (.cells 25 true (confC n g kv cv)) ∧ Grows H h ∧ h.next = H.next + 2 ∧ Neat h ∧ (ks.take i).Nodup)
  ⟨by simp (disch := decide) only [sxL], by simp (disch := decide) only [sxL], by simp (disch := decide) only [sxL], by simp (disch := decide) only [sxL], by simp (disch := decide) only [sxL], hm0, ha0, hg0, hx0, hN0, by simp⟩ ?_
 clear hg0 hN0 hx0 hm0 ha0 hkn0 f20 f0 f1 f2 f3 hat hk1 hkn hN1 hg hnx hH1
 rintro i tm h hi ⟨i1, i3, i37, i38, i39, hmap, hat, hg, hx, hN1, hnd⟩
 repeat refine Gets.seq ?_
 have hti : (ks.take i).length = i := by rw [List.length_take]; omega
 by_cases hlt : (i : Int) < (ks.length : Int)
 ·obtain ⟨a, ha⟩ : ∃ a, ks[i]? = some a := ⟨_, List.getElem?_eq_getElem (by omega)⟩
  obtain ⟨b, hxa, hc1, -⟩ := (hk.grow hN hg).row ud22 sz9 (fun _ => rfl) ha
  have hld : cellIn (h.blks.get b) (i * 1) = some (.str a) := hc1 0 (by omega)
  have hw : awrap .i64 ((i : Int) + 1) = (i : Int) + 1 := s_wrap (by omega) (by omega)
  have hlk := lookup_seen hmap a
  refine Gets.l0 Tryz.tabOk (s' := ?sn19) ?hn19 ?kn19; (case hn19 => (simp -implicitDefEqProofs (disch := first | decide | assumption | (try simp only [q_next, s_put_next]) <;> omega | exact pd_ (by kernel_rfl) | fail) only [sxM, Nat.reduceAdd, reduceCtorEq, Int.reduceToNat, Nat.reduceEqDiff, Int.reduceEq, Int.reduceLT, s_draw, i38, i39, hlt] <;> rfl)); (try (change Gets _ _ _ _ _ _; repeat refine Gets.seq ?_))
  refine Gets.condT (by simp (disch := decide) only [sxL]) (Gets.skip Tryz.tabOk ?_)
  change Gets _ _ _ _ _ _
  refine Gets.seq (Gets.blk ?_)
  repeat refine Gets.seq ?_
  refine Gets.l0 Tryz.tabOk (s' := ?sn20) ?hn20 ?kn20; (case hn20 => (simp -implicitDefEqProofs (disch := first | decide | assumption | (try simp only [q_next, s_put_next]) <;> omega | exact pd_ (by kernel_rfl) | fail) only [sxM, Nat.reduceAdd, reduceCtorEq, Int.reduceToNat, Nat.reduceEqDiff, Int.reduceEq, Int.reduceLT, s_draw, i37, i39, hxa, s_varFalse ia9, hld] <;> rfl)); (try (change Gets _ _ _ _ _ _; repeat refine Gets.seq ?_))
  by_cases hm : a ∈ ks.take i
  ·rw [decide_eq_true hm] at hlk
   refine Gets.l0 Tryz.tabOk (s' := ?sn21) ?hn21 ?kn21; (case hn21 => (simp -implicitDefEqProofs (disch := first | decide | assumption | (try simp only [q_next, s_put_next]) <;> omega | exact pd_ (by kernel_rfl) | fail) only [sxM, Nat.reduceAdd, reduceCtorEq, Int.reduceToNat, Nat.reduceEqDiff, Int.reduceEq, Int.reduceLT, s_draw, i3, hlk] <;> rfl)); (try (change Gets _ _ _ _ _ _; repeat refine Gets.seq ?_))
   refine Gets.condT (by simp (disch := decide) only [sxL]) ?_
   change Gets _ _ _ _ _ _
   repeat refine Gets.seq ?_
   refine Gets.l0 Tryz.tabOk (s' := ?sn22) ?hn22 ?kn22; (case hn22 => (simp -implicitDefEqProofs (disch := first | decide | assumption | (try simp only [q_next, s_put_next]) <;> omega | exact pd_ (by kernel_rfl) | fail) only [sxM, Nat.reduceAdd, reduceCtorEq, Int.reduceToNat, Nat.reduceEqDiff, Int.reduceEq, Int.reduceLT, s_draw] <;> rfl)); (try (change Gets _ _ _ _ _ _; repeat refine Gets.seq ?_))
   refine Gets.ret Tryz.tabOk ?_
   have hf : cfgE n g ks cs = 6 := by unfold cfgE; rw [if_neg hgood, if_neg h5, if_neg h6, if_pos (dup_of ha hm)]
   exact fin_pure rfl (by rw [hf]; simp (disch := decide) only [sxL, Tryz.f17, resultA]) hg hN trivial
  ·rw [decide_eq_false hm] at hlk
   have hmap' : h.blks.get (H.next + 1) = some (.map (entsF 0 (ks.take i)) (ks.take i).length) := by rw [hti]; exact hmap
   have hup := update_seen hmap' hm
   rw [← nodup_take ha] at hup
   have hl1 : (ks.take (i + 1)).length = i + 1 := by rw [List.length_take]; omega
   rw [hl1] at hup
   refine Gets.l0 Tryz.tabOk (s' := ?sn23) ?hn23 ?kn23; (case hn23 => (simp -implicitDefEqProofs (disch := first | decide | assumption | (try simp only [q_next, s_put_next]) <;> omega | exact pd_ (by kernel_rfl) | fail) only [sxM, Nat.reduceAdd, reduceCtorEq, Int.reduceToNat, Nat.reduceEqDiff, Int.reduceEq, Int.reduceLT, s_draw, i3, hlk] <;> rfl)); (try (change Gets _ _ _ _ _ _; repeat refine Gets.seq ?_))
   refine Gets.condF (by simp (disch := decide) only [sxL]) (Gets.skip Tryz.tabOk ?_)
   change Gets _ _ _ _ _ _
   refine Gets.l0 Tryz.tabOk (s' := ?sn24) ?hn24 ?kn24; (case hn24 => (simp -implicitDefEqProofs (disch := first | decide | assumption | (try simp only [q_next, s_put_next]) <;> omega | exact pd_ (by kernel_rfl) | fail) only [sxM, Nat.reduceAdd, reduceCtorEq, Int.reduceToNat, Nat.reduceEqDiff, Int.reduceEq, Int.reduceLT, s_draw, i3, hup] <;> rfl)); (try (change Gets _ _ _ _ _ _; repeat refine Gets.seq ?_))
   have hm2 : (putBlk h (H.next + 1) (some (.map (entsF 0 (ks.take (i + 1))) (i + 1)))).blks.get (H.next + 1) = some (.map (entsF 0 (ks.take (i + 1))) (i + 1)) := s_put_same _ _ _
   have ha2 : (putBlk h (H.next + 1) (some (.map (entsF 0 (ks.take (i + 1))) (i + 1)))).blks.get H.next = some (.cells 25 true (confC n g kv cv)) := by rw [s_put_other _ _ _ (by omega)]; exact hat
   have hg2 : Grows H (putBlk h (H.next + 1) (some (.map (entsF 0 (ks.take (i + 1))) (i + 1)))) := ⟨by rw [s_put_next]; exact hg.next, fun x hx => by rw [s_put_other _ _ _ (by omega)]; exact hg.get x hx⟩
   have hx2 : (putBlk h (H.next + 1) (some (.map (entsF 0 (ks.take (i + 1))) (i + 1)))).next = H.next + 2 := by rw [s_put_next]; exact hx
   have hN2 : Neat (putBlk h (H.next + 1) (some (.map (entsF 0 (ks.take (i + 1))) (i + 1)))) := hN1.put (by omega) _
   generalize putBlk h (H.next + 1) (some (.map (entsF 0 (ks.take (i + 1))) (i + 1))) = h2 at hm2 ha2 hg2 hx2 hN2 ⊢
   refine Gets.l0 Tryz.tabOk (s' := ?sn25) ?hn25 ?kn25; (case hn25 => (simp -implicitDefEqProofs (disch := first | decide | assumption | (try simp only [q_next, s_put_next]) <;> omega | exact pd_ (by kernel_rfl) | fail) only [sxM, Nat.reduceAdd, reduceCtorEq, Int.reduceToNat, Nat.reduceEqDiff, Int.reduceEq, Int.reduceLT, s_draw, i39, hw] <;> rfl)); (try (change Gets _ _ _ _ _ _; repeat refine Gets.seq ?_))
   exact ⟨_, _, rfl, by omega, by simp (disch := decide) only [sxL, i1], by simp (disch := decide) only [sxL, i3], by simp (disch := decide) only [sxL, i37], by simp (disch := decide) only [sxL, i38], by simp (disch := decide) only [sxL, s_castS], hm2, ha2, hg2, hx2, hN2, nodup_of ha hnd hm⟩
 ·have h9 : i = ks.length := by omega
  subst h9
  rw [List.take_length] at hnd
  have f2 : cellIn (h.blks.get H.next) 2 = some kv := by rw [hat]; rfl
  have f3 : cellIn (h.blks.get H.next) 3 = some cv := by rw [hat]; rfl
  have hcg := hc.grow hN hg
  have hkn := (hk.grow hN hg).len ud22 h
  have hcn := hcg.len ud23 h
  refine Gets.l0 Tryz.tabOk (s' := ?sn26) ?hn26 ?kn26; (case hn26 => (simp -implicitDefEqProofs (disch := first | decide | assumption | (try simp only [q_next, s_put_next]) <;> omega | exact pd_ (by kernel_rfl) | fail) only [sxM, Nat.reduceAdd, reduceCtorEq, Int.reduceToNat, Nat.reduceEqDiff, Int.reduceEq, Int.reduceLT, s_draw, i38, i39, hlt] <;> rfl)); (try (change Gets _ _ _ _ _ _; repeat refine Gets.seq ?_))
  refine Gets.condF (by simp (disch := decide) only [sxL]) (Gets.exit Tryz.tabOk ?_)
  refine inBlk_exit ?_
  change Gets _ _ _ _ _ _
  repeat refine Gets.seq ?_
  refine Gets.l0 Tryz.tabOk (s' := ?sn27) ?hn27 ?kn27; (case hn27 => (simp -implicitDefEqProofs (disch := first | decide | assumption | (try simp only [q_next, s_put_next]) <;> omega | exact pd_ (by kernel_rfl) | fail) only [sxM, Nat.reduceAdd, reduceCtorEq, Int.reduceToNat, Nat.reduceEqDiff, Int.reduceEq, Int.reduceLT, s_draw] <;> rfl)); (try (change Gets _ _ _ _ _ _; repeat refine Gets.seq ?_))
  have q2 := cfC_to cv cs h hN1 hcg hcl
  by_cases h7 : (cs.length : Int) = (ks.length : Int)
  ·have d7 : decide ((cs.length : Int) = (ks.length : Int)) = true := decide_eq_true h7
   by_cases h8 : (cs.any fun a => wrongB a) = true
   ·rw [h8] at q2
    refine Gets.last Tryz.tabOk (ov := ptO noOv 42 [cv, .func (.func 40) [] []] h [(.bool true, h)]) (ptO_ok noOv_ok q2) 8 (s' := ?sn28) ?hn28 ?kn28; (case hn28 => (simp -implicitDefEqProofs (disch := first | decide | assumption | (try simp only [q_next, s_put_next]) <;> omega | exact pd_ (by kernel_rfl) | fail) only [sxM, Nat.reduceAdd, reduceCtorEq, Int.reduceToNat, Nat.reduceEqDiff, Int.reduceEq, Int.reduceLT, s_draw, s_ptEq, i1, fa25_2, fa25_3, f2, f3, s_varFalse ia22, s_varFalse ia23, hkn, hcn, d7] <;> rfl)); (try (change Gets _ _ _ _ _ _; repeat refine Gets.seq ?_))
    refine Gets.condT (by simp (disch := decide) only [sxL]) ?_
    change Gets _ _ _ _ _ _
    repeat refine Gets.seq ?_
    refine Gets.l0 Tryz.tabOk (s' := ?sn29) ?hn29 ?kn29; (case hn29 => (simp -implicitDefEqProofs (disch := first | decide | assumption | (try simp only [q_next, s_put_next]) <;> omega | exact pd_ (by kernel_rfl) | fail) only [sxM, Nat.reduceAdd, reduceCtorEq, Int.reduceToNat, Nat.reduceEqDiff, Int.reduceEq, Int.reduceLT, s_draw] <;> rfl)); (try (change Gets _ _ _ _ _ _; repeat refine Gets.seq ?_))
    refine Gets.ret Tryz.tabOk ?_
    have hf : cfgE n g ks cs = 2 := by unfold cfgE; rw [if_neg hgood, if_neg h5, if_neg h6, if_neg (fun h => h hnd), if_neg (fun h => h h7), if_pos h8]
    exact fin_pure rfl (by rw [hf]; simp (disch := decide) only [sxL, Tryz.f17, resultA]) hg hN trivial
   ·rw [(by simpa using h8 : (cs.any fun a => wrongB a) = false)] at q2
    refine Gets.last Tryz.tabOk (ov := ptO noOv 42 [cv, .func (.func 40) [] []] h [(.bool false, h)]) (ptO_ok noOv_ok q2) 8 (s' := ?sn30) ?hn30 ?kn30; (case hn30 => (simp -implicitDefEqProofs (disch := first | decide | assumption | (try simp only [q_next, s_put_next]) <;> omega | exact pd_ (by kernel_rfl) | fail) only [sxM, Nat.reduceAdd, reduceCtorEq, Int.reduceToNat, Nat.reduceEqDiff, Int.reduceEq, Int.reduceLT, s_draw, s_ptEq, i1, fa25_2, fa25_3, f2, f3, s_varFalse ia22, s_varFalse ia23, hkn, hcn, d7] <;> rfl)); (try (change Gets _ _ _ _ _ _; repeat refine Gets.seq ?_))
    refine Gets.condF (by simp (disch := decide) only [sxL]) (Gets.skip Tryz.tabOk ?_)
    change Gets _ _ _ _ _ _
    repeat refine Gets.seq ?_
    refine Gets.l0 Tryz.tabOk (s' := ?sn31) ?hn31 ?kn31; (case hn31 => (simp -implicitDefEqProofs (disch := first | decide | assumption | (try simp only [q_next, s_put_next]) <;> omega | exact pd_ (by kernel_rfl) | fail) only [sxM, Nat.reduceAdd, reduceCtorEq, Int.reduceToNat, Nat.reduceEqDiff, Int.reduceEq, Int.reduceLT, s_draw] <;> rfl)); (try (change Gets _ _ _ _ _ _; repeat refine Gets.seq ?_))
    refine Gets.ret Tryz.tabOk ?_
    have hf : cfgE n g ks cs = 0 := by unfold cfgE; rw [if_neg hgood, if_neg h5, if_neg h6, if_neg (fun h => h hnd), if_neg (fun h => h h7), if_neg h8]
    exact fin_pure rfl (by rw [hf]; simp (disch := decide) only [sxL, Tryz.f17, resultA]) hg hN trivial
  ·have d7 : decide ((cs.length : Int) = (ks.length : Int)) = false := decide_eq_false h7
   refine Gets.l0 Tryz.tabOk (s' := ?sn32) ?hn32 ?kn32; (case hn32 => (simp -implicitDefEqProofs (disch := first | decide | assumption | (try simp only [q_next, s_put_next]) <;> omega | exact pd_ (by kernel_rfl) | fail) only [sxM, Nat.reduceAdd, reduceCtorEq, Int.reduceToNat, Nat.reduceEqDiff, Int.reduceEq, Int.reduceLT, s_draw, i1, fa25_2, fa25_3, f2, f3, s_varFalse ia22, s_varFalse ia23, hkn, hcn, d7] <;> rfl)); (try (change Gets _ _ _ _ _ _; repeat refine Gets.seq ?_))
   refine Gets.condT (by simp (disch := decide) only [sxL]) ?_
   change Gets _ _ _ _ _ _
   repeat refine Gets.seq ?_
   refine Gets.l0 Tryz.tabOk (s' := ?sn33) ?hn33 ?kn33; (case hn33 => (simp -implicitDefEqProofs (disch := first | decide | assumption | (try simp only [q_next, s_put_next]) <;> omega | exact pd_ (by kernel_rfl) | fail) only [sxM, Nat.reduceAdd, reduceCtorEq, Int.reduceToNat, Nat.reduceEqDiff, Int.reduceEq, Int.reduceLT, s_draw] <;> rfl)); (try (change Gets _ _ _ _ _ _; repeat refine Gets.seq ?_))
   refine Gets.ret Tryz.tabOk ?_
   have hf : cfgE n g ks cs = 2 := by unfold cfgE; rw [if_neg hgood, if_neg h5, if_neg h6, if_neg (fun h => h hnd), if_pos h7]
   exact fin_pure rfl (by rw [hf]; simp (disch := decide) only [sxL, Tryz.f17, resultA]) hg hN trivial
end Go.Proofs
namespace Go.Proofs
open Go.Sx
set_option maxRecDepth 100000
theorem not_mem_take {l : List (List UInt8)} {i : Nat} {a : List UInt8} (h : ∀ j b, j < i → l[j]? = some b → b ≠ a) : a ∉ l.take i := fun hm => by
 obtain ⟨j, hj⟩ := List.mem_iff_getElem?.1 hm
 rw [List.getElem?_take] at hj
 split at hj
 ·exact h j a (by assumption) hj rfl
 ·simp at hj
theorem mem_take {l : List (List UInt8)} {i j : Nat} {a : List UInt8} (hj : j < i) (h : l[j]? = some a) : a ∈ l.take i :=
 List.mem_of_getElem? (i := j) (by rw [List.getElem?_take_of_lt hj]; exact h)
theorem chkR_to (n g : Int) (kv cv : AV) (ks : List (List UInt8)) (cs : List CntV) (H : Heap) (hN : Neat H) (hk : KeysAt H kv ks) (hc : CntsAt H cv cs) (hks : ∀ s ∈ ks, s.length < 1000000000) (hkl : ks.length < 1000000000) (hcl : cs.length < 1000000000) :
  CallTo Tryz.prog Tryz.tab 20 [.agg (confC n g kv cv)] H [(.int .i64 (cfgE n g ks cs), H)] := by
 refine callTo_of Tryz.tabOk Tryz.func20 rfl rfl ?_
 show Gets Tryz.prog Tryz.tab ⟨none, 105⟩ _ _ _
 repeat refine Gets.seq ?_
 have k1 := hk.one
 have k2 := hc.one
 have hone : allOne (confC n g kv cv) = true := by simp (disch := decide) only [sxL, k1, k2]
 have hg : Grows H (H.push (.cells 33 true (confC n g kv cv))) := .push _ _
 have hat : (H.push (.cells 33 true (confC n g kv cv))).blks.get H.next = some (.cells 33 true (confC n g kv cv)) := s_push_same _ _
 have hN1 : Neat (H.push (.cells 33 true (confC n g kv cv))) := hN.push _
 generalize hH1 : H.push (.cells 33 true (confC n g kv cv)) = H1 at hg hat hN1
 have f0 : cellIn (H1.blks.get H.next) 0 = some (.int .i64 n) := by rw [hat]; rfl
 have f1 : cellIn (H1.blks.get H.next) 1 = some (.int .i64 g) := by rw [hat]; rfl
 have f2 : cellIn (H1.blks.get H.next) 2 = some kv := by rw [hat]; rfl
 have f3 : cellIn (H1.blks.get H.next) 3 = some cv := by rw [hat]; rfl
 have hk1 := hk.grow hN hg
 have hc1 := hc.grow hN hg
 have hkn := hk1.len ud22 H1
 have hcn := hc1.len ud23 H1
 unfold confC at hone hH1
 refine Gets.l0 Tryz.tabOk (s' := ?sn1) ?hn1 ?kn1; (case hn1 => (simp -implicitDefEqProofs (disch := first | decide | assumption | (try simp only [q_next, s_put_next]) <;> omega | exact pd_ (by kernel_rfl) | fail) only [sxM, Nat.reduceAdd, reduceCtorEq, Int.reduceToNat, Nat.reduceEqDiff, Int.reduceEq, Int.reduceLT, s_draw, hone, hH1] <;> rfl)); (try (change Gets _ _ _ _ _ _; repeat refine Gets.seq ?_))
 by_cases h1 : n < 1
 ·refine Gets.l0 Tryz.tabOk (s' := ?sn2) ?hn2 ?kn2; (case hn2 => (simp -implicitDefEqProofs (disch := first | decide | assumption | (try simp only [q_next, s_put_next]) <;> omega | exact pd_ (by kernel_rfl) | fail) only [sxM, Nat.reduceAdd, reduceCtorEq, Int.reduceToNat, Nat.reduceEqDiff, Int.reduceEq, Int.reduceLT, s_draw, fa33_0, fa33_1, f0, f1, s_varFalse ia3, h1] <;> rfl)); (try (change Gets _ _ _ _ _ _; repeat refine Gets.seq ?_))
  refine Gets.condT (by simp (disch := decide) only [sxL]) ?_
  change Gets _ _ _ _ _ _
  repeat refine Gets.seq ?_
  refine Gets.l0 Tryz.tabOk (s' := ?sn3) ?hn3 ?kn3; (case hn3 => (simp -implicitDefEqProofs (disch := first | decide | assumption | (try simp only [q_next, s_put_next]) <;> omega | exact pd_ (by kernel_rfl) | fail) only [sxM, Nat.reduceAdd, reduceCtorEq, Int.reduceToNat, Nat.reduceEqDiff, Int.reduceEq, Int.reduceLT, s_draw] <;> rfl)); (try (change Gets _ _ _ _ _ _; repeat refine Gets.seq ?_))
  refine Gets.ret Tryz.tabOk ?_
  have hf : cfgE n g ks cs = 2 := if_pos (.inl h1)
  exact fin_pure rfl (by rw [hf]; simp (disch := decide) only [sxL, Tryz.f20, resultA]) hg hN trivial
 by_cases h2 : 7 < n
 ·refine Gets.l0 Tryz.tabOk (s' := ?sn4) ?hn4 ?kn4; (case hn4 => (simp -implicitDefEqProofs (disch := first | decide | assumption | (try simp only [q_next, s_put_next]) <;> omega | exact pd_ (by kernel_rfl) | fail) only [sxM, Nat.reduceAdd, reduceCtorEq, Int.reduceToNat, Nat.reduceEqDiff, Int.reduceEq, Int.reduceLT, s_draw, fa33_0, fa33_1, f0, f1, s_varFalse ia3, h1, h2] <;> rfl)); (try (change Gets _ _ _ _ _ _; repeat refine Gets.seq ?_))
  refine Gets.condT (by simp (disch := decide) only [sxL]) ?_
  change Gets _ _ _ _ _ _
  repeat refine Gets.seq ?_
  refine Gets.l0 Tryz.tabOk (s' := ?sn5) ?hn5 ?kn5; (case hn5 => (simp -implicitDefEqProofs (disch := first | decide | assumption | (try simp only [q_next, s_put_next]) <;> omega | exact pd_ (by kernel_rfl) | fail) only [sxM, Nat.reduceAdd, reduceCtorEq, Int.reduceToNat, Nat.reduceEqDiff, Int.reduceEq, Int.reduceLT, s_draw] <;> rfl)); (try (change Gets _ _ _ _ _ _; repeat refine Gets.seq ?_))
  refine Gets.ret Tryz.tabOk ?_
  have hf : cfgE n g ks cs = 2 := if_pos (.inr (.inl h2))
  exact fin_pure rfl (by rw [hf]; simp (disch := decide) only [sxL, Tryz.f20, resultA]) hg hN trivial
 by_cases h3 : g < 2
 ·refine Gets.l0 Tryz.tabOk (s' := ?sn6) ?hn6 ?kn6; (case hn6 => (simp -implicitDefEqProofs (disch := first | decide | assumption | (try simp only [q_next, s_put_next]) <;> omega | exact pd_ (by kernel_rfl) | fail) only [sxM, Nat.reduceAdd, reduceCtorEq, Int.reduceToNat, Nat.reduceEqDiff, Int.reduceEq, Int.reduceLT, s_draw, fa33_0, fa33_1, f0, f1, s_varFalse ia3, h1, h2, h3] <;> rfl)); (try (change Gets _ _ _ _ _ _; repeat refine Gets.seq ?_))
  refine Gets.condT (by simp (disch := decide) only [sxL]) ?_
  change Gets _ _ _ _ _ _
  repeat refine Gets.seq ?_
  refine Gets.l0 Tryz.tabOk (s' := ?sn7) ?hn7 ?kn7; (case hn7 => (simp -implicitDefEqProofs (disch := first | decide | assumption | (try simp only [q_next, s_put_next]) <;> omega | exact pd_ (by kernel_rfl) | fail) only [sxM, Nat.reduceAdd, reduceCtorEq, Int.reduceToNat, Nat.reduceEqDiff, Int.reduceEq, Int.reduceLT, s_draw] <;> rfl)); (try (change Gets _ _ _ _ _ _; repeat refine Gets.seq ?_))
  refine Gets.ret Tryz.tabOk ?_
  have hf : cfgE n g ks cs = 2 := if_pos (.inr (.inr (.inl h3)))
  exact fin_pure rfl (by rw [hf]; simp (disch := decide) only [sxL, Tryz.f20, resultA]) hg hN trivial
 by_cases h4 : 8 < g
 ·refine Gets.l0 Tryz.tabOk (s' := ?sn8) ?hn8 ?kn8; (case hn8 => (simp -implicitDefEqProofs (disch := first | decide | assumption | (try simp only [q_next, s_put_next]) <;> omega | exact pd_ (by kernel_rfl) | fail) only [sxM, Nat.reduceAdd, reduceCtorEq, Int.reduceToNat, Nat.reduceEqDiff, Int.reduceEq, Int.reduceLT, s_draw, fa33_0, fa33_1, f0, f1, s_varFalse ia3, h1, h2, h3, h4] <;> rfl)); (try (change Gets _ _ _ _ _ _; repeat refine Gets.seq ?_))
  refine Gets.condT (by simp (disch := decide) only [sxL]) ?_
  change Gets _ _ _ _ _ _
  repeat refine Gets.seq ?_
  refine Gets.l0 Tryz.tabOk (s' := ?sn9) ?hn9 ?kn9; (case hn9 => (simp -implicitDefEqProofs (disch := first | decide | assumption | (try simp only [q_next, s_put_next]) <;> omega | exact pd_ (by kernel_rfl) | fail) only [sxM, Nat.reduceAdd, reduceCtorEq, Int.reduceToNat, Nat.reduceEqDiff, Int.reduceEq, Int.reduceLT, s_draw] <;> rfl)); (try (change Gets _ _ _ _ _ _; repeat refine Gets.seq ?_))
  refine Gets.ret Tryz.tabOk ?_
  have hf : cfgE n g ks cs = 2 := if_pos (.inr (.inr (.inr h4)))
  exact fin_pure rfl (by rw [hf]; simp (disch := decide) only [sxL, Tryz.f20, resultA]) hg hN trivial
 have hgood : ¬ (n < 1 ∨ 7 < n ∨ g < 2 ∨ 8 < g) := by omega
 refine Gets.l0 Tryz.tabOk (s' := ?sn10) ?hn10 ?kn10; (case hn10 => (simp -implicitDefEqProofs (disch := first | decide | assumption | (try simp only [q_next, s_put_next]) <;> omega | exact pd_ (by kernel_rfl) | fail) only [sxM, Nat.reduceAdd, reduceCtorEq, Int.reduceToNat, Nat.reduceEqDiff, Int.reduceEq, Int.reduceLT, s_draw, fa33_0, fa33_1, f0, f1, s_varFalse ia3, h1, h2, h3, h4] <;> rfl)); (try (change Gets _ _ _ _ _ _; repeat refine Gets.seq ?_))
 refine Gets.condF (by simp (disch := decide) only [sxL]) (Gets.skip Tryz.tabOk ?_)
 change Gets _ _ _ _ _ _
 repeat refine Gets.seq ?_
 by_cases h5 : 64 < (ks.length : Int)
 ·refine Gets.l0 Tryz.tabOk (s' := ?sn11) ?hn11 ?kn11; (case hn11 => (simp -implicitDefEqProofs (disch := first | decide | assumption | (try simp only [q_next, s_put_next]) <;> omega | exact pd_ (by kernel_rfl) | fail) only [sxM, Nat.reduceAdd, reduceCtorEq, Int.reduceToNat, Nat.reduceEqDiff, Int.reduceEq, Int.reduceLT, s_draw, fa33_2, f2, s_varFalse ia22, hkn, h5] <;> rfl)); (try (change Gets _ _ _ _ _ _; repeat refine Gets.seq ?_))
  refine Gets.condT (by simp (disch := decide) only [sxL]) ?_
  change Gets _ _ _ _ _ _
  repeat refine Gets.seq ?_
  refine Gets.l0 Tryz.tabOk (s' := ?sn12) ?hn12 ?kn12; (case hn12 => (simp -implicitDefEqProofs (disch := first | decide | assumption | (try simp only [q_next, s_put_next]) <;> omega | exact pd_ (by kernel_rfl) | fail) only [sxM, Nat.reduceAdd, reduceCtorEq, Int.reduceToNat, Nat.reduceEqDiff, Int.reduceEq, Int.reduceLT, s_draw] <;> rfl)); (try (change Gets _ _ _ _ _ _; repeat refine Gets.seq ?_))
  refine Gets.ret Tryz.tabOk ?_
  have hf : cfgE n g ks cs = 12 := by unfold cfgE; rw [if_neg hgood, if_pos h5]
  exact fin_pure rfl (by rw [hf]; simp (disch := decide) only [sxL, Tryz.f20, resultA]) hg hN trivial
 refine Gets.l0 Tryz.tabOk (s' := ?sn13) ?hn13 ?kn13; (case hn13 => (simp -implicitDefEqProofs (disch := first | decide | assumption | (try simp only [q_next, s_put_next]) <;> omega | exact pd_ (by kernel_rfl) | fail) only [sxM, Nat.reduceAdd, reduceCtorEq, Int.reduceToNat, Nat.reduceEqDiff, Int.reduceEq, Int.reduceLT, s_draw, fa33_2, f2, s_varFalse ia22, hkn, h5] <;> rfl)); (try (change Gets _ _ _ _ _ _; repeat refine Gets.seq ?_))
 refine Gets.condF (by simp (disch := decide) only [sxL]) (Gets.skip Tryz.tabOk ?_)
 change Gets _ _ _ _ _ _
 repeat refine Gets.seq ?_
 refine Gets.l0 Tryz.tabOk (s' := ?sn14) ?hn14 ?kn14; (case hn14 => (simp -implicitDefEqProofs (disch := first | decide | assumption | (try simp only [q_next, s_put_next]) <;> omega | exact pd_ (by kernel_rfl) | fail) only [sxM, Nat.reduceAdd, reduceCtorEq, Int.reduceToNat, Nat.reduceEqDiff, Int.reduceEq, Int.reduceLT, s_draw] <;> rfl)); (try (change Gets _ _ _ _ _ _; repeat refine Gets.seq ?_))
 refine Gets.upto ks.length (fun i tm => tm.get 1 = some (.ptr H.next 0) ∧ tm.get 3 = some (.int .i64 (i : Int)) ∧ ∀ j b, j < i → ks[j]? = some b → (fun a => !nameB a) b = false) ⟨by simp (disch := decide) only [sxL], by simp (disch := decide) only [sxL], fun j b hj => absurd hj (Nat.not_lt_zero _)⟩ ?_
 rintro i tm hi ⟨i1, i3, hn⟩
 repeat refine Gets.seq ?_
 by_cases hlt : (i : Int) < (ks.length : Int)
 ·obtain ⟨a, ha⟩ : ∃ a, ks[i]? = some a := ⟨_, List.getElem?_eq_getElem (by omega)⟩
  obtain ⟨b, hxa, hca, -⟩ := hk1.row ud22 sz9 (fun _ => rfl) ha
  have hld : cellIn (H1.blks.get b) (i * 1) = some (.str a) := hca 0 (by omega)
  have hw : awrap .i64 ((i : Int) + 1) = (i : Int) + 1 := s_wrap (by omega) (by omega)
  have q := nameR_to a (hks a (List.mem_of_getElem? ha)) H1 hN1
  refine Gets.l0 Tryz.tabOk (s' := ?sn15) ?hn15 ?kn15; (case hn15 => (simp -implicitDefEqProofs (disch := first | decide | assumption | (try simp only [q_next, s_put_next]) <;> omega | exact pd_ (by kernel_rfl) | fail) only [sxM, Nat.reduceAdd, reduceCtorEq, Int.reduceToNat, Nat.reduceEqDiff, Int.reduceEq, Int.reduceLT, s_draw, i1, i3, fa33_2, f2, s_varFalse ia22, hkn, hlt] <;> rfl)); (try (change Gets _ _ _ _ _ _; repeat refine Gets.seq ?_))
  refine Gets.condT (by simp (disch := decide) only [sxL]) (Gets.skip Tryz.tabOk ?_)
  change Gets _ _ _ _ _ _
  refine Gets.seq (Gets.blk ?_)
  repeat refine Gets.seq ?_
  cases hp : nameB a
  ·rw [hp] at q
   refine Gets.last Tryz.tabOk (ov := ptO noOv 53 [.str a] H1 [(.bool false, H1)]) (ptO_ok noOv_ok q) 8 (s' := ?sn16) ?hn16 ?kn16; (case hn16 => (simp -implicitDefEqProofs (disch := first | decide | assumption | (try simp only [q_next, s_put_next]) <;> omega | exact pd_ (by kernel_rfl) | fail) only [sxM, Nat.reduceAdd, reduceCtorEq, Int.reduceToNat, Nat.reduceEqDiff, Int.reduceEq, Int.reduceLT, s_draw, s_ptEq, i1, i3, fa33_2, f2, s_varFalse ia22, hxa, s_varFalse ia9, hld] <;> rfl)); (try (change Gets _ _ _ _ _ _; repeat refine Gets.seq ?_))
   refine Gets.condT (by simp (disch := decide) only [sxL]) ?_
   change Gets _ _ _ _ _ _
   repeat refine Gets.seq ?_
   refine Gets.l0 Tryz.tabOk (s' := ?sn17) ?hn17 ?kn17; (case hn17 => (simp -implicitDefEqProofs (disch := first | decide | assumption | (try simp only [q_next, s_put_next]) <;> omega | exact pd_ (by kernel_rfl) | fail) only [sxM, Nat.reduceAdd, reduceCtorEq, Int.reduceToNat, Nat.reduceEqDiff, Int.reduceEq, Int.reduceLT, s_draw] <;> rfl)); (try (change Gets _ _ _ _ _ _; repeat refine Gets.seq ?_))
   refine Gets.ret Tryz.tabOk ?_
   have h6 : (ks.any fun a => !nameB a) = true := List.any_eq_true.2 ⟨a, List.mem_of_getElem? ha, by simp [hp]⟩
   have hf : cfgE n g ks cs = 14 := by unfold cfgE; rw [if_neg hgood, if_neg h5, if_pos h6]
   exact fin_pure rfl (by rw [hf]; simp (disch := decide) only [sxL, Tryz.f20, resultA]) hg hN trivial
  ·rw [hp] at q
   refine Gets.last Tryz.tabOk (ov := ptO noOv 53 [.str a] H1 [(.bool true, H1)]) (ptO_ok noOv_ok q) 8 (s' := ?sn18) ?hn18 ?kn18; (case hn18 => (simp -implicitDefEqProofs (disch := first | decide | assumption | (try simp only [q_next, s_put_next]) <;> omega | exact pd_ (by kernel_rfl) | fail) only [sxM, Nat.reduceAdd, reduceCtorEq, Int.reduceToNat, Nat.reduceEqDiff, Int.reduceEq, Int.reduceLT, s_draw, s_ptEq, i1, i3, fa33_2, f2, s_varFalse ia22, hxa, s_varFalse ia9, hld] <;> rfl)); (try (change Gets _ _ _ _ _ _; repeat refine Gets.seq ?_))
   refine Gets.condF (by simp (disch := decide) only [sxL]) (Gets.skip Tryz.tabOk ?_)
   refine inBlk_normal ?_
   change Gets _ _ _ _ _ _
   refine Gets.l0 Tryz.tabOk (s' := ?sn19) ?hn19 ?kn19; (case hn19 => (simp -implicitDefEqProofs (disch := first | decide | assumption | (try simp only [q_next, s_put_next]) <;> omega | exact pd_ (by kernel_rfl) | fail) only [sxM, Nat.reduceAdd, reduceCtorEq, Int.reduceToNat, Nat.reduceEqDiff, Int.reduceEq, Int.reduceLT, s_draw, i3, hw] <;> rfl)); (try (change Gets _ _ _ _ _ _; repeat refine Gets.seq ?_))
   refine ⟨_, rfl, by omega, by simp (disch := decide) only [sxL, i1], by simp (disch := decide) only [sxL, s_castS], fun j c hj hc => ?_⟩
   by_cases hji : j = i
   ·subst hji
    rw [ha] at hc
    simp only [Option.some.injEq] at hc
    subst hc; simp [hp]
   ·exact hn j c (by omega) hc
 have h9 : i = ks.length := by omega
 subst h9
 have h6 : ¬ (ks.any fun a => !nameB a) = true := by rw [any_none hn]; simp
 refine Gets.l0 Tryz.tabOk (s' := ?sn20) ?hn20 ?kn20; (case hn20 => (simp -implicitDefEqProofs (disch := first | decide | assumption | (try simp only [q_next, s_put_next]) <;> omega | exact pd_ (by kernel_rfl) | fail) only [sxM, Nat.reduceAdd, reduceCtorEq, Int.reduceToNat, Nat.reduceEqDiff, Int.reduceEq, Int.reduceLT, s_draw, i1, i3, fa33_2, f2, s_varFalse ia22, hkn, hlt] <;> rfl)); (try (change Gets _ _ _ _ _ _; repeat refine Gets.seq ?_))
 refine Gets.condF (by simp (disch := decide) only [sxL]) (Gets.exit Tryz.tabOk ?_)
 refine inBlk_exit ?_
 clear hn hlt i3 hi
 change Gets _ _ _ _ _ _
 repeat refine Gets.seq ?_
 refine Gets.l0 Tryz.tabOk (s' := ?sn21) ?hn21 ?kn21; (case hn21 => (simp -implicitDefEqProofs (disch := first | decide | assumption | (try simp only [q_next, s_put_next]) <;> omega | exact pd_ (by kernel_rfl) | fail) only [sxM, Nat.reduceAdd, reduceCtorEq, Int.reduceToNat, Nat.reduceEqDiff, Int.reduceEq, Int.reduceLT, s_draw] <;> rfl)); (try (change Gets _ _ _ _ _ _; repeat refine Gets.seq ?_))
 refine Gets.upto ks.length (fun i tm => tm.get 1 = some (.ptr H.next 0) ∧ tm.get 4 = some (.int .i64 (i : Int)) ∧ (ks.take i).Nodup) ⟨by simp (disch := decide) only [sxL, i1], by simp (disch := decide) only [sxL], by simp⟩ ?_
 clear i1
 rintro i tm hi ⟨i1, i4, hnd⟩
 repeat refine Gets.seq ?_
 by_cases hlt : (i : Int) < (ks.length : Int)
 ·obtain ⟨a, ha⟩ : ∃ a, ks[i]? = some a := ⟨_, List.getElem?_eq_getElem (by omega)⟩
  obtain ⟨b, hxa, hca, -⟩ := hk1.row ud22 sz9 (fun _ => rfl) ha
  have hld : cellIn (H1.blks.get b) (i * 1) = some (.str a) := hca 0 (by omega)
  have hw : awrap .i64 ((i : Int) + 1) = (i : Int) + 1 := s_wrap (by omega) (by omega)
  refine Gets.l0 Tryz.tabOk (s' := ?sn22) ?hn22 ?kn22; (case hn22 => (simp -implicitDefEqProofs (disch := first | decide | assumption | (try simp only [q_next, s_put_next]) <;> omega | exact pd_ (by kernel_rfl) | fail) only [sxM, Nat.reduceAdd, reduceCtorEq, Int.reduceToNat, Nat.reduceEqDiff, Int.reduceEq, Int.reduceLT, s_draw, i1, i4, fa33_2, f2, s_varFalse ia22, hkn, hlt] <;> rfl)); (try (change Gets _ _ _ _ _ _; repeat refine Gets.seq ?_))
  refine Gets.condT (by simp (disch := decide) only [sxL]) (Gets.skip Tryz.tabOk ?_)
  change Gets _ _ _ _ _ _
  refine Gets.seq (Gets.blk ?_)
  repeat refine Gets.seq ?_
  refine Gets.l0 Tryz.tabOk (s' := ?sn23) ?hn23 ?kn23; (case hn23 => (simp -implicitDefEqProofs (disch := first | decide | assumption | (try simp only [q_next, s_put_next]) <;> omega | exact pd_ (by kernel_rfl) | fail) only [sxM, Nat.reduceAdd, reduceCtorEq, Int.reduceToNat, Nat.reduceEqDiff, Int.reduceEq, Int.reduceLT, s_draw] <;> rfl)); (try (change Gets _ _ _ _ _ _; repeat refine Gets.seq ?_))
  refine Gets.upto i (fun j tm => tm.get 1 = some (.ptr H.next 0) ∧ tm.get 4 = some (.int .i64 (i : Int)) ∧ tm.get 5 = some (.int .i64 (j : Int)) ∧ ∀ k c, k < j → ks[k]? = some c → c ≠ a) ⟨by simp (disch := decide) only [sxL, i1], by simp (disch := decide) only [sxL, i4], by simp (disch := decide) only [sxL], fun k c hk => absurd hk (Nat.not_lt_zero _)⟩ ?_
  clear i1 i4
  rintro j tm hj ⟨i1, i4, i5, hne⟩
  repeat refine Gets.seq ?_
  by_cases hjl : (j : Int) < (i : Int)
  ·obtain ⟨d, hd⟩ : ∃ d, ks[j]? = some d := ⟨_, List.getElem?_eq_getElem (by omega)⟩
   obtain ⟨b2, hxd, hcd, -⟩ := hk1.row ud22 sz9 (fun _ => rfl) hd
   have hld2 : cellIn (H1.blks.get b2) (j * 1) = some (.str d) := hcd 0 (by omega)
   have hw2 : awrap .i64 ((j : Int) + 1) = (j : Int) + 1 := s_wrap (by omega) (by omega)
   refine Gets.l0 Tryz.tabOk (s' := ?sn24) ?hn24 ?kn24; (case hn24 => (simp -implicitDefEqProofs (disch := first | decide | assumption | (try simp only [q_next, s_put_next]) <;> omega | exact pd_ (by kernel_rfl) | fail) only [sxM, Nat.reduceAdd, reduceCtorEq, Int.reduceToNat, Nat.reduceEqDiff, Int.reduceEq, Int.reduceLT, s_draw, i4, i5, hjl] <;> rfl)); (try (change Gets _ _ _ _ _ _; repeat refine Gets.seq ?_))
   refine Gets.condT (by simp (disch := decide) only [sxL]) (Gets.skip Tryz.tabOk ?_)
   change Gets _ _ _ _ _ _
   refine Gets.seq (Gets.blk ?_)
   repeat refine Gets.seq ?_
   by_cases hda : a = d
   ·have e : sbeq a d = true := by rw [sbeq_eq, hda]; simp
    refine Gets.l0 Tryz.tabOk (s' := ?sn25) ?hn25 ?kn25; (case hn25 => (simp -implicitDefEqProofs (disch := first | decide | assumption | (try simp only [q_next, s_put_next]) <;> omega | exact pd_ (by kernel_rfl) | fail) only [sxM, Nat.reduceAdd, reduceCtorEq, Int.reduceToNat, Nat.reduceEqDiff, Int.reduceEq, Int.reduceLT, s_draw, i1, i4, i5, fa33_2, f2, s_varFalse ia22, hxa, hxd, s_varFalse ia9, hld, hld2, sbin, boolO, e] <;> rfl)); (try (change Gets _ _ _ _ _ _; repeat refine Gets.seq ?_))
    refine Gets.condT (by simp (disch := decide) only [sxL]) ?_
    change Gets _ _ _ _ _ _
    repeat refine Gets.seq ?_
    refine Gets.l0 Tryz.tabOk (s' := ?sn26) ?hn26 ?kn26; (case hn26 => (simp -implicitDefEqProofs (disch := first | decide | assumption | (try simp only [q_next, s_put_next]) <;> omega | exact pd_ (by kernel_rfl) | fail) only [sxM, Nat.reduceAdd, reduceCtorEq, Int.reduceToNat, Nat.reduceEqDiff, Int.reduceEq, Int.reduceLT, s_draw] <;> rfl)); (try (change Gets _ _ _ _ _ _; repeat refine Gets.seq ?_))
    refine Gets.ret Tryz.tabOk ?_
    have hdup : ¬ ks.Nodup := dup_of ha (mem_take (j := j) (by omega) (by rw [hda]; exact hd))
    have hf : cfgE n g ks cs = 6 := by unfold cfgE; rw [if_neg hgood, if_neg h5, if_neg h6, if_pos hdup]
    exact fin_pure rfl (by rw [hf]; simp (disch := decide) only [sxL, Tryz.f20, resultA]) hg hN trivial
   ·have e : sbeq a d = false := by rw [sbeq_eq]; simpa using hda
    refine Gets.l0 Tryz.tabOk (s' := ?sn27) ?hn27 ?kn27; (case hn27 => (simp -implicitDefEqProofs (disch := first | decide | assumption | (try simp only [q_next, s_put_next]) <;> omega | exact pd_ (by kernel_rfl) | fail) only [sxM, Nat.reduceAdd, reduceCtorEq, Int.reduceToNat, Nat.reduceEqDiff, Int.reduceEq, Int.reduceLT, s_draw, i1, i4, i5, fa33_2, f2, s_varFalse ia22, hxa, hxd, s_varFalse ia9, hld, hld2, sbin, boolO, e] <;> rfl)); (try (change Gets _ _ _ _ _ _; repeat refine Gets.seq ?_))
    refine Gets.condF (by simp (disch := decide) only [sxL]) (Gets.skip Tryz.tabOk ?_)
    refine inBlk_normal ?_
    change Gets _ _ _ _ _ _
    refine Gets.l0 Tryz.tabOk (s' := ?sn28) ?hn28 ?kn28; (case hn28 => (simp -implicitDefEqProofs (disch := first | decide | assumption | (try simp only [q_next, s_put_next]) <;> omega | exact pd_ (by kernel_rfl) | fail) only [sxM, Nat.reduceAdd, reduceCtorEq, Int.reduceToNat, Nat.reduceEqDiff, Int.reduceEq, Int.reduceLT, s_draw, i5, hw2] <;> rfl)); (try (change Gets _ _ _ _ _ _; repeat refine Gets.seq ?_))
    refine ⟨_, rfl, by omega, by simp (disch := decide) only [sxL, i1], by simp (disch := decide) only [sxL, i4], by simp (disch := decide) only [sxL, s_castS], fun k c hk hc => ?_⟩
    by_cases hkj : k = j
    ·subst hkj
     rw [hd] at hc
     simp only [Option.some.injEq] at hc
     subst hc; exact fun e => hda e.symm
    ·exact hne k c (by omega) hc
  ·have hji : j = i := by omega
   rw [hji] at hne
   refine Gets.l0 Tryz.tabOk (s' := ?sn29) ?hn29 ?kn29; (case hn29 => (simp -implicitDefEqProofs (disch := first | decide | assumption | (try simp only [q_next, s_put_next]) <;> omega | exact pd_ (by kernel_rfl) | fail) only [sxM, Nat.reduceAdd, reduceCtorEq, Int.reduceToNat, Nat.reduceEqDiff, Int.reduceEq, Int.reduceLT, s_draw, i4, i5, hjl] <;> rfl)); (try (change Gets _ _ _ _ _ _; repeat refine Gets.seq ?_))
   refine Gets.condF (by simp (disch := decide) only [sxL]) (Gets.exit Tryz.tabOk ?_)
   refine inBlk_exit ?_
   refine inBlk_normal ?_
   change Gets _ _ _ _ _ _
   refine Gets.l0 Tryz.tabOk (s' := ?sn30) ?hn30 ?kn30; (case hn30 => (simp -implicitDefEqProofs (disch := first | decide | assumption | (try simp only [q_next, s_put_next]) <;> omega | exact pd_ (by kernel_rfl) | fail) only [sxM, Nat.reduceAdd, reduceCtorEq, Int.reduceToNat, Nat.reduceEqDiff, Int.reduceEq, Int.reduceLT, s_draw, i4, hw] <;> rfl)); (try (change Gets _ _ _ _ _ _; repeat refine Gets.seq ?_))
   exact ⟨_, rfl, by omega, by simp (disch := decide) only [sxL, i1], by simp (disch := decide) only [sxL, s_castS], nodup_of ha hnd (not_mem_take hne)⟩
 have h9 : i = ks.length := by omega
 subst h9
 rw [List.take_length] at hnd
 refine Gets.l0 Tryz.tabOk (s' := ?sn31) ?hn31 ?kn31; (case hn31 => (simp -implicitDefEqProofs (disch := first | decide | assumption | (try simp only [q_next, s_put_next]) <;> omega | exact pd_ (by kernel_rfl) | fail) only [sxM, Nat.reduceAdd, reduceCtorEq, Int.reduceToNat, Nat.reduceEqDiff, Int.reduceEq, Int.reduceLT, s_draw, i1, i4, fa33_2, f2, s_varFalse ia22, hkn, hlt] <;> rfl)); (try (change Gets _ _ _ _ _ _; repeat refine Gets.seq ?_))
 refine Gets.condF (by simp (disch := decide) only [sxL]) (Gets.exit Tryz.tabOk ?_)
 refine inBlk_exit ?_
 clear hlt i4 hi
 change Gets _ _ _ _ _ _
 repeat refine Gets.seq ?_
 by_cases h7 : (cs.length : Int) = (ks.length : Int)
 rotate_left
 ·have d7 : decide ((cs.length : Int) = (ks.length : Int)) = false := decide_eq_false h7
  refine Gets.l0 Tryz.tabOk (s' := ?sn32) ?hn32 ?kn32; (case hn32 => (simp -implicitDefEqProofs (disch := first | decide | assumption | (try simp only [q_next, s_put_next]) <;> omega | exact pd_ (by kernel_rfl) | fail) only [sxM, Nat.reduceAdd, reduceCtorEq, Int.reduceToNat, Nat.reduceEqDiff, Int.reduceEq, Int.reduceLT, s_draw, i1, fa33_2, fa33_3, f2, f3, s_varFalse ia22, s_varFalse ia23, hkn, hcn, d7] <;> rfl)); (try (change Gets _ _ _ _ _ _; repeat refine Gets.seq ?_))
  refine Gets.condT (by simp (disch := decide) only [sxL]) ?_
  change Gets _ _ _ _ _ _
  repeat refine Gets.seq ?_
  refine Gets.l0 Tryz.tabOk (s' := ?sn33) ?hn33 ?kn33; (case hn33 => (simp -implicitDefEqProofs (disch := first | decide | assumption | (try simp only [q_next, s_put_next]) <;> omega | exact pd_ (by kernel_rfl) | fail) only [sxM, Nat.reduceAdd, reduceCtorEq, Int.reduceToNat, Nat.reduceEqDiff, Int.reduceEq, Int.reduceLT, s_draw] <;> rfl)); (try (change Gets _ _ _ _ _ _; repeat refine Gets.seq ?_))
  refine Gets.ret Tryz.tabOk ?_
  have hf : cfgE n g ks cs = 2 := by unfold cfgE; rw [if_neg hgood, if_neg h5, if_neg h6, if_neg (fun h => h hnd), if_pos h7]
  exact fin_pure rfl (by rw [hf]; simp (disch := decide) only [sxL, Tryz.f20, resultA]) hg hN trivial
 have d7 : decide ((cs.length : Int) = (ks.length : Int)) = true := decide_eq_true h7
 refine Gets.l0 Tryz.tabOk (s' := ?sn34) ?hn34 ?kn34; (case hn34 => (simp -implicitDefEqProofs (disch := first | decide | assumption | (try simp only [q_next, s_put_next]) <;> omega | exact pd_ (by kernel_rfl) | fail) only [sxM, Nat.reduceAdd, reduceCtorEq, Int.reduceToNat, Nat.reduceEqDiff, Int.reduceEq, Int.reduceLT, s_draw, i1, fa33_2, fa33_3, f2, f3, s_varFalse ia22, s_varFalse ia23, hkn, hcn, d7] <;> rfl)); (try (change Gets _ _ _ _ _ _; repeat refine Gets.seq ?_))
 refine Gets.condF (by simp (disch := decide) only [sxL]) (Gets.skip Tryz.tabOk ?_)
 change Gets _ _ _ _ _ _
 repeat refine Gets.seq ?_
 refine Gets.l0 Tryz.tabOk (s' := ?sn35) ?hn35 ?kn35; (case hn35 => (simp -implicitDefEqProofs (disch := first | decide | assumption | (try simp only [q_next, s_put_next]) <;> omega | exact pd_ (by kernel_rfl) | fail) only [sxM, Nat.reduceAdd, reduceCtorEq, Int.reduceToNat, Nat.reduceEqDiff, Int.reduceEq, Int.reduceLT, s_draw] <;> rfl)); (try (change Gets _ _ _ _ _ _; repeat refine Gets.seq ?_))
 refine Gets.upto cs.length (fun i tm => tm.get 1 = some (.ptr H.next 0) ∧ tm.get 6 = some (.int .i64 (i : Int)) ∧ ∀ j b, j < i → cs[j]? = some b → (fun a => wrongB a) b = false) ⟨by simp (disch := decide) only [sxL, i1], by simp (disch := decide) only [sxL], fun j b hj => absurd hj (Nat.not_lt_zero _)⟩ ?_
 clear i1
 rintro i tm hi ⟨i1, i6, hn⟩
 repeat refine Gets.seq ?_
 by_cases hlt : (i : Int) < (cs.length : Int)
 ·obtain ⟨a, ha⟩ : ∃ a, cs[i]? = some a := ⟨_, List.getElem?_eq_getElem (by omega)⟩
  obtain ⟨b, hxa, hca, hcb⟩ := hc1.row ud23 sz79 (fun _ => rfl) ha
  have hld : Sx.cellsIn (H1.blks.get b) (i * 5) 5 = some a.cells := hcb 0 5 (by omega)
  have hu : cellIn (H1.blks.get b) (i * 5 + 1) = some (.int .i64 a.up) := hca 1 (by omega)
  have hd : cellIn (H1.blks.get b) (i * 5 + 2) = some (.int .i64 a.down) := hca 2 (by omega)
  have hw : awrap .i64 ((i : Int) + 1) = (i : Int) + 1 := s_wrap (by omega) (by omega)
  have q := chk07_to a H1 hN1
  refine Gets.l0 Tryz.tabOk (s' := ?sn36) ?hn36 ?kn36; (case hn36 => (simp -implicitDefEqProofs (disch := first | decide | assumption | (try simp only [q_next, s_put_next]) <;> omega | exact pd_ (by kernel_rfl) | fail) only [sxM, Nat.reduceAdd, reduceCtorEq, Int.reduceToNat, Nat.reduceEqDiff, Int.reduceEq, Int.reduceLT, s_draw, i1, i6, fa33_3, f3, s_varFalse ia23, hcn, hlt] <;> rfl)); (try (change Gets _ _ _ _ _ _; repeat refine Gets.seq ?_))
  refine Gets.condT (by simp (disch := decide) only [sxL]) (Gets.skip Tryz.tabOk ?_)
  change Gets _ _ _ _ _ _
  refine Gets.seq (Gets.blk ?_)
  repeat refine Gets.seq ?_
  cases a0 : cntB a
  ·rw [a0] at q
   have q : CallTo Tryz.prog Tryz.tab 54 [.agg a.cells] H1 [(.int .i64 2, H1)] := q
   refine Gets.last Tryz.tabOk (ov := ptO noOv 54 [.agg a.cells] H1 [(.int .i64 2, H1)]) (ptO_ok noOv_ok q) 8 (s' := ?sn37) ?hn37 ?kn37; (case hn37 => (simp -implicitDefEqProofs (disch := first | decide | assumption | (try simp only [q_next, s_put_next]) <;> omega | exact pd_ (by kernel_rfl) | fail) only [sxM, Nat.reduceAdd, reduceCtorEq, Int.reduceToNat, Nat.reduceEqDiff, Int.reduceEq, Int.reduceLT, s_draw, s_ptEq, i1, i6, fa33_3, f3, s_varTrue ia79 sz79, s_varFalse ia23, hxa, hld, hu, hd, fa79_1, fa79_2, s_varFalse ia2, hcn] <;> rfl)); (try (change Gets _ _ _ _ _ _; repeat refine Gets.seq ?_))
   have hf1 : wrongB a = true := by simp [wrongB, a0]
   refine Gets.condT (by simp (disch := decide) only [sxL]) ?_
   change Gets _ _ _ _ _ _
   repeat refine Gets.seq ?_
   refine Gets.l0 Tryz.tabOk (s' := ?sn38) ?hn38 ?kn38; (case hn38 => (simp -implicitDefEqProofs (disch := first | decide | assumption | (try simp only [q_next, s_put_next]) <;> omega | exact pd_ (by kernel_rfl) | fail) only [sxM, Nat.reduceAdd, reduceCtorEq, Int.reduceToNat, Nat.reduceEqDiff, Int.reduceEq, Int.reduceLT, s_draw] <;> rfl)); (try (change Gets _ _ _ _ _ _; repeat refine Gets.seq ?_))
   refine Gets.ret Tryz.tabOk ?_
   have h8 : (cs.any fun a => wrongB a) = true := List.any_eq_true.2 ⟨a, List.mem_of_getElem? ha, hf1⟩
   have hf : cfgE n g ks cs = 2 := by unfold cfgE; rw [if_neg hgood, if_neg h5, if_neg h6, if_neg (fun h => h hnd), if_neg (fun h => h h7), if_pos h8]
   exact fin_pure rfl (by rw [hf]; simp (disch := decide) only [sxL, Tryz.f20, resultA]) hg hN trivial
  rw [a0] at q
  have q : CallTo Tryz.prog Tryz.tab 54 [.agg a.cells] H1 [(.int .i64 0, H1)] := q
  by_cases a1 : a.up = 0
  ·have d1 : decide (a.up = 0) = true := decide_eq_true a1
   by_cases a2 : a.down = 0
   ·have d2 : decide (a.down = 0) = true := decide_eq_true a2
    refine Gets.last Tryz.tabOk (ov := ptO noOv 54 [.agg a.cells] H1 [(.int .i64 0, H1)]) (ptO_ok noOv_ok q) 8 (s' := ?sn39) ?hn39 ?kn39; (case hn39 => (simp -implicitDefEqProofs (disch := first | decide | assumption | (try simp only [q_next, s_put_next]) <;> omega | exact pd_ (by kernel_rfl) | fail) only [sxM, Nat.reduceAdd, reduceCtorEq, Int.reduceToNat, Nat.reduceEqDiff, Int.reduceEq, Int.reduceLT, s_draw, s_ptEq, i1, i6, fa33_3, f3, s_varTrue ia79 sz79, s_varFalse ia23, hxa, hld, hu, hd, fa79_1, fa79_2, s_varFalse ia2, d1, d2] <;> rfl)); (try (change Gets _ _ _ _ _ _; repeat refine Gets.seq ?_))
    have hf1 : wrongB a = false := by simp [wrongB, a0, a1, a2]
    refine Gets.condF (by simp (disch := decide) only [sxL]) (Gets.skip Tryz.tabOk ?_)
    refine inBlk_normal ?_
    change Gets _ _ _ _ _ _
    refine Gets.l0 Tryz.tabOk (s' := ?sn40) ?hn40 ?kn40; (case hn40 => (simp -implicitDefEqProofs (disch := first | decide | assumption | (try simp only [q_next, s_put_next]) <;> omega | exact pd_ (by kernel_rfl) | fail) only [sxM, Nat.reduceAdd, reduceCtorEq, Int.reduceToNat, Nat.reduceEqDiff, Int.reduceEq, Int.reduceLT, s_draw, i6, hw] <;> rfl)); (try (change Gets _ _ _ _ _ _; repeat refine Gets.seq ?_))
    refine ⟨_, rfl, by omega, by simp (disch := decide) only [sxL, i1], by simp (disch := decide) only [sxL, s_castS], fun j c hj hc => ?_⟩
    by_cases hji : j = i
    ·subst hji
     rw [ha] at hc
     simp only [Option.some.injEq] at hc
     subst hc; exact hf1
    ·exact hn j c (by omega) hc
   ·have d2 : decide (a.down = 0) = false := decide_eq_false a2
    refine Gets.last Tryz.tabOk (ov := ptO noOv 54 [.agg a.cells] H1 [(.int .i64 0, H1)]) (ptO_ok noOv_ok q) 8 (s' := ?sn41) ?hn41 ?kn41; (case hn41 => (simp -implicitDefEqProofs (disch := first | decide | assumption | (try simp only [q_next, s_put_next]) <;> omega | exact pd_ (by kernel_rfl) | fail) only [sxM, Nat.reduceAdd, reduceCtorEq, Int.reduceToNat, Nat.reduceEqDiff, Int.reduceEq, Int.reduceLT, s_draw, s_ptEq, i1, i6, fa33_3, f3, s_varTrue ia79 sz79, s_varFalse ia23, hxa, hld, hu, hd, fa79_1, fa79_2, s_varFalse ia2, d1, d2] <;> rfl)); (try (change Gets _ _ _ _ _ _; repeat refine Gets.seq ?_))
    have hf1 : wrongB a = true := by simp [wrongB, a0, a1, a2]
    refine Gets.condT (by simp (disch := decide) only [sxL]) ?_
    change Gets _ _ _ _ _ _
    repeat refine Gets.seq ?_
    refine Gets.l0 Tryz.tabOk (s' := ?sn42) ?hn42 ?kn42; (case hn42 => (simp -implicitDefEqProofs (disch := first | decide | assumption | (try simp only [q_next, s_put_next]) <;> omega | exact pd_ (by kernel_rfl) | fail) only [sxM, Nat.reduceAdd, reduceCtorEq, Int.reduceToNat, Nat.reduceEqDiff, Int.reduceEq, Int.reduceLT, s_draw] <;> rfl)); (try (change Gets _ _ _ _ _ _; repeat refine Gets.seq ?_))
    refine Gets.ret Tryz.tabOk ?_
    have h8 : (cs.any fun a => wrongB a) = true := List.any_eq_true.2 ⟨a, List.mem_of_getElem? ha, hf1⟩
    have hf : cfgE n g ks cs = 2 := by unfold cfgE; rw [if_neg hgood, if_neg h5, if_neg h6, if_neg (fun h => h hnd), if_neg (fun h => h h7), if_pos h8]
    exact fin_pure rfl (by rw [hf]; simp (disch := decide) only [sxL, Tryz.f20, resultA]) hg hN trivial
  ·have d1 : decide (a.up = 0) = false := decide_eq_false a1
   refine Gets.last Tryz.tabOk (ov := ptO noOv 54 [.agg a.cells] H1 [(.int .i64 0, H1)]) (ptO_ok noOv_ok q) 8 (s' := ?sn43) ?hn43 ?kn43; (case hn43 => (simp -implicitDefEqProofs (disch := first | decide | assumption | (try simp only [q_next, s_put_next]) <;> omega | exact pd_ (by kernel_rfl) | fail) only [sxM, Nat.reduceAdd, reduceCtorEq, Int.reduceToNat, Nat.reduceEqDiff, Int.reduceEq, Int.reduceLT, s_draw, s_ptEq, i1, i6, fa33_3, f3, s_varTrue ia79 sz79, s_varFalse ia23, hxa, hld, hu, hd, fa79_1, fa79_2, s_varFalse ia2, d1] <;> rfl)); (try (change Gets _ _ _ _ _ _; repeat refine Gets.seq ?_))
   have hf1 : wrongB a = true := by simp [wrongB, a0, a1]
   refine Gets.condT (by simp (disch := decide) only [sxL]) ?_
   change Gets _ _ _ _ _ _
   repeat refine Gets.seq ?_
   refine Gets.l0 Tryz.tabOk (s' := ?sn44) ?hn44 ?kn44; (case hn44 => (simp -implicitDefEqProofs (disch := first | decide | assumption | (try simp only [q_next, s_put_next]) <;> omega | exact pd_ (by kernel_rfl) | fail) only [sxM, Nat.reduceAdd, reduceCtorEq, Int.reduceToNat, Nat.reduceEqDiff, Int.reduceEq, Int.reduceLT, s_draw] <;> rfl)); (try (change Gets _ _ _ _ _ _; repeat refine Gets.seq ?_))
   refine Gets.ret Tryz.tabOk ?_
   have h8 : (cs.any fun a => wrongB a) = true := List.any_eq_true.2 ⟨a, List.mem_of_getElem? ha, hf1⟩
   have hf : cfgE n g ks cs = 2 := by unfold cfgE; rw [if_neg hgood, if_neg h5, if_neg h6, if_neg (fun h => h hnd), if_neg (fun h => h h7), if_pos h8]
   exact fin_pure rfl (by rw [hf]; simp (disch := decide) only [sxL, Tryz.f20, resultA]) hg hN trivial
 have h9 : i = cs.length := by omega
 subst h9
 have h8 : ¬ (cs.any fun a => wrongB a) = true := by rw [any_none hn]; simp
 refine Gets.l0 Tryz.tabOk (s' := ?sn45) ?hn45 ?kn45; (case hn45 => (simp -implicitDefEqProofs (disch := first | decide | assumption | (try simp only [q_next, s_put_next]) <;> omega | exact pd_ (by kernel_rfl) | fail) only [sxM, Nat.reduceAdd, reduceCtorEq, Int.reduceToNat, Nat.reduceEqDiff, Int.reduceEq, Int.reduceLT, s_draw, i1, i6, fa33_3, f3, s_varFalse ia23, hcn, hlt] <;> rfl)); (try (change Gets _ _ _ _ _ _; repeat refine Gets.seq ?_))
 refine Gets.condF (by simp (disch := decide) only [sxL]) (Gets.exit Tryz.tabOk ?_)
 refine inBlk_exit ?_
 change Gets _ _ _ _ _ _
 repeat refine Gets.seq ?_
 refine Gets.l0 Tryz.tabOk (s' := ?sn46) ?hn46 ?kn46; (case hn46 => (simp -implicitDefEqProofs (disch := first | decide | assumption | (try simp only [q_next, s_put_next]) <;> omega | exact pd_ (by kernel_rfl) | fail) only [sxM, Nat.reduceAdd, reduceCtorEq, Int.reduceToNat, Nat.reduceEqDiff, Int.reduceEq, Int.reduceLT, s_draw] <;> rfl)); (try (change Gets _ _ _ _ _ _; repeat refine Gets.seq ?_))
 refine Gets.ret Tryz.tabOk ?_
 have hf : cfgE n g ks cs = 0 := by unfold cfgE; rw [if_neg hgood, if_neg h5, if_neg h6, if_neg (fun h => h hnd), if_neg (fun h => h h7), if_neg h8]
 exact fin_pure rfl (by rw [hf]; simp (disch := decide) only [sxL, Tryz.f20, resultA]) hg hN trivial
end Go.Proofs
namespace Go.Proofs
open Go.Sx
set_option maxRecDepth 100000
theorem zero33 : Tryz.tab.zero 33 = some (.agg [.int .i64 0, .int .i64 0, .nilslice, .nilslice]) := by kernel_rfl
theorem build33 (n g : Int) {k c : AV} (h1 : oneCell k = true) (h2 : oneCell c = true) : buildA Tryz.tab 33 [(0, .int .i64 n), (1, .int .i64 g), (2, k), (3, c)] = some (.agg [.int .i64 n, .int .i64 g, k, c]) := by
 cases k <;> first | exact Bool.noConfusion h1 | (cases c <;> first | exact Bool.noConfusion h2 | kernel_rfl)
theorem ref_to (n g : Int) (kv cv : AV) (H : Heap) (hN : Neat H) (k1 : oneCell kv = true) (k2 : oneCell cv = true) (v1 : ltV H.next kv) (v2 : ltV H.next cv) :
  CallTo Tryz.prog Tryz.tab 7 [.agg (confC n g kv cv)] H [(.agg (confC n g kv cv), H)] := by
 refine callTo_of Tryz.tabOk Tryz.func7 rfl rfl ?_
 show Gets Tryz.prog Tryz.tab ⟨none, 12⟩ _ _ _
 repeat refine Gets.seq ?_
 have hone : allOne (confC n g kv cv) = true := by simp (disch := decide) only [sxL, k1, k2]
 have hg : Grows H (H.push (.cells 25 true (confC n g kv cv))) := .push _ _
 have hat : (H.push (.cells 25 true (confC n g kv cv))).blks.get H.next = some (.cells 25 true (confC n g kv cv)) := s_push_same _ _
 have hN1 : Neat (H.push (.cells 25 true (confC n g kv cv))) := hN.push _
 generalize hH1 : H.push (.cells 25 true (confC n g kv cv)) = H1 at hg hat hN1
 unfold confC at hone hH1
 refine Gets.l0 Tryz.tabOk (s' := ?sn1) ?hn1 ?kn1; (case hn1 => (simp -implicitDefEqProofs (disch := first | decide | assumption | (try simp only [q_next, s_put_next]) <;> omega | exact pd_ (by kernel_rfl) | fail) only [sxM, Nat.reduceAdd, reduceCtorEq, Int.reduceToNat, Nat.reduceEqDiff, Int.reduceEq, Int.reduceLT, s_draw, hone, hH1, zero33] <;> rfl)); (try (change Gets _ _ _ _ _ _; repeat refine Gets.seq ?_))
 have hnx : H1.next = H.next + 1 := by rw [← hH1]; rfl
 have hg2 : Grows H (H1.push (.cells 33 true [.int .i64 0, .int .i64 0, .nilslice, .nilslice])) := hg.trans (.push _ _)
 have hN2 : Neat (H1.push (.cells 33 true [.int .i64 0, .int .i64 0, .nilslice, .nilslice])) := hN1.push _
 have ha2 : (H1.push (.cells 33 true [.int .i64 0, .int .i64 0, .nilslice, .nilslice])).blks.get H.next = some (.cells 25 true (confC n g kv cv)) := by rw [s_push_other _ _ (by omega)]; exact hat
 have hz : (H1.push (.cells 33 true [.int .i64 0, .int .i64 0, .nilslice, .nilslice])).blks.get (H.next + 1) = some (.cells 33 true [.int .i64 0, .int .i64 0, .nilslice, .nilslice]) := by rw [← hnx]; exact s_push_same _ _
 rw [hnx]
 generalize H1.push (.cells 33 true [.int .i64 0, .int .i64 0, .nilslice, .nilslice]) = h at hg2 hN2 ha2 hz ⊢
 have f0 : cellIn (h.blks.get H.next) 0 = some (.int .i64 n) := by rw [ha2]; rfl
 have f1 : cellIn (h.blks.get H.next) 1 = some (.int .i64 g) := by rw [ha2]; rfl
 have f2 : cellIn (h.blks.get H.next) 2 = some kv := by rw [ha2]; rfl
 have f3 : cellIn (h.blks.get H.next) 3 = some cv := by rw [ha2]; rfl
 have hst : storePtr Tryz.tab h 33 (.ptr (H.next + 1) 0) (.agg (confC n g kv cv)) = some (putBlk h (H.next + 1) (some (.cells 33 true (confC n g kv cv)))) := store_full hz sz33 rfl hone (by simp)
 unfold confC at hst
 refine Gets.l0 Tryz.tabOk (s' := ?sn2) ?hn2 ?kn2; (case hn2 => (simp -implicitDefEqProofs (disch := first | decide | assumption | (try simp only [q_next, s_put_next]) <;> omega | exact pd_ (by kernel_rfl) | fail) only [sxM, Nat.reduceAdd, reduceCtorEq, Int.reduceToNat, Nat.reduceEqDiff, Int.reduceEq, Int.reduceLT, s_draw, fa25_0, fa25_1, fa25_2, fa25_3, f0, f1, f2, f3, s_varFalse ia3, s_varFalse ia22, s_varFalse ia23, build33 n g k1 k2, hone, hst] <;> rfl)); (try (change Gets _ _ _ _ _ _; repeat refine Gets.seq ?_))
 refine Gets.ret Tryz.tabOk ?_
 exact fin_pure rfl (by simp -implicitDefEqProofs (disch := first | decide | assumption | (try simp only [q_next, s_put_next]) <;> omega | exact pd_ (by kernel_rfl) | fail) only [sxM, Nat.reduceAdd, reduceCtorEq, Int.reduceToNat, Nat.reduceEqDiff, Int.reduceEq, Int.reduceLT, Tryz.f7, resCell, s_varTrue ia33 sz33]; rfl) ⟨by rw [s_put_next]; exact hg2.next, fun x hx => by rw [s_put_other _ _ _ (by omega)]; exact hg2.get x hx⟩ hN ⟨trivial, trivial, v1, v2, trivial⟩
end Go.Proofs
