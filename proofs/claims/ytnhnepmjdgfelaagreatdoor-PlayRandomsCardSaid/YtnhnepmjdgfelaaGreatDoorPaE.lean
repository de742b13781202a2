/-
  The document's definition, operation and script are drawn by the same law.
-/
import Derived.Test.YtnhnepmjdgfelaaGreatDoorPaD
import Derived.Test.YtnhnepmjdgfelaaGreatDoorPaB
set_option linter.unusedSimpArgs false
set_option linter.unusedVariables false
set_option linter.deprecated false
namespace Go.Proofs
open Go.Sx
set_option maxRecDepth 100000
theorem build411 (x : List UInt8) : buildA Tryz.tab 41 [(0, .str x)] = some (.agg [.str x, .int .i64 0, .int .i64 0, .nilslice]) := by kernel_rfl
theorem bs39 (H : Heap) (a : List UInt8) (d : Int) : buildSliceA Tryz.tab H 39 1 [(0, .agg [.str a, .int .i64 d])] = some (.slice H.next 0 1 false 1, H.push (.cells 184 true [.str a, .int .i64 d])) :=
 build_row ud39 sz184 zero184 rfl (by decide) (by decide) _ rfl rfl
theorem defR_to (kv : AV) (ks : List (List UInt8)) (s p : Nat) (H : Heap) (hN : Neat H) (hk : KeyS H kv ks) (hp : H.blks.get p = some (seedB 73 s)) (hs : s < 18446744073709551616) (hl : 0 < ks.length ∧ ks.length < 1000000000) :
  Makes (defC (dCo s) (dDl s)) 73 p H 56 [.ptr p 0, kv] (dEnd ks s) (dSt ks s) := by
 show Makes (defC ((bel s 3 : Nat) : Int) (50 * ((bel (nx s) 2 : Nat) : Int))) 73 p H 56 [.ptr p 0, kv] (nxs (2 * (1 + fewV ks (nxs 2 s))) (nxs 4 s)) (stepsV ks (bel (nxs 3 s) ks.length) (nxs 4 s) (1 + fewV ks (nxs 2 s)))
 refine makes_E (callE_of Tryz.tabOk Tryz.func56 rfl rfl ?_)
 show GetsE Tryz.prog Tryz.tab ⟨none, 58⟩ _ _ _
 repeat refine GetsE.seq ?_
 have lp := hN _ _ hp
 have s1 : nx s < 18446744073709551616 := nx_lt s
 have s2 : nx (nx s) < 18446744073709551616 := nx_lt _
 have s3 : nx (nx (nx s)) < 18446744073709551616 := nx_lt _
 have hone := hk.one
 have hkl : ∀ h, lenA Tryz.tab h 22 kv = some (.int .i64 (ks.length : Int)) := hk.len
 have hmin : min (3 : Int) (ks.length : Int) = ((min 3 ks.length : Nat) : Int) := by omega
 have k3 : 0 < ((min 3 ks.length : Nat) : Int) ∧ ((min 3 ks.length : Nat) : Int) < 2147483648 := by omega
 have kl : 0 < (ks.length : Int) ∧ (ks.length : Int) < 2147483648 := by omega
 have hf := bel_lt (nx (nx s)) (k := min 3 ks.length) (by omega)
 have hco := bel_lt (nx s) (k := 2) (by omega)
 have hfr := bel_lt (nx (nx (nx s))) (k := ks.length) hl.1
 have w1 : awrap .i64 (50 * ((bel (nx s) 2 : Nat) : Int)) = 50 * ((bel (nx s) 2 : Nat) : Int) := s_wrap (by omega) (by omega)
 have w2 : awrap .i64 (1 + ((bel (nx (nx s)) (min 3 ks.length) : Nat) : Int)) = ((1 + bel (nx (nx s)) (min 3 ks.length) : Nat) : Int) := by rw [s_wrap (by omega) (by omega)]; omega
 have hfew : fewV ks (nxs 2 s) = bel (nx (nx s)) (min 3 ks.length) := rfl
 have hfr3 : nxs 3 s = nx (nx (nx s)) := rfl
 rw [hfew, hfr3]
 generalize hm : 1 + bel (nx (nx s)) (min 3 ks.length) = m at w2 ⊢
 refine GetsE.l0 Tryz.tabOk (s' := ?sn2) ?hn2 ?kn2; (case hn2 => (simp -implicitDefEqProofs (disch := first | decide | assumption | (try simp only [q_next, s_put_next]) <;> omega | exact pd_ (by kernel_rfl) | fail) only [sxM, Nat.reduceAdd, reduceCtorEq, Int.reduceToNat, Nat.reduceEqDiff, Int.reduceEq, Int.reduceLT, s_draw, zero41, hone] <;> rfl)); (try (change GetsE _ _ _ _ _ _; repeat refine GetsE.seq ?_))
 refine GetsE.l0 Tryz.tabOk (s' := ?sn3) ?hn3 ?kn3; (case hn3 => (simp -implicitDefEqProofs (disch := first | decide | assumption | (try simp only [q_next, s_put_next]) <;> omega | exact pd_ (by kernel_rfl) | fail) only [sxM, Nat.reduceAdd, reduceCtorEq, Int.reduceToNat, Nat.reduceEqDiff, Int.reduceEq, Int.reduceLT, s_draw, build411, zero41, stL, sz41] <;> rfl)); (try (change GetsE _ _ _ _ _ _; repeat refine GetsE.seq ?_))
 refine GetsE.last Tryz.tabOk (ov := addOv noOv 55 (ovB 73)) (addOv_ok noOv_ok ovBR_ok) 8 (s' := ?sn4) ?hn4 ?kn4; (case hn4 => (simp -implicitDefEqProofs (disch := first | decide | assumption | (try simp only [q_next, s_put_next]) <;> omega | exact pd_ (by kernel_rfl) | fail) only [sxM, Nat.reduceAdd, reduceCtorEq, Int.reduceToNat, Nat.reduceEqDiff, Int.reduceEq, Int.reduceLT, s_draw, ovB_red, belE_eq, Int.toNat_natCast, hp, fa41_1, stL, sz3] <;> rfl)); (try (change GetsE _ _ _ _ _ _; repeat refine GetsE.seq ?_))
 refine GetsE.last Tryz.tabOk (ov := addOv noOv 55 (ovB 73)) (addOv_ok noOv_ok ovBR_ok) 8 (s' := ?sn5) ?hn5 ?kn5; (case hn5 => (simp -implicitDefEqProofs (disch := first | decide | assumption | (try simp only [q_next, s_put_next]) <;> omega | exact pd_ (by kernel_rfl) | fail) only [sxM, Nat.reduceAdd, reduceCtorEq, Int.reduceToNat, Nat.reduceEqDiff, Int.reduceEq, Int.reduceLT, s_draw, ovB_red, belE_eq, Int.toNat_natCast, hp, w1, fa41_2, stL, sz3] <;> rfl)); (try (change GetsE _ _ _ _ _ _; repeat refine GetsE.seq ?_))
 refine GetsE.last Tryz.tabOk (ov := addOv noOv 55 (ovB 73)) (addOv_ok noOv_ok ovBR_ok) 8 (s' := ?sn6) ?hn6 ?kn6; (case hn6 => (simp -implicitDefEqProofs (disch := first | decide | assumption | (try simp only [q_next, s_put_next]) <;> omega | exact pd_ (by kernel_rfl) | fail) only [sxM, Nat.reduceAdd, reduceCtorEq, Int.reduceToNat, Nat.reduceEqDiff, Int.reduceEq, Int.reduceLT, s_draw, ovB_red, belE_eq, Int.toNat_natCast, hp, hkl, z_min, s_min2, hmin, w2, stL] <;> rfl)); (try (change GetsE _ _ _ _ _ _; repeat refine GetsE.seq ?_))
 refine GetsE.last Tryz.tabOk (ov := addOv noOv 55 (ovB 73)) (addOv_ok noOv_ok ovBR_ok) 8 (s' := ?sn7) ?hn7 ?kn7; (case hn7 => (simp -implicitDefEqProofs (disch := first | decide | assumption | (try simp only [q_next, s_put_next]) <;> omega | exact pd_ (by kernel_rfl) | fail) only [sxM, Nat.reduceAdd, reduceCtorEq, Int.reduceToNat, Nat.reduceEqDiff, Int.reduceEq, Int.reduceLT, s_draw, ovB_red, belE_eq, Int.toNat_natCast, hp, hkl, stL] <;> rfl)); (try (change GetsE _ _ _ _ _ _; repeat refine GetsE.seq ?_))
 refine GetsE.ofH (fun h => h.blks.get H.next = some (.cells 41 true [.str [], .int .i64 0, .int .i64 0, .nilslice]) ∧ h.blks.get (H.next + 1) = some (.cells 41 true (defC ((bel s 3 : Nat) : Int) (50 * ((bel (nx s) 2 : Nat) : Int)) .nilslice)) ∧
   h.blks.get p = some (seedB 73 (nxs (2 * 0) (nxs 4 s))) ∧ GrowsP p H h ∧ h.next = H.next + 2 ∧ Neat h)
  ⟨by ((try simp (disch := first | assumption | omega | (try simp only [q_next, s_put_next]) <;> omega | fail) only [foL]); (try rfl)), by ((try simp (disch := first | assumption | omega | (try simp only [q_next, s_put_next]) <;> omega | fail) only [foL]); (try rfl)), by ((try simp (disch := first | assumption | omega | (try simp only [q_next, s_put_next]) <;> omega | fail) only [foL]); (try rfl)), ⟨by ((try dsimp only); (try simp only [s_push_next, s_put_next]); omega), fun b hb hne => by ((try simp (disch := first | assumption | omega | (try simp only [q_next, s_put_next]) <;> omega | fail) only [foL]); (try rfl))⟩, by ((try simp (disch := first | assumption | omega | (try simp only [q_next, s_put_next]) <;> omega | fail) only [foL]); (try rfl)), (by repeat' (first | exact hN | exact aN | exact bN | (refine Neat.push ?_ _) | (refine Neat.put ?_ (by ((try dsimp only); (try simp only [s_push_next, s_put_next]); omega)) _)))⟩ ?_
 rintro h0 ⟨a0, a1, a3, ag, ax, aN⟩
 refine GetsE.l0 Tryz.tabOk (s' := ?sn8) ?hn8 ?kn8; (case hn8 => (simp -implicitDefEqProofs (disch := first | decide | assumption | (try simp only [q_next, s_put_next]) <;> omega | exact pd_ (by kernel_rfl) | fail) only [sxM, Nat.reduceAdd, reduceCtorEq, Int.reduceToNat, Nat.reduceEqDiff, Int.reduceEq, Int.reduceLT, s_draw] <;> rfl)); (try (change GetsE _ _ _ _ _ _; repeat refine GetsE.seq ?_))
 have hu0 := nxs_lt hs 4
 generalize hfrq : bel (nx (nx (nx s))) ks.length = fr at hfr ⊢
 generalize nxs 4 s = u at a3 hu0 ⊢
 generalize ((bel s 3 : Nat) : Int) = co at a1 ⊢
 generalize 50 * ((bel (nx s) 2 : Nat) : Int) = dl at a1 ⊢
 refine GetsE.uptoH m (fun i tm h => tm.get 0 = some (.ptr p 0) ∧ tm.get 1 = some kv ∧ tm.get 4 = some (.ptr H.next 0) ∧ tm.get 5 = some (.ptr (H.next + 1) 0) ∧ tm.get 6 = some (.int .i64 (m : Int)) ∧ tm.get 7 = some (.int .i64 (fr : Int)) ∧ tm.get 8 = some (.int .i64 (i : Int)) ∧
   h.blks.get H.next = some (.cells 41 true [.str [], .int .i64 0, .int .i64 0, .nilslice]) ∧ (∃ sv, h.blks.get (H.next + 1) = some (.cells 41 true (defC co dl sv)) ∧ GrownAt (H.next + 2) 184 StepV.cells h sv (stepsV ks fr u i)) ∧
   h.blks.get p = some (seedB 73 (nxs (2 * i) u)) ∧ GrowsP p H h ∧ H.next + 2 ≤ h.next ∧ Neat h)
  ⟨by simp (disch := decide) only [sxL], by simp (disch := decide) only [sxL], by simp (disch := decide) only [sxL], by simp (disch := decide) only [sxL], by simp (disch := decide) only [sxL], by simp (disch := decide) only [sxL], by simp (disch := decide) only [sxL], a0, ⟨.nilslice, a1, .inl ⟨rfl, rfl⟩⟩, a3, ag, by omega, aN⟩ ?_
 clear a0 a1 a3 ag ax aN h0
 rintro i tm h hi ⟨i0, i1, i4, i5, i6, i7, i8, a0, ⟨sv, a1, a2⟩, a3, ag, ax, aN⟩
 repeat refine GetsE.seq ?_
 by_cases hlt : (i : Int) < (m : Int)
 ·have hu := nxs_lt hu0 (2 * i)
  have hu1 := nx_lt (nxs (2 * i) u)
  obtain ⟨a, ha⟩ : ∃ a, ks[(fr + i) % ks.length]? = some a := ⟨_, List.getElem?_eq_getElem (Nat.mod_lt _ hl.1)⟩
  have hb5 := bel_lt (nxs (2 * i) u) (k := 5) (by omega)
  have v1 : awrap .i64 (1 + ((bel (nxs (2 * i) u) 5 : Nat) : Int)) = 1 + ((bel (nxs (2 * i) u) 5 : Nat) : Int) := s_wrap (by omega) (by omega)
  have v2 : awrap .i64 (0 - (1 + ((bel (nxs (2 * i) u) 5 : Nat) : Int))) = -(1 + ((bel (nxs (2 * i) u) 5 : Nat) : Int)) := by rw [s_wrap (by omega) (by omega)]; omega
  have v3 : awrap .i64 ((fr : Int) + (i : Int)) = ((fr + i : Nat) : Int) := by rw [s_wrap (by omega) (by omega)]; omega
  have v4 : remO .i64 ((fr + i : Nat) : Int) (ks.length : Int) = some (.int .i64 (((fr + i) % ks.length : Nat) : Int)) := s_rem _ (by omega) (by omega)
  have v5 : awrap .i64 ((i : Int) + 1) = (i : Int) + 1 := s_wrap (by omega) (by omega)
  have hgd : (ks[(fr + i) % ks.length]?).getD [] = a := by rw [ha]; rfl
  refine GetsE.l0 Tryz.tabOk (s' := ?sn9) ?hn9 ?kn9; (case hn9 => (simp -implicitDefEqProofs (disch := first | decide | assumption | (try simp only [q_next, s_put_next]) <;> omega | exact pd_ (by kernel_rfl) | fail) only [sxM, Nat.reduceAdd, reduceCtorEq, Int.reduceToNat, Nat.reduceEqDiff, Int.reduceEq, Int.reduceLT, s_draw, i6, i8, hlt] <;> rfl)); (try (change GetsE _ _ _ _ _ _; repeat refine GetsE.seq ?_))
  refine GetsE.condT (by simp (disch := decide) only [sxL]) (GetsE.skip Tryz.tabOk ?_)
  change GetsE _ _ _ _ _ _
  refine GetsE.seq (GetsE.blk ?_)
  repeat refine GetsE.seq ?_
  refine GetsE.last Tryz.tabOk (ov := addOv noOv 55 (ovB 73)) (addOv_ok noOv_ok ovBR_ok) 8 (s' := ?sn10) ?hn10 ?kn10; (case hn10 => (simp -implicitDefEqProofs (disch := first | decide | assumption | (try simp only [q_next, s_put_next]) <;> omega | exact pd_ (by kernel_rfl) | fail) only [sxM, Nat.reduceAdd, reduceCtorEq, Int.reduceToNat, Nat.reduceEqDiff, Int.reduceEq, Int.reduceLT, s_draw, ovB_red, belE_eq, Int.toNat_natCast, i0, a3, v1] <;> rfl)); (try (change GetsE _ _ _ _ _ _; repeat refine GetsE.seq ?_))
  have hmid : ∃ d : Int, stepV ks fr i (nxs (2 * i) u) = ⟨a, d⟩ ∧ ((bel (nx (nxs (2 * i) u)) 2 = 1 ∧ d = -(1 + ((bel (nxs (2 * i) u) 5 : Nat) : Int))) ∨ (¬ bel (nx (nxs (2 * i) u)) 2 = 1 ∧ d = 1 + ((bel (nxs (2 * i) u) 5 : Nat) : Int))) := by
   by_cases hd : bel (nx (nxs (2 * i) u)) 2 = 1
   ·exact ⟨_, by unfold stepV; rw [hgd, if_pos hd], .inl ⟨hd, rfl⟩⟩
   ·exact ⟨_, by unfold stepV; rw [hgd, if_neg hd], .inr ⟨hd, rfl⟩⟩
  obtain ⟨d, hx, hd⟩ := hmid
  refine GetsE.ofS (fun tm h' => tm.get 0 = some (.ptr p 0) ∧ tm.get 1 = some kv ∧ tm.get 4 = some (.ptr H.next 0) ∧ tm.get 5 = some (.ptr (H.next + 1) 0) ∧ tm.get 6 = some (.int .i64 (m : Int)) ∧ tm.get 7 = some (.int .i64 (fr : Int)) ∧ tm.get 8 = some (.int .i64 (i : Int)) ∧ tm.get 9 = some (.int .i64 (1 + ((bel (nxs (2 * i) u) 5 : Nat) : Int))) ∧
    h'.blks.get p = some (seedB 73 (nx (nxs (2 * i) u))) ∧ GrowsP p h h' ∧ h'.next = h.next ∧ Neat h') ⟨by simp (disch := decide) only [sxL, i0], by simp (disch := decide) only [sxL, i1], by simp (disch := decide) only [sxL, i4], by simp (disch := decide) only [sxL, i5], by simp (disch := decide) only [sxL, i6], by simp (disch := decide) only [sxL, i7], by simp (disch := decide) only [sxL, i8], by simp (disch := decide) only [sxL], by ((try simp (disch := first | assumption | omega | (try simp only [q_next, s_put_next]) <;> omega | fail) only [foL]); (try rfl)), .put _ _ _, by ((try simp (disch := first | assumption | omega | (try simp only [q_next, s_put_next]) <;> omega | fail) only [foL]); (try rfl)), aN.put (aN _ _ a3) _⟩ ?_
  clear i0 i1 i4 i5 i6 i7 i8
  clear tm
  rintro tm h2 ⟨i0, i1, i4, i5, i6, i7, i8, i9, b3, bg, bx, bN⟩
  have hneg : ((bel (nx (nxs (2 * i) u)) 2 : Nat) : Int) = 1 ↔ bel (nx (nxs (2 * i) u)) 2 = 1 := by omega
  refine GetsE.last Tryz.tabOk (ov := addOv noOv 55 (ovB 73)) (addOv_ok noOv_ok ovBR_ok) 8 (s' := ?sn11) ?hn11 ?kn11; (case hn11 => (simp -implicitDefEqProofs (disch := first | decide | assumption | (try simp only [q_next, s_put_next]) <;> omega | exact pd_ (by kernel_rfl) | fail) only [sxM, Nat.reduceAdd, reduceCtorEq, Int.reduceToNat, Nat.reduceEqDiff, Int.reduceEq, Int.reduceLT, s_draw, ovB_red, belE_eq, Int.toNat_natCast, i0, b3, hneg] <;> rfl)); (try (change GetsE _ _ _ _ _ _; repeat refine GetsE.seq ?_))
  refine GetsE.midH (I := fun tm h' => tm.get 0 = some (.ptr p 0) ∧ tm.get 1 = some kv ∧ tm.get 4 = some (.ptr H.next 0) ∧ tm.get 5 = some (.ptr (H.next + 1) 0) ∧ tm.get 6 = some (.int .i64 (m : Int)) ∧ tm.get 7 = some (.int .i64 (fr : Int)) ∧ tm.get 8 = some (.int .i64 (i : Int)) ∧ tm.get 9 = some (.int .i64 d) ∧
    h'.blks.get p = some (seedB 73 (nx (nx (nxs (2 * i) u)))) ∧ GrowsP p h h' ∧ h'.next = h.next ∧ Neat h') ?_ ?_
  ·rcases hd with ⟨hd, rfl⟩ | ⟨hd, rfl⟩
   ·refine GetsE.condT (by simp (disch := decide) only [sxL, hd]) ?_
    change GetsE _ _ _ _ _ _
    refine GetsE.l0 Tryz.tabOk (s' := ?sn12) ?hn12 ?kn12; (case hn12 => (simp -implicitDefEqProofs (disch := first | decide | assumption | (try simp only [q_next, s_put_next]) <;> omega | exact pd_ (by kernel_rfl) | fail) only [sxM, Nat.reduceAdd, reduceCtorEq, Int.reduceToNat, Nat.reduceEqDiff, Int.reduceEq, Int.reduceLT, s_draw, i9, v2] <;> rfl)); (try (change GetsE _ _ _ _ _ _; repeat refine GetsE.seq ?_))
    exact ⟨rfl, _, _, rfl, by simp (disch := decide) only [sxL, i0], by simp (disch := decide) only [sxL, i1], by simp (disch := decide) only [sxL, i4], by simp (disch := decide) only [sxL, i5], by simp (disch := decide) only [sxL, i6], by simp (disch := decide) only [sxL, i7], by simp (disch := decide) only [sxL, i8], by simp (disch := decide) only [sxL], by ((try simp (disch := first | assumption | omega | (try simp only [q_next, s_put_next]) <;> omega | fail) only [foL]); (try rfl)), bg.trans (.put _ _ _), by ((try simp (disch := first | assumption | omega | (try simp only [q_next, s_put_next]) <;> omega | fail) only [foL]); (try rfl)); exact bx, bN.put (bN _ _ b3) _⟩
   ·refine GetsE.condF (by simp (disch := decide) only [sxL, hd]) (GetsE.skip Tryz.tabOk ?_)
    exact ⟨rfl, _, _, rfl, by simp (disch := decide) only [sxL, i0], by simp (disch := decide) only [sxL, i1], by simp (disch := decide) only [sxL, i4], by simp (disch := decide) only [sxL, i5], by simp (disch := decide) only [sxL, i6], by simp (disch := decide) only [sxL, i7], by simp (disch := decide) only [sxL, i8], by simp (disch := decide) only [sxL, i9], by ((try simp (disch := first | assumption | omega | (try simp only [q_next, s_put_next]) <;> omega | fail) only [foL]); (try rfl)), bg.trans (.put _ _ _), by ((try simp (disch := first | assumption | omega | (try simp only [q_next, s_put_next]) <;> omega | fail) only [foL]); (try rfl)); exact bx, bN.put (bN _ _ b3) _⟩
  clear i0 i1 i4 i5 i6 i7 i8 i9 b3 bg bx bN hd hneg
  clear h2 tm
  rintro tm h2 ⟨i0, i1, i4, i5, i6, i7, i8, i9, b3, bg, bx, bN⟩
  change GetsE _ _ _ _ _ _
  repeat refine GetsE.seq ?_
  have n1 : H.next + 1 ≠ p := by omega
  have n0 : H.next ≠ p := by omega
  have c0 := bg.some_ aN a0 n0
  have c1 := bg.some_ aN a1 n1
  have c2 : GrownAt (H.next + 2) 184 StepV.cells h2 sv (stepsV ks fr u i) := a2.to fun b x y hb => bg.some_ aN hb (ne_of_blk hb a3 (by simp))
  have cg := ag.trans bg
  obtain ⟨b, hxa, hld⟩ := (hk.growP hN cg (by decide) hp).at_ ha
  have pu : ∀ {b : Nat} {o : ABlk}, h2.blks.get b = some o → (h2.push (.cells 184 true [.str a, .int .i64 d])).blks.get b = some o := fun {b o} hb => by rw [s_push_other _ _ (Nat.ne_of_lt (bN b o hb))]; exact hb
  obtain ⟨v', H', happ, e2, e3, e4, e5, e6⟩ := grown_app (H := h2.push (.cells 184 true [.str a, .int .i64 d])) (f := StepV.cells) ud39 ty184 ty184s (by decide) ty184b zero184 rfl StepV.len (c2.to fun b x y hb => pu hb) (bN.push _) (by show H.next + 2 ≤ h2.next + 1; omega) (by rw [stepsV_len]; omega) (fun x _ => StepV.one x) (b := h2.next) (a := ⟨a, d⟩) (s_push_same _ _) rfl
  have d0 := e5 _ _ (pu c0) (fun y => by simp)
  have d1 := e5 _ _ (pu c1) (fun y => by simp)
  have d3 := e5 _ _ (pu b3) (fun y => by simp)
  have hv' := CellsAt.one e2.cells
  have l1 : H.next + 1 < H'.next := e3 _ _ d1
  have e4' : H'.next = h2.next + 2 := e4
  rw [← hx, ← stepsV_succ] at e2
  have bs := bs39 h2 a d
  refine GetsE.drawK Tryz.tabOk (ov := noOv) (noOv_ok) 8 (s' := ?sn1) [.rd 0, .rd 1, .rd 2, .rd 3, .rd 4, .rd 5, .rd 6, .rd 7, .rd 8, .rd 9, .rd 10, .rd 11, .rd 12, .rd 13, .lk 14 [], .rd 15, .lk 16 []] (by kernel_rfl) (bN) ?hn1 ?kn1; (case hn1 => (simp -implicitDefEqProofs (maxSteps := 10000000) (disch := first | decide | assumption | (try simp only [q_next, s_put_next]) <;> omega | exact pd_ (by kernel_rfl) | fail) only [sxM, Nat.reduceAdd, reduceCtorEq, Int.reduceToNat, Nat.reduceEqDiff, Int.reduceEq, Int.reduceLT, k_nil, k_rd, k_sm, k_lk, k_rdO, k_rdOG, k_rdGt, k_rdGf, k_smO, k_smOG, k_smGt, k_smGf, k_lkO, k_lkOG, k_lkGt, k_lkGf, k_rdN, k_rdN0, k_sk, k_sk0, k_smE, k_smE0, k_lkE, k_lkE0, k_lkX, k_keepP, k_keepR, k_keepA, k_look, k_look0, k_each0, k_each, k_la, k_laO, k_laOG, k_laGt, k_laGf, k_laE, k_laE0, k_lookM, k_lookM0, k_eachM0, k_eachM, k_samePtr, k_sameSl, k_ln, k_lnO, k_lnOG, k_lnGt, k_lnGf, k_lnE, k_lnE0, and_self, and_true, true_and, i0, i1, i5, i7, i8, i9, c1, fa41_3, s_varFalse ia39, v3, v4, hkl, hxa, hld, s_varFalse ia9, build184, bs, z_opApp, happ, d1, stL, sz39, hv', withH] <;> rfl)); (try (change GetsE _ _ _ _ _ _; repeat refine GetsE.seq ?_))
  refine GetsE.l0 Tryz.tabOk (s' := ?sn13) ?hn13 ?kn13; (case hn13 => (simp -implicitDefEqProofs (disch := first | decide | assumption | (try simp only [q_next, s_put_next]) <;> omega | exact pd_ (by kernel_rfl) | fail) only [sxM, Nat.reduceAdd, reduceCtorEq, Int.reduceToNat, Nat.reduceEqDiff, Int.reduceEq, Int.reduceLT, s_draw, i8, v5] <;> rfl)); (try (change GetsE _ _ _ _ _ _; repeat refine GetsE.seq ?_))
  exact ⟨_, _, rfl, by omega, by simp (disch := decide) only [sxL, i0], by simp (disch := decide) only [sxL, i1], by simp (disch := decide) only [sxL, i4], by simp (disch := decide) only [sxL, i5], by simp (disch := decide) only [sxL, i6], by simp (disch := decide) only [sxL, i7], by simp (disch := decide) only [sxL, s_castS], by ((try simp (disch := first | assumption | omega | (try simp only [q_next, s_put_next]) <;> omega | fail) only [foL]); (try rfl)); exact d0, ⟨v', by ((try simp (disch := first | assumption | omega | (try simp only [q_next, s_put_next]) <;> omega | fail) only [foL]); (try rfl)), e2.to fun b x y hb => by
   have hne : b ≠ H.next + 1 := ne_of_blk hb d1 (by simp)
   ((try simp (disch := first | assumption | omega | (try simp only [q_next, s_put_next]) <;> omega | fail) only [foL]); (try rfl)); exact hb⟩, by ((try simp (disch := first | assumption | omega | (try simp only [q_next, s_put_next]) <;> omega | fail) only [foL]); (try rfl)); exact d3, ⟨by have := cg.next; ((try dsimp only); (try simp only [s_push_next, s_put_next]); omega), fun b hb hne => by
   have := e6 b (by omega)
   ((try simp (disch := first | assumption | omega | (try simp only [q_next, s_put_next]) <;> omega | fail) only [foL]); (try rfl))
   rw [this, s_push_other _ _ (by omega)]; exact cg.get b hb hne⟩, by ((try dsimp only); (try simp only [s_push_next, s_put_next]); omega), e3.put l1 _⟩
 ·have h9 : i = m := by omega
  subst h9
  refine GetsE.l0 Tryz.tabOk (s' := ?sn14) ?hn14 ?kn14; (case hn14 => (simp -implicitDefEqProofs (disch := first | decide | assumption | (try simp only [q_next, s_put_next]) <;> omega | exact pd_ (by kernel_rfl) | fail) only [sxM, Nat.reduceAdd, reduceCtorEq, Int.reduceToNat, Nat.reduceEqDiff, Int.reduceEq, Int.reduceLT, s_draw, i6, i8, hlt] <;> rfl)); (try (change GetsE _ _ _ _ _ _; repeat refine GetsE.seq ?_))
  refine GetsE.condF (by simp (disch := decide) only [sxL]) (GetsE.exit Tryz.tabOk ?_)
  refine inBlk_exit ?_
  change GetsE _ _ _ _ _ _
  repeat refine GetsE.seq ?_
  have hsv := CellsAt.one a2.cells
  have hlv := CellsAt.lt a2.cells aN
  refine GetsE.l0 Tryz.tabOk (s' := ?sn15) ?hn15 ?kn15; (case hn15 => (simp -implicitDefEqProofs (disch := first | decide | assumption | (try simp only [q_next, s_put_next]) <;> omega | exact pd_ (by kernel_rfl) | fail) only [sxM, Nat.reduceAdd, reduceCtorEq, Int.reduceToNat, Nat.reduceEqDiff, Int.reduceEq, Int.reduceLT, s_draw, i4, i5, a0, a1, s_varTrue ia41 sz41, stL, sz41, hsv] <;> rfl)); (try (change GetsE _ _ _ _ _ _; repeat refine GetsE.seq ?_))
  refine GetsE.ret Tryz.tabOk ?_
  exact fin_E (vs := [.agg (defC co dl sv)]) rfl (by simp -implicitDefEqProofs (disch := first | decide | assumption | (try simp only [q_next, s_put_next]) <;> omega | exact pd_ (by kernel_rfl) | fail) only [sxM, Nat.reduceAdd, reduceCtorEq, Int.reduceToNat, Nat.reduceEqDiff, Int.reduceEq, Int.reduceLT, Tryz.f56, resCell, s_varTrue ia41 sz41, stL, i4] <;> rfl) (by ((try dsimp only); (try simp only [s_push_next, s_put_next]); omega)) ⟨trivial, trivial, trivial, (show ltV (putBlk h _ _).next sv by rw [s_put_next]; exact hlv), trivial⟩
   ⟨sv, rfl, ⟨by ((try dsimp only); (try simp only [s_push_next, s_put_next]); omega), fun b hb hne => by ((try simp (disch := first | assumption | omega | (try simp only [q_next, s_put_next]) <;> omega | fail) only [foL]); (try rfl)); exact ag.get b hb hne⟩, (by repeat' (first | exact hN | exact aN | exact bN | (refine Neat.push ?_ _) | (refine Neat.put ?_ (by ((try dsimp only); (try simp only [s_push_next, s_put_next]); omega)) _))), by ((try simp (disch := first | assumption | omega | (try simp only [q_next, s_put_next]) <;> omega | fail) only [foL]); (try rfl)); exact a3, CellsAt.to a2.cells fun b x y hb => by
    have hne : b ≠ H.next := ne_of_blk hb a0 (by simp)
    ((try simp (disch := first | assumption | omega | (try simp only [q_next, s_put_next]) <;> omega | fail) only [foL]); (try rfl)); exact hb⟩
end Go.Proofs
namespace Go.Proofs
open Go.Sx
set_option maxRecDepth 100000
theorem cell_lt {H : Heap} (hN : Neat H) {b i : Nat} {v : AV} (h : cellIn (H.blks.get b) i = some v) : b < H.next := by
 cases hh : H.blks.get b with
 | none => rw [hh] at h; exact absurd h (by simp [cellIn])
 | some o => exact hN b o hh
set_option maxHeartbeats 0 in
theorem opR_to (n g : Nat) (M : Nat) (kc kv cv : AV) (ks : List (List UInt8)) (p s : Nat) (H : Heap) (hN : Neat H) (hk : KeyS H kv ks) (k1 : oneCell kc = true) (k2 : oneCell cv = true) (hp : H.blks.get p = some (seedB 73 s)) (hs : s < 18446744073709551616) (hM : M = n * g) (hM2 : M < 1000) (hn : 0 < n ∧ n < M) (hg : 1 < g ∧ g < 1000) (hl : 0 < ks.length ∧ ks.length < 1000000000) :
  MakesOp 73 p H 21 [.ptr p 0, .agg (confC n g kc cv), kv] (oneOp n M g ks s).1 (oneOp n M g ks s).2 := by
 refine makes_E (callE_of Tryz.tabOk Tryz.func21 rfl rfl ?_)
 show GetsE Tryz.prog Tryz.tab ⟨none, 166⟩ _ _ _
 repeat refine GetsE.seq ?_
 have lp := hN _ _ hp
 have hkl := hk.len
 have wM : awrap .i64 ((n : Int) * (g : Int)) = (M : Int) := by rw [← Int.natCast_mul, ← hM]; exact s_wrap (by omega) (by omega)
 refine GetsE.l0 Tryz.tabOk (s' := ?sn1) ?hn1 ?kn1; (case hn1 => (simp -implicitDefEqProofs (disch := first | decide | assumption | (try simp only [q_next, s_put_next]) <;> omega | exact pd_ (by kernel_rfl) | fail) only [sxM, Nat.reduceAdd, reduceCtorEq, Int.reduceToNat, Nat.reduceEqDiff, Int.reduceEq, Int.reduceLT, s_draw, k1, k2, zero43] <;> rfl)); (try (change GetsE _ _ _ _ _ _; repeat refine GetsE.seq ?_))
 refine GetsE.ofH (fun h => h.blks.get H.next = some (.cells 33 true (confC n g kc cv)) ∧ h.blks.get (H.next + 1) = some (.cells 43 true (opZ 0 0 0)) ∧ h.blks.get p = some (seedB 73 s) ∧ GrowsP p H h ∧ h.next = H.next + 2 ∧ Neat h) ⟨by ((try simp (disch := first | assumption | omega | (try simp only [q_next, s_put_next]) <;> omega | fail) only [foL]); (try rfl)), by ((try simp (disch := first | assumption | omega | (try simp only [q_next, s_put_next]) <;> omega | fail) only [foL]); (try rfl)), by ((try simp (disch := first | assumption | omega | (try simp only [q_next, s_put_next]) <;> omega | fail) only [foL]); (try rfl)); exact hp, ⟨by ((try dsimp only); (try simp only [s_push_next, s_put_next]); omega), fun b hb hne => by ((try simp (disch := first | assumption | omega | (try simp only [q_next, s_put_next]) <;> omega | fail) only [foL]); (try rfl))⟩, by ((try simp (disch := first | assumption | omega | (try simp only [q_next, s_put_next]) <;> omega | fail) only [foL]); (try rfl)), (by repeat' (first | exact hN | exact aN | exact bN | (refine Neat.push ?_ _) | (refine Neat.put ?_ (by ((try dsimp only); (try simp only [s_push_next, s_put_next]); omega)) _)))⟩ ?_
 rintro h ⟨ac, a1, a3, ag, ax, aN⟩
 refine GetsE.l0 Tryz.tabOk (s' := ?sn2) ?hn2 ?kn2; (case hn2 => (simp -implicitDefEqProofs (disch := first | decide | assumption | (try simp only [q_next, s_put_next]) <;> omega | exact pd_ (by kernel_rfl) | fail) only [sxM, Nat.reduceAdd, reduceCtorEq, Int.reduceToNat, Nat.reduceEqDiff, Int.reduceEq, Int.reduceLT, s_draw, ac, fa33_0, s_varFalse ia3] <;> rfl)); (try (change GetsE _ _ _ _ _ _; repeat refine GetsE.seq ?_))
 refine GetsE.l0 Tryz.tabOk (s' := ?sn3) ?hn3 ?kn3; (case hn3 => (simp -implicitDefEqProofs (disch := first | decide | assumption | (try simp only [q_next, s_put_next]) <;> omega | exact pd_ (by kernel_rfl) | fail) only [sxM, Nat.reduceAdd, reduceCtorEq, Int.reduceToNat, Nat.reduceEqDiff, Int.reduceEq, Int.reduceLT, s_draw, ac, fa33_0, fa33_1, s_varFalse ia3, wM] <;> rfl)); (try (change GetsE _ _ _ _ _ _; repeat refine GetsE.seq ?_))
 refine GetsE.last Tryz.tabOk (ov := addOv noOv 55 (ovB 73)) (addOv_ok noOv_ok ovBR_ok) 8 (s' := ?sn4) ?hn4 ?kn4; (case hn4 => (simp -implicitDefEqProofs (disch := first | decide | assumption | (try simp only [q_next, s_put_next]) <;> omega | exact pd_ (by kernel_rfl) | fail) only [sxM, Nat.reduceAdd, reduceCtorEq, Int.reduceToNat, Nat.reduceEqDiff, Int.reduceEq, Int.reduceLT, s_draw, ovB_red, belE_eq, Int.toNat_natCast, a3] <;> rfl)); (try (change GetsE _ _ _ _ _ _; repeat refine GetsE.seq ?_))
 refine GetsE.l0 Tryz.tabOk (s' := ?sn5) ?hn5 ?kn5; (case hn5 => (simp -implicitDefEqProofs (disch := first | decide | assumption | (try simp only [q_next, s_put_next]) <;> omega | exact pd_ (by kernel_rfl) | fail) only [sxM, Nat.reduceAdd, reduceCtorEq, Int.reduceToNat, Nat.reduceEqDiff, Int.reduceEq, Int.reduceLT, s_draw, zero43] <;> rfl)); (try (change GetsE _ _ _ _ _ _; repeat refine GetsE.seq ?_))
 have ht := nx_lt s
 unfold oneOp
 generalize hr100 : bel s 100 = r
 have hr : r < 100 := by rw [← hr100]; exact bel_lt s (by omega)
 refine GetsE.ofS (fun tm h => tm.get 0 = some (.ptr p 0) ∧ tm.get 2 = some kv ∧ tm.get 4 = some (.ptr H.next 0) ∧ tm.get 6 = some (.ptr (H.next + 1) 0) ∧ tm.get 7 = some (.int .i64 (n : Int)) ∧ tm.get 8 = some (.int .i64 (M : Int)) ∧ tm.get 9 = some (.int .i64 (r : Int)) ∧ tm.get 10 = some (.ptr (H.next + 2) 0) ∧
   h.blks.get H.next = some (.cells 33 true (confC n g kc cv)) ∧ h.blks.get (H.next + 1) = some (.cells 43 true (opZ 0 0 0)) ∧ h.blks.get (H.next + 2) = some (.cells 43 true (opZ 0 0 0)) ∧ h.blks.get p = some (seedB 73 (nx s)) ∧ GrowsP p H h ∧ h.next = H.next + 3 ∧ Neat h)
  ⟨by simp (disch := decide) only [sxL], by simp (disch := decide) only [sxL], by simp (disch := decide) only [sxL], by simp (disch := decide) only [sxL], by simp (disch := decide) only [sxL], by simp (disch := decide) only [sxL], by simp (disch := decide) only [sxL, hr100], by simp (disch := decide) only [sxL, ax], by ((try simp (disch := first | assumption | omega | (try simp only [q_next, s_put_next]) <;> omega | fail) only [foL]); (try rfl)); exact ac, by ((try simp (disch := first | assumption | omega | (try simp only [q_next, s_put_next]) <;> omega | fail) only [foL]); (try rfl)); exact a1, by ((try simp (disch := first | assumption | omega | (try simp only [q_next, s_put_next]) <;> omega | fail) only [foL]); (try rfl)), by ((try simp (disch := first | assumption | omega | (try simp only [q_next, s_put_next]) <;> omega | fail) only [foL]); (try rfl)), ⟨by ((try dsimp only); (try simp only [s_push_next, s_put_next]); omega), fun b hb hne => by ((try simp (disch := first | assumption | omega | (try simp only [q_next, s_put_next]) <;> omega | fail) only [foL]); (try rfl)); exact ag.get b hb hne⟩, by ((try simp (disch := first | assumption | omega | (try simp only [q_next, s_put_next]) <;> omega | fail) only [foL]); (try rfl)); omega, (by repeat' (first | exact hN | exact aN | exact bN | (refine Neat.push ?_ _) | (refine Neat.put ?_ (by ((try dsimp only); (try simp only [s_push_next, s_put_next]); omega)) _)))⟩ ?_
 clear ac a1 a3 ag ax aN hr100
 clear h
 rintro tm h ⟨i0, i2, i4, i6, i7, i8, i9, i10, ac, a1, a2, a3, ag, ax, aN⟩
 generalize nx s = t at ht a3 ⊢
 have t1 := nx_lt t
 have t2 := nx_lt (nx t)
 have t3 := nx_lt (nx (nx t))
 have kM : 0 < (M : Int) ∧ (M : Int) < 2147483648 := by omega
 have kn : 0 < (n : Int) ∧ (n : Int) < 2147483648 := by omega
 have hb9 := bel_lt (nx t) (k := 9) (by omega)
 have w9 : awrap .i64 (1 + ((bel (nx t) 9 : Nat) : Int)) = 1 + ((bel (nx t) 9 : Nat) : Int) := s_wrap (by omega) (by omega)
 have n0 : H.next ≠ p := by omega
 have n1 : H.next + 1 ≠ p := by omega
 have n2 : H.next + 2 ≠ p := by omega
 refine GetsE.midH (I := fun tm h => tm.get 6 = some (.ptr (H.next + 1) 0) ∧ tm.get 10 = some (.ptr (H.next + 2) 0) ∧ (∃ sv, h.blks.get (H.next + 2) = some (.cells 43 true ((genF n M g ks (idxOf r) t).1.cells sv)) ∧ StepsAt h sv (genF n M g ks (idxOf r) t).1.st) ∧
   h.blks.get (H.next + 1) = some (.cells 43 true (opZ 0 0 0)) ∧ h.blks.get p = some (seedB 73 (genF n M g ks (idxOf r) t).2) ∧ GrowsP p H h ∧ H.next + 3 ≤ h.next ∧ Neat h) ?_ ?_
 ·refine GetsE.blk ?_
  repeat refine GetsE.seq ?_
  by_cases h0 : (r : Int) < 40
  ·have hidx : idxOf r = 0 := by unfold idxOf; rw [if_pos (by omega)]
   rw [hidx]
   refine GetsE.l0 Tryz.tabOk (s' := ?sn6) ?hn6 ?kn6; (case hn6 => (simp -implicitDefEqProofs (disch := first | decide | assumption | (try simp only [q_next, s_put_next]) <;> omega | exact pd_ (by kernel_rfl) | fail) only [sxM, Nat.reduceAdd, reduceCtorEq, Int.reduceToNat, Nat.reduceEqDiff, Int.reduceEq, Int.reduceLT, s_draw, i9, h0] <;> rfl)); (try (change GetsE _ _ _ _ _ _; repeat refine GetsE.seq ?_))
   refine GetsE.condT (by simp (disch := decide) only [sxL]) ?_
   change GetsE _ _ _ _ _ _
   repeat refine GetsE.seq ?_
   refine GetsE.l0 Tryz.tabOk (s' := ?sn7) ?hn7 ?kn7; (case hn7 => (simp -implicitDefEqProofs (disch := first | decide | assumption | (try simp only [q_next, s_put_next]) <;> omega | exact pd_ (by kernel_rfl) | fail) only [sxM, Nat.reduceAdd, reduceCtorEq, Int.reduceToNat, Nat.reduceEqDiff, Int.reduceEq, Int.reduceLT, s_draw, i10, fa43_0, a2, stL, sz3] <;> rfl)); (try (change GetsE _ _ _ _ _ _; repeat refine GetsE.seq ?_))
   refine GetsE.last Tryz.tabOk (ov := addOv noOv 55 (ovB 73)) (addOv_ok noOv_ok ovBR_ok) 8 (s' := ?sn8) ?hn8 ?kn8; (case hn8 => (simp -implicitDefEqProofs (disch := first | decide | assumption | (try simp only [q_next, s_put_next]) <;> omega | exact pd_ (by kernel_rfl) | fail) only [sxM, Nat.reduceAdd, reduceCtorEq, Int.reduceToNat, Nat.reduceEqDiff, Int.reduceEq, Int.reduceLT, s_draw, ovB_red, belE_eq, Int.toNat_natCast, i0, i2, i4, i7, i8, i10, a2, a3, ac, kM, kn, fa43_1, stL, sz3] <;> rfl)); (try (change GetsE _ _ _ _ _ _; repeat refine GetsE.seq ?_))
   refine inBlk_normal ?_
   exact ⟨rfl, _, _, rfl, by simp (disch := decide) only [sxL, i6], by simp (disch := decide) only [sxL, i10], ⟨.nilslice, by ((try simp (disch := first | assumption | omega | (try simp only [q_next, s_put_next]) <;> omega | fail) only [foL]); (try rfl)), .inl ⟨rfl, rfl⟩⟩, by ((try simp (disch := first | assumption | omega | (try simp only [q_next, s_put_next]) <;> omega | fail) only [foL]); (try rfl)); exact a1, by ((try simp (disch := first | assumption | omega | (try simp only [q_next, s_put_next]) <;> omega | fail) only [foL]); (try rfl)), ⟨by ((try dsimp only); (try simp only [s_push_next, s_put_next]); omega), fun b hb hne => by ((try simp (disch := first | assumption | omega | (try simp only [q_next, s_put_next]) <;> omega | fail) only [foL]); (try rfl)); exact ag.get b hb hne⟩, by ((try dsimp only); (try simp only [s_push_next, s_put_next]); omega), (by repeat' (first | exact hN | exact aN | exact bN | (refine Neat.push ?_ _) | (refine Neat.put ?_ (by ((try dsimp only); (try simp only [s_push_next, s_put_next]); omega)) _)))⟩
  refine GetsE.l0 Tryz.tabOk (s' := ?sn9) ?hn9 ?kn9; (case hn9 => (simp -implicitDefEqProofs (disch := first | decide | assumption | (try simp only [q_next, s_put_next]) <;> omega | exact pd_ (by kernel_rfl) | fail) only [sxM, Nat.reduceAdd, reduceCtorEq, Int.reduceToNat, Nat.reduceEqDiff, Int.reduceEq, Int.reduceLT, s_draw, i9, h0] <;> rfl)); (try (change GetsE _ _ _ _ _ _; repeat refine GetsE.seq ?_))
  refine GetsE.condF (by simp (disch := decide) only [sxL]) ?_
  change GetsE _ _ _ _ _ _
  repeat refine GetsE.seq ?_
  by_cases h1 : (r : Int) < 75
  ·have hidx : idxOf r = 1 := by unfold idxOf; rw [if_neg (by omega), if_pos (by omega)]
   rw [hidx]
   refine GetsE.l0 Tryz.tabOk (s' := ?sn10) ?hn10 ?kn10; (case hn10 => (simp -implicitDefEqProofs (disch := first | decide | assumption | (try simp only [q_next, s_put_next]) <;> omega | exact pd_ (by kernel_rfl) | fail) only [sxM, Nat.reduceAdd, reduceCtorEq, Int.reduceToNat, Nat.reduceEqDiff, Int.reduceEq, Int.reduceLT, s_draw, i9, h1] <;> rfl)); (try (change GetsE _ _ _ _ _ _; repeat refine GetsE.seq ?_))
   refine GetsE.condT (by simp (disch := decide) only [sxL]) ?_
   change GetsE _ _ _ _ _ _
   repeat refine GetsE.seq ?_
   refine GetsE.l0 Tryz.tabOk (s' := ?sn11) ?hn11 ?kn11; (case hn11 => (simp -implicitDefEqProofs (disch := first | decide | assumption | (try simp only [q_next, s_put_next]) <;> omega | exact pd_ (by kernel_rfl) | fail) only [sxM, Nat.reduceAdd, reduceCtorEq, Int.reduceToNat, Nat.reduceEqDiff, Int.reduceEq, Int.reduceLT, s_draw, i10, fa43_0, a2, stL, sz3] <;> rfl)); (try (change GetsE _ _ _ _ _ _; repeat refine GetsE.seq ?_))
   refine GetsE.last Tryz.tabOk (ov := addOv noOv 55 (ovB 73)) (addOv_ok noOv_ok ovBR_ok) 8 (s' := ?sn12) ?hn12 ?kn12; (case hn12 => (simp -implicitDefEqProofs (disch := first | decide | assumption | (try simp only [q_next, s_put_next]) <;> omega | exact pd_ (by kernel_rfl) | fail) only [sxM, Nat.reduceAdd, reduceCtorEq, Int.reduceToNat, Nat.reduceEqDiff, Int.reduceEq, Int.reduceLT, s_draw, ovB_red, belE_eq, Int.toNat_natCast, i0, i2, i4, i7, i8, i10, a2, a3, ac, kM, kn, fa43_1, stL, sz3] <;> rfl)); (try (change GetsE _ _ _ _ _ _; repeat refine GetsE.seq ?_))
   refine inBlk_normal ?_
   exact ⟨rfl, _, _, rfl, by simp (disch := decide) only [sxL, i6], by simp (disch := decide) only [sxL, i10], ⟨.nilslice, by ((try simp (disch := first | assumption | omega | (try simp only [q_next, s_put_next]) <;> omega | fail) only [foL]); (try rfl)), .inl ⟨rfl, rfl⟩⟩, by ((try simp (disch := first | assumption | omega | (try simp only [q_next, s_put_next]) <;> omega | fail) only [foL]); (try rfl)); exact a1, by ((try simp (disch := first | assumption | omega | (try simp only [q_next, s_put_next]) <;> omega | fail) only [foL]); (try rfl)), ⟨by ((try dsimp only); (try simp only [s_push_next, s_put_next]); omega), fun b hb hne => by ((try simp (disch := first | assumption | omega | (try simp only [q_next, s_put_next]) <;> omega | fail) only [foL]); (try rfl)); exact ag.get b hb hne⟩, by ((try dsimp only); (try simp only [s_push_next, s_put_next]); omega), (by repeat' (first | exact hN | exact aN | exact bN | (refine Neat.push ?_ _) | (refine Neat.put ?_ (by ((try dsimp only); (try simp only [s_push_next, s_put_next]); omega)) _)))⟩
  refine GetsE.l0 Tryz.tabOk (s' := ?sn13) ?hn13 ?kn13; (case hn13 => (simp -implicitDefEqProofs (disch := first | decide | assumption | (try simp only [q_next, s_put_next]) <;> omega | exact pd_ (by kernel_rfl) | fail) only [sxM, Nat.reduceAdd, reduceCtorEq, Int.reduceToNat, Nat.reduceEqDiff, Int.reduceEq, Int.reduceLT, s_draw, i9, h1] <;> rfl)); (try (change GetsE _ _ _ _ _ _; repeat refine GetsE.seq ?_))
  refine GetsE.condF (by simp (disch := decide) only [sxL]) ?_
  change GetsE _ _ _ _ _ _
  repeat refine GetsE.seq ?_
  by_cases h2 : (r : Int) < 78
  ·have hidx : idxOf r = 2 := by unfold idxOf; rw [if_neg (by omega), if_neg (by omega), if_pos (by omega)]
   rw [hidx]
   refine GetsE.l0 Tryz.tabOk (s' := ?sn14) ?hn14 ?kn14; (case hn14 => (simp -implicitDefEqProofs (disch := first | decide | assumption | (try simp only [q_next, s_put_next]) <;> omega | exact pd_ (by kernel_rfl) | fail) only [sxM, Nat.reduceAdd, reduceCtorEq, Int.reduceToNat, Nat.reduceEqDiff, Int.reduceEq, Int.reduceLT, s_draw, i9, h2] <;> rfl)); (try (change GetsE _ _ _ _ _ _; repeat refine GetsE.seq ?_))
   refine GetsE.condT (by simp (disch := decide) only [sxL]) ?_
   change GetsE _ _ _ _ _ _
   repeat refine GetsE.seq ?_
   refine GetsE.l0 Tryz.tabOk (s' := ?sn15) ?hn15 ?kn15; (case hn15 => (simp -implicitDefEqProofs (disch := first | decide | assumption | (try simp only [q_next, s_put_next]) <;> omega | exact pd_ (by kernel_rfl) | fail) only [sxM, Nat.reduceAdd, reduceCtorEq, Int.reduceToNat, Nat.reduceEqDiff, Int.reduceEq, Int.reduceLT, s_draw, i10, fa43_0, a2, stL, sz3] <;> rfl)); (try (change GetsE _ _ _ _ _ _; repeat refine GetsE.seq ?_))
   refine GetsE.last Tryz.tabOk (ov := addOv noOv 55 (ovB 73)) (addOv_ok noOv_ok ovBR_ok) 8 (s' := ?sn16) ?hn16 ?kn16; (case hn16 => (simp -implicitDefEqProofs (disch := first | decide | assumption | (try simp only [q_next, s_put_next]) <;> omega | exact pd_ (by kernel_rfl) | fail) only [sxM, Nat.reduceAdd, reduceCtorEq, Int.reduceToNat, Nat.reduceEqDiff, Int.reduceEq, Int.reduceLT, s_draw, ovB_red, belE_eq, Int.toNat_natCast, i0, i2, i4, i7, i8, i10, a2, a3, ac, kM, kn, fa43_1, stL, sz3] <;> rfl)); (try (change GetsE _ _ _ _ _ _; repeat refine GetsE.seq ?_))
   refine inBlk_normal ?_
   exact ⟨rfl, _, _, rfl, by simp (disch := decide) only [sxL, i6], by simp (disch := decide) only [sxL, i10], ⟨.nilslice, by ((try simp (disch := first | assumption | omega | (try simp only [q_next, s_put_next]) <;> omega | fail) only [foL]); (try rfl)), .inl ⟨rfl, rfl⟩⟩, by ((try simp (disch := first | assumption | omega | (try simp only [q_next, s_put_next]) <;> omega | fail) only [foL]); (try rfl)); exact a1, by ((try simp (disch := first | assumption | omega | (try simp only [q_next, s_put_next]) <;> omega | fail) only [foL]); (try rfl)), ⟨by ((try dsimp only); (try simp only [s_push_next, s_put_next]); omega), fun b hb hne => by ((try simp (disch := first | assumption | omega | (try simp only [q_next, s_put_next]) <;> omega | fail) only [foL]); (try rfl)); exact ag.get b hb hne⟩, by ((try dsimp only); (try simp only [s_push_next, s_put_next]); omega), (by repeat' (first | exact hN | exact aN | exact bN | (refine Neat.push ?_ _) | (refine Neat.put ?_ (by ((try dsimp only); (try simp only [s_push_next, s_put_next]); omega)) _)))⟩
  refine GetsE.l0 Tryz.tabOk (s' := ?sn17) ?hn17 ?kn17; (case hn17 => (simp -implicitDefEqProofs (disch := first | decide | assumption | (try simp only [q_next, s_put_next]) <;> omega | exact pd_ (by kernel_rfl) | fail) only [sxM, Nat.reduceAdd, reduceCtorEq, Int.reduceToNat, Nat.reduceEqDiff, Int.reduceEq, Int.reduceLT, s_draw, i9, h2] <;> rfl)); (try (change GetsE _ _ _ _ _ _; repeat refine GetsE.seq ?_))
  refine GetsE.condF (by simp (disch := decide) only [sxL]) ?_
  change GetsE _ _ _ _ _ _
  repeat refine GetsE.seq ?_
  by_cases h3 : (r : Int) < 81
  ·have hidx : idxOf r = 3 := by unfold idxOf; rw [if_neg (by omega), if_neg (by omega), if_neg (by omega), if_pos (by omega)]
   rw [hidx]
   refine GetsE.l0 Tryz.tabOk (s' := ?sn18) ?hn18 ?kn18; (case hn18 => (simp -implicitDefEqProofs (disch := first | decide | assumption | (try simp only [q_next, s_put_next]) <;> omega | exact pd_ (by kernel_rfl) | fail) only [sxM, Nat.reduceAdd, reduceCtorEq, Int.reduceToNat, Nat.reduceEqDiff, Int.reduceEq, Int.reduceLT, s_draw, i9, h3] <;> rfl)); (try (change GetsE _ _ _ _ _ _; repeat refine GetsE.seq ?_))
   refine GetsE.condT (by simp (disch := decide) only [sxL]) ?_
   change GetsE _ _ _ _ _ _
   repeat refine GetsE.seq ?_
   refine GetsE.l0 Tryz.tabOk (s' := ?sn19) ?hn19 ?kn19; (case hn19 => (simp -implicitDefEqProofs (disch := first | decide | assumption | (try simp only [q_next, s_put_next]) <;> omega | exact pd_ (by kernel_rfl) | fail) only [sxM, Nat.reduceAdd, reduceCtorEq, Int.reduceToNat, Nat.reduceEqDiff, Int.reduceEq, Int.reduceLT, s_draw, i10, fa43_0, a2, stL, sz3] <;> rfl)); (try (change GetsE _ _ _ _ _ _; repeat refine GetsE.seq ?_))
   refine GetsE.last Tryz.tabOk (ov := addOv noOv 55 (ovB 73)) (addOv_ok noOv_ok ovBR_ok) 8 (s' := ?sn20) ?hn20 ?kn20; (case hn20 => (simp -implicitDefEqProofs (disch := first | decide | assumption | (try simp only [q_next, s_put_next]) <;> omega | exact pd_ (by kernel_rfl) | fail) only [sxM, Nat.reduceAdd, reduceCtorEq, Int.reduceToNat, Nat.reduceEqDiff, Int.reduceEq, Int.reduceLT, s_draw, ovB_red, belE_eq, Int.toNat_natCast, i0, i2, i4, i7, i8, i10, a2, a3, ac, kM, kn, fa43_1, stL, sz3] <;> rfl)); (try (change GetsE _ _ _ _ _ _; repeat refine GetsE.seq ?_))
   refine inBlk_normal ?_
   exact ⟨rfl, _, _, rfl, by simp (disch := decide) only [sxL, i6], by simp (disch := decide) only [sxL, i10], ⟨.nilslice, by ((try simp (disch := first | assumption | omega | (try simp only [q_next, s_put_next]) <;> omega | fail) only [foL]); (try rfl)), .inl ⟨rfl, rfl⟩⟩, by ((try simp (disch := first | assumption | omega | (try simp only [q_next, s_put_next]) <;> omega | fail) only [foL]); (try rfl)); exact a1, by ((try simp (disch := first | assumption | omega | (try simp only [q_next, s_put_next]) <;> omega | fail) only [foL]); (try rfl)), ⟨by ((try dsimp only); (try simp only [s_push_next, s_put_next]); omega), fun b hb hne => by ((try simp (disch := first | assumption | omega | (try simp only [q_next, s_put_next]) <;> omega | fail) only [foL]); (try rfl)); exact ag.get b hb hne⟩, by ((try dsimp only); (try simp only [s_push_next, s_put_next]); omega), (by repeat' (first | exact hN | exact aN | exact bN | (refine Neat.push ?_ _) | (refine Neat.put ?_ (by ((try dsimp only); (try simp only [s_push_next, s_put_next]); omega)) _)))⟩
  refine GetsE.l0 Tryz.tabOk (s' := ?sn21) ?hn21 ?kn21; (case hn21 => (simp -implicitDefEqProofs (disch := first | decide | assumption | (try simp only [q_next, s_put_next]) <;> omega | exact pd_ (by kernel_rfl) | fail) only [sxM, Nat.reduceAdd, reduceCtorEq, Int.reduceToNat, Nat.reduceEqDiff, Int.reduceEq, Int.reduceLT, s_draw, i9, h3] <;> rfl)); (try (change GetsE _ _ _ _ _ _; repeat refine GetsE.seq ?_))
  refine GetsE.condF (by simp (disch := decide) only [sxL]) ?_
  change GetsE _ _ _ _ _ _
  repeat refine GetsE.seq ?_
  by_cases h4 : (r : Int) < 84
  ·have hidx : idxOf r = 4 := by unfold idxOf; rw [if_neg (by omega), if_neg (by omega), if_neg (by omega), if_neg (by omega), if_pos (by omega)]
   rw [hidx]
   refine GetsE.l0 Tryz.tabOk (s' := ?sn22) ?hn22 ?kn22; (case hn22 => (simp -implicitDefEqProofs (disch := first | decide | assumption | (try simp only [q_next, s_put_next]) <;> omega | exact pd_ (by kernel_rfl) | fail) only [sxM, Nat.reduceAdd, reduceCtorEq, Int.reduceToNat, Nat.reduceEqDiff, Int.reduceEq, Int.reduceLT, s_draw, i9, h4] <;> rfl)); (try (change GetsE _ _ _ _ _ _; repeat refine GetsE.seq ?_))
   refine GetsE.condT (by simp (disch := decide) only [sxL]) ?_
   change GetsE _ _ _ _ _ _
   repeat refine GetsE.seq ?_
   refine GetsE.l0 Tryz.tabOk (s' := ?sn23) ?hn23 ?kn23; (case hn23 => (simp -implicitDefEqProofs (disch := first | decide | assumption | (try simp only [q_next, s_put_next]) <;> omega | exact pd_ (by kernel_rfl) | fail) only [sxM, Nat.reduceAdd, reduceCtorEq, Int.reduceToNat, Nat.reduceEqDiff, Int.reduceEq, Int.reduceLT, s_draw, i10, fa43_0, a2, stL, sz3] <;> rfl)); (try (change GetsE _ _ _ _ _ _; repeat refine GetsE.seq ?_))
   refine GetsE.last Tryz.tabOk (ov := addOv noOv 55 (ovB 73)) (addOv_ok noOv_ok ovBR_ok) 8 (s' := ?sn24) ?hn24 ?kn24; (case hn24 => (simp -implicitDefEqProofs (disch := first | decide | assumption | (try simp only [q_next, s_put_next]) <;> omega | exact pd_ (by kernel_rfl) | fail) only [sxM, Nat.reduceAdd, reduceCtorEq, Int.reduceToNat, Nat.reduceEqDiff, Int.reduceEq, Int.reduceLT, s_draw, ovB_red, belE_eq, Int.toNat_natCast, i0, i2, i4, i7, i8, i10, a2, a3, ac, kM, kn, fa43_1, stL, sz3] <;> rfl)); (try (change GetsE _ _ _ _ _ _; repeat refine GetsE.seq ?_))
   refine inBlk_normal ?_
   exact ⟨rfl, _, _, rfl, by simp (disch := decide) only [sxL, i6], by simp (disch := decide) only [sxL, i10], ⟨.nilslice, by ((try simp (disch := first | assumption | omega | (try simp only [q_next, s_put_next]) <;> omega | fail) only [foL]); (try rfl)), .inl ⟨rfl, rfl⟩⟩, by ((try simp (disch := first | assumption | omega | (try simp only [q_next, s_put_next]) <;> omega | fail) only [foL]); (try rfl)); exact a1, by ((try simp (disch := first | assumption | omega | (try simp only [q_next, s_put_next]) <;> omega | fail) only [foL]); (try rfl)), ⟨by ((try dsimp only); (try simp only [s_push_next, s_put_next]); omega), fun b hb hne => by ((try simp (disch := first | assumption | omega | (try simp only [q_next, s_put_next]) <;> omega | fail) only [foL]); (try rfl)); exact ag.get b hb hne⟩, by ((try dsimp only); (try simp only [s_push_next, s_put_next]); omega), (by repeat' (first | exact hN | exact aN | exact bN | (refine Neat.push ?_ _) | (refine Neat.put ?_ (by ((try dsimp only); (try simp only [s_push_next, s_put_next]); omega)) _)))⟩
  refine GetsE.l0 Tryz.tabOk (s' := ?sn25) ?hn25 ?kn25; (case hn25 => (simp -implicitDefEqProofs (disch := first | decide | assumption | (try simp only [q_next, s_put_next]) <;> omega | exact pd_ (by kernel_rfl) | fail) only [sxM, Nat.reduceAdd, reduceCtorEq, Int.reduceToNat, Nat.reduceEqDiff, Int.reduceEq, Int.reduceLT, s_draw, i9, h4] <;> rfl)); (try (change GetsE _ _ _ _ _ _; repeat refine GetsE.seq ?_))
  refine GetsE.condF (by simp (disch := decide) only [sxL]) ?_
  change GetsE _ _ _ _ _ _
  repeat refine GetsE.seq ?_
  by_cases h5 : (r : Int) < 85
  ·have hidx : idxOf r = 5 := by unfold idxOf; rw [if_neg (by omega), if_neg (by omega), if_neg (by omega), if_neg (by omega), if_neg (by omega), if_pos (by omega)]
   rw [hidx]
   refine GetsE.l0 Tryz.tabOk (s' := ?sn26) ?hn26 ?kn26; (case hn26 => (simp -implicitDefEqProofs (disch := first | decide | assumption | (try simp only [q_next, s_put_next]) <;> omega | exact pd_ (by kernel_rfl) | fail) only [sxM, Nat.reduceAdd, reduceCtorEq, Int.reduceToNat, Nat.reduceEqDiff, Int.reduceEq, Int.reduceLT, s_draw, i9, h5] <;> rfl)); (try (change GetsE _ _ _ _ _ _; repeat refine GetsE.seq ?_))
   refine GetsE.condT (by simp (disch := decide) only [sxL]) ?_
   change GetsE _ _ _ _ _ _
   repeat refine GetsE.seq ?_
   refine GetsE.l0 Tryz.tabOk (s' := ?sn27) ?hn27 ?kn27; (case hn27 => (simp -implicitDefEqProofs (disch := first | decide | assumption | (try simp only [q_next, s_put_next]) <;> omega | exact pd_ (by kernel_rfl) | fail) only [sxM, Nat.reduceAdd, reduceCtorEq, Int.reduceToNat, Nat.reduceEqDiff, Int.reduceEq, Int.reduceLT, s_draw, i10, fa43_0, a2, stL, sz3] <;> rfl)); (try (change GetsE _ _ _ _ _ _; repeat refine GetsE.seq ?_))
   refine GetsE.last Tryz.tabOk (ov := addOv noOv 55 (ovB 73)) (addOv_ok noOv_ok ovBR_ok) 8 (s' := ?sn28) ?hn28 ?kn28; (case hn28 => (simp -implicitDefEqProofs (disch := first | decide | assumption | (try simp only [q_next, s_put_next]) <;> omega | exact pd_ (by kernel_rfl) | fail) only [sxM, Nat.reduceAdd, reduceCtorEq, Int.reduceToNat, Nat.reduceEqDiff, Int.reduceEq, Int.reduceLT, s_draw, ovB_red, belE_eq, Int.toNat_natCast, i0, i2, i4, i7, i8, i10, a2, a3, ac, kM, kn, fa43_1, stL, sz3] <;> rfl)); (try (change GetsE _ _ _ _ _ _; repeat refine GetsE.seq ?_))
   refine GetsE.last Tryz.tabOk (ov := addOv noOv 55 (ovB 73)) (addOv_ok noOv_ok ovBR_ok) 8 (s' := ?sn29) ?hn29 ?kn29; (case hn29 => (simp -implicitDefEqProofs (disch := first | decide | assumption | (try simp only [q_next, s_put_next]) <;> omega | exact pd_ (by kernel_rfl) | fail) only [sxM, Nat.reduceAdd, reduceCtorEq, Int.reduceToNat, Nat.reduceEqDiff, Int.reduceEq, Int.reduceLT, s_draw, ovB_red, belE_eq, Int.toNat_natCast, i0, i2, i4, i7, i8, i10, a2, a3, ac, kM, kn, fa43_2, stL, sz3] <;> rfl)); (try (change GetsE _ _ _ _ _ _; repeat refine GetsE.seq ?_))
   refine inBlk_normal ?_
   exact ⟨rfl, _, _, rfl, by simp (disch := decide) only [sxL, i6], by simp (disch := decide) only [sxL, i10], ⟨.nilslice, by ((try simp (disch := first | assumption | omega | (try simp only [q_next, s_put_next]) <;> omega | fail) only [foL]); (try rfl)), .inl ⟨rfl, rfl⟩⟩, by ((try simp (disch := first | assumption | omega | (try simp only [q_next, s_put_next]) <;> omega | fail) only [foL]); (try rfl)); exact a1, by ((try simp (disch := first | assumption | omega | (try simp only [q_next, s_put_next]) <;> omega | fail) only [foL]); (try rfl)), ⟨by ((try dsimp only); (try simp only [s_push_next, s_put_next]); omega), fun b hb hne => by ((try simp (disch := first | assumption | omega | (try simp only [q_next, s_put_next]) <;> omega | fail) only [foL]); (try rfl)); exact ag.get b hb hne⟩, by ((try dsimp only); (try simp only [s_push_next, s_put_next]); omega), (by repeat' (first | exact hN | exact aN | exact bN | (refine Neat.push ?_ _) | (refine Neat.put ?_ (by ((try dsimp only); (try simp only [s_push_next, s_put_next]); omega)) _)))⟩
  refine GetsE.l0 Tryz.tabOk (s' := ?sn30) ?hn30 ?kn30; (case hn30 => (simp -implicitDefEqProofs (disch := first | decide | assumption | (try simp only [q_next, s_put_next]) <;> omega | exact pd_ (by kernel_rfl) | fail) only [sxM, Nat.reduceAdd, reduceCtorEq, Int.reduceToNat, Nat.reduceEqDiff, Int.reduceEq, Int.reduceLT, s_draw, i9, h5] <;> rfl)); (try (change GetsE _ _ _ _ _ _; repeat refine GetsE.seq ?_))
  refine GetsE.condF (by simp (disch := decide) only [sxL]) ?_
  change GetsE _ _ _ _ _ _
  repeat refine GetsE.seq ?_
  by_cases h6 : (r : Int) < 90
  ·have hidx : idxOf r = 6 := by unfold idxOf; rw [if_neg (by omega), if_neg (by omega), if_neg (by omega), if_neg (by omega), if_neg (by omega), if_neg (by omega), if_pos (by omega)]
   rw [hidx]
   refine GetsE.l0 Tryz.tabOk (s' := ?sn31) ?hn31 ?kn31; (case hn31 => (simp -implicitDefEqProofs (disch := first | decide | assumption | (try simp only [q_next, s_put_next]) <;> omega | exact pd_ (by kernel_rfl) | fail) only [sxM, Nat.reduceAdd, reduceCtorEq, Int.reduceToNat, Nat.reduceEqDiff, Int.reduceEq, Int.reduceLT, s_draw, i9, h6] <;> rfl)); (try (change GetsE _ _ _ _ _ _; repeat refine GetsE.seq ?_))
   refine GetsE.condT (by simp (disch := decide) only [sxL]) ?_
   change GetsE _ _ _ _ _ _
   repeat refine GetsE.seq ?_
   refine GetsE.l0 Tryz.tabOk (s' := ?sn32) ?hn32 ?kn32; (case hn32 => (simp -implicitDefEqProofs (disch := first | decide | assumption | (try simp only [q_next, s_put_next]) <;> omega | exact pd_ (by kernel_rfl) | fail) only [sxM, Nat.reduceAdd, reduceCtorEq, Int.reduceToNat, Nat.reduceEqDiff, Int.reduceEq, Int.reduceLT, s_draw, i10, fa43_0, a2, stL, sz3] <;> rfl)); (try (change GetsE _ _ _ _ _ _; repeat refine GetsE.seq ?_))
   refine GetsE.last Tryz.tabOk (ov := addOv noOv 55 (ovB 73)) (addOv_ok noOv_ok ovBR_ok) 8 (s' := ?sn33) ?hn33 ?kn33; (case hn33 => (simp -implicitDefEqProofs (disch := first | decide | assumption | (try simp only [q_next, s_put_next]) <;> omega | exact pd_ (by kernel_rfl) | fail) only [sxM, Nat.reduceAdd, reduceCtorEq, Int.reduceToNat, Nat.reduceEqDiff, Int.reduceEq, Int.reduceLT, s_draw, ovB_red, belE_eq, Int.toNat_natCast, i0, i2, i4, i7, i8, i10, a2, a3, ac, kM, kn, fa43_1, stL, sz3] <;> rfl)); (try (change GetsE _ _ _ _ _ _; repeat refine GetsE.seq ?_))
   refine inBlk_normal ?_
   exact ⟨rfl, _, _, rfl, by simp (disch := decide) only [sxL, i6], by simp (disch := decide) only [sxL, i10], ⟨.nilslice, by ((try simp (disch := first | assumption | omega | (try simp only [q_next, s_put_next]) <;> omega | fail) only [foL]); (try rfl)), .inl ⟨rfl, rfl⟩⟩, by ((try simp (disch := first | assumption | omega | (try simp only [q_next, s_put_next]) <;> omega | fail) only [foL]); (try rfl)); exact a1, by ((try simp (disch := first | assumption | omega | (try simp only [q_next, s_put_next]) <;> omega | fail) only [foL]); (try rfl)), ⟨by ((try dsimp only); (try simp only [s_push_next, s_put_next]); omega), fun b hb hne => by ((try simp (disch := first | assumption | omega | (try simp only [q_next, s_put_next]) <;> omega | fail) only [foL]); (try rfl)); exact ag.get b hb hne⟩, by ((try dsimp only); (try simp only [s_push_next, s_put_next]); omega), (by repeat' (first | exact hN | exact aN | exact bN | (refine Neat.push ?_ _) | (refine Neat.put ?_ (by ((try dsimp only); (try simp only [s_push_next, s_put_next]); omega)) _)))⟩
  refine GetsE.l0 Tryz.tabOk (s' := ?sn34) ?hn34 ?kn34; (case hn34 => (simp -implicitDefEqProofs (disch := first | decide | assumption | (try simp only [q_next, s_put_next]) <;> omega | exact pd_ (by kernel_rfl) | fail) only [sxM, Nat.reduceAdd, reduceCtorEq, Int.reduceToNat, Nat.reduceEqDiff, Int.reduceEq, Int.reduceLT, s_draw, i9, h6] <;> rfl)); (try (change GetsE _ _ _ _ _ _; repeat refine GetsE.seq ?_))
  refine GetsE.condF (by simp (disch := decide) only [sxL]) ?_
  change GetsE _ _ _ _ _ _
  repeat refine GetsE.seq ?_
  by_cases h7 : (r : Int) < 94
  ·have hidx : idxOf r = 7 := by unfold idxOf; rw [if_neg (by omega), if_neg (by omega), if_neg (by omega), if_neg (by omega), if_neg (by omega), if_neg (by omega), if_neg (by omega), if_pos (by omega)]
   rw [hidx]
   refine GetsE.l0 Tryz.tabOk (s' := ?sn35) ?hn35 ?kn35; (case hn35 => (simp -implicitDefEqProofs (disch := first | decide | assumption | (try simp only [q_next, s_put_next]) <;> omega | exact pd_ (by kernel_rfl) | fail) only [sxM, Nat.reduceAdd, reduceCtorEq, Int.reduceToNat, Nat.reduceEqDiff, Int.reduceEq, Int.reduceLT, s_draw, i9, h7] <;> rfl)); (try (change GetsE _ _ _ _ _ _; repeat refine GetsE.seq ?_))
   refine GetsE.condT (by simp (disch := decide) only [sxL]) ?_
   change GetsE _ _ _ _ _ _
   repeat refine GetsE.seq ?_
   refine GetsE.l0 Tryz.tabOk (s' := ?sn36) ?hn36 ?kn36; (case hn36 => (simp -implicitDefEqProofs (disch := first | decide | assumption | (try simp only [q_next, s_put_next]) <;> omega | exact pd_ (by kernel_rfl) | fail) only [sxM, Nat.reduceAdd, reduceCtorEq, Int.reduceToNat, Nat.reduceEqDiff, Int.reduceEq, Int.reduceLT, s_draw, i10, fa43_0, a2, stL, sz3] <;> rfl)); (try (change GetsE _ _ _ _ _ _; repeat refine GetsE.seq ?_))
   refine GetsE.last Tryz.tabOk (ov := addOv noOv 55 (ovB 73)) (addOv_ok noOv_ok ovBR_ok) 8 (s' := ?sn37) ?hn37 ?kn37; (case hn37 => (simp -implicitDefEqProofs (disch := first | decide | assumption | (try simp only [q_next, s_put_next]) <;> omega | exact pd_ (by kernel_rfl) | fail) only [sxM, Nat.reduceAdd, reduceCtorEq, Int.reduceToNat, Nat.reduceEqDiff, Int.reduceEq, Int.reduceLT, s_draw, ovB_red, belE_eq, Int.toNat_natCast, i0, i2, i4, i7, i8, i10, a2, a3, ac, kM, kn, fa43_1, stL, sz3] <;> rfl)); (try (change GetsE _ _ _ _ _ _; repeat refine GetsE.seq ?_))
   refine GetsE.last Tryz.tabOk (ov := addOv noOv 55 (ovB 73)) (addOv_ok noOv_ok ovBR_ok) 8 (s' := ?sn38) ?hn38 ?kn38; (case hn38 => (simp -implicitDefEqProofs (disch := first | decide | assumption | (try simp only [q_next, s_put_next]) <;> omega | exact pd_ (by kernel_rfl) | fail) only [sxM, Nat.reduceAdd, reduceCtorEq, Int.reduceToNat, Nat.reduceEqDiff, Int.reduceEq, Int.reduceLT, s_draw, ovB_red, belE_eq, Int.toNat_natCast, i0, i2, i4, i7, i8, i10, a2, a3, ac, kM, kn, fa43_2, stL, sz3, w9] <;> rfl)); (try (change GetsE _ _ _ _ _ _; repeat refine GetsE.seq ?_))
   refine GetsE.ofH (fun h => h.blks.get H.next = some (.cells 33 true (confC n g kc cv)) ∧ h.blks.get (H.next + 1) = some (.cells 43 true (opZ 0 0 0)) ∧ h.blks.get (H.next + 2) = some (.cells 43 true (opZ 8 ((bel t n : Nat) : Int) (1 + ((bel (nx t) 9 : Nat) : Int)))) ∧ h.blks.get p = some (seedB 73 (nx (nx t))) ∧ GrowsP p H h ∧ h.next = H.next + 3 ∧ Neat h)
    ⟨by ((try simp (disch := first | assumption | omega | (try simp only [q_next, s_put_next]) <;> omega | fail) only [foL]); (try rfl)); exact ac, by ((try simp (disch := first | assumption | omega | (try simp only [q_next, s_put_next]) <;> omega | fail) only [foL]); (try rfl)); exact a1, by ((try simp (disch := first | assumption | omega | (try simp only [q_next, s_put_next]) <;> omega | fail) only [foL]); (try rfl)), by ((try simp (disch := first | assumption | omega | (try simp only [q_next, s_put_next]) <;> omega | fail) only [foL]); (try rfl)), ⟨by ((try dsimp only); (try simp only [s_push_next, s_put_next]); omega), fun b hb hne => by ((try simp (disch := first | assumption | omega | (try simp only [q_next, s_put_next]) <;> omega | fail) only [foL]); (try rfl)); exact ag.get b hb hne⟩, by ((try simp (disch := first | assumption | omega | (try simp only [q_next, s_put_next]) <;> omega | fail) only [foL]); (try rfl)); exact ax, (by repeat' (first | exact hN | exact aN | exact bN | (refine Neat.push ?_ _) | (refine Neat.put ?_ (by ((try dsimp only); (try simp only [s_push_next, s_put_next]); omega)) _)))⟩ ?_
   clear ac a1 a2 a3 ag ax aN
   clear h
   rintro h ⟨ac, a1, a2, a3, ag, ax, aN⟩
   obtain ⟨sv, H', q, bg, bN, bp, bst⟩ := defR_to kv ks (nx (nx t)) p h aN (hk.growP hN ag (by decide) hp) a3 t2 hl
   have c1 := bg.some_ aN a1 n1
   have c2 := bg.some_ aN a2 n2
   have l2 := bN _ _ c2
   have hsv := CellsAt.one bst
   have cg := ag.trans bg
   have hnx := cg.next
   have hnx2 := bg.next
   refine GetsE.last Tryz.tabOk (ov := ptO noOv 56 [.ptr p 0, kv] h [(.agg (defC (dCo (nx (nx t))) (dDl (nx (nx t))) sv), H')]) (ptO_ok noOv_ok q) 8 (s' := ?sn39) ?hn39 ?kn39; (case hn39 => (simp -implicitDefEqProofs (disch := first | decide | assumption | (try simp only [q_next, s_put_next]) <;> omega | exact pd_ (by kernel_rfl) | fail) only [sxM, Nat.reduceAdd, reduceCtorEq, Int.reduceToNat, Nat.reduceEqDiff, Int.reduceEq, Int.reduceLT, s_draw, s_ptEq, i0, i2, i10, fa43_5, c2, stL, sz41, hsv] <;> rfl)); (try (change GetsE _ _ _ _ _ _; repeat refine GetsE.seq ?_))
   refine inBlk_normal ?_
   exact ⟨rfl, _, _, rfl, by simp (disch := decide) only [sxL, i6], by simp (disch := decide) only [sxL, i10], ⟨sv, by ((try simp (disch := first | assumption | omega | (try simp only [q_next, s_put_next]) <;> omega | fail) only [foL]); (try rfl)), CellsAt.growP bst bN (GrowsP.put _ _ _) c2 fun x y => by simp⟩, by ((try simp (disch := first | assumption | omega | (try simp only [q_next, s_put_next]) <;> omega | fail) only [foL]); (try rfl)); exact c1, by ((try simp (disch := first | assumption | omega | (try simp only [q_next, s_put_next]) <;> omega | fail) only [foL]); (try rfl)); exact bp, ⟨by ((try dsimp only); (try simp only [s_push_next, s_put_next]); omega), fun b hb hne => by ((try simp (disch := first | assumption | omega | (try simp only [q_next, s_put_next]) <;> omega | fail) only [foL]); (try rfl)); exact cg.get b hb hne⟩, by ((try dsimp only); (try simp only [s_push_next, s_put_next]); omega), bN.put l2 _⟩
  refine GetsE.l0 Tryz.tabOk (s' := ?sn40) ?hn40 ?kn40; (case hn40 => (simp -implicitDefEqProofs (disch := first | decide | assumption | (try simp only [q_next, s_put_next]) <;> omega | exact pd_ (by kernel_rfl) | fail) only [sxM, Nat.reduceAdd, reduceCtorEq, Int.reduceToNat, Nat.reduceEqDiff, Int.reduceEq, Int.reduceLT, s_draw, i9, h7] <;> rfl)); (try (change GetsE _ _ _ _ _ _; repeat refine GetsE.seq ?_))
  refine GetsE.condF (by simp (disch := decide) only [sxL]) ?_
  change GetsE _ _ _ _ _ _
  repeat refine GetsE.seq ?_
  by_cases h8 : (r : Int) < 95
  ·have hidx : idxOf r = 8 := by unfold idxOf; rw [if_neg (by omega), if_neg (by omega), if_neg (by omega), if_neg (by omega), if_neg (by omega), if_neg (by omega), if_neg (by omega), if_neg (by omega), if_pos (by omega)]
   rw [hidx]
   refine GetsE.l0 Tryz.tabOk (s' := ?sn41) ?hn41 ?kn41; (case hn41 => (simp -implicitDefEqProofs (disch := first | decide | assumption | (try simp only [q_next, s_put_next]) <;> omega | exact pd_ (by kernel_rfl) | fail) only [sxM, Nat.reduceAdd, reduceCtorEq, Int.reduceToNat, Nat.reduceEqDiff, Int.reduceEq, Int.reduceLT, s_draw, i9, h8] <;> rfl)); (try (change GetsE _ _ _ _ _ _; repeat refine GetsE.seq ?_))
   refine GetsE.condT (by simp (disch := decide) only [sxL]) ?_
   change GetsE _ _ _ _ _ _
   repeat refine GetsE.seq ?_
   refine GetsE.l0 Tryz.tabOk (s' := ?sn42) ?hn42 ?kn42; (case hn42 => (simp -implicitDefEqProofs (disch := first | decide | assumption | (try simp only [q_next, s_put_next]) <;> omega | exact pd_ (by kernel_rfl) | fail) only [sxM, Nat.reduceAdd, reduceCtorEq, Int.reduceToNat, Nat.reduceEqDiff, Int.reduceEq, Int.reduceLT, s_draw, i10, fa43_0, a2, stL, sz3] <;> rfl)); (try (change GetsE _ _ _ _ _ _; repeat refine GetsE.seq ?_))
   refine GetsE.last Tryz.tabOk (ov := addOv noOv 55 (ovB 73)) (addOv_ok noOv_ok ovBR_ok) 8 (s' := ?sn43) ?hn43 ?kn43; (case hn43 => (simp -implicitDefEqProofs (disch := first | decide | assumption | (try simp only [q_next, s_put_next]) <;> omega | exact pd_ (by kernel_rfl) | fail) only [sxM, Nat.reduceAdd, reduceCtorEq, Int.reduceToNat, Nat.reduceEqDiff, Int.reduceEq, Int.reduceLT, s_draw, ovB_red, belE_eq, Int.toNat_natCast, i0, i2, i4, i7, i8, i10, a2, a3, ac, kM, kn, fa43_1, stL, sz3] <;> rfl)); (try (change GetsE _ _ _ _ _ _; repeat refine GetsE.seq ?_))
   refine GetsE.last Tryz.tabOk (ov := addOv noOv 55 (ovB 73)) (addOv_ok noOv_ok ovBR_ok) 8 (s' := ?sn44) ?hn44 ?kn44; (case hn44 => (simp -implicitDefEqProofs (disch := first | decide | assumption | (try simp only [q_next, s_put_next]) <;> omega | exact pd_ (by kernel_rfl) | fail) only [sxM, Nat.reduceAdd, reduceCtorEq, Int.reduceToNat, Nat.reduceEqDiff, Int.reduceEq, Int.reduceLT, s_draw, ovB_red, belE_eq, Int.toNat_natCast, i0, i2, i4, i7, i8, i10, a2, a3, ac, kM, kn, fa43_2, stL, sz3, w9] <;> rfl)); (try (change GetsE _ _ _ _ _ _; repeat refine GetsE.seq ?_))
   refine inBlk_normal ?_
   exact ⟨rfl, _, _, rfl, by simp (disch := decide) only [sxL, i6], by simp (disch := decide) only [sxL, i10], ⟨.nilslice, by ((try simp (disch := first | assumption | omega | (try simp only [q_next, s_put_next]) <;> omega | fail) only [foL]); (try rfl)), .inl ⟨rfl, rfl⟩⟩, by ((try simp (disch := first | assumption | omega | (try simp only [q_next, s_put_next]) <;> omega | fail) only [foL]); (try rfl)); exact a1, by ((try simp (disch := first | assumption | omega | (try simp only [q_next, s_put_next]) <;> omega | fail) only [foL]); (try rfl)), ⟨by ((try dsimp only); (try simp only [s_push_next, s_put_next]); omega), fun b hb hne => by ((try simp (disch := first | assumption | omega | (try simp only [q_next, s_put_next]) <;> omega | fail) only [foL]); (try rfl)); exact ag.get b hb hne⟩, by ((try dsimp only); (try simp only [s_push_next, s_put_next]); omega), (by repeat' (first | exact hN | exact aN | exact bN | (refine Neat.push ?_ _) | (refine Neat.put ?_ (by ((try dsimp only); (try simp only [s_push_next, s_put_next]); omega)) _)))⟩
  refine GetsE.l0 Tryz.tabOk (s' := ?sn45) ?hn45 ?kn45; (case hn45 => (simp -implicitDefEqProofs (disch := first | decide | assumption | (try simp only [q_next, s_put_next]) <;> omega | exact pd_ (by kernel_rfl) | fail) only [sxM, Nat.reduceAdd, reduceCtorEq, Int.reduceToNat, Nat.reduceEqDiff, Int.reduceEq, Int.reduceLT, s_draw, i9, h8] <;> rfl)); (try (change GetsE _ _ _ _ _ _; repeat refine GetsE.seq ?_))
  refine GetsE.condF (by simp (disch := decide) only [sxL]) ?_
  change GetsE _ _ _ _ _ _
  repeat refine GetsE.seq ?_
  by_cases h9 : (r : Int) < 96
  ·have hidx : idxOf r = 9 := by unfold idxOf; rw [if_neg (by omega), if_neg (by omega), if_neg (by omega), if_neg (by omega), if_neg (by omega), if_neg (by omega), if_neg (by omega), if_neg (by omega), if_neg (by omega), if_pos (by omega)]
   rw [hidx]
   refine GetsE.l0 Tryz.tabOk (s' := ?sn46) ?hn46 ?kn46; (case hn46 => (simp -implicitDefEqProofs (disch := first | decide | assumption | (try simp only [q_next, s_put_next]) <;> omega | exact pd_ (by kernel_rfl) | fail) only [sxM, Nat.reduceAdd, reduceCtorEq, Int.reduceToNat, Nat.reduceEqDiff, Int.reduceEq, Int.reduceLT, s_draw, i9, h9] <;> rfl)); (try (change GetsE _ _ _ _ _ _; repeat refine GetsE.seq ?_))
   refine GetsE.condT (by simp (disch := decide) only [sxL]) ?_
   change GetsE _ _ _ _ _ _
   repeat refine GetsE.seq ?_
   refine GetsE.l0 Tryz.tabOk (s' := ?sn47) ?hn47 ?kn47; (case hn47 => (simp -implicitDefEqProofs (disch := first | decide | assumption | (try simp only [q_next, s_put_next]) <;> omega | exact pd_ (by kernel_rfl) | fail) only [sxM, Nat.reduceAdd, reduceCtorEq, Int.reduceToNat, Nat.reduceEqDiff, Int.reduceEq, Int.reduceLT, s_draw, i10, fa43_0, a2, stL, sz3] <;> rfl)); (try (change GetsE _ _ _ _ _ _; repeat refine GetsE.seq ?_))
   refine GetsE.last Tryz.tabOk (ov := addOv noOv 55 (ovB 73)) (addOv_ok noOv_ok ovBR_ok) 8 (s' := ?sn48) ?hn48 ?kn48; (case hn48 => (simp -implicitDefEqProofs (disch := first | decide | assumption | (try simp only [q_next, s_put_next]) <;> omega | exact pd_ (by kernel_rfl) | fail) only [sxM, Nat.reduceAdd, reduceCtorEq, Int.reduceToNat, Nat.reduceEqDiff, Int.reduceEq, Int.reduceLT, s_draw, ovB_red, belE_eq, Int.toNat_natCast, i0, i2, i4, i7, i8, i10, a2, a3, ac, kM, kn, fa43_1, stL, sz3] <;> rfl)); (try (change GetsE _ _ _ _ _ _; repeat refine GetsE.seq ?_))
   refine GetsE.last Tryz.tabOk (ov := addOv noOv 55 (ovB 73)) (addOv_ok noOv_ok ovBR_ok) 8 (s' := ?sn49) ?hn49 ?kn49; (case hn49 => (simp -implicitDefEqProofs (disch := first | decide | assumption | (try simp only [q_next, s_put_next]) <;> omega | exact pd_ (by kernel_rfl) | fail) only [sxM, Nat.reduceAdd, reduceCtorEq, Int.reduceToNat, Nat.reduceEqDiff, Int.reduceEq, Int.reduceLT, s_draw, ovB_red, belE_eq, Int.toNat_natCast, i0, i2, i4, i7, i8, i10, a2, a3, ac, kM, kn, fa43_2, stL, sz3, w9] <;> rfl)); (try (change GetsE _ _ _ _ _ _; repeat refine GetsE.seq ?_))
   refine inBlk_normal ?_
   exact ⟨rfl, _, _, rfl, by simp (disch := decide) only [sxL, i6], by simp (disch := decide) only [sxL, i10], ⟨.nilslice, by ((try simp (disch := first | assumption | omega | (try simp only [q_next, s_put_next]) <;> omega | fail) only [foL]); (try rfl)), .inl ⟨rfl, rfl⟩⟩, by ((try simp (disch := first | assumption | omega | (try simp only [q_next, s_put_next]) <;> omega | fail) only [foL]); (try rfl)); exact a1, by ((try simp (disch := first | assumption | omega | (try simp only [q_next, s_put_next]) <;> omega | fail) only [foL]); (try rfl)), ⟨by ((try dsimp only); (try simp only [s_push_next, s_put_next]); omega), fun b hb hne => by ((try simp (disch := first | assumption | omega | (try simp only [q_next, s_put_next]) <;> omega | fail) only [foL]); (try rfl)); exact ag.get b hb hne⟩, by ((try dsimp only); (try simp only [s_push_next, s_put_next]); omega), (by repeat' (first | exact hN | exact aN | exact bN | (refine Neat.push ?_ _) | (refine Neat.put ?_ (by ((try dsimp only); (try simp only [s_push_next, s_put_next]); omega)) _)))⟩
  refine GetsE.l0 Tryz.tabOk (s' := ?sn50) ?hn50 ?kn50; (case hn50 => (simp -implicitDefEqProofs (disch := first | decide | assumption | (try simp only [q_next, s_put_next]) <;> omega | exact pd_ (by kernel_rfl) | fail) only [sxM, Nat.reduceAdd, reduceCtorEq, Int.reduceToNat, Nat.reduceEqDiff, Int.reduceEq, Int.reduceLT, s_draw, i9, h9] <;> rfl)); (try (change GetsE _ _ _ _ _ _; repeat refine GetsE.seq ?_))
  refine GetsE.condF (by simp (disch := decide) only [sxL]) ?_
  change GetsE _ _ _ _ _ _
  repeat refine GetsE.seq ?_
  by_cases h10 : (r : Int) < 98
  ·have hidx : idxOf r = 10 := by unfold idxOf; rw [if_neg (by omega), if_neg (by omega), if_neg (by omega), if_neg (by omega), if_neg (by omega), if_neg (by omega), if_neg (by omega), if_neg (by omega), if_neg (by omega), if_neg (by omega), if_pos (by omega)]
   rw [hidx]
   refine GetsE.l0 Tryz.tabOk (s' := ?sn51) ?hn51 ?kn51; (case hn51 => (simp -implicitDefEqProofs (disch := first | decide | assumption | (try simp only [q_next, s_put_next]) <;> omega | exact pd_ (by kernel_rfl) | fail) only [sxM, Nat.reduceAdd, reduceCtorEq, Int.reduceToNat, Nat.reduceEqDiff, Int.reduceEq, Int.reduceLT, s_draw, i9, h10] <;> rfl)); (try (change GetsE _ _ _ _ _ _; repeat refine GetsE.seq ?_))
   refine GetsE.condT (by simp (disch := decide) only [sxL]) ?_
   change GetsE _ _ _ _ _ _
   repeat refine GetsE.seq ?_
   have hx := bel_lt t (k := M - n) (by omega)
   have kMn : 0 < ((M - n : Nat) : Int) ∧ ((M - n : Nat) : Int) < 2147483648 := by omega
   have u1 : awrap .i64 ((M : Int) - (n : Int)) = ((M - n : Nat) : Int) := by rw [s_wrap (by omega) (by omega)]; omega
   have u2 : awrap .i64 ((n : Int) + ((bel t (M - n) : Nat) : Int)) = ((n + bel t (M - n) : Nat) : Int) := by rw [s_wrap (by omega) (by omega)]; omega
   have kl : 0 < (ks.length : Int) ∧ (ks.length : Int) < 2147483648 := by omega
   refine GetsE.l0 Tryz.tabOk (s' := ?sn52) ?hn52 ?kn52; (case hn52 => (simp -implicitDefEqProofs (disch := first | decide | assumption | (try simp only [q_next, s_put_next]) <;> omega | exact pd_ (by kernel_rfl) | fail) only [sxM, Nat.reduceAdd, reduceCtorEq, Int.reduceToNat, Nat.reduceEqDiff, Int.reduceEq, Int.reduceLT, s_draw, i10, fa43_0, a2, stL, sz3] <;> rfl)); (try (change GetsE _ _ _ _ _ _; repeat refine GetsE.seq ?_))
   refine GetsE.last Tryz.tabOk (ov := addOv noOv 55 (ovB 73)) (addOv_ok noOv_ok ovBR_ok) 8 (s' := ?sn53) ?hn53 ?kn53; (case hn53 => (simp -implicitDefEqProofs (disch := first | decide | assumption | (try simp only [q_next, s_put_next]) <;> omega | exact pd_ (by kernel_rfl) | fail) only [sxM, Nat.reduceAdd, reduceCtorEq, Int.reduceToNat, Nat.reduceEqDiff, Int.reduceEq, Int.reduceLT, s_draw, ovB_red, belE_eq, Int.toNat_natCast, i0, i2, i4, i7, i8, i10, a2, a3, ac, kM, kn, fa43_1, stL, sz3, u1, u2] <;> rfl)); (try (change GetsE _ _ _ _ _ _; repeat refine GetsE.seq ?_))
   refine GetsE.ofH (fun h => h.blks.get H.next = some (.cells 33 true (confC n g kc cv)) ∧ h.blks.get (H.next + 1) = some (.cells 43 true (opZ 0 0 0)) ∧ h.blks.get (H.next + 2) = some (.cells 43 true (opZ 11 ((n + bel t (M - n) : Nat) : Int) 0)) ∧ h.blks.get p = some (seedB 73 (nx t)) ∧ GrowsP p H h ∧ h.next = H.next + 3 ∧ Neat h)
    ⟨by ((try simp (disch := first | assumption | omega | (try simp only [q_next, s_put_next]) <;> omega | fail) only [foL]); (try rfl)); exact ac, by ((try simp (disch := first | assumption | omega | (try simp only [q_next, s_put_next]) <;> omega | fail) only [foL]); (try rfl)); exact a1, by ((try simp (disch := first | assumption | omega | (try simp only [q_next, s_put_next]) <;> omega | fail) only [foL]); (try rfl)), by ((try simp (disch := first | assumption | omega | (try simp only [q_next, s_put_next]) <;> omega | fail) only [foL]); (try rfl)), ⟨by ((try dsimp only); (try simp only [s_push_next, s_put_next]); omega), fun b hb hne => by ((try simp (disch := first | assumption | omega | (try simp only [q_next, s_put_next]) <;> omega | fail) only [foL]); (try rfl)); exact ag.get b hb hne⟩, by ((try simp (disch := first | assumption | omega | (try simp only [q_next, s_put_next]) <;> omega | fail) only [foL]); (try rfl)); exact ax, (by repeat' (first | exact hN | exact aN | exact bN | (refine Neat.push ?_ _) | (refine Neat.put ?_ (by ((try dsimp only); (try simp only [s_push_next, s_put_next]); omega)) _)))⟩ ?_
   clear ac a1 a2 a3 ag ax aN
   clear h
   rintro h ⟨ac, a1, a2, a3, ag, ax, aN⟩
   obtain ⟨b, hxa, hld0⟩ := hk.at_ (keyV_at hl.1 (nx t))
   have lb := cell_lt hN hld0
   have nb : b ≠ p := cell_ne hld0 hp
   have hld : cellIn (h.blks.get b) (bel (nx t) ks.length * 1) = some (.str (keyV ks (nx t))) := by rw [ag.get b lb nb]; exact hld0
   have nb2 : b ≠ H.next + 2 := by omega
   refine GetsE.last Tryz.tabOk (ov := addOv noOv 55 (ovB 73)) (addOv_ok noOv_ok ovBR_ok) 8 (s' := ?sn54) ?hn54 ?kn54; (case hn54 => (simp -implicitDefEqProofs (disch := first | decide | assumption | (try simp only [q_next, s_put_next]) <;> omega | exact pd_ (by kernel_rfl) | fail) only [sxM, Nat.reduceAdd, reduceCtorEq, Int.reduceToNat, Nat.reduceEqDiff, Int.reduceEq, Int.reduceLT, s_draw, ovB_red, belE_eq, Int.toNat_natCast, i0, i2, i10, a2, a3, hkl, hxa, hld, s_varFalse ia9, fa43_3, stL, sz9] <;> rfl)); (try (change GetsE _ _ _ _ _ _; repeat refine GetsE.seq ?_))
   refine inBlk_normal ?_
   exact ⟨rfl, _, _, rfl, by simp (disch := decide) only [sxL, i6], by simp (disch := decide) only [sxL, i10], ⟨.nilslice, by ((try simp (disch := first | assumption | omega | (try simp only [q_next, s_put_next]) <;> omega | fail) only [foL]); (try rfl)), .inl ⟨rfl, rfl⟩⟩, by ((try simp (disch := first | assumption | omega | (try simp only [q_next, s_put_next]) <;> omega | fail) only [foL]); (try rfl)); exact a1, by ((try simp (disch := first | assumption | omega | (try simp only [q_next, s_put_next]) <;> omega | fail) only [foL]); (try rfl)), ⟨by ((try dsimp only); (try simp only [s_push_next, s_put_next]); omega), fun b hb hne => by ((try simp (disch := first | assumption | omega | (try simp only [q_next, s_put_next]) <;> omega | fail) only [foL]); (try rfl)); exact ag.get b hb hne⟩, by ((try dsimp only); (try simp only [s_push_next, s_put_next]); omega), (by repeat' (first | exact hN | exact aN | exact bN | (refine Neat.push ?_ _) | (refine Neat.put ?_ (by ((try dsimp only); (try simp only [s_push_next, s_put_next]); omega)) _)))⟩
  refine GetsE.l0 Tryz.tabOk (s' := ?sn55) ?hn55 ?kn55; (case hn55 => (simp -implicitDefEqProofs (disch := first | decide | assumption | (try simp only [q_next, s_put_next]) <;> omega | exact pd_ (by kernel_rfl) | fail) only [sxM, Nat.reduceAdd, reduceCtorEq, Int.reduceToNat, Nat.reduceEqDiff, Int.reduceEq, Int.reduceLT, s_draw, i9, h10] <;> rfl)); (try (change GetsE _ _ _ _ _ _; repeat refine GetsE.seq ?_))
  refine GetsE.condF (by simp (disch := decide) only [sxL]) ?_
  change GetsE _ _ _ _ _ _
  repeat refine GetsE.seq ?_
  have hidx : idxOf r = 11 := by unfold idxOf; rw [if_neg (by omega), if_neg (by omega), if_neg (by omega), if_neg (by omega), if_neg (by omega), if_neg (by omega), if_neg (by omega), if_neg (by omega), if_neg (by omega), if_neg (by omega), if_neg (by omega)]
  rw [hidx]
  have hx := bel_lt (nx t) (k := g - 1) (by omega)
  have kg : 0 < ((g - 1 : Nat) : Int) ∧ ((g - 1 : Nat) : Int) < 2147483648 := by omega
  have u1 : awrap .i64 ((g : Int) - 1) = ((g - 1 : Nat) : Int) := by rw [s_wrap (by omega) (by omega)]; omega
  have u2 : awrap .i64 (1 + ((bel (nx t) (g - 1) : Nat) : Int)) = 1 + ((bel (nx t) (g - 1) : Nat) : Int) := s_wrap (by omega) (by omega)
  have kl : 0 < (ks.length : Int) ∧ (ks.length : Int) < 2147483648 := by omega
  refine GetsE.l0 Tryz.tabOk (s' := ?sn56) ?hn56 ?kn56; (case hn56 => (simp -implicitDefEqProofs (disch := first | decide | assumption | (try simp only [q_next, s_put_next]) <;> omega | exact pd_ (by kernel_rfl) | fail) only [sxM, Nat.reduceAdd, reduceCtorEq, Int.reduceToNat, Nat.reduceEqDiff, Int.reduceEq, Int.reduceLT, s_draw, i10, fa43_0, a2, stL, sz3] <;> rfl)); (try (change GetsE _ _ _ _ _ _; repeat refine GetsE.seq ?_))
  refine GetsE.last Tryz.tabOk (ov := addOv noOv 55 (ovB 73)) (addOv_ok noOv_ok ovBR_ok) 8 (s' := ?sn57) ?hn57 ?kn57; (case hn57 => (simp -implicitDefEqProofs (disch := first | decide | assumption | (try simp only [q_next, s_put_next]) <;> omega | exact pd_ (by kernel_rfl) | fail) only [sxM, Nat.reduceAdd, reduceCtorEq, Int.reduceToNat, Nat.reduceEqDiff, Int.reduceEq, Int.reduceLT, s_draw, ovB_red, belE_eq, Int.toNat_natCast, i0, i2, i4, i7, i8, i10, a2, a3, ac, kM, kn, fa43_1, stL, sz3] <;> rfl)); (try (change GetsE _ _ _ _ _ _; repeat refine GetsE.seq ?_))
  refine GetsE.last Tryz.tabOk (ov := addOv noOv 55 (ovB 73)) (addOv_ok noOv_ok ovBR_ok) 8 (s' := ?sn58) ?hn58 ?kn58; (case hn58 => (simp -implicitDefEqProofs (disch := first | decide | assumption | (try simp only [q_next, s_put_next]) <;> omega | exact pd_ (by kernel_rfl) | fail) only [sxM, Nat.reduceAdd, reduceCtorEq, Int.reduceToNat, Nat.reduceEqDiff, Int.reduceEq, Int.reduceLT, s_draw, ovB_red, belE_eq, Int.toNat_natCast, i0, i2, i4, i7, i8, i10, a2, a3, ac, kM, kn, fa43_2, stL, sz3, fa33_1, s_varFalse ia3, u1, u2] <;> rfl)); (try (change GetsE _ _ _ _ _ _; repeat refine GetsE.seq ?_))
  refine GetsE.ofH (fun h => h.blks.get H.next = some (.cells 33 true (confC n g kc cv)) ∧ h.blks.get (H.next + 1) = some (.cells 43 true (opZ 0 0 0)) ∧ h.blks.get (H.next + 2) = some (.cells 43 true (opZ 12 ((bel t n : Nat) : Int) (1 + ((bel (nx t) (g - 1) : Nat) : Int)))) ∧ h.blks.get p = some (seedB 73 (nx (nx t))) ∧ GrowsP p H h ∧ h.next = H.next + 3 ∧ Neat h)
   ⟨by ((try simp (disch := first | assumption | omega | (try simp only [q_next, s_put_next]) <;> omega | fail) only [foL]); (try rfl)); exact ac, by ((try simp (disch := first | assumption | omega | (try simp only [q_next, s_put_next]) <;> omega | fail) only [foL]); (try rfl)); exact a1, by ((try simp (disch := first | assumption | omega | (try simp only [q_next, s_put_next]) <;> omega | fail) only [foL]); (try rfl)), by ((try simp (disch := first | assumption | omega | (try simp only [q_next, s_put_next]) <;> omega | fail) only [foL]); (try rfl)), ⟨by ((try dsimp only); (try simp only [s_push_next, s_put_next]); omega), fun b hb hne => by ((try simp (disch := first | assumption | omega | (try simp only [q_next, s_put_next]) <;> omega | fail) only [foL]); (try rfl)); exact ag.get b hb hne⟩, by ((try simp (disch := first | assumption | omega | (try simp only [q_next, s_put_next]) <;> omega | fail) only [foL]); (try rfl)); exact ax, (by repeat' (first | exact hN | exact aN | exact bN | (refine Neat.push ?_ _) | (refine Neat.put ?_ (by ((try dsimp only); (try simp only [s_push_next, s_put_next]); omega)) _)))⟩ ?_
  clear ac a1 a2 a3 ag ax aN
  clear h
  rintro h ⟨ac, a1, a2, a3, ag, ax, aN⟩
  obtain ⟨b, hxa, hld0⟩ := hk.at_ (keyV_at hl.1 (nx (nx t)))
  have lb := cell_lt hN hld0
  have nb : b ≠ p := cell_ne hld0 hp
  have hld : cellIn (h.blks.get b) (bel (nx (nx t)) ks.length * 1) = some (.str (keyV ks (nx (nx t)))) := by rw [ag.get b lb nb]; exact hld0
  have nb2 : b ≠ H.next + 2 := by omega
  refine GetsE.last Tryz.tabOk (ov := addOv noOv 55 (ovB 73)) (addOv_ok noOv_ok ovBR_ok) 8 (s' := ?sn59) ?hn59 ?kn59; (case hn59 => (simp -implicitDefEqProofs (disch := first | decide | assumption | (try simp only [q_next, s_put_next]) <;> omega | exact pd_ (by kernel_rfl) | fail) only [sxM, Nat.reduceAdd, reduceCtorEq, Int.reduceToNat, Nat.reduceEqDiff, Int.reduceEq, Int.reduceLT, s_draw, ovB_red, belE_eq, Int.toNat_natCast, i0, i2, a3, hkl, hxa, hld, s_varFalse ia9, stL] <;> rfl)); (try (change GetsE _ _ _ _ _ _; repeat refine GetsE.seq ?_))
  have h2 := bel_lt (nx (nx (nx t))) (k := 2) (by omega)
  by_cases hd : bel (nx (nx (nx t))) 2 = 1
  ·have hd' : ¬ ((bel (nx (nx (nx t))) 2 : Nat) : Int) = 0 := by omega
   have hlo : (genF n M g ks 11 t).1 = ⟨12, ((bel t n : Nat) : Int), 1 + ((bel (nx t) (g - 1) : Nat) : Int), [], [], keyV ks (nx (nx t)), [], 0, 0, []⟩ := by
    show (⟨12, ((bel t n : Nat) : Int), 1 + ((bel (nx t) (g - 1) : Nat) : Int), [], if bel (nx (nx (nx t))) 2 = 1 then [] else keyV ks (nx (nx t)), if bel (nx (nx (nx t))) 2 = 1 then keyV ks (nx (nx t)) else [], [], 0, 0, []⟩ : OpV) = _
    rw [if_pos hd, if_pos hd]
   rw [hlo]
   refine GetsE.last Tryz.tabOk (ov := addOv noOv 55 (ovB 73)) (addOv_ok noOv_ok ovBR_ok) 8 (s' := ?sn60) ?hn60 ?kn60; (case hn60 => (simp -implicitDefEqProofs (disch := first | decide | assumption | (try simp only [q_next, s_put_next]) <;> omega | exact pd_ (by kernel_rfl) | fail) only [sxM, Nat.reduceAdd, reduceCtorEq, Int.reduceToNat, Nat.reduceEqDiff, Int.reduceEq, Int.reduceLT, s_draw, ovB_red, belE_eq, Int.toNat_natCast, i0, a3, hd', stL] <;> rfl)); (try (change GetsE _ _ _ _ _ _; repeat refine GetsE.seq ?_))
   refine GetsE.condF (by simp (disch := decide) only [sxL]) ?_
   change GetsE _ _ _ _ _ _
   repeat refine GetsE.seq ?_
   refine GetsE.l0 Tryz.tabOk (s' := ?sn61) ?hn61 ?kn61; (case hn61 => (simp -implicitDefEqProofs (disch := first | decide | assumption | (try simp only [q_next, s_put_next]) <;> omega | exact pd_ (by kernel_rfl) | fail) only [sxM, Nat.reduceAdd, reduceCtorEq, Int.reduceToNat, Nat.reduceEqDiff, Int.reduceEq, Int.reduceLT, s_draw, i10, a2, fa43_4, fa38_1, stL, sz9] <;> rfl)); (try (change GetsE _ _ _ _ _ _; repeat refine GetsE.seq ?_))
   refine inBlk_normal ?_
   exact ⟨rfl, _, _, rfl, by simp (disch := decide) only [sxL, i6], by simp (disch := decide) only [sxL, i10], ⟨.nilslice, by ((try simp (disch := first | assumption | omega | (try simp only [q_next, s_put_next]) <;> omega | fail) only [foL]); (try rfl)), .inl ⟨rfl, rfl⟩⟩, by ((try simp (disch := first | assumption | omega | (try simp only [q_next, s_put_next]) <;> omega | fail) only [foL]); (try rfl)); exact a1, by ((try simp (disch := first | assumption | omega | (try simp only [q_next, s_put_next]) <;> omega | fail) only [foL]); (try rfl)), ⟨by ((try dsimp only); (try simp only [s_push_next, s_put_next]); omega), fun b hb hne => by ((try simp (disch := first | assumption | omega | (try simp only [q_next, s_put_next]) <;> omega | fail) only [foL]); (try rfl)); exact ag.get b hb hne⟩, by ((try dsimp only); (try simp only [s_push_next, s_put_next]); omega), (by repeat' (first | exact hN | exact aN | exact bN | (refine Neat.push ?_ _) | (refine Neat.put ?_ (by ((try dsimp only); (try simp only [s_push_next, s_put_next]); omega)) _)))⟩
  ·have hd' : ((bel (nx (nx (nx t))) 2 : Nat) : Int) = 0 := by omega
   have hlo : (genF n M g ks 11 t).1 = ⟨12, ((bel t n : Nat) : Int), 1 + ((bel (nx t) (g - 1) : Nat) : Int), [], keyV ks (nx (nx t)), [], [], 0, 0, []⟩ := by
    show (⟨12, ((bel t n : Nat) : Int), 1 + ((bel (nx t) (g - 1) : Nat) : Int), [], if bel (nx (nx (nx t))) 2 = 1 then [] else keyV ks (nx (nx t)), if bel (nx (nx (nx t))) 2 = 1 then keyV ks (nx (nx t)) else [], [], 0, 0, []⟩ : OpV) = _
    rw [if_neg hd, if_neg hd]
   rw [hlo]
   refine GetsE.last Tryz.tabOk (ov := addOv noOv 55 (ovB 73)) (addOv_ok noOv_ok ovBR_ok) 8 (s' := ?sn62) ?hn62 ?kn62; (case hn62 => (simp -implicitDefEqProofs (disch := first | decide | assumption | (try simp only [q_next, s_put_next]) <;> omega | exact pd_ (by kernel_rfl) | fail) only [sxM, Nat.reduceAdd, reduceCtorEq, Int.reduceToNat, Nat.reduceEqDiff, Int.reduceEq, Int.reduceLT, s_draw, ovB_red, belE_eq, Int.toNat_natCast, i0, a3, hd', stL] <;> rfl)); (try (change GetsE _ _ _ _ _ _; repeat refine GetsE.seq ?_))
   refine GetsE.condT (by simp (disch := decide) only [sxL]) ?_
   change GetsE _ _ _ _ _ _
   repeat refine GetsE.seq ?_
   refine GetsE.l0 Tryz.tabOk (s' := ?sn63) ?hn63 ?kn63; (case hn63 => (simp -implicitDefEqProofs (disch := first | decide | assumption | (try simp only [q_next, s_put_next]) <;> omega | exact pd_ (by kernel_rfl) | fail) only [sxM, Nat.reduceAdd, reduceCtorEq, Int.reduceToNat, Nat.reduceEqDiff, Int.reduceEq, Int.reduceLT, s_draw, i10, a2, fa43_4, fa38_0, stL, sz9] <;> rfl)); (try (change GetsE _ _ _ _ _ _; repeat refine GetsE.seq ?_))
   refine inBlk_normal ?_
   exact ⟨rfl, _, _, rfl, by simp (disch := decide) only [sxL, i6], by simp (disch := decide) only [sxL, i10], ⟨.nilslice, by ((try simp (disch := first | assumption | omega | (try simp only [q_next, s_put_next]) <;> omega | fail) only [foL]); (try rfl)), .inl ⟨rfl, rfl⟩⟩, by ((try simp (disch := first | assumption | omega | (try simp only [q_next, s_put_next]) <;> omega | fail) only [foL]); (try rfl)); exact a1, by ((try simp (disch := first | assumption | omega | (try simp only [q_next, s_put_next]) <;> omega | fail) only [foL]); (try rfl)), ⟨by ((try dsimp only); (try simp only [s_push_next, s_put_next]); omega), fun b hb hne => by ((try simp (disch := first | assumption | omega | (try simp only [q_next, s_put_next]) <;> omega | fail) only [foL]); (try rfl)); exact ag.get b hb hne⟩, by ((try dsimp only); (try simp only [s_push_next, s_put_next]); omega), (by repeat' (first | exact hN | exact aN | exact bN | (refine Neat.push ?_ _) | (refine Neat.put ?_ (by ((try dsimp only); (try simp only [s_push_next, s_put_next]); omega)) _)))⟩
 clear ac a1 a2 a3 ag ax aN i0 i2 i4 i6 i7 i8 i9 i10
 clear h tm
 rintro tm h ⟨i6, i10, ⟨sv, a2, ast⟩, a1, a3, ag, ax, aN⟩
 change GetsE _ _ _ _ _ _
 repeat refine GetsE.seq ?_
 generalize genF n M g ks (idxOf r) t = gq at a2 ast a3 ⊢
 have hsv := CellsAt.one ast
 have hlv := CellsAt.lt ast aN
 have a2' : h.blks.get (H.next + 2) = some (.cells 43 true [.int .i64 gq.1.k, .int .i64 gq.1.a, .int .i64 gq.1.n, .str gq.1.key, .str gq.1.lo, .str gq.1.hi, .str gq.1.id, .int .i64 gq.1.co, .int .i64 gq.1.dl, sv]) := a2
 refine GetsE.l0 Tryz.tabOk (s' := ?sn64) ?hn64 ?kn64; (case hn64 => (simp -implicitDefEqProofs (disch := first | decide | assumption | (try simp only [q_next, s_put_next]) <;> omega | exact pd_ (by kernel_rfl) | fail) only [sxM, Nat.reduceAdd, reduceCtorEq, Int.reduceToNat, Nat.reduceEqDiff, Int.reduceEq, Int.reduceLT, s_draw, i6, i10, a1, a2', s_varTrue ia43 sz43, stL, sz43, hsv] <;> rfl)); (try (change GetsE _ _ _ _ _ _; repeat refine GetsE.seq ?_))
 refine GetsE.ret Tryz.tabOk ?_
 exact fin_E (vs := [.agg (gq.1.cells sv)]) rfl (by simp -implicitDefEqProofs (disch := first | decide | assumption | (try simp only [q_next, s_put_next]) <;> omega | exact pd_ (by kernel_rfl) | fail) only [sxM, Nat.reduceAdd, reduceCtorEq, Int.reduceToNat, Nat.reduceEqDiff, Int.reduceEq, Int.reduceLT, Tryz.f21, resCell, s_varTrue ia43 sz43, stL, i6] <;> rfl) (by ((try dsimp only); (try simp only [s_push_next, s_put_next]); omega)) ⟨trivial, trivial, trivial, trivial, trivial, trivial, trivial, trivial, trivial, (show ltV (putBlk h _ _).next sv by rw [s_put_next]; exact hlv), trivial⟩
  ⟨sv, rfl, ⟨by ((try dsimp only); (try simp only [s_push_next, s_put_next]); omega), fun b hb hne => by ((try simp (disch := first | assumption | omega | (try simp only [q_next, s_put_next]) <;> omega | fail) only [foL]); (try rfl)); exact ag.get b hb hne⟩, (by repeat' (first | exact hN | exact aN | exact bN | (refine Neat.push ?_ _) | (refine Neat.put ?_ (by ((try dsimp only); (try simp only [s_push_next, s_put_next]); omega)) _))), by ((try simp (disch := first | assumption | omega | (try simp only [q_next, s_put_next]) <;> omega | fail) only [foL]); (try rfl)); exact a3, CellsAt.growP ast aN (GrowsP.put _ _ _) a1 fun x y => by simp⟩
end Go.Proofs
namespace Go.Proofs
open Go.Sx
set_option maxRecDepth 100000
theorem build73 (s : Int) : buildA Tryz.tab 73 [(0, .int .u64 s)] = some (.agg [.int .u64 s]) := by kernel_rfl
theorem rndR_run (n g : Nat) (M : Nat) (kv cv : AV) (ks : List (List UInt8)) (cs : List CntV) (s cnt : Nat) (H : Heap) (hN : Neat H) (hk : KeysAt H kv ks) (hc : CntsAt H cv cs) (hks : ∀ s ∈ ks, s.length < 1000000000) (hkl : ks.length < 1000000000) (hcl : cs.length < 1000000000)
  (hE : cfgE n g ks cs = 0) (hs : s < 18446744073709551616) (hM : M = n * g) (hM2 : M < 1000) (hn : 0 < n ∧ n < M) (hg0 : 1 < g ∧ g < 1000) (hcnt : cnt ≤ 2000) :
  ∃ v h, RandR n M g (keysD ks) s cnt H v h ∧ H.next ≤ h.next ∧ CallTo Tryz.prog Tryz.tab 6 [.agg (confC n g kv cv), .int .u64 (s : Int), .int .i64 (cnt : Int)] H [(v, keepH H h)] := by
 refine callE_of Tryz.tabOk Tryz.func6 rfl rfl ?_
 show GetsE Tryz.prog Tryz.tab ⟨none, 44⟩ _ _ _
 repeat refine GetsE.seq ?_
 have k1 := hk.one
 have k2 := hc.one
 have hkn : ∀ h, lenA Tryz.tab h 22 kv = some (.int .i64 (ks.length : Int)) := hk.len ud22
 refine GetsE.l0 Tryz.tabOk (s' := ?sn1) ?hn1 ?kn1; (case hn1 => (simp -implicitDefEqProofs (disch := first | decide | assumption | (try simp only [q_next, s_put_next]) <;> omega | exact pd_ (by kernel_rfl) | fail) only [sxM, Nat.reduceAdd, reduceCtorEq, Int.reduceToNat, Nat.reduceEqDiff, Int.reduceEq, Int.reduceLT, s_draw, k1, k2] <;> rfl)); (try (change GetsE _ _ _ _ _ _; repeat refine GetsE.seq ?_))
 refine GetsE.ofH (fun h => h.blks.get H.next = some (.cells 33 true (confC n g kv cv)) ∧ Grows H h ∧ h.next = H.next + 1 ∧ Neat h) ⟨by ((try simp (disch := first | assumption | omega | (try simp only [q_next, s_put_next]) <;> omega | fail) only [foL]); (try rfl)), .push _ _, by ((try simp (disch := first | assumption | omega | (try simp only [q_next, s_put_next]) <;> omega | fail) only [foL]); (try rfl)), (by repeat' (first | exact hN | exact aN | exact bN | (refine Neat.push ?_ _) | (refine Neat.put ?_ (by ((try dsimp only); (try simp only [s_push_next, s_put_next]); omega)) _)))⟩ ?_
 rintro h ⟨a0, ag, ax, aN⟩
 have q := chkR_to n g kv cv ks cs h aN (hk.grow hN ag) (hc.grow hN ag) hks hkl hcl
 rw [hE] at q
 refine GetsE.last Tryz.tabOk (ov := ptO noOv 20 [.agg (confC n g kv cv)] h [(.int .i64 0, h)]) (ptO_ok noOv_ok q) 8 (s' := ?sn2) ?hn2 ?kn2; (case hn2 => (simp -implicitDefEqProofs (disch := first | decide | assumption | (try simp only [q_next, s_put_next]) <;> omega | exact pd_ (by kernel_rfl) | fail) only [sxM, Nat.reduceAdd, reduceCtorEq, Int.reduceToNat, Nat.reduceEqDiff, Int.reduceEq, Int.reduceLT, s_draw, s_ptEq, a0, s_varTrue ia33 sz33, t_r4] <;> rfl)); (try (change GetsE _ _ _ _ _ _; repeat refine GetsE.seq ?_))
 have c1 : ¬ ((cnt : Int) < 0) := by omega
 have c2 : ¬ (2000 < (cnt : Int)) := by omega
 refine GetsE.l0 Tryz.tabOk (s' := ?sn3) ?hn3 ?kn3; (case hn3 => (simp -implicitDefEqProofs (disch := first | decide | assumption | (try simp only [q_next, s_put_next]) <;> omega | exact pd_ (by kernel_rfl) | fail) only [sxM, Nat.reduceAdd, reduceCtorEq, Int.reduceToNat, Nat.reduceEqDiff, Int.reduceEq, Int.reduceLT, s_draw] <;> rfl)); (try (change GetsE _ _ _ _ _ _; repeat refine GetsE.seq ?_))
 refine GetsE.condF (by simp (disch := decide) only [sxL]) (GetsE.skip Tryz.tabOk ?_)
 change GetsE _ _ _ _ _ _
 repeat refine GetsE.seq ?_
 refine GetsE.l0 Tryz.tabOk (s' := ?sn4) ?hn4 ?kn4; (case hn4 => (simp -implicitDefEqProofs (disch := first | decide | assumption | (try simp only [q_next, s_put_next]) <;> omega | exact pd_ (by kernel_rfl) | fail) only [sxM, Nat.reduceAdd, reduceCtorEq, Int.reduceToNat, Nat.reduceEqDiff, Int.reduceEq, Int.reduceLT, s_draw, c1] <;> rfl)); (try (change GetsE _ _ _ _ _ _; repeat refine GetsE.seq ?_))
 refine GetsE.condF (by simp (disch := decide) only [sxL]) (GetsE.skip Tryz.tabOk ?_)
 change GetsE _ _ _ _ _ _
 repeat refine GetsE.seq ?_
 refine GetsE.l0 Tryz.tabOk (s' := ?sn5) ?hn5 ?kn5; (case hn5 => (simp -implicitDefEqProofs (disch := first | decide | assumption | (try simp only [q_next, s_put_next]) <;> omega | exact pd_ (by kernel_rfl) | fail) only [sxM, Nat.reduceAdd, reduceCtorEq, Int.reduceToNat, Nat.reduceEqDiff, Int.reduceEq, Int.reduceLT, s_draw, c2] <;> rfl)); (try (change GetsE _ _ _ _ _ _; repeat refine GetsE.seq ?_))
 refine GetsE.condF (by simp (disch := decide) only [sxL]) (GetsE.skip Tryz.tabOk ?_)
 change GetsE _ _ _ _ _ _
 repeat refine GetsE.seq ?_
 clear q
 refine GetsE.l0 Tryz.tabOk (s' := ?sn6) ?hn6 ?kn6; (case hn6 => (simp -implicitDefEqProofs (disch := first | decide | assumption | (try simp only [q_next, s_put_next]) <;> omega | exact pd_ (by kernel_rfl) | fail) only [sxM, Nat.reduceAdd, reduceCtorEq, Int.reduceToNat, Nat.reduceEqDiff, Int.reduceEq, Int.reduceLT, s_draw, a0, fa33_2, s_varFalse ia22] <;> rfl)); (try (change GetsE _ _ _ _ _ _; repeat refine GetsE.seq ?_))
 refine GetsE.l0 Tryz.tabOk (s' := ?sn7) ?hn7 ?kn7; (case hn7 => (simp -implicitDefEqProofs (disch := first | decide | assumption | (try simp only [q_next, s_put_next]) <;> omega | exact pd_ (by kernel_rfl) | fail) only [sxM, Nat.reduceAdd, reduceCtorEq, Int.reduceToNat, Nat.reduceEqDiff, Int.reduceEq, Int.reduceLT, s_draw, hkn] <;> rfl)); (try (change GetsE _ _ _ _ _ _; repeat refine GetsE.seq ?_))
 refine GetsE.midH (I := fun tm h => tm.get 1 = some (.int .u64 (s : Int)) ∧ tm.get 2 = some (.int .i64 (cnt : Int)) ∧ tm.get 3 = some (.ptr H.next 0) ∧ (∃ kv', tm.get 9 = some kv' ∧ KeyS h kv' (keysD ks)) ∧ h.blks.get H.next = some (.cells 33 true (confC n g kv cv)) ∧ Grows H h ∧ H.next + 1 ≤ h.next ∧ Neat h) ?_ ?_
 ·by_cases h0 : (ks.length : Int) = 0
  ·have hkd : keysD ks = [[97]] := if_pos (by omega)
   refine GetsE.condT (by simp (disch := decide) only [sxL, h0]) ?_
   change GetsE _ _ _ _ _ _
   refine GetsE.l0 Tryz.tabOk (s' := ?sn8) ?hn8 ?kn8; (case hn8 => (simp -implicitDefEqProofs (disch := first | decide | assumption | (try simp only [q_next, s_put_next]) <;> omega | exact pd_ (by kernel_rfl) | fail) only [sxM, Nat.reduceAdd, reduceCtorEq, Int.reduceToNat, Nat.reduceEqDiff, Int.reduceEq, Int.reduceLT, s_draw, bs22] <;> rfl)); (try (change GetsE _ _ _ _ _ _; repeat refine GetsE.seq ?_))
   exact ⟨rfl, _, _, rfl, by simp (disch := decide) only [sxL], by simp (disch := decide) only [sxL], by simp (disch := decide) only [sxL], ⟨.slice h.next 0 1 false 1, by simp (disch := decide) only [sxL], .inr (.inr ⟨h.next, false, 1, true, by simp [hkd], by rw [hkd]; ((try simp (disch := first | assumption | omega | (try simp only [q_next, s_put_next]) <;> omega | fail) only [foL]); (try rfl))⟩)⟩, by ((try simp (disch := first | assumption | omega | (try simp only [q_next, s_put_next]) <;> omega | fail) only [foL]); (try rfl)); exact a0, ⟨by ((try dsimp only); (try simp only [s_push_next, s_put_next]); omega), fun b hb => by ((try simp (disch := first | assumption | omega | (try simp only [q_next, s_put_next]) <;> omega | fail) only [foL]); (try rfl)); exact ag.get b hb⟩, by ((try dsimp only); (try simp only [s_push_next, s_put_next]); omega), (by repeat' (first | exact hN | exact aN | exact bN | (refine Neat.push ?_ _) | (refine Neat.put ?_ (by ((try dsimp only); (try simp only [s_push_next, s_put_next]); omega)) _)))⟩
  ·have hkd : keysD ks = ks := if_neg (by omega)
   refine GetsE.condF (by simp (disch := decide) only [sxL, h0]) (GetsE.skip Tryz.tabOk ?_)
   exact ⟨rfl, _, _, rfl, by simp (disch := decide) only [sxL], by simp (disch := decide) only [sxL], by simp (disch := decide) only [sxL], ⟨kv, by simp (disch := decide) only [sxL], by rw [hkd]; exact .inl (hk.grow hN ag)⟩, a0, ag, by omega, aN⟩
 clear a0 ag ax aN
 clear h
 rintro tm K0 ⟨i1, i2, i3, ⟨kv', i9, hkd⟩, a0, kg, Kx, KN0⟩
 change GetsE _ _ _ _ _ _
 repeat refine GetsE.seq ?_
 refine GetsE.l0 Tryz.tabOk (s' := ?sn9) ?hn9 ?kn9; (case hn9 => (simp -implicitDefEqProofs (disch := first | decide | assumption | (try simp only [q_next, s_put_next]) <;> omega | exact pd_ (by kernel_rfl) | fail) only [sxM, Nat.reduceAdd, reduceCtorEq, Int.reduceToNat, Nat.reduceEqDiff, Int.reduceEq, Int.reduceLT, s_draw, i1, build73] <;> rfl)); (try (change GetsE _ _ _ _ _ _; repeat refine GetsE.seq ?_))
 refine GetsE.l0 Tryz.tabOk (s' := ?sn10) ?hn10 ?kn10; (case hn10 => (simp -implicitDefEqProofs (disch := first | decide | assumption | (try simp only [q_next, s_put_next]) <;> omega | exact pd_ (by kernel_rfl) | fail) only [sxM, Nat.reduceAdd, reduceCtorEq, Int.reduceToNat, Nat.reduceEqDiff, Int.reduceEq, Int.reduceLT, s_draw] <;> rfl)); (try (change GetsE _ _ _ _ _ _; repeat refine GetsE.seq ?_))
 refine GetsE.l0 Tryz.tabOk (s' := ?sn11) ?hn11 ?kn11; (case hn11 => (simp -implicitDefEqProofs (disch := first | decide | assumption | (try simp only [q_next, s_put_next]) <;> omega | exact pd_ (by kernel_rfl) | fail) only [sxM, Nat.reduceAdd, reduceCtorEq, Int.reduceToNat, Nat.reduceEqDiff, Int.reduceEq, Int.reduceLT, s_draw] <;> rfl)); (try (change GetsE _ _ _ _ _ _; repeat refine GetsE.seq ?_))
 have lH : H.next ≠ K0.next := by omega
 have hl := keysD_len hkl
 refine GetsE.ofS (fun tm K => tm.get 2 = some (.int .i64 (cnt : Int)) ∧ tm.get 3 = some (.ptr H.next 0) ∧ tm.get 9 = some kv' ∧ tm.get 10 = some (.ptr K0.next 0) ∧ tm.get 11 = some .nilslice ∧ tm.get 12 = some (.int .i64 0) ∧ K.blks.get K0.next = some (seedB 73 s) ∧ K.blks.get H.next = some (.cells 33 true (confC n g kv cv)) ∧ KeyS K kv' (keysD ks) ∧ Grows H K ∧ K0.next < K.next ∧ Neat K)
  ⟨by simp (disch := decide) only [sxL, i2], by simp (disch := decide) only [sxL, i3], by simp (disch := decide) only [sxL, i9], by simp (disch := decide) only [sxL], by simp (disch := decide) only [sxL], by simp (disch := decide) only [sxL], by ((try simp (disch := first | assumption | omega | (try simp only [q_next, s_put_next]) <;> omega | fail) only [foL]); (try rfl)), by ((try simp (disch := first | assumption | omega | (try simp only [q_next, s_put_next]) <;> omega | fail) only [foL]); (try rfl)); exact a0, by
   rcases hkd with hkd | hkd
   ·exact .inl (hkd.grow KN0 (.push _ _))
   ·exact .inr (CellsAt.to hkd fun b x y hb => by
     have hbn := KN0 _ _ hb
     ((try simp (disch := first | assumption | omega | (try simp only [q_next, s_put_next]) <;> omega | fail) only [foL]); (try rfl)); exact hb), kg.trans (.push _ _), by ((try dsimp only); (try simp only [s_push_next, s_put_next]); omega), KN0.push _⟩ ?_
 have hpn : H.next < K0.next := by omega
 generalize K0.next = p at lH hpn ⊢
 clear i1 i2 i3 i9 hkd a0 kg Kx KN0
 clear K0 tm
 rintro tm K ⟨i2, i3, i9, i10, i11, i12, Kp, Kc, Kk, hgK, lpK, KN⟩
 generalize keysD ks = kd at Kk hl ⊢
 clear hks hkn
 refine GetsE.uptoH cnt (fun i tm h => tm.get 2 = some (.int .i64 (cnt : Int)) ∧ tm.get 3 = some (.ptr H.next 0) ∧ tm.get 9 = some kv' ∧ tm.get 10 = some (.ptr p 0) ∧ (∃ w, tm.get 11 = some w ∧ oneCell w = true ∧ RunsAt n M g kd s i K.next h w) ∧ tm.get 12 = some (.int .i64 (i : Int)) ∧ h.blks.get p = some (seedB 73 (seedN n M g kd s i)) ∧ GrowsP p K h ∧ Neat h)
  ⟨i2, i3, i9, i10, ⟨.nilslice, i11, rfl, .zero _ _ _ _ _ _ _⟩, i12, Kp, .refl _ _, KN⟩ ?_
 clear i2 i3 i9 i10 i11 i12
 clear tm
 rintro i tm h hi ⟨i2, i3, i9, i10, ⟨w, i11, hw1, hr⟩, i12, hp, hg, aN⟩
 repeat refine GetsE.seq ?_
 have hsi := seedN_lt n M g kd hs i
 by_cases hlt : (i : Int) < (cnt : Int)
 ·have v5 : awrap .i64 ((i : Int) + 1) = (i : Int) + 1 := s_wrap (by omega) (by omega)
  have hs2 : seedN n M g kd s (i + 1) = (oneOp n M g kd (seedN n M g kd s i)).2 := rfl
  obtain ⟨sv, H', q, bg, bN, bp, bst⟩ := opR_to n g M kv kv' cv kd p (seedN n M g kd s i) h aN (Kk.growP KN hg (by decide) Kp) k1 k2 hp hsi hM hM2 hn hg0 hl
  have ho : (oneOp n M g kd (seedN n M g kd s i)).1 = (oneOp n M g kd (seedN n M g kd s i)).1 := rfl
  generalize hgq : oneOp n M g kd (seedN n M g kd s i) = gq at hs2 q bp bst
  have hc := hg.some_ KN Kc lH
  have hr3 := hr.growP aN bg hp ⟨by decide, by decide⟩
  have hK1 := hg.next
  have hK2 := bg.next
  obtain ⟨v', h', happ, hr4, hN4, hx4, hpre, hlow, hv1⟩ := hr3.more bN (by omega) (by omega) (congrArg Prod.fst hgq) bst
  have bs := bs28 H' gq.1 sv (CellsAt.one bst)
  refine GetsE.l0 Tryz.tabOk (s' := ?sn12) ?hn12 ?kn12; (case hn12 => (simp -implicitDefEqProofs (disch := first | decide | assumption | (try simp only [q_next, s_put_next]) <;> omega | exact pd_ (by kernel_rfl) | fail) only [sxM, Nat.reduceAdd, reduceCtorEq, Int.reduceToNat, Nat.reduceEqDiff, Int.reduceEq, Int.reduceLT, s_draw, i2, i12, hlt] <;> rfl)); (try (change GetsE _ _ _ _ _ _; repeat refine GetsE.seq ?_))
  refine GetsE.condT (by simp (disch := decide) only [sxL]) (GetsE.skip Tryz.tabOk ?_)
  change GetsE _ _ _ _ _ _
  refine GetsE.seq (GetsE.blk ?_)
  refine GetsE.last Tryz.tabOk (ov := ptO noOv 21 [.ptr p 0, .agg (confC n g kv cv), kv'] h [(.agg (gq.1.cells sv), H')]) (ptO_ok noOv_ok q) 8 (s' := ?sn13) ?hn13 ?kn13; (case hn13 => (simp -implicitDefEqProofs (disch := first | decide | assumption | (try simp only [q_next, s_put_next]) <;> omega | exact pd_ (by kernel_rfl) | fail) only [sxM, Nat.reduceAdd, reduceCtorEq, Int.reduceToNat, Nat.reduceEqDiff, Int.reduceEq, Int.reduceLT, s_draw, s_ptEq, i3, i9, i10, i11, hc, s_varTrue ia33 sz33, t_r4, bs, z_opApp, happ] <;> rfl)); (try (change GetsE _ _ _ _ _ _; repeat refine GetsE.seq ?_))
  refine GetsE.l0 Tryz.tabOk (s' := ?sn14) ?hn14 ?kn14; (case hn14 => (simp -implicitDefEqProofs (disch := first | decide | assumption | (try simp only [q_next, s_put_next]) <;> omega | exact pd_ (by kernel_rfl) | fail) only [sxM, Nat.reduceAdd, reduceCtorEq, Int.reduceToNat, Nat.reduceEqDiff, Int.reduceEq, Int.reduceLT, s_draw, i12, v5] <;> rfl)); (try (change GetsE _ _ _ _ _ _; repeat refine GetsE.seq ?_))
  exact ⟨_, _, rfl, by omega, by simp (disch := decide) only [sxL, i2], by simp (disch := decide) only [sxL, i3], by simp (disch := decide) only [sxL, i9], by simp (disch := decide) only [sxL, i10], ⟨v', by simp (disch := decide) only [sxL], hv1, hr4⟩, by simp (disch := decide) only [sxL, s_castS], by rw [hs2]; exact hpre _ _ bp (fun y => by simp), ⟨by omega, fun b hb hne => by rw [hlow b hb]; exact (hg.trans bg).get b hb hne⟩, hN4⟩
 ·have h9 : i = cnt := by omega
  subst h9
  refine GetsE.l0 Tryz.tabOk (s' := ?sn15) ?hn15 ?kn15; (case hn15 => (simp -implicitDefEqProofs (disch := first | decide | assumption | (try simp only [q_next, s_put_next]) <;> omega | exact pd_ (by kernel_rfl) | fail) only [sxM, Nat.reduceAdd, reduceCtorEq, Int.reduceToNat, Nat.reduceEqDiff, Int.reduceEq, Int.reduceLT, s_draw, i2, i12, hlt] <;> rfl)); (try (change GetsE _ _ _ _ _ _; repeat refine GetsE.seq ?_))
  refine GetsE.condF (by simp (disch := decide) only [sxL]) (GetsE.exit Tryz.tabOk ?_)
  refine inBlk_exit ?_
  change GetsE _ _ _ _ _ _
  repeat refine GetsE.seq ?_
  refine GetsE.l0 Tryz.tabOk (s' := ?sn16) ?hn16 ?kn16; (case hn16 => (simp -implicitDefEqProofs (disch := first | decide | assumption | (try simp only [q_next, s_put_next]) <;> omega | exact pd_ (by kernel_rfl) | fail) only [sxM, Nat.reduceAdd, reduceCtorEq, Int.reduceToNat, Nat.reduceEqDiff, Int.reduceEq, Int.reduceLT, s_draw, i11] <;> rfl)); (try (change GetsE _ _ _ _ _ _; repeat refine GetsE.seq ?_))
  refine GetsE.ret Tryz.tabOk ?_
  obtain ⟨lv, r1, r2, r3⟩ := hr.ex
  have hK1 := hg.next
  have hK2 := hgK.next
  exact fin_E (vs := [w, .int .i64 0]) rfl (by simp (disch := decide) only [sxL, Tryz.f6, resultA]) (by ((try dsimp only); (try simp only [s_push_next, s_put_next]); omega)) ⟨CellsAt.lt r2.cells aN, trivial, trivial⟩ ⟨w, rfl, ⟨lv, r1, r2.cells, r3⟩, ⟨by ((try dsimp only); (try simp only [s_push_next, s_put_next]); omega), fun b hb => by rw [hg.get b (by omega) (by omega), hgK.get b hb]⟩, aN⟩
end Go.Proofs
