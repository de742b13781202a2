/-
  The merging of logs, walked.
-/
import Derived.Test.YtdadmlonndnppaaGreatDoorOrD
set_option linter.unusedSimpArgs false
set_option linter.unusedVariables false
namespace Go.Sx
section
variable {G : Tab}
theorem s_st1 {t : TypeId} (hz : G.size t = some 1) (H : Heap) (e : TypeId) (x : Bool) (w : AV) (b : Nat) (v : AV) (hb : Nat.beq b H.next = true) (h1 : oneCell v = true) :
    storePtr G (H.push (.cells e x [w])) t (.ptr b 0) v = some (putBlk (H.push (.cells e x [w])) b (some (.cells e x [v]))) := by
  have hb := Nat.eq_of_beq_eq_true hb
  subst hb
  exact store_one (s_push_same _ _) hz (Nat.lt_succ_self 0) h1
end
end Go.Sx
namespace Go.Proofs
open Go.Sx
set_option maxRecDepth 100000
noncomputable def mergeQ (H : Heap) (d : Nat) (res : Option (List Nat)) : VH := match res with
  | none => (.tuple [.nilslice, .bool false], H)
  | some o => (.tuple [outV d (natL o), .bool true], outH H d (natL o))
theorem LogsAt.calls {l : List LogV} (h40 : ∀ x ∈ l, x.l.length ≤ 40) : ∀ lg ∈ callsL l, lg.length ≤ 40 := by
  intro lg hlg
  obtain ⟨x, hx, rfl⟩ := List.mem_map.1 hlg
  simpa [callsOf] using h40 x hx
/-- the second half: an order is looked for -/
structure RunI (H h : Heap) (v : AV) (rp n0 L : Nat) (at_ : List Nat) (left : List (Int × Int)) (pre : List Nat) : Prop where
  next : h.next = n0 + 2 * pre.length
  grows : Grows H h
  neat : Neat h
  ph : h.blks.get H.next = some (.cells 69 true [.ptr rp 0])
  pl : h.blks.get (H.next + 1) = some (.cells 22 true [v])
  lm : h.blks.get (H.next + 2) = some (mapB left)
  pm : h.blks.get (H.next + 3) = some (.cells 78 true [.map (H.next + 2)])
  ba : h.blks.get (n0 - 2) = some (.cells 3 true (natL at_))
  pa : h.blks.get (n0 - 1) = some (.cells 27 true [.slice (n0 - 2) 0 L false L])
  out : pre ≠ [] → h.blks.get (n0 + 2 * pre.length - 1) = some (.cells 3 false (natL pre))
theorem RunI.may {H h : Heap} {v : AV} {rp n0 L : Nat} {at_ : List Nat} {left : List (Int × Int)} {pre : List Nat} (I : RunI H h v rp n0 L at_ left pre) (hN : Neat H) {l : List LogV} {c r : List (Int × Int)} (hr : RecP H rp c r) (hv : LogsAt H v l)
    (hL : L = l.length) (ha : at_.length = l.length) : MayAt h (n0 - 1) (H.next + 1) (H.next + 3) H.next v l at_ left c r :=
  ⟨⟨n0 - 2, by rw [I.pa, hL, ha], I.ba⟩, I.pl, ⟨H.next + 2, I.pm, I.lm⟩, ⟨rp, I.ph, hr.grow hN I.grows⟩, hv.grow hN I.grows, ha⟩
/-- one more command is taken -/
theorem RunI.step {H h : Heap} {v : AV} {rp n0 L : Nat} {at_ : List Nat} {left : List (Int × Int)} {pre : List Nat} (I : RunI H h v rp n0 L at_ left pre) (h0 : H.next + 6 ≤ n0) (at' : List Nat) (left' : List (Int × Int)) (g : Nat) :
    RunI H (appH ((putBlk (putBlk h (H.next + 2) (some (mapB left'))) (n0 - 2) (some (.cells 3 true (natL at')))).push (.cells 3 true [.int .i64 (g : Int)])) (n0 + 2 * pre.length - 1) (natL pre) (.int .i64 (g : Int))) v rp n0 L at' left' (pre ++ [g]) := by
  have hn := I.next
  have hN1 : Neat (putBlk h (H.next + 2) (some (mapB left'))) := I.neat.put (by omega) _
  have hN2 : Neat (putBlk (putBlk h (H.next + 2) (some (mapB left'))) (n0 - 2) (some (.cells 3 true (natL at')))) := hN1.put (by rw [s_put_next]; omega) _
  have hnx : (putBlk (putBlk h (H.next + 2) (some (mapB left'))) (n0 - 2) (some (.cells 3 true (natL at')))).next = n0 + 2 * pre.length := by rw [s_put_next, s_put_next]; exact hn
  have e0 : ∀ x, x < n0 - 2 → x ≠ H.next + 2 → (putBlk (putBlk h (H.next + 2) (some (mapB left'))) (n0 - 2) (some (.cells 3 true (natL at')))).blks.get x = h.blks.get x := fun x h1 h2 => by rw [s_put_other _ _ _ (by omega), s_put_other _ _ _ h2]
  have e1 : (putBlk (putBlk h (H.next + 2) (some (mapB left'))) (n0 - 2) (some (.cells 3 true (natL at')))).blks.get (H.next + 2) = some (mapB left') := by rw [s_put_other _ _ _ (by omega), s_put_same]
  have e2 : (putBlk (putBlk h (H.next + 2) (some (mapB left'))) (n0 - 2) (some (.cells 3 true (natL at')))).blks.get (n0 - 2) = some (.cells 3 true (natL at')) := s_put_same _ _ _
  have e3 : (putBlk (putBlk h (H.next + 2) (some (mapB left'))) (n0 - 2) (some (.cells 3 true (natL at')))).blks.get (n0 - 1) = h.blks.get (n0 - 1) := by rw [s_put_other _ _ _ (by omega), s_put_other _ _ _ (by omega)]
  generalize putBlk (putBlk h (H.next + 2) (some (mapB left'))) (n0 - 2) (some (.cells 3 true (natL at'))) = h2 at *
  have hpn : (h2.push (.cells 3 true [.int .i64 (g : Int)])).next = n0 + 2 * pre.length + 1 := by rw [s_push_next, hnx]
  have hge : natL pre ≠ [] → pre ≠ [] := fun h e => h (by rw [e]; rfl)
  have low : ∀ x, x < n0 → (appH (h2.push (.cells 3 true [.int .i64 (g : Int)])) (n0 + 2 * pre.length - 1) (natL pre) (.int .i64 (g : Int))).blks.get x = h2.blks.get x := fun x hx => by
    rw [appH_other _ _ _ _ (by rw [hpn]; omega) (fun hp => by have := List.length_pos_iff.2 (hge hp); omega), s_push_other _ _ (by omega)]
  refine ⟨by rw [appH_next, hpn, List.length_append, List.length_singleton]; omega, ⟨by rw [appH_next, hpn]; have := I.grows.next; omega, fun x hx => by rw [low x (by omega), e0 x (by omega) (by omega)]; exact I.grows.get x hx⟩,
    appH_neat (hN2.push _) _ _ _, by rw [low _ (by omega), e0 _ (by omega) (by omega)]; exact I.ph, by rw [low _ (by omega), e0 _ (by omega) (by omega)]; exact I.pl, by rw [low _ (by omega)]; exact e1,
    by rw [low _ (by omega), e0 _ (by omega) (by omega)]; exact I.pm, by rw [low _ (by omega)]; exact e2, by rw [low _ (by omega), e3]; exact I.pa, fun _ => ?_⟩
  have := appH_same (h2.push (.cells 3 true [.int .i64 (g : Int)])) (n0 + 2 * pre.length - 1) (natL pre) (.int .i64 (g : Int))
  rw [hpn, natL_snoc] at this
  rw [List.length_append, List.length_singleton, show n0 + 2 * (pre.length + 1) - 1 = n0 + 2 * pre.length + 1 by omega]
  exact this
theorem RunI.start {H h : Heap} {v : AV} {rp n : Nat} {left : List (Int × Int)} (I : CntI H h v rp n left) (L : Nat) :
    RunI H (putBlk ((h.push (.cells 3 true (natL (List.replicate L 0)))).push (.cells 27 true [.nilslice])) (h.next + 1) (some (.cells 27 true [.slice h.next 0 L false L]))) v rp (H.next + 6 + n) L (List.replicate L 0) left [] := by
  have hn := I.next
  have hN2 := (I.neat.push (.cells 3 true (natL (List.replicate L 0)))).push (.cells 27 true [.nilslice])
  have low : ∀ x, x < h.next → (putBlk ((h.push (.cells 3 true (natL (List.replicate L 0)))).push (.cells 27 true [.nilslice])) (h.next + 1) (some (.cells 27 true [.slice h.next 0 L false L]))).blks.get x = h.blks.get x := fun x hx => by
    rw [s_put_other _ _ _ (by omega), s_push_other _ _ (by rw [s_push_next]; omega), s_push_other _ _ (by omega)]
  have e2 : H.next + 6 + n - 2 = h.next := by omega
  have e1 : H.next + 6 + n - 1 = h.next + 1 := by omega
  refine ⟨by rw [s_put_next]; show h.next + 1 + 1 = _; simp only [List.length_nil]; omega, ⟨by rw [s_put_next]; show H.next ≤ h.next + 1 + 1; omega, fun x hx => by rw [low x (by omega)]; exact I.grows.get x hx⟩,
    hN2.put (by show h.next + 1 < h.next + 1 + 1; omega) _, by rw [low _ (by omega)]; exact I.ph, by rw [low _ (by omega)]; exact I.pl, by rw [low _ (by omega)]; exact I.lm, by rw [low _ (by omega)]; exact I.pm, ?_, ?_, fun h => absurd rfl h⟩
  · rw [e2, s_put_other _ _ _ (by omega), s_push_other _ _ (by rw [s_push_next]; omega), s_push_same]
  · rw [e1, e2, s_put_same]
theorem merge_run (H : Heap) (rp : Nat) (v : AV) (l : List LogV) (c r : List (Int × Int)) (hr : RecP H rp c r) (hv : LogsAt H v l) (hN : Neat H) (h8 : l.length ≤ 10) (h40 : ∀ x ∈ l, x.l.length ≤ 40) :
    ∃ d, H.next ≤ d ∧ CallTo Tryz.prog Tryz.tab 25 [.ptr rp 0, v] H [mergeQ H d (mergeR c r (callsL l))] := by
  refine ⟨H.next + 6 + totA (callsL l) + 2 * totA (callsL l) - 1, by omega, ?_⟩
  refine callTo_of Tryz.tabOk Tryz.func25 rfl rfl ?_
  show Gets Tryz.prog Tryz.tab ⟨none, 93⟩ _ _ _
  have htot : totA (callsL l) ≤ 400 := by
    have h1 := totA_le (LogsAt.calls h40)
    have h2 : (callsL l).length = l.length := by simp [callsL]
    rw [h2] at h1
    have : l.length * 40 ≤ 10 * 40 := Nat.mul_le_mul_right 40 h8
    omega
  have hlen := hv.1.len ud22
  have hone := hv.1.one
  repeat refine Gets.seq ?_
  refine Gets.last Tryz.tabOk (ov := noOv) (noOv_ok) 8 (s' := ?sn1) ?hn1 ?kn1; (case hn1 => (simp -implicitDefEqProofs (disch := first | (simp only [ne_eq, Nat.reduceEqDiff, not_false_eq_true, Nat.reduceLT]; done) | assumption | (simp only [s_push_next, s_put_next, Nat.beq_refl]; done) | ((try simp only [s_push_next, s_put_next]) <;> omega) | exact s_one_map _ | exact s_one_slice _ _ _ _ _ | (refine (id ?_ : plainDraw _ = true); kernel_rfl) | fail) only [sxL, s_castN, s_cells_one, noOv, callFn, kindOf, kindC, kindB, unA, boxA, loadPtr, nilCheckA, fst1, ofValue, ofScalar, len, intBin, ibin, boolO, guardA, cCond, condV, cRet, cExit, cSkip, resOut, resultA, extractA, tupleO, Nat.reduceEqDiff, Nat.reduceAdd, Nat.reduceSub, Nat.reduceLT, Nat.reduceBEq, reduceCtorEq, Nat.reduceMod, Nat.reduceLeDiff, Int.reduceLT, Int.reduceAdd, Int.reduceEq, Int.reduceToNat, s_draw, hone] <;> rfl)); (try (change Gets _ _ _ _ _ _; repeat refine Gets.seq ?_))
  refine Gets.scope ?_
  repeat refine Gets.seq ?_
  refine Gets.midH (I := fun tm h => CntI H h v rp 0 [] ∧ tm.get 2 = some (.ptr H.next 0) ∧ tm.get 3 = some (.ptr (H.next + 1) 0) ∧ tm.get 6 = some (.ptr (H.next + 3) 0)) ?_ ?_
  · refine Gets.last Tryz.tabOk (ov := noOv) (noOv_ok) 8 (s' := ?sn2) ?hn2 ?kn2; (case hn2 => (simp -implicitDefEqProofs (disch := first | (simp only [ne_eq, Nat.reduceEqDiff, not_false_eq_true, Nat.reduceLT]; done) | assumption | (simp only [s_push_next, s_put_next, Nat.beq_refl]; done) | ((try simp only [s_push_next, s_put_next]) <;> omega) | exact s_one_map _ | exact s_one_slice _ _ _ _ _ | (refine (id ?_ : plainDraw _ = true); kernel_rfl) | fail) only [sxL, s_castN, s_cells_one, noOv, callFn, kindOf, kindC, kindB, unA, boxA, loadPtr, nilCheckA, fst1, ofValue, ofScalar, len, intBin, ibin, boolO, guardA, cCond, condV, cRet, cExit, cSkip, resOut, resultA, extractA, tupleO, Nat.reduceEqDiff, Nat.reduceAdd, Nat.reduceSub, Nat.reduceLT, Nat.reduceBEq, reduceCtorEq, Nat.reduceMod, Nat.reduceLeDiff, Int.reduceLT, Int.reduceAdd, Int.reduceEq, Int.reduceToNat, s_draw, zero78, s_st1 sz78] <;> rfl)); (try (change Gets _ _ _ _ _ _; repeat refine Gets.seq ?_))
    exact ⟨rfl, _, _, rfl, CntI.start H hN v rp, by simp (disch := decide) only [sxL], by simp (disch := decide) only [sxL], by simp (disch := decide) only [sxL]⟩
  rintro tm h ⟨I0, i2, i3, i6⟩
  change Gets _ _ _ _ _ _
  repeat refine Gets.seq ?_
  have cl0 : cellIn (h.blks.get (H.next + 1)) 0 = some v := by rw [I0.pl]; rfl
  refine Gets.last Tryz.tabOk (ov := noOv) (noOv_ok) 8 (s' := ?sn3) ?hn3 ?kn3; (case hn3 => (simp -implicitDefEqProofs (disch := first | (simp only [ne_eq, Nat.reduceEqDiff, not_false_eq_true, Nat.reduceLT]; done) | assumption | (simp only [s_push_next, s_put_next, Nat.beq_refl]; done) | ((try simp only [s_push_next, s_put_next]) <;> omega) | exact s_one_map _ | exact s_one_slice _ _ _ _ _ | (refine (id ?_ : plainDraw _ = true); kernel_rfl) | fail) only [sxL, s_castN, s_cells_one, noOv, callFn, kindOf, kindC, kindB, unA, boxA, loadPtr, nilCheckA, fst1, ofValue, ofScalar, len, intBin, ibin, boolO, guardA, cCond, condV, cRet, cExit, cSkip, resOut, resultA, extractA, tupleO, Nat.reduceEqDiff, Nat.reduceAdd, Nat.reduceSub, Nat.reduceLT, Nat.reduceBEq, reduceCtorEq, Nat.reduceMod, Nat.reduceLeDiff, Int.reduceLT, Int.reduceAdd, Int.reduceEq, Int.reduceToNat, s_draw] <;> rfl)); (try (change Gets _ _ _ _ _ _; repeat refine Gets.seq ?_))
  refine Gets.last Tryz.tabOk (ov := noOv) (noOv_ok) 8 (s' := ?sn4) ?hn4 ?kn4; (case hn4 => (simp -implicitDefEqProofs (disch := first | (simp only [ne_eq, Nat.reduceEqDiff, not_false_eq_true, Nat.reduceLT]; done) | assumption | (simp only [s_push_next, s_put_next, Nat.beq_refl]; done) | ((try simp only [s_push_next, s_put_next]) <;> omega) | exact s_one_map _ | exact s_one_slice _ _ _ _ _ | (refine (id ?_ : plainDraw _ = true); kernel_rfl) | fail) only [sxL, s_castN, s_cells_one, noOv, callFn, kindOf, kindC, kindB, unA, boxA, loadPtr, nilCheckA, fst1, ofValue, ofScalar, len, intBin, ibin, boolO, guardA, cCond, condV, cRet, cExit, cSkip, resOut, resultA, extractA, tupleO, Nat.reduceEqDiff, Nat.reduceAdd, Nat.reduceSub, Nat.reduceLT, Nat.reduceBEq, reduceCtorEq, Nat.reduceMod, Nat.reduceLeDiff, Int.reduceLT, Int.reduceAdd, Int.reduceEq, Int.reduceToNat, s_draw, i3, cl0, s_varFalse ia22, hlen] <;> rfl)); (try (change Gets _ _ _ _ _ _; repeat refine Gets.seq ?_))
  refine Gets.uptoH l.length (fun g tm h => CntI H h v rp (totA ((callsL l).take g)) (leftA (fun k => (mGet r k).isSome) [] ((callsL l).take g)) ∧ Bd (leftA (fun k => (mGet r k).isSome) [] ((callsL l).take g)) (totA ((callsL l).take g)) ∧ totA ((callsL l).take g) ≤ g * 40 ∧
    tm.get 2 = some (.ptr H.next 0) ∧ tm.get 3 = some (.ptr (H.next + 1) 0) ∧ tm.get 6 = some (.ptr (H.next + 3) 0) ∧ tm.get 7 = some (.int .i64 (totA ((callsL l).take g) : Int)) ∧ tm.get 19 = some v ∧ tm.get 20 = some (.int .i64 (l.length : Int)) ∧ tm.get 21 = some (.int .i64 (g : Int)))
    ⟨I0, Bd.nil, Nat.zero_le _, by simp (disch := decide) only [sxL, i2], by simp (disch := decide) only [sxL, i3], by simp (disch := decide) only [sxL, i6], by rw [show totA ((callsL l).take 0) = 0 from rfl]; simp (disch := decide) only [sxL], by simp (disch := decide) only [sxL], by simp (disch := decide) only [sxL], by simp (disch := decide) only [sxL]⟩ ?_
  rintro g tm h hg ⟨I, hB, hBg, j2, j3, j6, j7, j19, j20, j21⟩
  repeat refine Gets.seq ?_
  by_cases hlt : (g : Int) < (l.length : Int)
  · obtain ⟨x, hki⟩ : ∃ k, l[g]? = some k := ⟨_, List.getElem?_eq_getElem (by omega)⟩
    have hcg : (callsL l)[g]? = some (callsOf x) := by simp [callsL, hki]
    have hvh := hv.grow hN I.grows
    obtain ⟨b, hx, hc1, _⟩ := hvh.1.row ud22 sz33 LogV.len hki
    have hc : cellIn (h.blks.get b) (g * 1) = some x.v := hc1 0 (by omega)
    have hX := hvh.2 x (List.mem_of_getElem? hki)
    have hX0 := hv.2 x (List.mem_of_getElem? hki)
    have hlx := hX.1.len ud33
    have hx40 := h40 x (List.mem_of_getElem? hki)
    refine Gets.last Tryz.tabOk (ov := noOv) (noOv_ok) 8 (s' := ?sn5) ?hn5 ?kn5; (case hn5 => (simp -implicitDefEqProofs (disch := first | (simp only [ne_eq, Nat.reduceEqDiff, not_false_eq_true, Nat.reduceLT]; done) | assumption | (simp only [s_push_next, s_put_next, Nat.beq_refl]; done) | ((try simp only [s_push_next, s_put_next]) <;> omega) | exact s_one_map _ | exact s_one_slice _ _ _ _ _ | (refine (id ?_ : plainDraw _ = true); kernel_rfl) | fail) only [sxL, s_castN, s_cells_one, noOv, callFn, kindOf, kindC, kindB, unA, boxA, loadPtr, nilCheckA, fst1, ofValue, ofScalar, len, intBin, ibin, boolO, guardA, cCond, condV, cRet, cExit, cSkip, resOut, resultA, extractA, tupleO, Nat.reduceEqDiff, Nat.reduceAdd, Nat.reduceSub, Nat.reduceLT, Nat.reduceBEq, reduceCtorEq, Nat.reduceMod, Nat.reduceLeDiff, Int.reduceLT, Int.reduceAdd, Int.reduceEq, Int.reduceToNat, s_draw, j20, j21, hlt] <;> rfl)); (try (change Gets _ _ _ _ _ _; repeat refine Gets.seq ?_))
    refine Gets.condT (by simp (disch := decide) only [sxL]) (Gets.skip Tryz.tabOk ?_)
    change Gets _ _ _ _ _ _
    refine Gets.seq (Gets.blk ?_)
    repeat refine Gets.seq ?_
    refine Gets.last Tryz.tabOk (ov := noOv) (noOv_ok) 8 (s' := ?sn6) ?hn6 ?kn6; (case hn6 => (simp -implicitDefEqProofs (disch := first | (simp only [ne_eq, Nat.reduceEqDiff, not_false_eq_true, Nat.reduceLT]; done) | assumption | (simp only [s_push_next, s_put_next, Nat.beq_refl]; done) | ((try simp only [s_push_next, s_put_next]) <;> omega) | exact s_one_map _ | exact s_one_slice _ _ _ _ _ | (refine (id ?_ : plainDraw _ = true); kernel_rfl) | fail) only [sxL, s_castN, s_cells_one, noOv, callFn, kindOf, kindC, kindB, unA, boxA, loadPtr, nilCheckA, fst1, ofValue, ofScalar, len, intBin, ibin, boolO, guardA, cCond, condV, cRet, cExit, cSkip, resOut, resultA, extractA, tupleO, Nat.reduceEqDiff, Nat.reduceAdd, Nat.reduceSub, Nat.reduceLT, Nat.reduceBEq, reduceCtorEq, Nat.reduceMod, Nat.reduceLeDiff, Int.reduceLT, Int.reduceAdd, Int.reduceEq, Int.reduceToNat, s_draw, j19, j21, hx, s_varFalse ia33, hc] <;> rfl)); (try (change Gets _ _ _ _ _ _; repeat refine Gets.seq ?_))
    refine Gets.last Tryz.tabOk (ov := noOv) (noOv_ok) 8 (s' := ?sn7) ?hn7 ?kn7; (case hn7 => (simp -implicitDefEqProofs (disch := first | (simp only [ne_eq, Nat.reduceEqDiff, not_false_eq_true, Nat.reduceLT]; done) | assumption | (simp only [s_push_next, s_put_next, Nat.beq_refl]; done) | ((try simp only [s_push_next, s_put_next]) <;> omega) | exact s_one_map _ | exact s_one_slice _ _ _ _ _ | (refine (id ?_ : plainDraw _ = true); kernel_rfl) | fail) only [sxL, s_castN, s_cells_one, noOv, callFn, kindOf, kindC, kindB, unA, boxA, loadPtr, nilCheckA, fst1, ofValue, ofScalar, len, intBin, ibin, boolO, guardA, cCond, condV, cRet, cExit, cSkip, resOut, resultA, extractA, tupleO, Nat.reduceEqDiff, Nat.reduceAdd, Nat.reduceSub, Nat.reduceLT, Nat.reduceBEq, reduceCtorEq, Nat.reduceMod, Nat.reduceLeDiff, Int.reduceLT, Int.reduceAdd, Int.reduceEq, Int.reduceToNat, s_draw, hlx] <;> rfl)); (try (change Gets _ _ _ _ _ _; repeat refine Gets.seq ?_))
    refine Gets.uptoH x.l.length (fun i tm h => CntI H h v rp (totA ((callsL l).take g) + i) (leftL (fun k => (mGet r k).isSome) (leftA (fun k => (mGet r k).isSome) [] ((callsL l).take g)) ((callsOf x).take i)) ∧ Bd (leftL (fun k => (mGet r k).isSome) (leftA (fun k => (mGet r k).isSome) [] ((callsL l).take g)) ((callsOf x).take i)) (totA ((callsL l).take g) + i) ∧
      tm.get 2 = some (.ptr H.next 0) ∧ tm.get 3 = some (.ptr (H.next + 1) 0) ∧ tm.get 6 = some (.ptr (H.next + 3) 0) ∧ tm.get 7 = some (.int .i64 ((totA ((callsL l).take g) + i : Nat) : Int)) ∧ tm.get 19 = some v ∧ tm.get 20 = some (.int .i64 (l.length : Int)) ∧ tm.get 21 = some (.int .i64 (g : Int)) ∧
      tm.get 25 = some x.v ∧ tm.get 26 = some (.int .i64 (x.l.length : Int)) ∧ tm.get 27 = some (.int .i64 (i : Int)))
      ⟨I, hB, by simp (disch := decide) only [sxL, j2], by simp (disch := decide) only [sxL, j3], by simp (disch := decide) only [sxL, j6], by simp -implicitDefEqProofs (disch := first | (simp only [ne_eq, Nat.reduceEqDiff, not_false_eq_true, Nat.reduceLT]; done) | assumption | (simp only [s_push_next, s_put_next, Nat.beq_refl]; done) | ((try simp only [s_push_next, s_put_next]) <;> omega) | exact s_one_map _ | exact s_one_slice _ _ _ _ _ | (refine (id ?_ : plainDraw _ = true); kernel_rfl) | fail) only [sxL, s_castN, s_cells_one, noOv, callFn, kindOf, kindC, kindB, unA, boxA, loadPtr, nilCheckA, fst1, ofValue, ofScalar, len, intBin, ibin, boolO, guardA, cCond, condV, cRet, cExit, cSkip, resOut, resultA, extractA, tupleO, Nat.reduceEqDiff, Nat.reduceAdd, Nat.reduceSub, Nat.reduceLT, Nat.reduceBEq, reduceCtorEq, Nat.reduceMod, Nat.reduceLeDiff, Int.reduceLT, Int.reduceAdd, Int.reduceEq, Int.reduceToNat, j7, Nat.add_zero], by simp (disch := decide) only [sxL, j19], by simp (disch := decide) only [sxL, j20], by simp (disch := decide) only [sxL, j21], by simp (disch := decide) only [sxL], by simp (disch := decide) only [sxL], by simp (disch := decide) only [sxL]⟩ ?_
    rintro i tm h hi ⟨I, hB, j2, j3, j6, j7, j19, j20, j21, j25, j26, j27⟩
    repeat refine Gets.seq ?_
    by_cases hlt' : (i : Int) < (x.l.length : Int)
    · obtain ⟨cd, hcd⟩ : ∃ k, x.l[i]? = some k := ⟨_, List.getElem?_eq_getElem (by omega)⟩
      have hk : (callsOf x)[i]? = some cd.cmd.call := by simp [callsOf, hcd]
      have hX1 := hX0.grow hN I.grows
      obtain ⟨b', hx', hcc1, hcc2⟩ := hX1.1.row ud33 sz44 CmdK.len hcd
      have hcc : Sx.cellsIn (h.blks.get b') (i * 24) 24 = some cd.cmd.cells := hcc2 0 24 (by omega)
      have hst0 := hX1.2 cd (List.mem_of_getElem? hcd)
      have hst : storePtr Tryz.tab (h.push (.cells 44 true zcells)) 44 (.ptr h.next 0) (.agg cd.cmd.cells) = some (putBlk (h.push (.cells 44 true zcells)) h.next (some (.cells 44 true cd.cmd.cells))) :=
        store_full (s_push_same _ _) sz44 rfl (CmdV.one hst0.one) (by simp [CmdV.cells])
      have hI1 : CntI H (putBlk (h.push (.cells 44 true zcells)) h.next (some (.cells 44 true cd.cmd.cells))) v rp (totA ((callsL l).take g) + i + 1) (leftL (fun k => (mGet r k).isSome) (leftA (fun k => (mGet r k).isSome) [] ((callsL l).take g)) ((callsOf x).take i)) :=
        (I.push _).put (by have := I.next; omega) (by rw [s_push_next]; omega) _
      have hat : (putBlk (h.push (.cells 44 true zcells)) h.next (some (.cells 44 true cd.cmd.cells))).blks.get h.next = some (.cells 44 true cd.cmd.cells) := s_put_same _ _ _
      refine Gets.last Tryz.tabOk (ov := noOv) (noOv_ok) 8 (s' := ?sn8) ?hn8 ?kn8; (case hn8 => (simp -implicitDefEqProofs (disch := first | (simp only [ne_eq, Nat.reduceEqDiff, not_false_eq_true, Nat.reduceLT]; done) | assumption | (simp only [s_push_next, s_put_next, Nat.beq_refl]; done) | ((try simp only [s_push_next, s_put_next]) <;> omega) | exact s_one_map _ | exact s_one_slice _ _ _ _ _ | (refine (id ?_ : plainDraw _ = true); kernel_rfl) | fail) only [sxL, s_castN, s_cells_one, noOv, callFn, kindOf, kindC, kindB, unA, boxA, loadPtr, nilCheckA, fst1, ofValue, ofScalar, len, intBin, ibin, boolO, guardA, cCond, condV, cRet, cExit, cSkip, resOut, resultA, extractA, tupleO, Nat.reduceEqDiff, Nat.reduceAdd, Nat.reduceSub, Nat.reduceLT, Nat.reduceBEq, reduceCtorEq, Nat.reduceMod, Nat.reduceLeDiff, Int.reduceLT, Int.reduceAdd, Int.reduceEq, Int.reduceToNat, s_draw, j26, j27, hlt'] <;> rfl)); (try (change Gets _ _ _ _ _ _; repeat refine Gets.seq ?_))
      refine Gets.condT (by simp (disch := decide) only [sxL]) (Gets.skip Tryz.tabOk ?_)
      change Gets _ _ _ _ _ _
      refine Gets.seq (Gets.blk ?_)
      repeat refine Gets.seq ?_
      refine Gets.last Tryz.tabOk (ov := noOv) (noOv_ok) 8 (s' := ?sn9) ?hn9 ?kn9; (case hn9 => (simp -implicitDefEqProofs (disch := first | (simp only [ne_eq, Nat.reduceEqDiff, not_false_eq_true, Nat.reduceLT]; done) | assumption | (simp only [s_push_next, s_put_next, Nat.beq_refl]; done) | ((try simp only [s_push_next, s_put_next]) <;> omega) | exact s_one_map _ | exact s_one_slice _ _ _ _ _ | (refine (id ?_ : plainDraw _ = true); kernel_rfl) | fail) only [sxL, s_castN, s_cells_one, noOv, callFn, kindOf, kindC, kindB, unA, boxA, loadPtr, nilCheckA, fst1, ofValue, ofScalar, len, intBin, ibin, boolO, guardA, cCond, condV, cRet, cExit, cSkip, resOut, resultA, extractA, tupleO, Nat.reduceEqDiff, Nat.reduceAdd, Nat.reduceSub, Nat.reduceLT, Nat.reduceBEq, reduceCtorEq, Nat.reduceMod, Nat.reduceLeDiff, Int.reduceLT, Int.reduceAdd, Int.reduceEq, Int.reduceToNat, s_draw, j25, j27, hx', s_varTrue ia44 sz44, hcc, zero44, zc_one, hst] <;> rfl)); (try (change Gets _ _ _ _ _ _; repeat refine Gets.seq ?_))
      generalize putBlk (h.push (.cells 44 true zcells)) h.next (some (.cells 44 true cd.cmd.cells)) = h1 at hI1 hat
      obtain ⟨w, y1, y2, e1, e2, e3⟩ := hr.grow hN hI1.grows
      have r2 : cellIn (h1.blks.get rp) 2 = some (.map y2) := by rw [e1]; rfl
      have p1 : cellIn (h1.blks.get H.next) 0 = some (.ptr rp 0) := by rw [hI1.ph]; rfl
      have p3 : cellIn (h1.blks.get (H.next + 3)) 0 = some (.map (H.next + 2)) := by rw [hI1.pm]; rfl
      have kc : cellIn (h1.blks.get h.next) 1 = some (.int .i64 cd.cmd.call) := by rw [hat]; rfl
      have hleft := leftL_snoc (told := fun k => (mGet r k).isSome) (m := leftA (fun k => (mGet r k).isSome) [] ((callsL l).take g)) hk
      have hBk := hB.inc (fun k => (mGet r k).isSome) cd.cmd.call
      have hBc := hB cd.cmd.call
      rw [← hleft] at hBk
      generalize leftL (fun k => (mGet r k).isSome) (leftA (fun k => (mGet r k).isSome) [] ((callsL l).take g)) ((callsOf x).take i) = left at *
      generalize leftL (fun k => (mGet r k).isSome) (leftA (fun k => (mGet r k).isSome) [] ((callsL l).take g)) ((callsOf x).take (i + 1)) = left' at *
      generalize hn : totA ((callsL l).take g) + i = n at *
      have hw : awrap .i64 ((n : Int) + 1) = (n : Int) + 1 := s_wrap (by omega) (by omega)
      have hw' : awrap .i64 ((i : Int) + 1) = (i : Int) + 1 := s_wrap (by omega) (by omega)
      have hwl : awrap .i64 ((mGet left cd.cmd.call).getD 0 + 1) = (mGet left cd.cmd.call).getD 0 + 1 := s_wrap (by omega) (by omega)
      refine Gets.last Tryz.tabOk (ov := noOv) (noOv_ok) 8 (s' := ?sn10) ?hn10 ?kn10; (case hn10 => (simp -implicitDefEqProofs (disch := first | (simp only [ne_eq, Nat.reduceEqDiff, not_false_eq_true, Nat.reduceLT]; done) | assumption | (simp only [s_push_next, s_put_next, Nat.beq_refl]; done) | ((try simp only [s_push_next, s_put_next]) <;> omega) | exact s_one_map _ | exact s_one_slice _ _ _ _ _ | (refine (id ?_ : plainDraw _ = true); kernel_rfl) | fail) only [sxL, s_castN, s_cells_one, noOv, callFn, kindOf, kindC, kindB, unA, boxA, loadPtr, nilCheckA, fst1, ofValue, ofScalar, len, intBin, ibin, boolO, guardA, cCond, condV, cRet, cExit, cSkip, resOut, resultA, extractA, tupleO, Nat.reduceEqDiff, Nat.reduceAdd, Nat.reduceSub, Nat.reduceLT, Nat.reduceBEq, reduceCtorEq, Nat.reduceMod, Nat.reduceLeDiff, Int.reduceLT, Int.reduceAdd, Int.reduceEq, Int.reduceToNat, s_draw, j2, p1, s_varFalse ia69, fa80_2, s_varFalse ia78, r2, fa44_1, s_varFalse ia3, kc, look78 e3] <;> rfl)); (try (change Gets _ _ _ _ _ _; repeat refine Gets.seq ?_))
      refine Gets.last Tryz.tabOk (ov := noOv) (noOv_ok) 8 (s' := ?sn11) ?hn11 ?kn11; (case hn11 => (simp -implicitDefEqProofs (disch := first | (simp only [ne_eq, Nat.reduceEqDiff, not_false_eq_true, Nat.reduceLT]; done) | assumption | (simp only [s_push_next, s_put_next, Nat.beq_refl]; done) | ((try simp only [s_push_next, s_put_next]) <;> omega) | exact s_one_map _ | exact s_one_slice _ _ _ _ _ | (refine (id ?_ : plainDraw _ = true); kernel_rfl) | fail) only [sxL, s_castN, s_cells_one, noOv, callFn, kindOf, kindC, kindB, unA, boxA, loadPtr, nilCheckA, fst1, ofValue, ofScalar, len, intBin, ibin, boolO, guardA, cCond, condV, cRet, cExit, cSkip, resOut, resultA, extractA, tupleO, Nat.reduceEqDiff, Nat.reduceAdd, Nat.reduceSub, Nat.reduceLT, Nat.reduceBEq, reduceCtorEq, Nat.reduceMod, Nat.reduceLeDiff, Int.reduceLT, Int.reduceAdd, Int.reduceEq, Int.reduceToNat, s_draw] <;> rfl)); (try (change Gets _ _ _ _ _ _; repeat refine Gets.seq ?_))
      cases ht : (mGet r cd.cmd.call).isSome
      · have hl' : left' = left := by rw [hleft]; simp [incL, ht]
        refine Gets.condF (by simp (disch := decide) only [sxL, ht]) (Gets.skip Tryz.tabOk ?_)
        change Gets _ _ _ _ _ _
        refine Gets.last Tryz.tabOk (ov := noOv) (noOv_ok) 8 (s' := ?sn12) ?hn12 ?kn12; (case hn12 => (simp -implicitDefEqProofs (disch := first | (simp only [ne_eq, Nat.reduceEqDiff, not_false_eq_true, Nat.reduceLT]; done) | assumption | (simp only [s_push_next, s_put_next, Nat.beq_refl]; done) | ((try simp only [s_push_next, s_put_next]) <;> omega) | exact s_one_map _ | exact s_one_slice _ _ _ _ _ | (refine (id ?_ : plainDraw _ = true); kernel_rfl) | fail) only [sxL, s_castN, s_cells_one, noOv, callFn, kindOf, kindC, kindB, unA, boxA, loadPtr, nilCheckA, fst1, ofValue, ofScalar, len, intBin, ibin, boolO, guardA, cCond, condV, cRet, cExit, cSkip, resOut, resultA, extractA, tupleO, Nat.reduceEqDiff, Nat.reduceAdd, Nat.reduceSub, Nat.reduceLT, Nat.reduceBEq, reduceCtorEq, Nat.reduceMod, Nat.reduceLeDiff, Int.reduceLT, Int.reduceAdd, Int.reduceEq, Int.reduceToNat, s_draw, j7, hw] <;> rfl)); (try (change Gets _ _ _ _ _ _; repeat refine Gets.seq ?_))
        refine Gets.last Tryz.tabOk (ov := noOv) (noOv_ok) 8 (s' := ?sn13) ?hn13 ?kn13; (case hn13 => (simp -implicitDefEqProofs (disch := first | (simp only [ne_eq, Nat.reduceEqDiff, not_false_eq_true, Nat.reduceLT]; done) | assumption | (simp only [s_push_next, s_put_next, Nat.beq_refl]; done) | ((try simp only [s_push_next, s_put_next]) <;> omega) | exact s_one_map _ | exact s_one_slice _ _ _ _ _ | (refine (id ?_ : plainDraw _ = true); kernel_rfl) | fail) only [sxL, s_castN, s_cells_one, noOv, callFn, kindOf, kindC, kindB, unA, boxA, loadPtr, nilCheckA, fst1, ofValue, ofScalar, len, intBin, ibin, boolO, guardA, cCond, condV, cRet, cExit, cSkip, resOut, resultA, extractA, tupleO, Nat.reduceEqDiff, Nat.reduceAdd, Nat.reduceSub, Nat.reduceLT, Nat.reduceBEq, reduceCtorEq, Nat.reduceMod, Nat.reduceLeDiff, Int.reduceLT, Int.reduceAdd, Int.reduceEq, Int.reduceToNat, s_draw, j27, hw'] <;> rfl)); (try (change Gets _ _ _ _ _ _; repeat refine Gets.seq ?_))
        refine ⟨_, _, rfl, by omega, ?_, ?_, ?_, ?_, ?_, ?_, ?_, ?_, ?_, ?_, ?_, ?_⟩
        · rw [hl', show totA ((callsL l).take g) + (i + 1) = n + 1 by omega]; exact hI1
        · rw [show totA ((callsL l).take g) + (i + 1) = n + 1 by omega]; exact hBk
        · simp (disch := decide) only [sxL, j2]
        · simp (disch := decide) only [sxL, j3]
        · simp (disch := decide) only [sxL, j6]
        · rw [show totA ((callsL l).take g) + (i + 1) = n + 1 by omega]; simp (disch := decide) only [sxL, s_castS]
        · simp (disch := decide) only [sxL, j19]
        · simp (disch := decide) only [sxL, j20]
        · simp (disch := decide) only [sxL, j21]
        · simp (disch := decide) only [sxL, j25]
        · simp (disch := decide) only [sxL, j26]
        · simp (disch := decide) only [sxL, s_castS]
      · have hl' : left' = mUpd left cd.cmd.call ((mGet left cd.cmd.call).getD 0 + 1) := by rw [hleft]; simp [incL, ht]
        refine Gets.condT (by simp (disch := decide) only [sxL, ht]) ?_
        refine Gets.last Tryz.tabOk (ov := noOv) (noOv_ok) 8 (s' := ?sn14) ?hn14 ?kn14; (case hn14 => (simp -implicitDefEqProofs (disch := first | (simp only [ne_eq, Nat.reduceEqDiff, not_false_eq_true, Nat.reduceLT]; done) | assumption | (simp only [s_push_next, s_put_next, Nat.beq_refl]; done) | ((try simp only [s_push_next, s_put_next]) <;> omega) | exact s_one_map _ | exact s_one_slice _ _ _ _ _ | (refine (id ?_ : plainDraw _ = true); kernel_rfl) | fail) only [sxL, s_castN, s_cells_one, noOv, callFn, kindOf, kindC, kindB, unA, boxA, loadPtr, nilCheckA, fst1, ofValue, ofScalar, len, intBin, ibin, boolO, guardA, cCond, condV, cRet, cExit, cSkip, resOut, resultA, extractA, tupleO, Nat.reduceEqDiff, Nat.reduceAdd, Nat.reduceSub, Nat.reduceLT, Nat.reduceBEq, reduceCtorEq, Nat.reduceMod, Nat.reduceLeDiff, Int.reduceLT, Int.reduceAdd, Int.reduceEq, Int.reduceToNat, s_draw, j6, p3, s_varFalse ia78, fa44_1, s_varFalse ia3, kc, look78f hI1.lm, hwl, upd78 hI1.lm] <;> rfl)); (try (change Gets _ _ _ _ _ _; repeat refine Gets.seq ?_))
        refine Gets.last Tryz.tabOk (ov := noOv) (noOv_ok) 8 (s' := ?sn15) ?hn15 ?kn15; (case hn15 => (simp -implicitDefEqProofs (disch := first | (simp only [ne_eq, Nat.reduceEqDiff, not_false_eq_true, Nat.reduceLT]; done) | assumption | (simp only [s_push_next, s_put_next, Nat.beq_refl]; done) | ((try simp only [s_push_next, s_put_next]) <;> omega) | exact s_one_map _ | exact s_one_slice _ _ _ _ _ | (refine (id ?_ : plainDraw _ = true); kernel_rfl) | fail) only [sxL, s_castN, s_cells_one, noOv, callFn, kindOf, kindC, kindB, unA, boxA, loadPtr, nilCheckA, fst1, ofValue, ofScalar, len, intBin, ibin, boolO, guardA, cCond, condV, cRet, cExit, cSkip, resOut, resultA, extractA, tupleO, Nat.reduceEqDiff, Nat.reduceAdd, Nat.reduceSub, Nat.reduceLT, Nat.reduceBEq, reduceCtorEq, Nat.reduceMod, Nat.reduceLeDiff, Int.reduceLT, Int.reduceAdd, Int.reduceEq, Int.reduceToNat, s_draw, j7, hw] <;> rfl)); (try (change Gets _ _ _ _ _ _; repeat refine Gets.seq ?_))
        refine Gets.last Tryz.tabOk (ov := noOv) (noOv_ok) 8 (s' := ?sn16) ?hn16 ?kn16; (case hn16 => (simp -implicitDefEqProofs (disch := first | (simp only [ne_eq, Nat.reduceEqDiff, not_false_eq_true, Nat.reduceLT]; done) | assumption | (simp only [s_push_next, s_put_next, Nat.beq_refl]; done) | ((try simp only [s_push_next, s_put_next]) <;> omega) | exact s_one_map _ | exact s_one_slice _ _ _ _ _ | (refine (id ?_ : plainDraw _ = true); kernel_rfl) | fail) only [sxL, s_castN, s_cells_one, noOv, callFn, kindOf, kindC, kindB, unA, boxA, loadPtr, nilCheckA, fst1, ofValue, ofScalar, len, intBin, ibin, boolO, guardA, cCond, condV, cRet, cExit, cSkip, resOut, resultA, extractA, tupleO, Nat.reduceEqDiff, Nat.reduceAdd, Nat.reduceSub, Nat.reduceLT, Nat.reduceBEq, reduceCtorEq, Nat.reduceMod, Nat.reduceLeDiff, Int.reduceLT, Int.reduceAdd, Int.reduceEq, Int.reduceToNat, s_draw, j27, hw'] <;> rfl)); (try (change Gets _ _ _ _ _ _; repeat refine Gets.seq ?_))
        refine ⟨_, _, rfl, by omega, ?_, ?_, ?_, ?_, ?_, ?_, ?_, ?_, ?_, ?_, ?_, ?_⟩
        · rw [hl', show totA ((callsL l).take g) + (i + 1) = n + 1 by omega]; exact hI1.putMap _
        · rw [show totA ((callsL l).take g) + (i + 1) = n + 1 by omega]; exact hBk
        · simp (disch := decide) only [sxL, j2]
        · simp (disch := decide) only [sxL, j3]
        · simp (disch := decide) only [sxL, j6]
        · rw [show totA ((callsL l).take g) + (i + 1) = n + 1 by omega]; simp (disch := decide) only [sxL, s_castS]
        · simp (disch := decide) only [sxL, j19]
        · simp (disch := decide) only [sxL, j20]
        · simp (disch := decide) only [sxL, j21]
        · simp (disch := decide) only [sxL, j25]
        · simp (disch := decide) only [sxL, j26]
        · simp (disch := decide) only [sxL, s_castS]
    · have hil : i = x.l.length := by omega
      have htk : (callsOf x).take i = callsOf x := List.take_of_length_le (by simp [callsOf]; omega)
      rw [htk, ← leftA_snoc hcg] at I hB
      have hts := totA_snoc hcg
      have hcl : (callsOf x).length = x.l.length := by simp [callsOf]
      rw [hcl, ← hil] at hts
      rw [← hts] at I hB j7
      refine Gets.last Tryz.tabOk (ov := noOv) (noOv_ok) 8 (s' := ?sn17) ?hn17 ?kn17; (case hn17 => (simp -implicitDefEqProofs (disch := first | (simp only [ne_eq, Nat.reduceEqDiff, not_false_eq_true, Nat.reduceLT]; done) | assumption | (simp only [s_push_next, s_put_next, Nat.beq_refl]; done) | ((try simp only [s_push_next, s_put_next]) <;> omega) | exact s_one_map _ | exact s_one_slice _ _ _ _ _ | (refine (id ?_ : plainDraw _ = true); kernel_rfl) | fail) only [sxL, s_castN, s_cells_one, noOv, callFn, kindOf, kindC, kindB, unA, boxA, loadPtr, nilCheckA, fst1, ofValue, ofScalar, len, intBin, ibin, boolO, guardA, cCond, condV, cRet, cExit, cSkip, resOut, resultA, extractA, tupleO, Nat.reduceEqDiff, Nat.reduceAdd, Nat.reduceSub, Nat.reduceLT, Nat.reduceBEq, reduceCtorEq, Nat.reduceMod, Nat.reduceLeDiff, Int.reduceLT, Int.reduceAdd, Int.reduceEq, Int.reduceToNat, s_draw, j26, j27, hlt'] <;> rfl)); (try (change Gets _ _ _ _ _ _; repeat refine Gets.seq ?_))
      refine Gets.condF (by simp (disch := decide) only [sxL]) (Gets.exit Tryz.tabOk ?_)
      refine inBlk_exit ?_
      change Gets _ _ _ _ _ _
      have hw' : awrap .i64 ((g : Int) + 1) = (g : Int) + 1 := s_wrap (by omega) (by omega)
      refine Gets.last Tryz.tabOk (ov := noOv) (noOv_ok) 8 (s' := ?sn18) ?hn18 ?kn18; (case hn18 => (simp -implicitDefEqProofs (disch := first | (simp only [ne_eq, Nat.reduceEqDiff, not_false_eq_true, Nat.reduceLT]; done) | assumption | (simp only [s_push_next, s_put_next, Nat.beq_refl]; done) | ((try simp only [s_push_next, s_put_next]) <;> omega) | exact s_one_map _ | exact s_one_slice _ _ _ _ _ | (refine (id ?_ : plainDraw _ = true); kernel_rfl) | fail) only [sxL, s_castN, s_cells_one, noOv, callFn, kindOf, kindC, kindB, unA, boxA, loadPtr, nilCheckA, fst1, ofValue, ofScalar, len, intBin, ibin, boolO, guardA, cCond, condV, cRet, cExit, cSkip, resOut, resultA, extractA, tupleO, Nat.reduceEqDiff, Nat.reduceAdd, Nat.reduceSub, Nat.reduceLT, Nat.reduceBEq, reduceCtorEq, Nat.reduceMod, Nat.reduceLeDiff, Int.reduceLT, Int.reduceAdd, Int.reduceEq, Int.reduceToNat, s_draw, j21, hw'] <;> rfl)); (try (change Gets _ _ _ _ _ _; repeat refine Gets.seq ?_))
      refine ⟨_, _, rfl, by omega, I, hB, by omega, ?_, ?_, ?_, ?_, ?_, ?_, ?_⟩
      · simp (disch := decide) only [sxL, j2]
      · simp (disch := decide) only [sxL, j3]
      · simp (disch := decide) only [sxL, j6]
      · simp (disch := decide) only [sxL, j7]
      · simp (disch := decide) only [sxL, j19]
      · simp (disch := decide) only [sxL, j20]
      · simp (disch := decide) only [sxL, s_castS]
  have hgl : g = l.length := by omega
  have htk : (callsL l).take g = callsL l := List.take_of_length_le (by simp [callsL]; omega)
  rw [htk] at I hB j7
  refine Gets.last Tryz.tabOk (ov := noOv) (noOv_ok) 8 (s' := ?sn19) ?hn19 ?kn19; (case hn19 => (simp -implicitDefEqProofs (disch := first | (simp only [ne_eq, Nat.reduceEqDiff, not_false_eq_true, Nat.reduceLT]; done) | assumption | (simp only [s_push_next, s_put_next, Nat.beq_refl]; done) | ((try simp only [s_push_next, s_put_next]) <;> omega) | exact s_one_map _ | exact s_one_slice _ _ _ _ _ | (refine (id ?_ : plainDraw _ = true); kernel_rfl) | fail) only [sxL, s_castN, s_cells_one, noOv, callFn, kindOf, kindC, kindB, unA, boxA, loadPtr, nilCheckA, fst1, ofValue, ofScalar, len, intBin, ibin, boolO, guardA, cCond, condV, cRet, cExit, cSkip, resOut, resultA, extractA, tupleO, Nat.reduceEqDiff, Nat.reduceAdd, Nat.reduceSub, Nat.reduceLT, Nat.reduceBEq, reduceCtorEq, Nat.reduceMod, Nat.reduceLeDiff, Int.reduceLT, Int.reduceAdd, Int.reduceEq, Int.reduceToNat, s_draw, j20, j21, hlt] <;> rfl)); (try (change Gets _ _ _ _ _ _; repeat refine Gets.seq ?_))
  refine Gets.condF (by simp (disch := decide) only [sxL]) (Gets.exit Tryz.tabOk ?_)
  refine inBlk_exit ?_
  change Gets _ _ _ _ _ _
  repeat refine Gets.seq ?_
  have hcl : (callsL l).length = l.length := by simp [callsL]
  have hR : mergeR c r (callsL l) = mergeGo (bfB c r) (callsL l) (totA (callsL l)) ((callsL l).map fun _ => 0) (leftA (fun k => (mGet r k).isSome) [] (callsL l)) := rfl
  have hrep : ((callsL l).map fun _ => 0) = List.replicate l.length 0 := by rw [List.map_const', hcl]
  rw [hrep] at hR
  have hAt0 : AtIn (callsL l) (List.replicate l.length 0) := ⟨by simp [hcl], fun g lg i h1 h2 => by
    have h3 := (List.getElem?_eq_some_iff.1 h2).2
    simp at h3; omega⟩
  generalize leftA (fun k => (mGet r k).isSome) [] (callsL l) = left at *
  have hn0 : H.next + 6 ≤ H.next + 6 + totA (callsL l) := by omega
  refine Gets.midH (I := fun tm h => RunI H h v rp (H.next + 6 + totA (callsL l)) l.length (List.replicate l.length 0) left [] ∧ tm.get 2 = some (.ptr H.next 0) ∧ tm.get 3 = some (.ptr (H.next + 1) 0) ∧ tm.get 6 = some (.ptr (H.next + 3) 0) ∧
    tm.get 7 = some (.int .i64 (totA (callsL l) : Int)) ∧ tm.get 14 = some (.ptr (H.next + 6 + totA (callsL l) - 1) 0)) ?_ ?_
  · have cl1 : cellIn (h.blks.get (H.next + 1)) 0 = some v := by rw [I.pl]; rfl
    have hnx := I.next
    refine Gets.last Tryz.tabOk (ov := noOv) (noOv_ok) 8 (s' := ?sn20) ?hn20 ?kn20; (case hn20 => (simp -implicitDefEqProofs (disch := first | (simp only [ne_eq, Nat.reduceEqDiff, not_false_eq_true, Nat.reduceLT]; done) | assumption | (simp only [s_push_next, s_put_next, Nat.beq_refl]; done) | ((try simp only [s_push_next, s_put_next]) <;> omega) | exact s_one_map _ | exact s_one_slice _ _ _ _ _ | (refine (id ?_ : plainDraw _ = true); kernel_rfl) | fail) only [sxL, s_castN, s_cells_one, noOv, callFn, kindOf, kindC, kindB, unA, boxA, loadPtr, nilCheckA, fst1, ofValue, ofScalar, len, intBin, ibin, boolO, guardA, cCond, condV, cRet, cExit, cSkip, resOut, resultA, extractA, tupleO, Nat.reduceEqDiff, Nat.reduceAdd, Nat.reduceSub, Nat.reduceLT, Nat.reduceBEq, reduceCtorEq, Nat.reduceMod, Nat.reduceLeDiff, Int.reduceLT, Int.reduceAdd, Int.reduceEq, Int.reduceToNat, s_draw, j3, cl1, s_varFalse ia22, hlen, make27 _ _ (show l.length ≤ 500 by omega), zero27, s_st1 sz27] <;> rfl)); (try (change Gets _ _ _ _ _ _; repeat refine Gets.seq ?_))
    refine ⟨rfl, _, _, rfl, RunI.start I l.length, ?_, ?_, ?_, ?_, ?_⟩
    · simp (disch := decide) only [sxL, j2]
    · simp (disch := decide) only [sxL, j3]
    · simp (disch := decide) only [sxL, j6]
    · simp (disch := decide) only [sxL, j7]
    · rw [show H.next + 6 + totA (callsL l) - 1 = h.next + 1 by omega]; simp (disch := decide) only [sxL]
  generalize hn0' : H.next + 6 + totA (callsL l) = n0 at *
  clear I
  rintro tm h ⟨I, i2, i3, i6, i7, i14⟩
  change Gets _ _ _ _ _ _
  repeat refine Gets.seq ?_
  refine Gets.last Tryz.tabOk (ov := noOv) (noOv_ok) 8 (s' := ?sn21) ?hn21 ?kn21; (case hn21 => (simp -implicitDefEqProofs (disch := first | (simp only [ne_eq, Nat.reduceEqDiff, not_false_eq_true, Nat.reduceLT]; done) | assumption | (simp only [s_push_next, s_put_next, Nat.beq_refl]; done) | ((try simp only [s_push_next, s_put_next]) <;> omega) | exact s_one_map _ | exact s_one_slice _ _ _ _ _ | (refine (id ?_ : plainDraw _ = true); kernel_rfl) | fail) only [sxL, s_castN, s_cells_one, noOv, callFn, kindOf, kindC, kindB, unA, boxA, loadPtr, nilCheckA, fst1, ofValue, ofScalar, len, intBin, ibin, boolO, guardA, cCond, condV, cRet, cExit, cSkip, resOut, resultA, extractA, tupleO, Nat.reduceEqDiff, Nat.reduceAdd, Nat.reduceSub, Nat.reduceLT, Nat.reduceBEq, reduceCtorEq, Nat.reduceMod, Nat.reduceLeDiff, Int.reduceLT, Int.reduceAdd, Int.reduceEq, Int.reduceToNat, s_draw, z_opMF, i2, i3, i6, i14] <;> rfl)); (try (change Gets _ _ _ _ _ _; repeat refine Gets.seq ?_))
  refine Gets.last Tryz.tabOk (ov := noOv) (noOv_ok) 8 (s' := ?sn22) ?hn22 ?kn22; (case hn22 => (simp -implicitDefEqProofs (disch := first | (simp only [ne_eq, Nat.reduceEqDiff, not_false_eq_true, Nat.reduceLT]; done) | assumption | (simp only [s_push_next, s_put_next, Nat.beq_refl]; done) | ((try simp only [s_push_next, s_put_next]) <;> omega) | exact s_one_map _ | exact s_one_slice _ _ _ _ _ | (refine (id ?_ : plainDraw _ = true); kernel_rfl) | fail) only [sxL, s_castN, s_cells_one, noOv, callFn, kindOf, kindC, kindB, unA, boxA, loadPtr, nilCheckA, fst1, ofValue, ofScalar, len, intBin, ibin, boolO, guardA, cCond, condV, cRet, cExit, cSkip, resOut, resultA, extractA, tupleO, Nat.reduceEqDiff, Nat.reduceAdd, Nat.reduceSub, Nat.reduceLT, Nat.reduceBEq, reduceCtorEq, Nat.reduceMod, Nat.reduceLeDiff, Int.reduceLT, Int.reduceAdd, Int.reduceEq, Int.reduceToNat, s_draw] <;> rfl)); (try (change Gets _ _ _ _ _ _; repeat refine Gets.seq ?_))
  refine Gets.label Tryz.tabOk ?_
  change Gets _ _ _ _ _ _
  refine Gets.seq ?_
  generalize htot' : totA (callsL l) = tot at *
  refine Gets.uptoH tot (fun i tm h => ∃ at_ left pre, RunI H h v rp n0 l.length at_ left pre ∧ pre.length = i ∧ AtIn (callsL l) at_ ∧ Bd left (tot + i) ∧ (mergeGo (bfB c r) (callsL l) (tot - i) at_ left).map (pre ++ ·) = mergeR c r (callsL l) ∧
    tm.get 3 = some (.ptr (H.next + 1) 0) ∧ tm.get 6 = some (.ptr (H.next + 3) 0) ∧ tm.get 7 = some (.int .i64 (tot : Int)) ∧ tm.get 14 = some (.ptr (n0 - 1) 0) ∧
    tm.get 15 = some (.func (.func 42) [] [.ptr (n0 - 1) 0, .ptr (H.next + 1) 0, .ptr (H.next + 3) 0, .ptr H.next 0]) ∧ tm.get 16 = some (outV (n0 + 2 * i - 1) (natL pre)))
    ⟨_, left, [], I, rfl, hAt0, hB, by rw [hR]; simp, by simp (disch := decide) only [sxL, i3], by simp (disch := decide) only [sxL, i6], by simp (disch := decide) only [sxL, i7], by simp (disch := decide) only [sxL, i14], by simp (disch := decide) only [sxL], by simp (disch := decide) only [sxL]; rfl⟩ ?_
  rintro i tm h hi ⟨at_, left, pre, I, hpl, hA, hB, hgo, i3, i6, i7, i14, i15, i16⟩
  repeat refine Gets.seq ?_
  have hol : lenA Tryz.tab h 27 (outV (n0 + 2 * i - 1) (natL pre)) = some (.int .i64 (i : Int)) := by rw [outV_len, natL_len, hpl]
  by_cases hlt : (i : Int) < (tot : Int)
  · refine Gets.last Tryz.tabOk (ov := noOv) (noOv_ok) 8 (s' := ?sn23) ?hn23 ?kn23; (case hn23 => (simp -implicitDefEqProofs (disch := first | (simp only [ne_eq, Nat.reduceEqDiff, not_false_eq_true, Nat.reduceLT]; done) | assumption | (simp only [s_push_next, s_put_next, Nat.beq_refl]; done) | ((try simp only [s_push_next, s_put_next]) <;> omega) | exact s_one_map _ | exact s_one_slice _ _ _ _ _ | (refine (id ?_ : plainDraw _ = true); kernel_rfl) | fail) only [sxL, s_castN, s_cells_one, noOv, callFn, kindOf, kindC, kindB, unA, boxA, loadPtr, nilCheckA, fst1, ofValue, ofScalar, len, intBin, ibin, boolO, guardA, cCond, condV, cRet, cExit, cSkip, resOut, resultA, extractA, tupleO, Nat.reduceEqDiff, Nat.reduceAdd, Nat.reduceSub, Nat.reduceLT, Nat.reduceBEq, reduceCtorEq, Nat.reduceMod, Nat.reduceLeDiff, Int.reduceLT, Int.reduceAdd, Int.reduceEq, Int.reduceToNat, s_draw, i16, i7, hol, hlt] <;> rfl)); (try (change Gets _ _ _ _ _ _; repeat refine Gets.seq ?_))
    refine Gets.condT (by simp (disch := decide) only [sxL]) (Gets.skip Tryz.tabOk ?_)
    change Gets _ _ _ _ _ _
    refine Gets.blk ?_
    repeat refine Gets.seq ?_
    have cl1 : cellIn (h.blks.get (H.next + 1)) 0 = some v := by rw [I.pl]; rfl
    refine Gets.last Tryz.tabOk (ov := noOv) (noOv_ok) 8 (s' := ?sn24) ?hn24 ?kn24; (case hn24 => (simp -implicitDefEqProofs (disch := first | (simp only [ne_eq, Nat.reduceEqDiff, not_false_eq_true, Nat.reduceLT]; done) | assumption | (simp only [s_push_next, s_put_next, Nat.beq_refl]; done) | ((try simp only [s_push_next, s_put_next]) <;> omega) | exact s_one_map _ | exact s_one_slice _ _ _ _ _ | (refine (id ?_ : plainDraw _ = true); kernel_rfl) | fail) only [sxL, s_castN, s_cells_one, noOv, callFn, kindOf, kindC, kindB, unA, boxA, loadPtr, nilCheckA, fst1, ofValue, ofScalar, len, intBin, ibin, boolO, guardA, cCond, condV, cRet, cExit, cSkip, resOut, resultA, extractA, tupleO, Nat.reduceEqDiff, Nat.reduceAdd, Nat.reduceSub, Nat.reduceLT, Nat.reduceBEq, reduceCtorEq, Nat.reduceMod, Nat.reduceLeDiff, Int.reduceLT, Int.reduceAdd, Int.reduceEq, Int.reduceToNat, s_draw, i3, cl1, s_varFalse ia22, hlen] <;> rfl)); (try (change Gets _ _ _ _ _ _; repeat refine Gets.seq ?_))
    have hal : at_.length = l.length := by rw [hA.1, hcl]
    have hM := I.may hN hr hv rfl hal
    refine Gets.upto l.length (fun g tm => nextG (bfB c r) left ((callsL l).drop g) (at_.drop g) g = nextG (bfB c r) left (callsL l) at_ 0 ∧
      tm.get 3 = some (.ptr (H.next + 1) 0) ∧ tm.get 6 = some (.ptr (H.next + 3) 0) ∧ tm.get 7 = some (.int .i64 (tot : Int)) ∧ tm.get 14 = some (.ptr (n0 - 1) 0) ∧
      tm.get 15 = some (.func (.func 42) [] [.ptr (n0 - 1) 0, .ptr (H.next + 1) 0, .ptr (H.next + 3) 0, .ptr H.next 0]) ∧ tm.get 16 = some (outV (n0 + 2 * i - 1) (natL pre)) ∧ tm.get 60 = some (.int .i64 (l.length : Int)) ∧ tm.get 61 = some (.int .i64 (g : Int)))
      ⟨rfl, by simp (disch := decide) only [sxL, i3], by simp (disch := decide) only [sxL, i6], by simp (disch := decide) only [sxL, i7], by simp (disch := decide) only [sxL, i14], by simp (disch := decide) only [sxL, i15], by simp (disch := decide) only [sxL, i16], by simp (disch := decide) only [sxL], by simp (disch := decide) only [sxL]⟩ ?_
    rintro g tm hg ⟨hng, j3, j6, j7, j14, j15, j16, j60, j61⟩
    repeat refine Gets.seq ?_
    by_cases hlg : (g : Int) < (l.length : Int)
    · obtain ⟨x, hki⟩ : ∃ k, l[g]? = some k := ⟨_, List.getElem?_eq_getElem (by omega)⟩
      obtain ⟨ai, hai⟩ : ∃ k, at_[g]? = some k := ⟨_, List.getElem?_eq_getElem (by omega)⟩
      have hcg : (callsL l)[g]? = some (callsOf x) := by simp [callsL, hki]
      have hcx : (callsOf x).length = x.l.length := by simp [callsOf]
      have hle := hA.2 g _ _ hcg hai
      rw [hcx] at hle
      have hx40 := h40 x (List.mem_of_getElem? hki)
      have hmay := may_run h (n0 - 1) (H.next + 1) (H.next + 3) H.next v l at_ left c r hM I.neat hki hai hle hx40 (by omega)
      rw [nextG_step hcg hai] at hng
      refine Gets.last Tryz.tabOk (ov := noOv) (noOv_ok) 8 (s' := ?sn25) ?hn25 ?kn25; (case hn25 => (simp -implicitDefEqProofs (disch := first | (simp only [ne_eq, Nat.reduceEqDiff, not_false_eq_true, Nat.reduceLT]; done) | assumption | (simp only [s_push_next, s_put_next, Nat.beq_refl]; done) | ((try simp only [s_push_next, s_put_next]) <;> omega) | exact s_one_map _ | exact s_one_slice _ _ _ _ _ | (refine (id ?_ : plainDraw _ = true); kernel_rfl) | fail) only [sxL, s_castN, s_cells_one, noOv, callFn, kindOf, kindC, kindB, unA, boxA, loadPtr, nilCheckA, fst1, ofValue, ofScalar, len, intBin, ibin, boolO, guardA, cCond, condV, cRet, cExit, cSkip, resOut, resultA, extractA, tupleO, Nat.reduceEqDiff, Nat.reduceAdd, Nat.reduceSub, Nat.reduceLT, Nat.reduceBEq, reduceCtorEq, Nat.reduceMod, Nat.reduceLeDiff, Int.reduceLT, Int.reduceAdd, Int.reduceEq, Int.reduceToNat, s_draw, j60, j61, hlg] <;> rfl)); (try (change Gets _ _ _ _ _ _; repeat refine Gets.seq ?_))
      refine Gets.condT (by simp (disch := decide) only [sxL]) (Gets.skip Tryz.tabOk ?_)
      change Gets _ _ _ _ _ _
      refine Gets.seq (Gets.blk ?_)
      repeat refine Gets.seq ?_
      refine Gets.last Tryz.tabOk (ov := noOv) (noOv_ok) 8 (s' := ?sn26) ?hn26 ?kn26; (case hn26 => (simp -implicitDefEqProofs (disch := first | (simp only [ne_eq, Nat.reduceEqDiff, not_false_eq_true, Nat.reduceLT]; done) | assumption | (simp only [s_push_next, s_put_next, Nat.beq_refl]; done) | ((try simp only [s_push_next, s_put_next]) <;> omega) | exact s_one_map _ | exact s_one_slice _ _ _ _ _ | (refine (id ?_ : plainDraw _ = true); kernel_rfl) | fail) only [sxL, s_castN, s_cells_one, noOv, callFn, kindOf, kindC, kindB, unA, boxA, loadPtr, nilCheckA, fst1, ofValue, ofScalar, len, intBin, ibin, boolO, guardA, cCond, condV, cRet, cExit, cSkip, resOut, resultA, extractA, tupleO, Nat.reduceEqDiff, Nat.reduceAdd, Nat.reduceSub, Nat.reduceLT, Nat.reduceBEq, reduceCtorEq, Nat.reduceMod, Nat.reduceLeDiff, Int.reduceLT, Int.reduceAdd, Int.reduceEq, Int.reduceToNat, s_draw, j61] <;> rfl)); (try (change Gets _ _ _ _ _ _; repeat refine Gets.seq ?_))
      cases hm : mayB (bfB c r) left (callsOf x) ai
      · rw [hm] at hmay hng
        refine Gets.last Tryz.tabOk (ov := ptO noOv 42 [.int .i64 (g : Int), .ptr (n0 - 1) 0, .ptr (H.next + 1) 0, .ptr (H.next + 3) 0, .ptr H.next 0] h [(.bool false, h)]) (ptO_ok noOv_ok hmay) 8 (s' := ?sn27) ?hn27 ?kn27; (case hn27 => (simp -implicitDefEqProofs (disch := first | (simp only [ne_eq, Nat.reduceEqDiff, not_false_eq_true, Nat.reduceLT]; done) | assumption | (simp only [s_push_next, s_put_next, Nat.beq_refl]; done) | ((try simp only [s_push_next, s_put_next]) <;> omega) | exact s_one_map _ | exact s_one_slice _ _ _ _ _ | (refine (id ?_ : plainDraw _ = true); kernel_rfl) | fail) only [sxL, s_castN, s_cells_one, noOv, callFn, kindOf, kindC, kindB, unA, boxA, loadPtr, nilCheckA, fst1, ofValue, ofScalar, len, intBin, ibin, boolO, guardA, cCond, condV, cRet, cExit, cSkip, resOut, resultA, extractA, tupleO, Nat.reduceEqDiff, Nat.reduceAdd, Nat.reduceSub, Nat.reduceLT, Nat.reduceBEq, reduceCtorEq, Nat.reduceMod, Nat.reduceLeDiff, Int.reduceLT, Int.reduceAdd, Int.reduceEq, Int.reduceToNat, s_draw, j15] <;> rfl)); (try (change Gets _ _ _ _ _ _; repeat refine Gets.seq ?_))
        refine Gets.condF (by simp (disch := decide) only [sxL]) (Gets.skip Tryz.tabOk ?_)
        change Gets _ _ _ _ _ _
        have hw : awrap .i64 ((g : Int) + 1) = (g : Int) + 1 := s_wrap (by omega) (by omega)
        refine Gets.last Tryz.tabOk (ov := noOv) (noOv_ok) 8 (s' := ?sn28) ?hn28 ?kn28; (case hn28 => (simp -implicitDefEqProofs (disch := first | (simp only [ne_eq, Nat.reduceEqDiff, not_false_eq_true, Nat.reduceLT]; done) | assumption | (simp only [s_push_next, s_put_next, Nat.beq_refl]; done) | ((try simp only [s_push_next, s_put_next]) <;> omega) | exact s_one_map _ | exact s_one_slice _ _ _ _ _ | (refine (id ?_ : plainDraw _ = true); kernel_rfl) | fail) only [sxL, s_castN, s_cells_one, noOv, callFn, kindOf, kindC, kindB, unA, boxA, loadPtr, nilCheckA, fst1, ofValue, ofScalar, len, intBin, ibin, boolO, guardA, cCond, condV, cRet, cExit, cSkip, resOut, resultA, extractA, tupleO, Nat.reduceEqDiff, Nat.reduceAdd, Nat.reduceSub, Nat.reduceLT, Nat.reduceBEq, reduceCtorEq, Nat.reduceMod, Nat.reduceLeDiff, Int.reduceLT, Int.reduceAdd, Int.reduceEq, Int.reduceToNat, s_draw, j61, hw] <;> rfl)); (try (change Gets _ _ _ _ _ _; repeat refine Gets.seq ?_))
        refine ⟨_, rfl, by omega, hng, ?_, ?_, ?_, ?_, ?_, ?_, ?_, ?_⟩
        · simp (disch := decide) only [sxL, j3]
        · simp (disch := decide) only [sxL, j6]
        · simp (disch := decide) only [sxL, j7]
        · simp (disch := decide) only [sxL, j14]
        · simp (disch := decide) only [sxL, j15]
        · simp (disch := decide) only [sxL, j16]
        · simp (disch := decide) only [sxL, j60]
        · simp (disch := decide) only [sxL, s_castS]
      · rw [hm] at hmay hng
        rw [if_pos rfl] at hng
        obtain ⟨k, hk⟩ : ∃ k, (callsOf x)[ai]? = some k := by
          cases hk : (callsOf x)[ai]? with
          | none => rw [mayB_none hk] at hm; cases hm
          | some k => exact ⟨k, rfl⟩
        have hai' : ai < x.l.length := by rw [← hcx]; exact (List.getElem?_eq_some_iff.1 hk).1
        obtain ⟨cd, hcd⟩ : ∃ k, x.l[ai]? = some k := ⟨_, List.getElem?_eq_getElem hai'⟩
        have hkc : k = cd.cmd.call := by simp [callsOf, hcd] at hk; exact hk.symm
        obtain ⟨b, hx, hc1, _⟩ := hM.rows.1.row ud22 sz33 LogV.len hki
        have hc : cellIn (h.blks.get b) (g * 1) = some x.v := hc1 0 (by omega)
        have hX := hM.rows.2 x (List.mem_of_getElem? hki)
        obtain ⟨b', hx', hcc1, _⟩ := hX.1.row ud33 sz44 CmdK.len hcd
        have kc : cellIn (h.blks.get b') (ai * 24 + 1) = some (.int .i64 cd.cmd.call) := hcc1 1 (by omega)
        rw [← hkc] at kc
        have p6 : cellIn (h.blks.get (H.next + 3)) 0 = some (.map (H.next + 2)) := by rw [I.pm]; rfl
        have p14 : cellIn (h.blks.get (n0 - 1)) 0 = some (.slice (n0 - 2) 0 l.length false l.length) := by rw [I.pa]; rfl
        have pb : cellIn (h.blks.get (n0 - 2)) g = some (.int .i64 (ai : Int)) := by rw [I.ba, s_cellIn]; exact natL_at hai
        have ix : indexAddrA Tryz.tab 27 (.slice (n0 - 2) 0 l.length false l.length) (.int .i64 (g : Int)) = some (.ptr (n0 - 2) g) := by
          rw [s_indexSlice ud27 sz3, if_pos ⟨by omega, by omega⟩]; simp
        have hBk := hB k
        have hBd := hB.dec k
        have hwl : awrap .i64 ((mGet left k).getD 0 - 1) = (mGet left k).getD 0 - 1 := s_wrap (by omega) (by omega)
        have hwa : awrap .i64 ((ai : Int) + 1) = (ai : Int) + 1 := s_wrap (by omega) (by omega)
        obtain ⟨m, hm1⟩ : ∃ m, tot - i = m + 1 := ⟨tot - i - 1, by omega⟩
        have hgo' : (mergeGo (bfB c r) (callsL l) (tot - (i + 1)) (at_.set g (ai + 1)) (decK left k)).map ((pre ++ [g]) ++ ·) = mergeR c r (callsL l) := by
          rw [← hgo, hm1, show tot - (i + 1) = m by omega]
          simp only [mergeGo, ← hng, incAt_eq hai, headK_eq hcg hai hk, Option.map_map]
          congr 1
          funext y
          simp
        have hstep := I.step hn0 (at_.set g (ai + 1)) (decK left k) g
        have hA' := hA.set hcg (i := ai) (by rw [hcx]; exact hai')
        have hnx := I.next
        refine Gets.last Tryz.tabOk (ov := ptO noOv 42 [.int .i64 (g : Int), .ptr (n0 - 1) 0, .ptr (H.next + 1) 0, .ptr (H.next + 3) 0, .ptr H.next 0] h [(.bool true, h)]) (ptO_ok noOv_ok hmay) 8 (s' := ?sn29) ?hn29 ?kn29; (case hn29 => (simp -implicitDefEqProofs (disch := first | (simp only [ne_eq, Nat.reduceEqDiff, not_false_eq_true, Nat.reduceLT]; done) | assumption | (simp only [s_push_next, s_put_next, Nat.beq_refl]; done) | ((try simp only [s_push_next, s_put_next]) <;> omega) | exact s_one_map _ | exact s_one_slice _ _ _ _ _ | (refine (id ?_ : plainDraw _ = true); kernel_rfl) | fail) only [sxL, s_castN, s_cells_one, noOv, callFn, kindOf, kindC, kindB, unA, boxA, loadPtr, nilCheckA, fst1, ofValue, ofScalar, len, intBin, ibin, boolO, guardA, cCond, condV, cRet, cExit, cSkip, resOut, resultA, extractA, tupleO, Nat.reduceEqDiff, Nat.reduceAdd, Nat.reduceSub, Nat.reduceLT, Nat.reduceBEq, reduceCtorEq, Nat.reduceMod, Nat.reduceLeDiff, Int.reduceLT, Int.reduceAdd, Int.reduceEq, Int.reduceToNat, s_draw, j15] <;> rfl)); (try (change Gets _ _ _ _ _ _; repeat refine Gets.seq ?_))
        refine Gets.condT (by simp (disch := decide) only [sxL]) ?_
        repeat refine Gets.seq ?_
        refine Gets.last Tryz.tabOk (ov := noOv) (noOv_ok) 8 (s' := ?sn30) ?hn30 ?kn30; (case hn30 => (simp -implicitDefEqProofs (disch := first | (simp only [ne_eq, Nat.reduceEqDiff, not_false_eq_true, Nat.reduceLT]; done) | assumption | (simp only [s_push_next, s_put_next, Nat.beq_refl]; done) | ((try simp only [s_push_next, s_put_next]) <;> omega) | exact s_one_map _ | exact s_one_slice _ _ _ _ _ | (refine (id ?_ : plainDraw _ = true); kernel_rfl) | fail) only [sxL, s_castN, s_cells_one, noOv, callFn, kindOf, kindC, kindB, unA, boxA, loadPtr, nilCheckA, fst1, ofValue, ofScalar, len, intBin, ibin, boolO, guardA, cCond, condV, cRet, cExit, cSkip, resOut, resultA, extractA, tupleO, Nat.reduceEqDiff, Nat.reduceAdd, Nat.reduceSub, Nat.reduceLT, Nat.reduceBEq, reduceCtorEq, Nat.reduceMod, Nat.reduceLeDiff, Int.reduceLT, Int.reduceAdd, Int.reduceEq, Int.reduceToNat, s_draw, j6, p6, j3, cl1, s_varFalse ia78, s_varFalse ia22, hx, hc, s_varFalse ia33, j14, p14, s_varFalse ia27, ix, pb, s_varFalse ia3, hx', fa44_1, kc, look78f I.lm, hwl, upd78 I.lm] <;> rfl)); (try (change Gets _ _ _ _ _ _; repeat refine Gets.seq ?_))
        have q14 : cellIn ((putBlk h (H.next + 2) (some (mapB (decK left k)))).blks.get (n0 - 1)) 0 = some (.slice (n0 - 2) 0 l.length false l.length) := by rw [s_put_other _ _ _ (by omega)]; exact p14
        have qb : (putBlk h (H.next + 2) (some (mapB (decK left k)))).blks.get (n0 - 2) = some (.cells 3 true (natL at_)) := by rw [s_put_other _ _ _ (by omega)]; exact I.ba
        have qbi : cellIn ((putBlk h (H.next + 2) (some (mapB (decK left k)))).blks.get (n0 - 2)) g = some (.int .i64 (ai : Int)) := by rw [qb, s_cellIn]; exact natL_at hai
        have hst := store_one (G := Tryz.tab) (t := 3) (v := .int .i64 ((ai : Int) + 1)) qb sz3 (off := g) (by rw [natL_len]; omega) rfl
        have hset : (natL at_).set g (.int .i64 ((ai : Int) + 1)) = natL (at_.set g (ai + 1)) := natL_set at_ g (ai + 1)
        rw [hset] at hst
        have qd : pre ≠ [] → (putBlk (putBlk h (H.next + 2) (some (mapB (decK left k)))) (n0 - 2) (some (.cells 3 true (natL (at_.set g (ai + 1)))))).blks.get (n0 + 2 * pre.length - 1) = some (.cells 3 false (natL pre)) := fun hp => by
          have := List.length_pos_iff.2 hp
          rw [s_put_other _ _ _ (by omega), s_put_other _ _ _ (by omega)]; exact I.out hp
        have hnx2 : (putBlk (putBlk h (H.next + 2) (some (mapB (decK left k)))) (n0 - 2) (some (.cells 3 true (natL (at_.set g (ai + 1)))))).next = n0 + 2 * i := by rw [s_put_next, s_put_next, hnx, hpl]
        change Gets _ _ _ _ ⟨_, putBlk h (H.next + 2) (some (mapB (decK left k))), _⟩ _
        generalize putBlk h (H.next + 2) (some (mapB (decK left k))) = h1 at *
        refine Gets.last Tryz.tabOk (ov := noOv) (noOv_ok) 8 (s' := ?sn31) ?hn31 ?kn31; (case hn31 => (simp -implicitDefEqProofs (disch := first | (simp only [ne_eq, Nat.reduceEqDiff, not_false_eq_true, Nat.reduceLT]; done) | assumption | (simp only [s_push_next, s_put_next, Nat.beq_refl]; done) | ((try simp only [s_push_next, s_put_next]) <;> omega) | exact s_one_map _ | exact s_one_slice _ _ _ _ _ | (refine (id ?_ : plainDraw _ = true); kernel_rfl) | fail) only [sxL, s_castN, s_cells_one, noOv, callFn, kindOf, kindC, kindB, unA, boxA, loadPtr, nilCheckA, fst1, ofValue, ofScalar, len, intBin, ibin, boolO, guardA, cCond, condV, cRet, cExit, cSkip, resOut, resultA, extractA, tupleO, Nat.reduceEqDiff, Nat.reduceAdd, Nat.reduceSub, Nat.reduceLT, Nat.reduceBEq, reduceCtorEq, Nat.reduceMod, Nat.reduceLeDiff, Int.reduceLT, Int.reduceAdd, Int.reduceEq, Int.reduceToNat, s_draw, j14, q14, s_varFalse ia27, ix, qbi, s_varFalse ia3, hwa, hst] <;> rfl)); (try (change Gets _ _ _ _ _ _; repeat refine Gets.seq ?_))
        generalize putBlk h1 (n0 - 2) (some (.cells 3 true (natL (at_.set g (ai + 1))))) = h2 at *
        have happ := app_out (h := h2.push (.cells 3 true [.int .i64 (g : Int)])) (b := h2.next) (d := n0 + 2 * i - 1) (l := natL pre) (w := .int .i64 (g : Int)) (s_push_same _ _)
          (fun hp => by
            have hp' : pre ≠ [] := fun e => hp (by rw [e]; rfl)
            have := List.length_pos_iff.2 hp'
            have hq := qd hp'
            rw [hpl] at hq
            rw [s_push_other _ _ (by omega)]; exact hq) rfl (natL_one _) (by rw [natL_len]; omega)
        refine Gets.last Tryz.tabOk (ov := noOv) (noOv_ok) 8 (s' := ?sn32) ?hn32 ?kn32; (case hn32 => (simp -implicitDefEqProofs (disch := first | (simp only [ne_eq, Nat.reduceEqDiff, not_false_eq_true, Nat.reduceLT]; done) | assumption | (simp only [s_push_next, s_put_next, Nat.beq_refl]; done) | ((try simp only [s_push_next, s_put_next]) <;> omega) | exact s_one_map _ | exact s_one_slice _ _ _ _ _ | (refine (id ?_ : plainDraw _ = true); kernel_rfl) | fail) only [sxL, s_castN, s_cells_one, noOv, callFn, kindOf, kindC, kindB, unA, boxA, loadPtr, nilCheckA, fst1, ofValue, ofScalar, len, intBin, ibin, boolO, guardA, cCond, condV, cRet, cExit, cSkip, resOut, resultA, extractA, tupleO, Nat.reduceEqDiff, Nat.reduceAdd, Nat.reduceSub, Nat.reduceLT, Nat.reduceBEq, reduceCtorEq, Nat.reduceMod, Nat.reduceLeDiff, Int.reduceLT, Int.reduceAdd, Int.reduceEq, Int.reduceToNat, s_draw, z_opApp, j16, bs27, happ] <;> rfl)); (try (change Gets _ _ _ _ _ _; repeat refine Gets.seq ?_))
        refine Gets.exit Tryz.tabOk ?_
        refine inBlk_other (by decide) ?_
        refine inBlk_other (by decide) ?_
        refine inBlk_exit ?_
        rw [hpl] at hstep
        refine ⟨_, _, rfl, by omega, at_.set g (ai + 1), decK left k, pre ++ [g], hstep, by simp [hpl], hA', ?_, hgo', ?_, ?_, ?_, ?_, ?_, ?_⟩
        · exact hBd
        · simp (disch := decide) only [sxL, j3]
        · simp (disch := decide) only [sxL, j6]
        · simp (disch := decide) only [sxL, j7]
        · simp (disch := decide) only [sxL, j14]
        · simp (disch := decide) only [sxL, j15]
        · rw [← natL_snoc, show n0 + 2 * (i + 1) - 1 = h2.next + 1 by omega]; simp (disch := decide) only [sxL]
    · have hgl : g = l.length := by omega
      have hnone : nextG (bfB c r) left (callsL l) at_ 0 = none := by
        rw [← hng, hgl, ← hcl]; exact nextG_end
      obtain ⟨m, hm1⟩ : ∃ m, tot - i = m + 1 := ⟨tot - i - 1, by omega⟩
      have hres : mergeR c r (callsL l) = none := by
        rw [← hgo, hm1]; simp [mergeGo, hnone]
      rw [hres]
      refine Gets.last Tryz.tabOk (ov := noOv) (noOv_ok) 8 (s' := ?sn33) ?hn33 ?kn33; (case hn33 => (simp -implicitDefEqProofs (disch := first | (simp only [ne_eq, Nat.reduceEqDiff, not_false_eq_true, Nat.reduceLT]; done) | assumption | (simp only [s_push_next, s_put_next, Nat.beq_refl]; done) | ((try simp only [s_push_next, s_put_next]) <;> omega) | exact s_one_map _ | exact s_one_slice _ _ _ _ _ | (refine (id ?_ : plainDraw _ = true); kernel_rfl) | fail) only [sxL, s_castN, s_cells_one, noOv, callFn, kindOf, kindC, kindB, unA, boxA, loadPtr, nilCheckA, fst1, ofValue, ofScalar, len, intBin, ibin, boolO, guardA, cCond, condV, cRet, cExit, cSkip, resOut, resultA, extractA, tupleO, Nat.reduceEqDiff, Nat.reduceAdd, Nat.reduceSub, Nat.reduceLT, Nat.reduceBEq, reduceCtorEq, Nat.reduceMod, Nat.reduceLeDiff, Int.reduceLT, Int.reduceAdd, Int.reduceEq, Int.reduceToNat, s_draw, j60, j61, hlg] <;> rfl)); (try (change Gets _ _ _ _ _ _; repeat refine Gets.seq ?_))
      refine Gets.condF (by simp (disch := decide) only [sxL]) (Gets.exit Tryz.tabOk ?_)
      refine inBlk_exit ?_
      change Gets _ _ _ _ _ _
      repeat refine Gets.seq ?_
      refine Gets.last Tryz.tabOk (ov := noOv) (noOv_ok) 8 (s' := ?sn34) ?hn34 ?kn34; (case hn34 => (simp -implicitDefEqProofs (disch := first | (simp only [ne_eq, Nat.reduceEqDiff, not_false_eq_true, Nat.reduceLT]; done) | assumption | (simp only [s_push_next, s_put_next, Nat.beq_refl]; done) | ((try simp only [s_push_next, s_put_next]) <;> omega) | exact s_one_map _ | exact s_one_slice _ _ _ _ _ | (refine (id ?_ : plainDraw _ = true); kernel_rfl) | fail) only [sxL, s_castN, s_cells_one, noOv, callFn, kindOf, kindC, kindB, unA, boxA, loadPtr, nilCheckA, fst1, ofValue, ofScalar, len, intBin, ibin, boolO, guardA, cCond, condV, cRet, cExit, cSkip, resOut, resultA, extractA, tupleO, Nat.reduceEqDiff, Nat.reduceAdd, Nat.reduceSub, Nat.reduceLT, Nat.reduceBEq, reduceCtorEq, Nat.reduceMod, Nat.reduceLeDiff, Int.reduceLT, Int.reduceAdd, Int.reduceEq, Int.reduceToNat, s_draw] <;> rfl)); (try (change Gets _ _ _ _ _ _; repeat refine Gets.seq ?_))
      refine Gets.ret Tryz.tabOk ?_
      exact ⟨rfl, rfl, [.nilslice, .bool false], by simp (disch := decide) only [sxL, Tryz.f25, resultA], _, List.mem_singleton.2 rfl, .pure I.grows.next I.grows.get hN ⟨trivial, trivial, trivial⟩⟩
  · have hit : i = tot := by omega
    have hres : mergeR c r (callsL l) = some pre := by
      rw [← hgo, hit, Nat.sub_self]; simp [mergeGo]
    rw [hres]
    refine Gets.last Tryz.tabOk (ov := noOv) (noOv_ok) 8 (s' := ?sn35) ?hn35 ?kn35; (case hn35 => (simp -implicitDefEqProofs (disch := first | (simp only [ne_eq, Nat.reduceEqDiff, not_false_eq_true, Nat.reduceLT]; done) | assumption | (simp only [s_push_next, s_put_next, Nat.beq_refl]; done) | ((try simp only [s_push_next, s_put_next]) <;> omega) | exact s_one_map _ | exact s_one_slice _ _ _ _ _ | (refine (id ?_ : plainDraw _ = true); kernel_rfl) | fail) only [sxL, s_castN, s_cells_one, noOv, callFn, kindOf, kindC, kindB, unA, boxA, loadPtr, nilCheckA, fst1, ofValue, ofScalar, len, intBin, ibin, boolO, guardA, cCond, condV, cRet, cExit, cSkip, resOut, resultA, extractA, tupleO, Nat.reduceEqDiff, Nat.reduceAdd, Nat.reduceSub, Nat.reduceLT, Nat.reduceBEq, reduceCtorEq, Nat.reduceMod, Nat.reduceLeDiff, Int.reduceLT, Int.reduceAdd, Int.reduceEq, Int.reduceToNat, s_draw, i16, i7, hol, hlt] <;> rfl)); (try (change Gets _ _ _ _ _ _; repeat refine Gets.seq ?_))
    refine Gets.condF (by simp (disch := decide) only [sxL]) (Gets.exit Tryz.tabOk ?_)
    refine inBlk_exit ?_
    change Gets _ _ _ _ _ _
    repeat refine Gets.seq ?_
    refine Gets.last Tryz.tabOk (ov := noOv) (noOv_ok) 8 (s' := ?sn36) ?hn36 ?kn36; (case hn36 => (simp -implicitDefEqProofs (disch := first | (simp only [ne_eq, Nat.reduceEqDiff, not_false_eq_true, Nat.reduceLT]; done) | assumption | (simp only [s_push_next, s_put_next, Nat.beq_refl]; done) | ((try simp only [s_push_next, s_put_next]) <;> omega) | exact s_one_map _ | exact s_one_slice _ _ _ _ _ | (refine (id ?_ : plainDraw _ = true); kernel_rfl) | fail) only [sxL, s_castN, s_cells_one, noOv, callFn, kindOf, kindC, kindB, unA, boxA, loadPtr, nilCheckA, fst1, ofValue, ofScalar, len, intBin, ibin, boolO, guardA, cCond, condV, cRet, cExit, cSkip, resOut, resultA, extractA, tupleO, Nat.reduceEqDiff, Nat.reduceAdd, Nat.reduceSub, Nat.reduceLT, Nat.reduceBEq, reduceCtorEq, Nat.reduceMod, Nat.reduceLeDiff, Int.reduceLT, Int.reduceAdd, Int.reduceEq, Int.reduceToNat, s_draw, i16] <;> rfl)); (try (change Gets _ _ _ _ _ _; repeat refine Gets.seq ?_))
    refine Gets.ret Tryz.tabOk ?_
    have hnx := I.next
    rw [hit]
    exact ⟨rfl, rfl, [outV (n0 + 2 * tot - 1) (natL pre), .bool true], by simp (disch := decide) only [sxL, Tryz.f25, resultA], _, List.mem_singleton.2 rfl, cut_out hN I.grows (fun hp => ⟨by omega, by rw [hnx, hpl, hit]; have := List.length_pos_iff.2 hp; omega, by rw [← hit, ← hpl]; exact I.out hp⟩) ⟨trivial, trivial⟩⟩
end Go.Proofs
