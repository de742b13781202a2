/-
  The document's Merge, walked.
-/
import Derived.Test.YtdadmlonndnppaaGreatDoorMgD
set_option linter.unusedSimpArgs false
set_option linter.unusedVariables false
namespace Go.Proofs
open Go.Sx
set_option maxRecDepth 100000
structure RefI (H h : Heap) (L : Nat) (at_ pre : List Nat) : Prop where
  next : h.next = H.next + 1 + 2 * pre.length
  grows : Grows H h
  neat : Neat h
  ba : h.blks.get H.next = some (.cells 3 true (natL at_))
  out : pre ≠ [] → h.blks.get (H.next + 2 * pre.length) = some (.cells 3 false (natL pre))
theorem RefI.step {H h : Heap} {L : Nat} {at_ pre : List Nat} (I : RefI H h L at_ pre) (at' : List Nat) (g : Nat) :
    RefI H (putBlk (appH (h.push (.cells 3 true [.int .i64 (g : Int)])) (H.next + 2 * pre.length) (natL pre) (.int .i64 (g : Int))) H.next (some (.cells 3 true (natL at')))) L at' (pre ++ [g]) := by
  have hn := I.next
  have hpn : (h.push (.cells 3 true [.int .i64 (g : Int)])).next = H.next + 1 + 2 * pre.length + 1 := by rw [s_push_next, hn]
  have hge : natL pre ≠ [] → pre ≠ [] := fun h e => h (by rw [e]; rfl)
  have nx : (appH (h.push (.cells 3 true [.int .i64 (g : Int)])) (H.next + 2 * pre.length) (natL pre) (.int .i64 (g : Int))).next = H.next + 1 + 2 * pre.length + 2 := by rw [appH_next, hpn]
  refine ⟨by rw [s_put_next, nx, List.length_append, List.length_singleton]; omega, ⟨by rw [s_put_next, nx]; omega, fun x hx => ?_⟩, (appH_neat (I.neat.push _) _ _ _).put (by rw [nx]; omega) _, s_put_same _ _ _, fun _ => ?_⟩
  · rw [s_put_other _ _ _ (by omega), appH_other _ _ _ _ (by rw [hpn]; omega) (fun _ => by omega), s_push_other _ _ (by omega)]; exact I.grows.get x hx
  · have := appH_same (h.push (.cells 3 true [.int .i64 (g : Int)])) (H.next + 2 * pre.length) (natL pre) (.int .i64 (g : Int))
    rw [hpn, natL_snoc] at this
    rw [s_put_other _ _ _ (by rw [List.length_append, List.length_singleton]; omega), List.length_append, List.length_singleton, show H.next + 2 * (pre.length + 1) = H.next + 1 + 2 * pre.length + 1 by omega]
    exact this
theorem RefI.start (H : Heap) (hN : Neat H) (L : Nat) : RefI H (H.push (.cells 3 true (natL (List.replicate L 0)))) L (List.replicate L 0) [] :=
  ⟨rfl, .push _ _, hN.push _, s_push_same _ _, fun h => absurd rfl h⟩
noncomputable def RefQ (H : Heap) (d : Nat) (l : List LogV) (evs : List EvV) : VH :=
  match chkGo evs evs 0 0 with
  | some _ => (.tuple [.nilslice, .bool false, .int .i64 10], H)
  | none => if 8 < (l.length : Int) then (.tuple [.nilslice, .bool false, .int .i64 12], H) else
    match refR evs (callsL l) with
    | none => (.tuple [.nilslice, .bool false, .int .i64 0], H)
    | some o => (.tuple [outV d (natL o), .bool true, .int .i64 0], outH H d (natL o))
theorem qB_none {evs : List EvV} {logs : List (List Int)} {at_ : List Nat} {lg : List Int} {i : Nat} (h : lg[i]? = none) : qB evs logs at_ lg i = false := by simp [qB, h]
theorem qB_some {evs : List EvV} {logs : List (List Int)} {at_ : List Nat} {lg : List Int} {i : Nat} {k : Int} (h : lg[i]? = some k) : qB evs logs at_ lg i = (decide (k = 0) || mayL (stopB evs k) logs at_) := by simp [qB, h]
theorem nextRf_some {q : List Int → Nat → Bool} : ∀ {logs : List (List Int)} {at_ : List Nat} {g0 g : Nat}, nextRf q logs at_ g0 = some g → g0 ≤ g ∧ ∃ lg i, logs[g - g0]? = some lg ∧ at_[g - g0]? = some i ∧ q lg i = true := by
  intro logs
  induction logs with
  | nil => intro at_ g0 g h; simp [nextRf] at h
  | cons lg logs ih =>
    intro at_ g0 g h
    cases at_ with
    | nil => simp [nextRf] at h
    | cons i at_ =>
      unfold nextRf at h
      split at h
      · rename_i hq
        simp only [Option.some.injEq] at h; subst h
        exact ⟨Nat.le_refl _, lg, i, by simp, by simp, hq⟩
      · obtain ⟨h1, lg', i', h2, h3, h4⟩ := ih h
        refine ⟨by omega, lg', i', ?_, ?_, h4⟩
        · rw [show g - g0 = (g - (g0 + 1)) + 1 by omega, List.getElem?_cons_succ]; exact h2
        · rw [show g - g0 = (g - (g0 + 1)) + 1 by omega, List.getElem?_cons_succ]; exact h3
theorem refMerge_run (H : Heap) (v w : AV) (l : List LogV) (evs : List EvV) (hv : LogsAt H v l) (hw : EvsAt H w evs) (hcap : ∀ b o n c, w = .slice b o n false c → n ≤ c) (hN : Neat H) (hm : evs.length ≤ 1000) (h8 : l.length ≤ 10) (h40 : ∀ x ∈ l, x.l.length ≤ 40) :
    ∃ d, H.next ≤ d ∧ CallTo Tryz.prog Tryz.tab 10 [v, w] H [RefQ H d l evs] := by
  refine ⟨H.next + 2 * totA (callsL l), by omega, ?_⟩
  refine callTo_of Tryz.tabOk Tryz.func10 rfl rfl ?_
  show Gets Tryz.prog Tryz.tab ⟨none, 80⟩ _ _ _
  have hcl : (callsL l).length = l.length := by simp [callsL]
  have htot : totA (callsL l) ≤ 400 := by
    have h1 := totA_le (LogsAt.calls h40)
    rw [hcl] at h1
    have : l.length * 40 ≤ 10 * 40 := Nat.mul_le_mul_right 40 h8
    omega
  have hlen := hv.1.len ud22
  have hchk := check_run evs hm w H hw hcap hN
  have hmany := refMany_run l v H hv hN (by omega) h40
  repeat refine Gets.seq ?_
  refine Gets.last Tryz.tabOk (ov := noOv) (noOv_ok) 8 (s' := ?sn1) ?hn1 ?kn1; (case hn1 => (simp -implicitDefEqProofs (disch := first | (simp only [ne_eq, Nat.reduceEqDiff, not_false_eq_true, Nat.reduceLT]; done) | assumption | (simp only [s_push_next, s_put_next, Nat.beq_refl]; done) | ((try simp only [s_push_next, s_put_next]) <;> omega) | exact s_one_map _ | exact s_one_slice _ _ _ _ _ | (refine (id ?_ : plainDraw _ = true); kernel_rfl) | fail) only [sxL, s_castN, s_cells_one, noOv, callFn, kindOf, kindC, kindB, unA, boxA, loadPtr, nilCheckA, fst1, ofValue, ofScalar, len, intBin, ibin, boolO, guardA, cCond, condV, cRet, cExit, cSkip, resOut, resultA, extractA, tupleO, Nat.reduceEqDiff, Nat.reduceAdd, Nat.reduceSub, Nat.reduceLT, Nat.reduceBEq, reduceCtorEq, Nat.reduceMod, Nat.reduceLeDiff, Int.reduceLT, Int.reduceAdd, Int.reduceEq, Int.reduceToNat, s_draw] <;> rfl)); (try (change Gets _ _ _ _ _ _; repeat refine Gets.seq ?_))
  cases hC : chkGo evs evs 0 0 with
  | some i =>
    have e : RefQ H (H.next + 2 * totA (callsL l)) l evs = (.tuple [.nilslice, .bool false, .int .i64 10], H) := by simp [RefQ, hC]
    rw [e]
    rw [hC] at hchk
    refine Gets.last Tryz.tabOk (ov := ptO noOv 26 [w] H [(.tuple [.int .i64 (i : Int), .int .i64 10], H)]) (ptO_ok noOv_ok hchk) 8 (s' := ?sn2) ?hn2 ?kn2; (case hn2 => (simp -implicitDefEqProofs (disch := first | (simp only [ne_eq, Nat.reduceEqDiff, not_false_eq_true, Nat.reduceLT]; done) | assumption | (simp only [s_push_next, s_put_next, Nat.beq_refl]; done) | ((try simp only [s_push_next, s_put_next]) <;> omega) | exact s_one_map _ | exact s_one_slice _ _ _ _ _ | (refine (id ?_ : plainDraw _ = true); kernel_rfl) | fail) only [sxL, s_castN, s_cells_one, noOv, callFn, kindOf, kindC, kindB, unA, boxA, loadPtr, nilCheckA, fst1, ofValue, ofScalar, len, intBin, ibin, boolO, guardA, cCond, condV, cRet, cExit, cSkip, resOut, resultA, extractA, tupleO, Nat.reduceEqDiff, Nat.reduceAdd, Nat.reduceSub, Nat.reduceLT, Nat.reduceBEq, reduceCtorEq, Nat.reduceMod, Nat.reduceLeDiff, Int.reduceLT, Int.reduceAdd, Int.reduceEq, Int.reduceToNat, s_draw] <;> rfl)); (try (change Gets _ _ _ _ _ _; repeat refine Gets.seq ?_))
    refine Gets.last Tryz.tabOk (ov := noOv) (noOv_ok) 8 (s' := ?sn3) ?hn3 ?kn3; (case hn3 => (simp -implicitDefEqProofs (disch := first | (simp only [ne_eq, Nat.reduceEqDiff, not_false_eq_true, Nat.reduceLT]; done) | assumption | (simp only [s_push_next, s_put_next, Nat.beq_refl]; done) | ((try simp only [s_push_next, s_put_next]) <;> omega) | exact s_one_map _ | exact s_one_slice _ _ _ _ _ | (refine (id ?_ : plainDraw _ = true); kernel_rfl) | fail) only [sxL, s_castN, s_cells_one, noOv, callFn, kindOf, kindC, kindB, unA, boxA, loadPtr, nilCheckA, fst1, ofValue, ofScalar, len, intBin, ibin, boolO, guardA, cCond, condV, cRet, cExit, cSkip, resOut, resultA, extractA, tupleO, Nat.reduceEqDiff, Nat.reduceAdd, Nat.reduceSub, Nat.reduceLT, Nat.reduceBEq, reduceCtorEq, Nat.reduceMod, Nat.reduceLeDiff, Int.reduceLT, Int.reduceAdd, Int.reduceEq, Int.reduceToNat, s_draw] <;> rfl)); (try (change Gets _ _ _ _ _ _; repeat refine Gets.seq ?_))
    refine Gets.condF (by simp (disch := decide) only [sxL]) (Gets.skip Tryz.tabOk ?_)
    change Gets _ _ _ _ _ _
    repeat refine Gets.seq ?_
    refine Gets.last Tryz.tabOk (ov := noOv) (noOv_ok) 8 (s' := ?sn4) ?hn4 ?kn4; (case hn4 => (simp -implicitDefEqProofs (disch := first | (simp only [ne_eq, Nat.reduceEqDiff, not_false_eq_true, Nat.reduceLT]; done) | assumption | (simp only [s_push_next, s_put_next, Nat.beq_refl]; done) | ((try simp only [s_push_next, s_put_next]) <;> omega) | exact s_one_map _ | exact s_one_slice _ _ _ _ _ | (refine (id ?_ : plainDraw _ = true); kernel_rfl) | fail) only [sxL, s_castN, s_cells_one, noOv, callFn, kindOf, kindC, kindB, unA, boxA, loadPtr, nilCheckA, fst1, ofValue, ofScalar, len, intBin, ibin, boolO, guardA, cCond, condV, cRet, cExit, cSkip, resOut, resultA, extractA, tupleO, Nat.reduceEqDiff, Nat.reduceAdd, Nat.reduceSub, Nat.reduceLT, Nat.reduceBEq, reduceCtorEq, Nat.reduceMod, Nat.reduceLeDiff, Int.reduceLT, Int.reduceAdd, Int.reduceEq, Int.reduceToNat, s_draw] <;> rfl)); (try (change Gets _ _ _ _ _ _; repeat refine Gets.seq ?_))
    refine Gets.condT (by simp (disch := decide) only [sxL]) (Gets.seq ?_)
    refine Gets.last Tryz.tabOk (ov := noOv) (noOv_ok) 8 (s' := ?sn5) ?hn5 ?kn5; (case hn5 => (simp -implicitDefEqProofs (disch := first | (simp only [ne_eq, Nat.reduceEqDiff, not_false_eq_true, Nat.reduceLT]; done) | assumption | (simp only [s_push_next, s_put_next, Nat.beq_refl]; done) | ((try simp only [s_push_next, s_put_next]) <;> omega) | exact s_one_map _ | exact s_one_slice _ _ _ _ _ | (refine (id ?_ : plainDraw _ = true); kernel_rfl) | fail) only [sxL, s_castN, s_cells_one, noOv, callFn, kindOf, kindC, kindB, unA, boxA, loadPtr, nilCheckA, fst1, ofValue, ofScalar, len, intBin, ibin, boolO, guardA, cCond, condV, cRet, cExit, cSkip, resOut, resultA, extractA, tupleO, Nat.reduceEqDiff, Nat.reduceAdd, Nat.reduceSub, Nat.reduceLT, Nat.reduceBEq, reduceCtorEq, Nat.reduceMod, Nat.reduceLeDiff, Int.reduceLT, Int.reduceAdd, Int.reduceEq, Int.reduceToNat, s_draw] <;> rfl)); (try (change Gets _ _ _ _ _ _; repeat refine Gets.seq ?_))
    refine Gets.ret Tryz.tabOk ?_
    exact ⟨rfl, rfl, [.nilslice, .bool false, .int .i64 10], by simp (disch := decide) only [sxL, Tryz.f10, resultA], _, List.mem_singleton.2 rfl, .pure (Nat.le_refl _) (fun _ _ => rfl) hN ⟨trivial, trivial, trivial, trivial⟩⟩
  | none =>
    rw [hC] at hchk
    refine Gets.last Tryz.tabOk (ov := ptO noOv 26 [w] H [(.tuple [.int .i64 0, .int .i64 0], H)]) (ptO_ok noOv_ok hchk) 8 (s' := ?sn6) ?hn6 ?kn6; (case hn6 => (simp -implicitDefEqProofs (disch := first | (simp only [ne_eq, Nat.reduceEqDiff, not_false_eq_true, Nat.reduceLT]; done) | assumption | (simp only [s_push_next, s_put_next, Nat.beq_refl]; done) | ((try simp only [s_push_next, s_put_next]) <;> omega) | exact s_one_map _ | exact s_one_slice _ _ _ _ _ | (refine (id ?_ : plainDraw _ = true); kernel_rfl) | fail) only [sxL, s_castN, s_cells_one, noOv, callFn, kindOf, kindC, kindB, unA, boxA, loadPtr, nilCheckA, fst1, ofValue, ofScalar, len, intBin, ibin, boolO, guardA, cCond, condV, cRet, cExit, cSkip, resOut, resultA, extractA, tupleO, Nat.reduceEqDiff, Nat.reduceAdd, Nat.reduceSub, Nat.reduceLT, Nat.reduceBEq, reduceCtorEq, Nat.reduceMod, Nat.reduceLeDiff, Int.reduceLT, Int.reduceAdd, Int.reduceEq, Int.reduceToNat, s_draw] <;> rfl)); (try (change Gets _ _ _ _ _ _; repeat refine Gets.seq ?_))
    refine Gets.last Tryz.tabOk (ov := noOv) (noOv_ok) 8 (s' := ?sn7) ?hn7 ?kn7; (case hn7 => (simp -implicitDefEqProofs (disch := first | (simp only [ne_eq, Nat.reduceEqDiff, not_false_eq_true, Nat.reduceLT]; done) | assumption | (simp only [s_push_next, s_put_next, Nat.beq_refl]; done) | ((try simp only [s_push_next, s_put_next]) <;> omega) | exact s_one_map _ | exact s_one_slice _ _ _ _ _ | (refine (id ?_ : plainDraw _ = true); kernel_rfl) | fail) only [sxL, s_castN, s_cells_one, noOv, callFn, kindOf, kindC, kindB, unA, boxA, loadPtr, nilCheckA, fst1, ofValue, ofScalar, len, intBin, ibin, boolO, guardA, cCond, condV, cRet, cExit, cSkip, resOut, resultA, extractA, tupleO, Nat.reduceEqDiff, Nat.reduceAdd, Nat.reduceSub, Nat.reduceLT, Nat.reduceBEq, reduceCtorEq, Nat.reduceMod, Nat.reduceLeDiff, Int.reduceLT, Int.reduceAdd, Int.reduceEq, Int.reduceToNat, s_draw] <;> rfl)); (try (change Gets _ _ _ _ _ _; repeat refine Gets.seq ?_))
    refine Gets.condT (by simp (disch := decide) only [sxL]) ?_
    by_cases h8' : 8 < (l.length : Int)
    · have e : RefQ H (H.next + 2 * totA (callsL l)) l evs = (.tuple [.nilslice, .bool false, .int .i64 12], H) := by simp only [RefQ, hC, h8', if_true]
      rw [e]
      rw [if_pos h8'] at hmany
      refine Gets.last Tryz.tabOk (ov := ptO noOv 27 [v] H [(.int .i64 12, H)]) (ptO_ok noOv_ok hmany) 8 (s' := ?sn8) ?hn8 ?kn8; (case hn8 => (simp -implicitDefEqProofs (disch := first | (simp only [ne_eq, Nat.reduceEqDiff, not_false_eq_true, Nat.reduceLT]; done) | assumption | (simp only [s_push_next, s_put_next, Nat.beq_refl]; done) | ((try simp only [s_push_next, s_put_next]) <;> omega) | exact s_one_map _ | exact s_one_slice _ _ _ _ _ | (refine (id ?_ : plainDraw _ = true); kernel_rfl) | fail) only [sxL, s_castN, s_cells_one, noOv, callFn, kindOf, kindC, kindB, unA, boxA, loadPtr, nilCheckA, fst1, ofValue, ofScalar, len, intBin, ibin, boolO, guardA, cCond, condV, cRet, cExit, cSkip, resOut, resultA, extractA, tupleO, Nat.reduceEqDiff, Nat.reduceAdd, Nat.reduceSub, Nat.reduceLT, Nat.reduceBEq, reduceCtorEq, Nat.reduceMod, Nat.reduceLeDiff, Int.reduceLT, Int.reduceAdd, Int.reduceEq, Int.reduceToNat, s_draw] <;> rfl)); (try (change Gets _ _ _ _ _ _; repeat refine Gets.seq ?_))
      refine Gets.last Tryz.tabOk (ov := noOv) (noOv_ok) 8 (s' := ?sn9) ?hn9 ?kn9; (case hn9 => (simp -implicitDefEqProofs (disch := first | (simp only [ne_eq, Nat.reduceEqDiff, not_false_eq_true, Nat.reduceLT]; done) | assumption | (simp only [s_push_next, s_put_next, Nat.beq_refl]; done) | ((try simp only [s_push_next, s_put_next]) <;> omega) | exact s_one_map _ | exact s_one_slice _ _ _ _ _ | (refine (id ?_ : plainDraw _ = true); kernel_rfl) | fail) only [sxL, s_castN, s_cells_one, noOv, callFn, kindOf, kindC, kindB, unA, boxA, loadPtr, nilCheckA, fst1, ofValue, ofScalar, len, intBin, ibin, boolO, guardA, cCond, condV, cRet, cExit, cSkip, resOut, resultA, extractA, tupleO, Nat.reduceEqDiff, Nat.reduceAdd, Nat.reduceSub, Nat.reduceLT, Nat.reduceBEq, reduceCtorEq, Nat.reduceMod, Nat.reduceLeDiff, Int.reduceLT, Int.reduceAdd, Int.reduceEq, Int.reduceToNat, s_draw] <;> rfl)); (try (change Gets _ _ _ _ _ _; repeat refine Gets.seq ?_))
      refine Gets.condT (by simp (disch := decide) only [sxL]) (Gets.seq ?_)
      refine Gets.last Tryz.tabOk (ov := noOv) (noOv_ok) 8 (s' := ?sn10) ?hn10 ?kn10; (case hn10 => (simp -implicitDefEqProofs (disch := first | (simp only [ne_eq, Nat.reduceEqDiff, not_false_eq_true, Nat.reduceLT]; done) | assumption | (simp only [s_push_next, s_put_next, Nat.beq_refl]; done) | ((try simp only [s_push_next, s_put_next]) <;> omega) | exact s_one_map _ | exact s_one_slice _ _ _ _ _ | (refine (id ?_ : plainDraw _ = true); kernel_rfl) | fail) only [sxL, s_castN, s_cells_one, noOv, callFn, kindOf, kindC, kindB, unA, boxA, loadPtr, nilCheckA, fst1, ofValue, ofScalar, len, intBin, ibin, boolO, guardA, cCond, condV, cRet, cExit, cSkip, resOut, resultA, extractA, tupleO, Nat.reduceEqDiff, Nat.reduceAdd, Nat.reduceSub, Nat.reduceLT, Nat.reduceBEq, reduceCtorEq, Nat.reduceMod, Nat.reduceLeDiff, Int.reduceLT, Int.reduceAdd, Int.reduceEq, Int.reduceToNat, s_draw] <;> rfl)); (try (change Gets _ _ _ _ _ _; repeat refine Gets.seq ?_))
      refine Gets.ret Tryz.tabOk ?_
      exact ⟨rfl, rfl, [.nilslice, .bool false, .int .i64 12], by simp (disch := decide) only [sxL, Tryz.f10, resultA], _, List.mem_singleton.2 rfl, .pure (Nat.le_refl _) (fun _ _ => rfl) hN ⟨trivial, trivial, trivial, trivial⟩⟩
    have e : RefQ H (H.next + 2 * totA (callsL l)) l evs = match refR evs (callsL l) with
        | none => (.tuple [.nilslice, .bool false, .int .i64 0], H)
        | some o => (.tuple [outV (H.next + 2 * totA (callsL l)) (natL o), .bool true, .int .i64 0], outH H (H.next + 2 * totA (callsL l)) (natL o)) := by simp only [RefQ, hC, h8', if_false]
    rw [e]
    rw [if_neg h8'] at hmany
    refine Gets.last Tryz.tabOk (ov := ptO noOv 27 [v] H [(.int .i64 0, H)]) (ptO_ok noOv_ok hmany) 8 (s' := ?sn11) ?hn11 ?kn11; (case hn11 => (simp -implicitDefEqProofs (disch := first | (simp only [ne_eq, Nat.reduceEqDiff, not_false_eq_true, Nat.reduceLT]; done) | assumption | (simp only [s_push_next, s_put_next, Nat.beq_refl]; done) | ((try simp only [s_push_next, s_put_next]) <;> omega) | exact s_one_map _ | exact s_one_slice _ _ _ _ _ | (refine (id ?_ : plainDraw _ = true); kernel_rfl) | fail) only [sxL, s_castN, s_cells_one, noOv, callFn, kindOf, kindC, kindB, unA, boxA, loadPtr, nilCheckA, fst1, ofValue, ofScalar, len, intBin, ibin, boolO, guardA, cCond, condV, cRet, cExit, cSkip, resOut, resultA, extractA, tupleO, Nat.reduceEqDiff, Nat.reduceAdd, Nat.reduceSub, Nat.reduceLT, Nat.reduceBEq, reduceCtorEq, Nat.reduceMod, Nat.reduceLeDiff, Int.reduceLT, Int.reduceAdd, Int.reduceEq, Int.reduceToNat, s_draw] <;> rfl)); (try (change Gets _ _ _ _ _ _; repeat refine Gets.seq ?_))
    refine Gets.last Tryz.tabOk (ov := noOv) (noOv_ok) 8 (s' := ?sn12) ?hn12 ?kn12; (case hn12 => (simp -implicitDefEqProofs (disch := first | (simp only [ne_eq, Nat.reduceEqDiff, not_false_eq_true, Nat.reduceLT]; done) | assumption | (simp only [s_push_next, s_put_next, Nat.beq_refl]; done) | ((try simp only [s_push_next, s_put_next]) <;> omega) | exact s_one_map _ | exact s_one_slice _ _ _ _ _ | (refine (id ?_ : plainDraw _ = true); kernel_rfl) | fail) only [sxL, s_castN, s_cells_one, noOv, callFn, kindOf, kindC, kindB, unA, boxA, loadPtr, nilCheckA, fst1, ofValue, ofScalar, len, intBin, ibin, boolO, guardA, cCond, condV, cRet, cExit, cSkip, resOut, resultA, extractA, tupleO, Nat.reduceEqDiff, Nat.reduceAdd, Nat.reduceSub, Nat.reduceLT, Nat.reduceBEq, reduceCtorEq, Nat.reduceMod, Nat.reduceLeDiff, Int.reduceLT, Int.reduceAdd, Int.reduceEq, Int.reduceToNat, s_draw] <;> rfl)); (try (change Gets _ _ _ _ _ _; repeat refine Gets.seq ?_))
    refine Gets.condF (by simp (disch := decide) only [sxL]) (Gets.skip Tryz.tabOk ?_)
    change Gets _ _ _ _ _ _
    repeat refine Gets.seq ?_
    refine Gets.last Tryz.tabOk (ov := noOv) (noOv_ok) 8 (s' := ?sn13) ?hn13 ?kn13; (case hn13 => (simp -implicitDefEqProofs (disch := first | (simp only [ne_eq, Nat.reduceEqDiff, not_false_eq_true, Nat.reduceLT]; done) | assumption | (simp only [s_push_next, s_put_next, Nat.beq_refl]; done) | ((try simp only [s_push_next, s_put_next]) <;> omega) | exact s_one_map _ | exact s_one_slice _ _ _ _ _ | (refine (id ?_ : plainDraw _ = true); kernel_rfl) | fail) only [sxL, s_castN, s_cells_one, noOv, callFn, kindOf, kindC, kindB, unA, boxA, loadPtr, nilCheckA, fst1, ofValue, ofScalar, len, intBin, ibin, boolO, guardA, cCond, condV, cRet, cExit, cSkip, resOut, resultA, extractA, tupleO, Nat.reduceEqDiff, Nat.reduceAdd, Nat.reduceSub, Nat.reduceLT, Nat.reduceBEq, reduceCtorEq, Nat.reduceMod, Nat.reduceLeDiff, Int.reduceLT, Int.reduceAdd, Int.reduceEq, Int.reduceToNat, s_draw, hlen, make27 _ _ (show l.length ≤ 500 by omega)] <;> rfl)); (try (change Gets _ _ _ _ _ _; repeat refine Gets.seq ?_))
    refine Gets.last Tryz.tabOk (ov := noOv) (noOv_ok) 8 (s' := ?sn14) ?hn14 ?kn14; (case hn14 => (simp -implicitDefEqProofs (disch := first | (simp only [ne_eq, Nat.reduceEqDiff, not_false_eq_true, Nat.reduceLT]; done) | assumption | (simp only [s_push_next, s_put_next, Nat.beq_refl]; done) | ((try simp only [s_push_next, s_put_next]) <;> omega) | exact s_one_map _ | exact s_one_slice _ _ _ _ _ | (refine (id ?_ : plainDraw _ = true); kernel_rfl) | fail) only [sxL, s_castN, s_cells_one, noOv, callFn, kindOf, kindC, kindB, unA, boxA, loadPtr, nilCheckA, fst1, ofValue, ofScalar, len, intBin, ibin, boolO, guardA, cCond, condV, cRet, cExit, cSkip, resOut, resultA, extractA, tupleO, Nat.reduceEqDiff, Nat.reduceAdd, Nat.reduceSub, Nat.reduceLT, Nat.reduceBEq, reduceCtorEq, Nat.reduceMod, Nat.reduceLeDiff, Int.reduceLT, Int.reduceAdd, Int.reduceEq, Int.reduceToNat, s_draw] <;> rfl)); (try (change Gets _ _ _ _ _ _; repeat refine Gets.seq ?_))
    have hrep : ((callsL l).map fun _ => 0) = List.replicate l.length 0 := by rw [List.map_const', hcl]
    have hAt0 : AtIn (callsL l) (List.replicate l.length 0) := ⟨by simp [hcl], fun g lg i h1 h2 => by
      have h3 := (List.getElem?_eq_some_iff.1 h2).2
      simp at h3; omega⟩
    have htot0 : totR (callsL l) (List.replicate l.length 0) = totA (callsL l) := by rw [← hrep]; exact totR_start _
    have hR : refR evs (callsL l) = refGo evs (callsL l) (totA (callsL l)) (List.replicate l.length 0) := by rw [← hrep]; rfl
    generalize htot' : totA (callsL l) = tot at *
    refine Gets.uptoH tot (fun i tm h => ∃ at_ pre, RefI H h l.length at_ pre ∧ pre.length = i ∧ AtIn (callsL l) at_ ∧ totR (callsL l) at_ = tot - i ∧ (refGo evs (callsL l) (tot - i) at_).map (pre ++ ·) = refR evs (callsL l) ∧
      tm.get 0 = some v ∧ tm.get 1 = some w ∧ tm.get 9 = some (.slice H.next 0 l.length false l.length) ∧ tm.get 10 = some (outV (H.next + 2 * i) (natL pre)))
      ⟨List.replicate l.length 0, [], RefI.start H hN _, rfl, hAt0, htot0, by rw [hR]; simp, by simp (disch := decide) only [sxL], by simp (disch := decide) only [sxL], by simp (disch := decide) only [sxL], by simp (disch := decide) only [sxL]; rfl⟩ ?_
    rintro i tm h hi ⟨at_, pre, I, hpl, hA, htr, hgo, i0, i1, i9, i10⟩
    refine Gets.blk ?_
    repeat refine Gets.seq ?_
    have hal : at_.length = l.length := by rw [hA.1, hcl]
    have hvh := hv.grow hN I.grows
    have hwh := (hw.grow hN I.grows).pre
    refine Gets.last Tryz.tabOk (ov := noOv) (noOv_ok) 8 (s' := ?sn15) ?hn15 ?kn15; (case hn15 => (simp -implicitDefEqProofs (disch := first | (simp only [ne_eq, Nat.reduceEqDiff, not_false_eq_true, Nat.reduceLT]; done) | assumption | (simp only [s_push_next, s_put_next, Nat.beq_refl]; done) | ((try simp only [s_push_next, s_put_next]) <;> omega) | exact s_one_map _ | exact s_one_slice _ _ _ _ _ | (refine (id ?_ : plainDraw _ = true); kernel_rfl) | fail) only [sxL, s_castN, s_cells_one, noOv, callFn, kindOf, kindC, kindB, unA, boxA, loadPtr, nilCheckA, fst1, ofValue, ofScalar, len, intBin, ibin, boolO, guardA, cCond, condV, cRet, cExit, cSkip, resOut, resultA, extractA, tupleO, Nat.reduceEqDiff, Nat.reduceAdd, Nat.reduceSub, Nat.reduceLT, Nat.reduceBEq, reduceCtorEq, Nat.reduceMod, Nat.reduceLeDiff, Int.reduceLT, Int.reduceAdd, Int.reduceEq, Int.reduceToNat, s_draw] <;> rfl)); (try (change Gets _ _ _ _ _ _; repeat refine Gets.seq ?_))
    refine Gets.last Tryz.tabOk (ov := noOv) (noOv_ok) 8 (s' := ?sn16) ?hn16 ?kn16; (case hn16 => (simp -implicitDefEqProofs (disch := first | (simp only [ne_eq, Nat.reduceEqDiff, not_false_eq_true, Nat.reduceLT]; done) | assumption | (simp only [s_push_next, s_put_next, Nat.beq_refl]; done) | ((try simp only [s_push_next, s_put_next]) <;> omega) | exact s_one_map _ | exact s_one_slice _ _ _ _ _ | (refine (id ?_ : plainDraw _ = true); kernel_rfl) | fail) only [sxL, s_castN, s_cells_one, noOv, callFn, kindOf, kindC, kindB, unA, boxA, loadPtr, nilCheckA, fst1, ofValue, ofScalar, len, intBin, ibin, boolO, guardA, cCond, condV, cRet, cExit, cSkip, resOut, resultA, extractA, tupleO, Nat.reduceEqDiff, Nat.reduceAdd, Nat.reduceSub, Nat.reduceLT, Nat.reduceBEq, reduceCtorEq, Nat.reduceMod, Nat.reduceLeDiff, Int.reduceLT, Int.reduceAdd, Int.reduceEq, Int.reduceToNat, s_draw] <;> rfl)); (try (change Gets _ _ _ _ _ _; repeat refine Gets.seq ?_))
    refine Gets.last Tryz.tabOk (ov := noOv) (noOv_ok) 8 (s' := ?sn17) ?hn17 ?kn17; (case hn17 => (simp -implicitDefEqProofs (disch := first | (simp only [ne_eq, Nat.reduceEqDiff, not_false_eq_true, Nat.reduceLT]; done) | assumption | (simp only [s_push_next, s_put_next, Nat.beq_refl]; done) | ((try simp only [s_push_next, s_put_next]) <;> omega) | exact s_one_map _ | exact s_one_slice _ _ _ _ _ | (refine (id ?_ : plainDraw _ = true); kernel_rfl) | fail) only [sxL, s_castN, s_cells_one, noOv, callFn, kindOf, kindC, kindB, unA, boxA, loadPtr, nilCheckA, fst1, ofValue, ofScalar, len, intBin, ibin, boolO, guardA, cCond, condV, cRet, cExit, cSkip, resOut, resultA, extractA, tupleO, Nat.reduceEqDiff, Nat.reduceAdd, Nat.reduceSub, Nat.reduceLT, Nat.reduceBEq, reduceCtorEq, Nat.reduceMod, Nat.reduceLeDiff, Int.reduceLT, Int.reduceAdd, Int.reduceEq, Int.reduceToNat, s_draw] <;> rfl)); (try (change Gets _ _ _ _ _ _; repeat refine Gets.seq ?_))
    refine Gets.upto l.length (fun g tm => tm.get 0 = some v ∧ tm.get 1 = some w ∧ tm.get 9 = some (.slice H.next 0 l.length false l.length) ∧ tm.get 10 = some (outV (H.next + 2 * i) (natL pre)) ∧
      tm.get 11 = some (.int .i64 (optI (nextRf (qB evs (callsL l) at_) ((callsL l).take g) (at_.take g) 0))) ∧ tm.get 12 = some (.bool (anyL ((callsL l).take g) (at_.take g))) ∧ tm.get 13 = some (.int .i64 (g : Int)))
      ⟨by simp (disch := decide) only [sxL, i0], by simp (disch := decide) only [sxL, i1], by simp (disch := decide) only [sxL, i9], by simp (disch := decide) only [sxL, i10], by simp (disch := decide) only [sxL]; rfl, by simp (disch := decide) only [sxL]; rfl, by simp (disch := decide) only [sxL]⟩ ?_
    rintro g tm hg ⟨j0, j1, j9, j10, j11, j12, j13⟩
    repeat refine Gets.seq ?_
    by_cases hlg : (g : Int) < (l.length : Int)
    · obtain ⟨x, hki⟩ : ∃ k, l[g]? = some k := ⟨_, List.getElem?_eq_getElem (by omega)⟩
      obtain ⟨ai, hai⟩ : ∃ k, at_[g]? = some k := ⟨_, List.getElem?_eq_getElem (by omega)⟩
      have hcg : (callsL l)[g]? = some (callsOf x) := by simp [callsL, hki]
      have hcx : (callsOf x).length = x.l.length := by simp [callsOf]
      have hle := hA.2 g _ _ hcg hai
      rw [hcx] at hle
      have hx40 := h40 x (List.mem_of_getElem? hki)
      have hlens : ((callsL l).take g).length = (at_.take g).length := by rw [List.length_take, List.length_take, hcl, hal]
      have hg' : ((callsL l).take g).length = g := by rw [List.length_take, hcl]; omega
      have hnx := nextRf_snoc (q := qB evs (callsL l) at_) (lg := callsOf x) (i := ai) (g0 := 0) hlens
      rw [← take_snoc hcg, ← take_snoc hai, hg', Nat.zero_add] at hnx
      have han := anyL_snoc (lg := callsOf x) (i := ai) hlens
      rw [← take_snoc hcg, ← take_snoc hai, hcx] at han
      obtain ⟨b, hx, hc1, _⟩ := hvh.1.row ud22 sz33 LogV.len hki
      have hc : cellIn (h.blks.get b) (g * 1) = some x.v := hc1 0 (by omega)
      have hX := hvh.2 x (List.mem_of_getElem? hki)
      have hlx := hX.1.len ud33
      have ix : indexAddrA Tryz.tab 27 (.slice H.next 0 l.length false l.length) (.int .i64 (g : Int)) = some (.ptr H.next g) := by
        rw [s_indexSlice ud27 sz3, if_pos ⟨by omega, by omega⟩]; simp
      have pb : cellIn (h.blks.get H.next) g = some (.int .i64 (ai : Int)) := by rw [I.ba, s_cellIn]; exact natL_at hai
      have hwg : awrap .i64 ((g : Int) + 1) = (g : Int) + 1 := s_wrap (by omega) (by omega)
      refine Gets.last Tryz.tabOk (ov := noOv) (noOv_ok) 8 (s' := ?sn18) ?hn18 ?kn18; (case hn18 => (simp -implicitDefEqProofs (disch := first | (simp only [ne_eq, Nat.reduceEqDiff, not_false_eq_true, Nat.reduceLT]; done) | assumption | (simp only [s_push_next, s_put_next, Nat.beq_refl]; done) | ((try simp only [s_push_next, s_put_next]) <;> omega) | exact s_one_map _ | exact s_one_slice _ _ _ _ _ | (refine (id ?_ : plainDraw _ = true); kernel_rfl) | fail) only [sxL, s_castN, s_cells_one, noOv, callFn, kindOf, kindC, kindB, unA, boxA, loadPtr, nilCheckA, fst1, ofValue, ofScalar, len, intBin, ibin, boolO, guardA, cCond, condV, cRet, cExit, cSkip, resOut, resultA, extractA, tupleO, Nat.reduceEqDiff, Nat.reduceAdd, Nat.reduceSub, Nat.reduceLT, Nat.reduceBEq, reduceCtorEq, Nat.reduceMod, Nat.reduceLeDiff, Int.reduceLT, Int.reduceAdd, Int.reduceEq, Int.reduceToNat, s_draw, j0, j13, hlen, hlg] <;> rfl)); (try (change Gets _ _ _ _ _ _; repeat refine Gets.seq ?_))
      refine Gets.condT (by simp (disch := decide) only [sxL]) (Gets.skip Tryz.tabOk ?_)
      change Gets _ _ _ _ _ _
      refine Gets.seq (Gets.blk ?_)
      repeat refine Gets.seq ?_
      by_cases hlt : (ai : Int) < (x.l.length : Int)
      · obtain ⟨cd, hcd⟩ : ∃ k, x.l[ai]? = some k := ⟨_, List.getElem?_eq_getElem (by omega)⟩
        obtain ⟨b', hx', hcc1, _⟩ := hX.1.row ud33 sz44 CmdK.len hcd
        have kc : cellIn (h.blks.get b') (ai * 24 + 1) = some (.int .i64 cd.cmd.call) := hcc1 1 (by omega)
        have hk : (callsOf x)[ai]? = some cd.cmd.call := by simp [callsOf, hcd]
        rw [qB_some hk] at hnx
        have h28 := refMay_run h v w H.next l at_ evs cd.cmd.call hvh hwh I.ba hal hA I.neat hm h8 h40
        have hd1 : decide (ai < x.l.length) = true := by simp; omega
        rw [hd1, Bool.or_true] at han
        refine Gets.last Tryz.tabOk (ov := noOv) (noOv_ok) 8 (s' := ?sn19) ?hn19 ?kn19; (case hn19 => (simp -implicitDefEqProofs (disch := first | (simp only [ne_eq, Nat.reduceEqDiff, not_false_eq_true, Nat.reduceLT]; done) | assumption | (simp only [s_push_next, s_put_next, Nat.beq_refl]; done) | ((try simp only [s_push_next, s_put_next]) <;> omega) | exact s_one_map _ | exact s_one_slice _ _ _ _ _ | (refine (id ?_ : plainDraw _ = true); kernel_rfl) | fail) only [sxL, s_castN, s_cells_one, noOv, callFn, kindOf, kindC, kindB, unA, boxA, loadPtr, nilCheckA, fst1, ofValue, ofScalar, len, intBin, ibin, boolO, guardA, cCond, condV, cRet, cExit, cSkip, resOut, resultA, extractA, tupleO, Nat.reduceEqDiff, Nat.reduceAdd, Nat.reduceSub, Nat.reduceLT, Nat.reduceBEq, reduceCtorEq, Nat.reduceMod, Nat.reduceLeDiff, Int.reduceLT, Int.reduceAdd, Int.reduceEq, Int.reduceToNat, s_draw, j0, j9, j13, ix, s_varFalse ia3, pb, hx, s_varFalse ia33, hc, hlx, hlt] <;> rfl)); (try (change Gets _ _ _ _ _ _; repeat refine Gets.seq ?_))
        refine Gets.condT (by simp (disch := decide) only [sxL]) ?_
        repeat refine Gets.seq ?_
        refine Gets.last Tryz.tabOk (ov := noOv) (noOv_ok) 8 (s' := ?sn20) ?hn20 ?kn20; (case hn20 => (simp -implicitDefEqProofs (disch := first | (simp only [ne_eq, Nat.reduceEqDiff, not_false_eq_true, Nat.reduceLT]; done) | assumption | (simp only [s_push_next, s_put_next, Nat.beq_refl]; done) | ((try simp only [s_push_next, s_put_next]) <;> omega) | exact s_one_map _ | exact s_one_slice _ _ _ _ _ | (refine (id ?_ : plainDraw _ = true); kernel_rfl) | fail) only [sxL, s_castN, s_cells_one, noOv, callFn, kindOf, kindC, kindB, unA, boxA, loadPtr, nilCheckA, fst1, ofValue, ofScalar, len, intBin, ibin, boolO, guardA, cCond, condV, cRet, cExit, cSkip, resOut, resultA, extractA, tupleO, Nat.reduceEqDiff, Nat.reduceAdd, Nat.reduceSub, Nat.reduceLT, Nat.reduceBEq, reduceCtorEq, Nat.reduceMod, Nat.reduceLeDiff, Int.reduceLT, Int.reduceAdd, Int.reduceEq, Int.reduceToNat, s_draw] <;> rfl)); (try (change Gets _ _ _ _ _ _; repeat refine Gets.seq ?_))
        have hneg := optI_neg (nextRf (qB evs (callsL l) at_) ((callsL l).take g) (at_.take g) 0)
        cases hcur : nextRf (qB evs (callsL l) at_) ((callsL l).take g) (at_.take g) 0 with
        | some y =>
          rw [hcur] at hnx j11
          have hy : ¬ (y : Int) < 0 := by omega
          have j11 : tm.get 11 = some (.int .i64 (y : Int)) := j11
          refine Gets.last Tryz.tabOk (ov := noOv) (noOv_ok) 8 (s' := ?sn21) ?hn21 ?kn21; (case hn21 => (simp -implicitDefEqProofs (disch := first | (simp only [ne_eq, Nat.reduceEqDiff, not_false_eq_true, Nat.reduceLT]; done) | assumption | (simp only [s_push_next, s_put_next, Nat.beq_refl]; done) | ((try simp only [s_push_next, s_put_next]) <;> omega) | exact s_one_map _ | exact s_one_slice _ _ _ _ _ | (refine (id ?_ : plainDraw _ = true); kernel_rfl) | fail) only [sxL, s_castN, s_cells_one, noOv, callFn, kindOf, kindC, kindB, unA, boxA, loadPtr, nilCheckA, fst1, ofValue, ofScalar, len, intBin, ibin, boolO, guardA, cCond, condV, cRet, cExit, cSkip, resOut, resultA, extractA, tupleO, Nat.reduceEqDiff, Nat.reduceAdd, Nat.reduceSub, Nat.reduceLT, Nat.reduceBEq, reduceCtorEq, Nat.reduceMod, Nat.reduceLeDiff, Int.reduceLT, Int.reduceAdd, Int.reduceEq, Int.reduceToNat, s_draw, j11, hy] <;> rfl)); (try (change Gets _ _ _ _ _ _; repeat refine Gets.seq ?_))
          refine Gets.condF (by simp (disch := decide) only [sxL]) (Gets.skip Tryz.tabOk ?_)
          change Gets _ _ _ _ _ _
          refine Gets.last Tryz.tabOk (ov := noOv) (noOv_ok) 8 (s' := ?sn22) ?hn22 ?kn22; (case hn22 => (simp -implicitDefEqProofs (disch := first | (simp only [ne_eq, Nat.reduceEqDiff, not_false_eq_true, Nat.reduceLT]; done) | assumption | (simp only [s_push_next, s_put_next, Nat.beq_refl]; done) | ((try simp only [s_push_next, s_put_next]) <;> omega) | exact s_one_map _ | exact s_one_slice _ _ _ _ _ | (refine (id ?_ : plainDraw _ = true); kernel_rfl) | fail) only [sxL, s_castN, s_cells_one, noOv, callFn, kindOf, kindC, kindB, unA, boxA, loadPtr, nilCheckA, fst1, ofValue, ofScalar, len, intBin, ibin, boolO, guardA, cCond, condV, cRet, cExit, cSkip, resOut, resultA, extractA, tupleO, Nat.reduceEqDiff, Nat.reduceAdd, Nat.reduceSub, Nat.reduceLT, Nat.reduceBEq, reduceCtorEq, Nat.reduceMod, Nat.reduceLeDiff, Int.reduceLT, Int.reduceAdd, Int.reduceEq, Int.reduceToNat, s_draw, j13, hwg] <;> rfl)); (try (change Gets _ _ _ _ _ _; repeat refine Gets.seq ?_))
          refine ⟨_, rfl, by omega, ?_, ?_, ?_, ?_, ?_, ?_, ?_⟩
          · simp (disch := decide) only [sxL, j0]
          · simp (disch := decide) only [sxL, j1]
          · simp (disch := decide) only [sxL, j9]
          · simp (disch := decide) only [sxL, j10]
          · rw [hnx]; simp (disch := decide) only [sxL, j11]; rfl
          · rw [han]; simp (disch := decide) only [sxL]
          · simp (disch := decide) only [sxL, s_castS]
        | none =>
          rw [hcur] at hnx j11
          have j11 : tm.get 11 = some (.int .i64 (-1)) := j11
          cases hq : (decide (cd.cmd.call = 0) || mayL (stopB evs cd.cmd.call) (callsL l) at_)
          · rw [hq] at hnx h28
            refine Gets.last Tryz.tabOk (ov := ptO noOv 28 [v, .slice H.next 0 l.length false l.length, w, .int .i64 cd.cmd.call] h [(.bool false, h)]) (ptO_ok noOv_ok h28) 8 (s' := ?sn23) ?hn23 ?kn23; (case hn23 => (simp -implicitDefEqProofs (disch := first | (simp only [ne_eq, Nat.reduceEqDiff, not_false_eq_true, Nat.reduceLT]; done) | assumption | (simp only [s_push_next, s_put_next, Nat.beq_refl]; done) | ((try simp only [s_push_next, s_put_next]) <;> omega) | exact s_one_map _ | exact s_one_slice _ _ _ _ _ | (refine (id ?_ : plainDraw _ = true); kernel_rfl) | fail) only [sxL, s_castN, s_cells_one, noOv, callFn, kindOf, kindC, kindB, unA, boxA, loadPtr, nilCheckA, fst1, ofValue, ofScalar, len, intBin, ibin, boolO, guardA, cCond, condV, cRet, cExit, cSkip, resOut, resultA, extractA, tupleO, Nat.reduceEqDiff, Nat.reduceAdd, Nat.reduceSub, Nat.reduceLT, Nat.reduceBEq, reduceCtorEq, Nat.reduceMod, Nat.reduceLeDiff, Int.reduceLT, Int.reduceAdd, Int.reduceEq, Int.reduceToNat, s_draw, j0, j1, j9, j11, j13, ix, s_varFalse ia3, pb, hx, s_varFalse ia33, hc, hx', fa44_1, kc] <;> rfl)); (try (change Gets _ _ _ _ _ _; repeat refine Gets.seq ?_))
            refine Gets.condF (by simp (disch := decide) only [sxL]) (Gets.skip Tryz.tabOk ?_)
            change Gets _ _ _ _ _ _
            refine Gets.last Tryz.tabOk (ov := noOv) (noOv_ok) 8 (s' := ?sn24) ?hn24 ?kn24; (case hn24 => (simp -implicitDefEqProofs (disch := first | (simp only [ne_eq, Nat.reduceEqDiff, not_false_eq_true, Nat.reduceLT]; done) | assumption | (simp only [s_push_next, s_put_next, Nat.beq_refl]; done) | ((try simp only [s_push_next, s_put_next]) <;> omega) | exact s_one_map _ | exact s_one_slice _ _ _ _ _ | (refine (id ?_ : plainDraw _ = true); kernel_rfl) | fail) only [sxL, s_castN, s_cells_one, noOv, callFn, kindOf, kindC, kindB, unA, boxA, loadPtr, nilCheckA, fst1, ofValue, ofScalar, len, intBin, ibin, boolO, guardA, cCond, condV, cRet, cExit, cSkip, resOut, resultA, extractA, tupleO, Nat.reduceEqDiff, Nat.reduceAdd, Nat.reduceSub, Nat.reduceLT, Nat.reduceBEq, reduceCtorEq, Nat.reduceMod, Nat.reduceLeDiff, Int.reduceLT, Int.reduceAdd, Int.reduceEq, Int.reduceToNat, s_draw, j13, hwg] <;> rfl)); (try (change Gets _ _ _ _ _ _; repeat refine Gets.seq ?_))
            refine ⟨_, rfl, by omega, ?_, ?_, ?_, ?_, ?_, ?_, ?_⟩
            · simp (disch := decide) only [sxL, j0]
            · simp (disch := decide) only [sxL, j1]
            · simp (disch := decide) only [sxL, j9]
            · simp (disch := decide) only [sxL, j10]
            · rw [hnx]; simp (disch := decide) only [sxL, j11]; rfl
            · rw [han]; simp (disch := decide) only [sxL]
            · simp (disch := decide) only [sxL, s_castS]
          · rw [hq] at hnx h28
            refine Gets.last Tryz.tabOk (ov := ptO noOv 28 [v, .slice H.next 0 l.length false l.length, w, .int .i64 cd.cmd.call] h [(.bool true, h)]) (ptO_ok noOv_ok h28) 8 (s' := ?sn25) ?hn25 ?kn25; (case hn25 => (simp -implicitDefEqProofs (disch := first | (simp only [ne_eq, Nat.reduceEqDiff, not_false_eq_true, Nat.reduceLT]; done) | assumption | (simp only [s_push_next, s_put_next, Nat.beq_refl]; done) | ((try simp only [s_push_next, s_put_next]) <;> omega) | exact s_one_map _ | exact s_one_slice _ _ _ _ _ | (refine (id ?_ : plainDraw _ = true); kernel_rfl) | fail) only [sxL, s_castN, s_cells_one, noOv, callFn, kindOf, kindC, kindB, unA, boxA, loadPtr, nilCheckA, fst1, ofValue, ofScalar, len, intBin, ibin, boolO, guardA, cCond, condV, cRet, cExit, cSkip, resOut, resultA, extractA, tupleO, Nat.reduceEqDiff, Nat.reduceAdd, Nat.reduceSub, Nat.reduceLT, Nat.reduceBEq, reduceCtorEq, Nat.reduceMod, Nat.reduceLeDiff, Int.reduceLT, Int.reduceAdd, Int.reduceEq, Int.reduceToNat, s_draw, j0, j1, j9, j11, j13, ix, s_varFalse ia3, pb, hx, s_varFalse ia33, hc, hx', fa44_1, kc] <;> rfl)); (try (change Gets _ _ _ _ _ _; repeat refine Gets.seq ?_))
            refine Gets.condT (by simp (disch := decide) only [sxL]) ?_
            refine Gets.last Tryz.tabOk (ov := noOv) (noOv_ok) 8 (s' := ?sn26) ?hn26 ?kn26; (case hn26 => (simp -implicitDefEqProofs (disch := first | (simp only [ne_eq, Nat.reduceEqDiff, not_false_eq_true, Nat.reduceLT]; done) | assumption | (simp only [s_push_next, s_put_next, Nat.beq_refl]; done) | ((try simp only [s_push_next, s_put_next]) <;> omega) | exact s_one_map _ | exact s_one_slice _ _ _ _ _ | (refine (id ?_ : plainDraw _ = true); kernel_rfl) | fail) only [sxL, s_castN, s_cells_one, noOv, callFn, kindOf, kindC, kindB, unA, boxA, loadPtr, nilCheckA, fst1, ofValue, ofScalar, len, intBin, ibin, boolO, guardA, cCond, condV, cRet, cExit, cSkip, resOut, resultA, extractA, tupleO, Nat.reduceEqDiff, Nat.reduceAdd, Nat.reduceSub, Nat.reduceLT, Nat.reduceBEq, reduceCtorEq, Nat.reduceMod, Nat.reduceLeDiff, Int.reduceLT, Int.reduceAdd, Int.reduceEq, Int.reduceToNat, s_draw, j13] <;> rfl)); (try (change Gets _ _ _ _ _ _; repeat refine Gets.seq ?_))
            refine Gets.last Tryz.tabOk (ov := noOv) (noOv_ok) 8 (s' := ?sn27) ?hn27 ?kn27; (case hn27 => (simp -implicitDefEqProofs (disch := first | (simp only [ne_eq, Nat.reduceEqDiff, not_false_eq_true, Nat.reduceLT]; done) | assumption | (simp only [s_push_next, s_put_next, Nat.beq_refl]; done) | ((try simp only [s_push_next, s_put_next]) <;> omega) | exact s_one_map _ | exact s_one_slice _ _ _ _ _ | (refine (id ?_ : plainDraw _ = true); kernel_rfl) | fail) only [sxL, s_castN, s_cells_one, noOv, callFn, kindOf, kindC, kindB, unA, boxA, loadPtr, nilCheckA, fst1, ofValue, ofScalar, len, intBin, ibin, boolO, guardA, cCond, condV, cRet, cExit, cSkip, resOut, resultA, extractA, tupleO, Nat.reduceEqDiff, Nat.reduceAdd, Nat.reduceSub, Nat.reduceLT, Nat.reduceBEq, reduceCtorEq, Nat.reduceMod, Nat.reduceLeDiff, Int.reduceLT, Int.reduceAdd, Int.reduceEq, Int.reduceToNat, s_draw, j13, hwg] <;> rfl)); (try (change Gets _ _ _ _ _ _; repeat refine Gets.seq ?_))
            refine ⟨_, rfl, by omega, ?_, ?_, ?_, ?_, ?_, ?_, ?_⟩
            · simp (disch := decide) only [sxL, j0]
            · simp (disch := decide) only [sxL, j1]
            · simp (disch := decide) only [sxL, j9]
            · simp (disch := decide) only [sxL, j10]
            · rw [hnx]; simp (disch := decide) only [sxL]; rfl
            · rw [han]; simp (disch := decide) only [sxL]
            · simp (disch := decide) only [sxL, s_castS]
      · have hk : (callsOf x)[ai]? = none := by rw [List.getElem?_eq_none]; omega
        rw [qB_none hk] at hnx
        have hd0 : decide (ai < x.l.length) = false := by simp; omega
        rw [hd0, Bool.or_false] at han
        refine Gets.last Tryz.tabOk (ov := noOv) (noOv_ok) 8 (s' := ?sn28) ?hn28 ?kn28; (case hn28 => (simp -implicitDefEqProofs (disch := first | (simp only [ne_eq, Nat.reduceEqDiff, not_false_eq_true, Nat.reduceLT]; done) | assumption | (simp only [s_push_next, s_put_next, Nat.beq_refl]; done) | ((try simp only [s_push_next, s_put_next]) <;> omega) | exact s_one_map _ | exact s_one_slice _ _ _ _ _ | (refine (id ?_ : plainDraw _ = true); kernel_rfl) | fail) only [sxL, s_castN, s_cells_one, noOv, callFn, kindOf, kindC, kindB, unA, boxA, loadPtr, nilCheckA, fst1, ofValue, ofScalar, len, intBin, ibin, boolO, guardA, cCond, condV, cRet, cExit, cSkip, resOut, resultA, extractA, tupleO, Nat.reduceEqDiff, Nat.reduceAdd, Nat.reduceSub, Nat.reduceLT, Nat.reduceBEq, reduceCtorEq, Nat.reduceMod, Nat.reduceLeDiff, Int.reduceLT, Int.reduceAdd, Int.reduceEq, Int.reduceToNat, s_draw, j0, j9, j13, ix, s_varFalse ia3, pb, hx, s_varFalse ia33, hc, hlx, hlt] <;> rfl)); (try (change Gets _ _ _ _ _ _; repeat refine Gets.seq ?_))
        refine Gets.condF (by simp (disch := decide) only [sxL]) (Gets.skip Tryz.tabOk ?_)
        change Gets _ _ _ _ _ _
        have hnx' : nextRf (qB evs (callsL l) at_) ((callsL l).take (g + 1)) (at_.take (g + 1)) 0 = nextRf (qB evs (callsL l) at_) ((callsL l).take g) (at_.take g) 0 := by
          rw [hnx]; split <;> simp_all
        refine Gets.last Tryz.tabOk (ov := noOv) (noOv_ok) 8 (s' := ?sn29) ?hn29 ?kn29; (case hn29 => (simp -implicitDefEqProofs (disch := first | (simp only [ne_eq, Nat.reduceEqDiff, not_false_eq_true, Nat.reduceLT]; done) | assumption | (simp only [s_push_next, s_put_next, Nat.beq_refl]; done) | ((try simp only [s_push_next, s_put_next]) <;> omega) | exact s_one_map _ | exact s_one_slice _ _ _ _ _ | (refine (id ?_ : plainDraw _ = true); kernel_rfl) | fail) only [sxL, s_castN, s_cells_one, noOv, callFn, kindOf, kindC, kindB, unA, boxA, loadPtr, nilCheckA, fst1, ofValue, ofScalar, len, intBin, ibin, boolO, guardA, cCond, condV, cRet, cExit, cSkip, resOut, resultA, extractA, tupleO, Nat.reduceEqDiff, Nat.reduceAdd, Nat.reduceSub, Nat.reduceLT, Nat.reduceBEq, reduceCtorEq, Nat.reduceMod, Nat.reduceLeDiff, Int.reduceLT, Int.reduceAdd, Int.reduceEq, Int.reduceToNat, s_draw, j13, hwg] <;> rfl)); (try (change Gets _ _ _ _ _ _; repeat refine Gets.seq ?_))
        refine ⟨_, rfl, by omega, ?_, ?_, ?_, ?_, ?_, ?_, ?_⟩
        · simp (disch := decide) only [sxL, j0]
        · simp (disch := decide) only [sxL, j1]
        · simp (disch := decide) only [sxL, j9]
        · simp (disch := decide) only [sxL, j10]
        · rw [hnx']; simp (disch := decide) only [sxL, j11]
        · rw [han]; simp (disch := decide) only [sxL, j12]
        · simp (disch := decide) only [sxL, s_castS]
    · have hgl : g = l.length := by omega
      have htk : (callsL l).take g = callsL l := List.take_of_length_le (by omega)
      have htk2 : at_.take g = at_ := List.take_of_length_le (by omega)
      rw [htk, htk2] at j11 j12
      rw [anyL_tot, htr] at j12
      refine Gets.last Tryz.tabOk (ov := noOv) (noOv_ok) 8 (s' := ?sn30) ?hn30 ?kn30; (case hn30 => (simp -implicitDefEqProofs (disch := first | (simp only [ne_eq, Nat.reduceEqDiff, not_false_eq_true, Nat.reduceLT]; done) | assumption | (simp only [s_push_next, s_put_next, Nat.beq_refl]; done) | ((try simp only [s_push_next, s_put_next]) <;> omega) | exact s_one_map _ | exact s_one_slice _ _ _ _ _ | (refine (id ?_ : plainDraw _ = true); kernel_rfl) | fail) only [sxL, s_castN, s_cells_one, noOv, callFn, kindOf, kindC, kindB, unA, boxA, loadPtr, nilCheckA, fst1, ofValue, ofScalar, len, intBin, ibin, boolO, guardA, cCond, condV, cRet, cExit, cSkip, resOut, resultA, extractA, tupleO, Nat.reduceEqDiff, Nat.reduceAdd, Nat.reduceSub, Nat.reduceLT, Nat.reduceBEq, reduceCtorEq, Nat.reduceMod, Nat.reduceLeDiff, Int.reduceLT, Int.reduceAdd, Int.reduceEq, Int.reduceToNat, s_draw, j0, j13, hlen, hlg] <;> rfl)); (try (change Gets _ _ _ _ _ _; repeat refine Gets.seq ?_))
      refine Gets.condF (by simp (disch := decide) only [sxL]) (Gets.exit Tryz.tabOk ?_)
      refine inBlk_exit ?_
      change Gets _ _ _ _ _ _
      repeat refine Gets.seq ?_
      have hnx := I.next
      by_cases hit : i = tot
      · have hz : decide (0 < tot - i) = false := by simp; omega
        rw [hz] at j12
        have hres : refR evs (callsL l) = some pre := by
          rw [← hgo, hit, Nat.sub_self]; simp [refGo]
        rw [hres]
        refine Gets.last Tryz.tabOk (ov := noOv) (noOv_ok) 8 (s' := ?sn31) ?hn31 ?kn31; (case hn31 => (simp -implicitDefEqProofs (disch := first | (simp only [ne_eq, Nat.reduceEqDiff, not_false_eq_true, Nat.reduceLT]; done) | assumption | (simp only [s_push_next, s_put_next, Nat.beq_refl]; done) | ((try simp only [s_push_next, s_put_next]) <;> omega) | exact s_one_map _ | exact s_one_slice _ _ _ _ _ | (refine (id ?_ : plainDraw _ = true); kernel_rfl) | fail) only [sxL, s_castN, s_cells_one, noOv, callFn, kindOf, kindC, kindB, unA, boxA, loadPtr, nilCheckA, fst1, ofValue, ofScalar, len, intBin, ibin, boolO, guardA, cCond, condV, cRet, cExit, cSkip, resOut, resultA, extractA, tupleO, Nat.reduceEqDiff, Nat.reduceAdd, Nat.reduceSub, Nat.reduceLT, Nat.reduceBEq, reduceCtorEq, Nat.reduceMod, Nat.reduceLeDiff, Int.reduceLT, Int.reduceAdd, Int.reduceEq, Int.reduceToNat, s_draw, j12] <;> rfl)); (try (change Gets _ _ _ _ _ _; repeat refine Gets.seq ?_))
        refine Gets.condT (by simp (disch := decide) only [sxL]) (Gets.seq ?_)
        refine Gets.last Tryz.tabOk (ov := noOv) (noOv_ok) 8 (s' := ?sn32) ?hn32 ?kn32; (case hn32 => (simp -implicitDefEqProofs (disch := first | (simp only [ne_eq, Nat.reduceEqDiff, not_false_eq_true, Nat.reduceLT]; done) | assumption | (simp only [s_push_next, s_put_next, Nat.beq_refl]; done) | ((try simp only [s_push_next, s_put_next]) <;> omega) | exact s_one_map _ | exact s_one_slice _ _ _ _ _ | (refine (id ?_ : plainDraw _ = true); kernel_rfl) | fail) only [sxL, s_castN, s_cells_one, noOv, callFn, kindOf, kindC, kindB, unA, boxA, loadPtr, nilCheckA, fst1, ofValue, ofScalar, len, intBin, ibin, boolO, guardA, cCond, condV, cRet, cExit, cSkip, resOut, resultA, extractA, tupleO, Nat.reduceEqDiff, Nat.reduceAdd, Nat.reduceSub, Nat.reduceLT, Nat.reduceBEq, reduceCtorEq, Nat.reduceMod, Nat.reduceLeDiff, Int.reduceLT, Int.reduceAdd, Int.reduceEq, Int.reduceToNat, s_draw, j10] <;> rfl)); (try (change Gets _ _ _ _ _ _; repeat refine Gets.seq ?_))
        refine Gets.ret Tryz.tabOk ?_
        rw [hit]
        exact ⟨rfl, rfl, [outV (H.next + 2 * tot) (natL pre), .bool true, .int .i64 0], by simp (disch := decide) only [sxL, Tryz.f10, resultA], _, List.mem_singleton.2 rfl, cut_out hN I.grows (fun hp => ⟨by omega, by show H.next + 2 * tot < h.next; omega, by rw [← hit, ← hpl]; exact I.out hp⟩) ⟨trivial, trivial, trivial⟩⟩
      · have hz : decide (0 < tot - i) = true := by simp; omega
        rw [hz] at j12
        refine Gets.last Tryz.tabOk (ov := noOv) (noOv_ok) 8 (s' := ?sn33) ?hn33 ?kn33; (case hn33 => (simp -implicitDefEqProofs (disch := first | (simp only [ne_eq, Nat.reduceEqDiff, not_false_eq_true, Nat.reduceLT]; done) | assumption | (simp only [s_push_next, s_put_next, Nat.beq_refl]; done) | ((try simp only [s_push_next, s_put_next]) <;> omega) | exact s_one_map _ | exact s_one_slice _ _ _ _ _ | (refine (id ?_ : plainDraw _ = true); kernel_rfl) | fail) only [sxL, s_castN, s_cells_one, noOv, callFn, kindOf, kindC, kindB, unA, boxA, loadPtr, nilCheckA, fst1, ofValue, ofScalar, len, intBin, ibin, boolO, guardA, cCond, condV, cRet, cExit, cSkip, resOut, resultA, extractA, tupleO, Nat.reduceEqDiff, Nat.reduceAdd, Nat.reduceSub, Nat.reduceLT, Nat.reduceBEq, reduceCtorEq, Nat.reduceMod, Nat.reduceLeDiff, Int.reduceLT, Int.reduceAdd, Int.reduceEq, Int.reduceToNat, s_draw, j12] <;> rfl)); (try (change Gets _ _ _ _ _ _; repeat refine Gets.seq ?_))
        refine Gets.condF (by simp (disch := decide) only [sxL]) (Gets.skip Tryz.tabOk ?_)
        change Gets _ _ _ _ _ _
        repeat refine Gets.seq ?_
        obtain ⟨m, hm1⟩ : ∃ m, tot - i = m + 1 := ⟨tot - i - 1, by omega⟩
        cases hcur : nextRf (qB evs (callsL l) at_) (callsL l) at_ 0 with
        | none =>
          have hres : refR evs (callsL l) = none := by
            rw [← hgo, hm1]; simp [refGo, hcur]
          rw [hres]
          rw [hcur] at j11
          have j11 : tm.get 11 = some (.int .i64 (-1)) := j11
          refine Gets.last Tryz.tabOk (ov := noOv) (noOv_ok) 8 (s' := ?sn34) ?hn34 ?kn34; (case hn34 => (simp -implicitDefEqProofs (disch := first | (simp only [ne_eq, Nat.reduceEqDiff, not_false_eq_true, Nat.reduceLT]; done) | assumption | (simp only [s_push_next, s_put_next, Nat.beq_refl]; done) | ((try simp only [s_push_next, s_put_next]) <;> omega) | exact s_one_map _ | exact s_one_slice _ _ _ _ _ | (refine (id ?_ : plainDraw _ = true); kernel_rfl) | fail) only [sxL, s_castN, s_cells_one, noOv, callFn, kindOf, kindC, kindB, unA, boxA, loadPtr, nilCheckA, fst1, ofValue, ofScalar, len, intBin, ibin, boolO, guardA, cCond, condV, cRet, cExit, cSkip, resOut, resultA, extractA, tupleO, Nat.reduceEqDiff, Nat.reduceAdd, Nat.reduceSub, Nat.reduceLT, Nat.reduceBEq, reduceCtorEq, Nat.reduceMod, Nat.reduceLeDiff, Int.reduceLT, Int.reduceAdd, Int.reduceEq, Int.reduceToNat, s_draw, j11] <;> rfl)); (try (change Gets _ _ _ _ _ _; repeat refine Gets.seq ?_))
          refine Gets.condT (by simp (disch := decide) only [sxL]) (Gets.seq ?_)
          refine Gets.last Tryz.tabOk (ov := noOv) (noOv_ok) 8 (s' := ?sn35) ?hn35 ?kn35; (case hn35 => (simp -implicitDefEqProofs (disch := first | (simp only [ne_eq, Nat.reduceEqDiff, not_false_eq_true, Nat.reduceLT]; done) | assumption | (simp only [s_push_next, s_put_next, Nat.beq_refl]; done) | ((try simp only [s_push_next, s_put_next]) <;> omega) | exact s_one_map _ | exact s_one_slice _ _ _ _ _ | (refine (id ?_ : plainDraw _ = true); kernel_rfl) | fail) only [sxL, s_castN, s_cells_one, noOv, callFn, kindOf, kindC, kindB, unA, boxA, loadPtr, nilCheckA, fst1, ofValue, ofScalar, len, intBin, ibin, boolO, guardA, cCond, condV, cRet, cExit, cSkip, resOut, resultA, extractA, tupleO, Nat.reduceEqDiff, Nat.reduceAdd, Nat.reduceSub, Nat.reduceLT, Nat.reduceBEq, reduceCtorEq, Nat.reduceMod, Nat.reduceLeDiff, Int.reduceLT, Int.reduceAdd, Int.reduceEq, Int.reduceToNat, s_draw] <;> rfl)); (try (change Gets _ _ _ _ _ _; repeat refine Gets.seq ?_))
          refine Gets.ret Tryz.tabOk ?_
          exact ⟨rfl, rfl, [.nilslice, .bool false, .int .i64 0], by simp (disch := decide) only [sxL, Tryz.f10, resultA], _, List.mem_singleton.2 rfl, .pure I.grows.next I.grows.get hN ⟨trivial, trivial, trivial, trivial⟩⟩
        | some g' =>
          rw [hcur] at j11
          have j11 : tm.get 11 = some (.int .i64 (g' : Int)) := j11
          have hy : ¬ (g' : Int) < 0 := by omega
          obtain ⟨_, lg, ai, q1, q2, q3⟩ := nextRf_some hcur
          simp only [Nat.sub_zero] at q1 q2
          obtain ⟨k, hk⟩ : ∃ k, lg[ai]? = some k := by
            cases hk : lg[ai]? with
            | none => rw [qB_none hk] at q3; cases q3
            | some k => exact ⟨k, rfl⟩
          have hail := (List.getElem?_eq_some_iff.1 hk).1
          obtain ⟨x, hki⟩ : ∃ k, l[g']? = some k := ⟨_, List.getElem?_eq_getElem (by have := (List.getElem?_eq_some_iff.1 q1).1; omega)⟩
          have hlg' : lg = callsOf x := by simp [callsL, hki] at q1; exact q1.symm
          have hx40 := h40 x (List.mem_of_getElem? hki)
          have hcx : (callsOf x).length = x.l.length := by simp [callsOf]
          have hgl' := (List.getElem?_eq_some_iff.1 hki).1
          have hgo' : (refGo evs (callsL l) (tot - (i + 1)) (at_.set g' (ai + 1))).map ((pre ++ [g']) ++ ·) = refR evs (callsL l) := by
            rw [← hgo, hm1, show tot - (i + 1) = m by omega]
            simp only [refGo, hcur, incAt_eq q2, Option.map_map]
            congr 1
            funext y
            simp
          have hstep := I.step (at_.set g' (ai + 1)) g'
          have hA' := hA.set q1 hail
          have htr' : totR (callsL l) (at_.set g' (ai + 1)) = tot - (i + 1) := by
            have := totR_set q1 q2 hail
            omega
          have ix : indexAddrA Tryz.tab 27 (.slice H.next 0 l.length false l.length) (.int .i64 (g' : Int)) = some (.ptr H.next g') := by
            rw [s_indexSlice ud27 sz3, if_pos ⟨by omega, by omega⟩]; simp
          have happ := app_out (h := h.push (.cells 3 true [.int .i64 (g' : Int)])) (b := h.next) (d := H.next + 2 * i) (l := natL pre) (w := .int .i64 (g' : Int)) (s_push_same _ _)
            (fun hp => by
              have hp' : pre ≠ [] := fun e => hp (by rw [e]; rfl)
              have := List.length_pos_iff.2 hp'
              have hq := I.out hp'
              rw [hpl] at hq
              rw [s_push_other _ _ (by omega)]; exact hq) rfl (natL_one _) (by rw [natL_len]; omega)
          have hpn : (h.push (.cells 3 true [.int .i64 (g' : Int)])).next = h.next + 1 := s_push_next _ _
          have b3 : (appH (h.push (.cells 3 true [.int .i64 (g' : Int)])) (H.next + 2 * i) (natL pre) (.int .i64 (g' : Int))).blks.get H.next = some (.cells 3 true (natL at_)) := by
            rw [appH_other _ _ _ _ (by rw [hpn]; omega) (fun hp => by
              have hp' : pre ≠ [] := fun e => hp (by rw [e]; rfl)
              have := List.length_pos_iff.2 hp'
              omega), s_push_other _ _ (by omega)]; exact I.ba
          have n3 : (appH (h.push (.cells 3 true [.int .i64 (g' : Int)])) (H.next + 2 * i) (natL pre) (.int .i64 (g' : Int))).next = h.next + 2 := by rw [appH_next, hpn]
          rw [hpl] at hstep
          refine Gets.last Tryz.tabOk (ov := noOv) (noOv_ok) 8 (s' := ?sn36) ?hn36 ?kn36; (case hn36 => (simp -implicitDefEqProofs (disch := first | (simp only [ne_eq, Nat.reduceEqDiff, not_false_eq_true, Nat.reduceLT]; done) | assumption | (simp only [s_push_next, s_put_next, Nat.beq_refl]; done) | ((try simp only [s_push_next, s_put_next]) <;> omega) | exact s_one_map _ | exact s_one_slice _ _ _ _ _ | (refine (id ?_ : plainDraw _ = true); kernel_rfl) | fail) only [sxL, s_castN, s_cells_one, noOv, callFn, kindOf, kindC, kindB, unA, boxA, loadPtr, nilCheckA, fst1, ofValue, ofScalar, len, intBin, ibin, boolO, guardA, cCond, condV, cRet, cExit, cSkip, resOut, resultA, extractA, tupleO, Nat.reduceEqDiff, Nat.reduceAdd, Nat.reduceSub, Nat.reduceLT, Nat.reduceBEq, reduceCtorEq, Nat.reduceMod, Nat.reduceLeDiff, Int.reduceLT, Int.reduceAdd, Int.reduceEq, Int.reduceToNat, s_draw, j11, hy] <;> rfl)); (try (change Gets _ _ _ _ _ _; repeat refine Gets.seq ?_))
          refine Gets.condF (by simp (disch := decide) only [sxL]) (Gets.skip Tryz.tabOk ?_)
          change Gets _ _ _ _ _ _
          repeat refine Gets.seq ?_
          refine Gets.last Tryz.tabOk (ov := noOv) (noOv_ok) 8 (s' := ?sn37) ?hn37 ?kn37; (case hn37 => (simp -implicitDefEqProofs (disch := first | (simp only [ne_eq, Nat.reduceEqDiff, not_false_eq_true, Nat.reduceLT]; done) | assumption | (simp only [s_push_next, s_put_next, Nat.beq_refl]; done) | ((try simp only [s_push_next, s_put_next]) <;> omega) | exact s_one_map _ | exact s_one_slice _ _ _ _ _ | (refine (id ?_ : plainDraw _ = true); kernel_rfl) | fail) only [sxL, s_castN, s_cells_one, noOv, callFn, kindOf, kindC, kindB, unA, boxA, loadPtr, nilCheckA, fst1, ofValue, ofScalar, len, intBin, ibin, boolO, guardA, cCond, condV, cRet, cExit, cSkip, resOut, resultA, extractA, tupleO, Nat.reduceEqDiff, Nat.reduceAdd, Nat.reduceSub, Nat.reduceLT, Nat.reduceBEq, reduceCtorEq, Nat.reduceMod, Nat.reduceLeDiff, Int.reduceLT, Int.reduceAdd, Int.reduceEq, Int.reduceToNat, s_draw, j10, j11, bs27, z_opApp, happ] <;> rfl)); (try (change Gets _ _ _ _ _ _; repeat refine Gets.seq ?_))
          change Gets _ _ _ _ ⟨_, appH (h.push (.cells 3 true [.int .i64 (g' : Int)])) (H.next + 2 * i) (natL pre) (.int .i64 (g' : Int)), _⟩ _
          generalize appH (h.push (.cells 3 true [.int .i64 (g' : Int)])) (H.next + 2 * i) (natL pre) (.int .i64 (g' : Int)) = h3 at *
          have pb3 : cellIn (h3.blks.get H.next) g' = some (.int .i64 (ai : Int)) := by rw [b3, s_cellIn]; exact natL_at q2
          have hst := store_one (G := Tryz.tab) (t := 3) (v := .int .i64 ((ai : Int) + 1)) b3 sz3 (off := g') (by rw [natL_len]; omega) rfl
          have hset : (natL at_).set g' (.int .i64 ((ai : Int) + 1)) = natL (at_.set g' (ai + 1)) := natL_set at_ g' (ai + 1)
          rw [hset] at hst
          have hwa : awrap .i64 ((ai : Int) + 1) = (ai : Int) + 1 := s_wrap (by omega) (by rw [hlg', hcx] at hail; omega)
          refine Gets.last Tryz.tabOk (ov := noOv) (noOv_ok) 8 (s' := ?sn38) ?hn38 ?kn38; (case hn38 => (simp -implicitDefEqProofs (disch := first | (simp only [ne_eq, Nat.reduceEqDiff, not_false_eq_true, Nat.reduceLT]; done) | assumption | (simp only [s_push_next, s_put_next, Nat.beq_refl]; done) | ((try simp only [s_push_next, s_put_next]) <;> omega) | exact s_one_map _ | exact s_one_slice _ _ _ _ _ | (refine (id ?_ : plainDraw _ = true); kernel_rfl) | fail) only [sxL, s_castN, s_cells_one, noOv, callFn, kindOf, kindC, kindB, unA, boxA, loadPtr, nilCheckA, fst1, ofValue, ofScalar, len, intBin, ibin, boolO, guardA, cCond, condV, cRet, cExit, cSkip, resOut, resultA, extractA, tupleO, Nat.reduceEqDiff, Nat.reduceAdd, Nat.reduceSub, Nat.reduceLT, Nat.reduceBEq, reduceCtorEq, Nat.reduceMod, Nat.reduceLeDiff, Int.reduceLT, Int.reduceAdd, Int.reduceEq, Int.reduceToNat, s_draw, j9, j11, ix, pb3, s_varFalse ia3, hwa, hst] <;> rfl)); (try (change Gets _ _ _ _ _ _; repeat refine Gets.seq ?_))
          refine ⟨_, _, rfl, by omega, at_.set g' (ai + 1), pre ++ [g'], hstep, by simp [hpl], hA', htr', hgo', ?_, ?_, ?_, ?_⟩
          · simp (disch := decide) only [sxL, j0]
          · simp (disch := decide) only [sxL, j1]
          · simp (disch := decide) only [sxL, j9]
          · rw [← natL_snoc, show H.next + 2 * (i + 1) = h.next + 1 by omega]; simp (disch := decide) only [sxL]
end Go.Proofs
