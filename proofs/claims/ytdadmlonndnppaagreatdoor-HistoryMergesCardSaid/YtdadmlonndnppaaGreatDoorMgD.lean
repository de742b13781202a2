/-
  The document's Check and Ints, walked; its merging as a plain function.
-/
import Derived.Test.YtdadmlonndnppaaGreatDoorMgC
set_option linter.unusedSimpArgs false
set_option linter.unusedVariables false
namespace Go.Proofs
open Go.Sx
set_option maxRecDepth 100000
noncomputable def callR (m : Nat) (e : EvV) : Bool := decide (e.call = (m : Int) + 1) && (decide (e.cmd.call = (m : Int) + 1) && (callKindB e.cmd.kind && repZ e))
noncomputable def replyR (evs : List EvV) (i m : Nat) (e : EvV) : Bool := !decide (e.call < 1) && (!decide ((m : Int) < e.call) && (decide (findI (repB e.call) (evs.take i) 0 < 0) && (eqZ e.cmd e.keys.length && decide (checkReply e.err e.num e.data = 0))))
/-- what the document asks of events: where it is not so -/
noncomputable def chkGo (evs : List EvV) : List EvV → Nat → Nat → Option Nat
  | [], _, _ => none
  | e :: l, i, m => if e.reply then (if replyR evs i m e then chkGo evs l (i + 1) m else some i) else (if callR m e then chkGo evs l (i + 1) (m + 1) else some i)
noncomputable def chkV (o : Option Nat) : AV := match o with
  | none => .tuple [.int .i64 0, .int .i64 0]
  | some i => .tuple [.int .i64 (i : Int), .int .i64 10]
theorem check_run (l : List EvV) (hm : l.length ≤ 1000) (v : AV) (H : Heap) (hv : EvsAt H v l) (hcap : ∀ b o n c, v = .slice b o n false c → n ≤ c) (hN : Neat H) : CallTo Tryz.prog Tryz.tab 26 [v] H [(chkV (chkGo l l 0 0), H)] := by
  refine callTo_of Tryz.tabOk Tryz.func26 rfl rfl ?_
  show Gets Tryz.prog Tryz.tab ⟨none, 81⟩ _ _ _
  have hlen := hv.1.len ud23
  have hmany : ¬ 4000 < (l.length : Int) := by omega
  repeat refine Gets.seq ?_
  refine Gets.last Tryz.tabOk (ov := noOv) (noOv_ok) 8 (s' := ?sn7) ?hn7 ?kn7; (case hn7 => (simp -implicitDefEqProofs (disch := first | (simp only [ne_eq, Nat.reduceEqDiff, not_false_eq_true, Nat.reduceLT]; done) | assumption | (simp only [s_push_next, s_put_next, Nat.beq_refl]; done) | ((try simp only [s_push_next, s_put_next]) <;> omega) | exact s_one_map _ | exact s_one_slice _ _ _ _ _ | (refine (id ?_ : plainDraw _ = true); kernel_rfl) | fail) only [sxL, s_castN, s_cells_one, noOv, callFn, kindOf, kindC, kindB, unA, boxA, loadPtr, nilCheckA, fst1, ofValue, ofScalar, len, intBin, ibin, boolO, guardA, cCond, condV, cRet, cExit, cSkip, resOut, resultA, extractA, tupleO, Nat.reduceEqDiff, Nat.reduceAdd, Nat.reduceSub, Nat.reduceLT, Nat.reduceBEq, reduceCtorEq, Nat.reduceMod, Nat.reduceLeDiff, Int.reduceLT, Int.reduceAdd, Int.reduceEq, Int.reduceToNat, s_draw] <;> rfl)); (try (change Gets _ _ _ _ _ _; repeat refine Gets.seq ?_))
  refine Gets.last Tryz.tabOk (ov := noOv) (noOv_ok) 8 (s' := ?sn8) ?hn8 ?kn8; (case hn8 => (simp -implicitDefEqProofs (disch := first | (simp only [ne_eq, Nat.reduceEqDiff, not_false_eq_true, Nat.reduceLT]; done) | assumption | (simp only [s_push_next, s_put_next, Nat.beq_refl]; done) | ((try simp only [s_push_next, s_put_next]) <;> omega) | exact s_one_map _ | exact s_one_slice _ _ _ _ _ | (refine (id ?_ : plainDraw _ = true); kernel_rfl) | fail) only [sxL, s_castN, s_cells_one, noOv, callFn, kindOf, kindC, kindB, unA, boxA, loadPtr, nilCheckA, fst1, ofValue, ofScalar, len, intBin, ibin, boolO, guardA, cCond, condV, cRet, cExit, cSkip, resOut, resultA, extractA, tupleO, Nat.reduceEqDiff, Nat.reduceAdd, Nat.reduceSub, Nat.reduceLT, Nat.reduceBEq, reduceCtorEq, Nat.reduceMod, Nat.reduceLeDiff, Int.reduceLT, Int.reduceAdd, Int.reduceEq, Int.reduceToNat, s_draw, hlen] <;> rfl)); (try (change Gets _ _ _ _ _ _; repeat refine Gets.seq ?_))
  refine Gets.condF (by simp (disch := decide) only [sxL, hmany]) (Gets.skip Tryz.tabOk ?_)
  change Gets _ _ _ _ _ _
  repeat refine Gets.seq ?_
  refine Gets.last Tryz.tabOk (ov := noOv) (noOv_ok) 8 (s' := ?sn9) ?hn9 ?kn9; (case hn9 => (simp -implicitDefEqProofs (disch := first | (simp only [ne_eq, Nat.reduceEqDiff, not_false_eq_true, Nat.reduceLT]; done) | assumption | (simp only [s_push_next, s_put_next, Nat.beq_refl]; done) | ((try simp only [s_push_next, s_put_next]) <;> omega) | exact s_one_map _ | exact s_one_slice _ _ _ _ _ | (refine (id ?_ : plainDraw _ = true); kernel_rfl) | fail) only [sxL, s_castN, s_cells_one, noOv, callFn, kindOf, kindC, kindB, unA, boxA, loadPtr, nilCheckA, fst1, ofValue, ofScalar, len, intBin, ibin, boolO, guardA, cCond, condV, cRet, cExit, cSkip, resOut, resultA, extractA, tupleO, Nat.reduceEqDiff, Nat.reduceAdd, Nat.reduceSub, Nat.reduceLT, Nat.reduceBEq, reduceCtorEq, Nat.reduceMod, Nat.reduceLeDiff, Int.reduceLT, Int.reduceAdd, Int.reduceEq, Int.reduceToNat, s_draw] <;> rfl)); (try (change Gets _ _ _ _ _ _; repeat refine Gets.seq ?_))
  refine Gets.last Tryz.tabOk (ov := noOv) (noOv_ok) 8 (s' := ?sn10) ?hn10 ?kn10; (case hn10 => (simp -implicitDefEqProofs (disch := first | (simp only [ne_eq, Nat.reduceEqDiff, not_false_eq_true, Nat.reduceLT]; done) | assumption | (simp only [s_push_next, s_put_next, Nat.beq_refl]; done) | ((try simp only [s_push_next, s_put_next]) <;> omega) | exact s_one_map _ | exact s_one_slice _ _ _ _ _ | (refine (id ?_ : plainDraw _ = true); kernel_rfl) | fail) only [sxL, s_castN, s_cells_one, noOv, callFn, kindOf, kindC, kindB, unA, boxA, loadPtr, nilCheckA, fst1, ofValue, ofScalar, len, intBin, ibin, boolO, guardA, cCond, condV, cRet, cExit, cSkip, resOut, resultA, extractA, tupleO, Nat.reduceEqDiff, Nat.reduceAdd, Nat.reduceSub, Nat.reduceLT, Nat.reduceBEq, reduceCtorEq, Nat.reduceMod, Nat.reduceLeDiff, Int.reduceLT, Int.reduceAdd, Int.reduceEq, Int.reduceToNat, s_draw] <;> rfl)); (try (change Gets _ _ _ _ _ _; repeat refine Gets.seq ?_))
  refine Gets.uptoH l.length (fun i tm h => ∃ m : Nat, m ≤ i ∧ Grows H h ∧ Neat h ∧ chkGo l (l.drop i) i m = chkGo l l 0 0 ∧ tm.get 0 = some v ∧ tm.get 4 = some (.int .i64 (m : Int)) ∧ tm.get 5 = some (.int .i64 (i : Int)))
    ⟨0, Nat.le_refl _, .refl _, hN, rfl, by simp (disch := decide) only [sxL], by simp (disch := decide) only [sxL], by simp (disch := decide) only [sxL]⟩ ?_
  rintro i tm h hi ⟨m, hmi, hg, hNh, hgo, i0, i4, i5⟩
  repeat refine Gets.seq ?_
  by_cases hlt : (i : Int) < (l.length : Int)
  · obtain ⟨e, hki⟩ : ∃ k, l[i]? = some k := ⟨_, List.getElem?_eq_getElem (by omega)⟩
    have hvh := hv.grow hN hg
    obtain ⟨b, hx, hc1, hc2⟩ := hvh.1.row ud23 sz51 EvV.len hki
    have hc : Sx.cellsIn (h.blks.get b) (i * 29) 29 = some e.cells := hc2 0 29 (by omega)
    have hst0 := hvh.2 e (List.mem_of_getElem? hki)
    have hst : storePtr Tryz.tab (h.push (.cells 51 true zev)) 51 (.ptr h.next 0) (.agg e.cells) = some (putBlk (h.push (.cells 51 true zev)) h.next (some (.cells 51 true e.cells))) :=
      store_full (s_push_same _ _) sz51 rfl (EvV.one hst0.one) (by simp [EvV.cells])
    have hg1 : Grows h (putBlk (h.push (.cells 51 true zev)) h.next (some (.cells 51 true e.cells))) := ⟨by rw [s_put_next, s_push_next]; omega, fun x hx => by rw [s_put_other _ _ _ (by omega), s_push_other _ _ (by omega)]⟩
    have hN1 : Neat (putBlk (h.push (.cells 51 true zev)) h.next (some (.cells 51 true e.cells))) := (hNh.push _).put (by rw [s_push_next]; omega) _
    have hat : (putBlk (h.push (.cells 51 true zev)) h.next (some (.cells 51 true e.cells))).blks.get h.next = some (.cells 51 true e.cells) := s_put_same _ _ _
    rw [drop_cons hki] at hgo
    have hw : awrap .i64 ((i : Int) + 1) = (i : Int) + 1 := s_wrap (by omega) (by omega)
    have hwm : awrap .i64 ((m : Int) + 1) = (m : Int) + 1 := s_wrap (by omega) (by omega)
    refine Gets.last Tryz.tabOk (ov := noOv) (noOv_ok) 8 (s' := ?sn11) ?hn11 ?kn11; (case hn11 => (simp -implicitDefEqProofs (disch := first | (simp only [ne_eq, Nat.reduceEqDiff, not_false_eq_true, Nat.reduceLT]; done) | assumption | (simp only [s_push_next, s_put_next, Nat.beq_refl]; done) | ((try simp only [s_push_next, s_put_next]) <;> omega) | exact s_one_map _ | exact s_one_slice _ _ _ _ _ | (refine (id ?_ : plainDraw _ = true); kernel_rfl) | fail) only [sxL, s_castN, s_cells_one, noOv, callFn, kindOf, kindC, kindB, unA, boxA, loadPtr, nilCheckA, fst1, ofValue, ofScalar, len, intBin, ibin, boolO, guardA, cCond, condV, cRet, cExit, cSkip, resOut, resultA, extractA, tupleO, Nat.reduceEqDiff, Nat.reduceAdd, Nat.reduceSub, Nat.reduceLT, Nat.reduceBEq, reduceCtorEq, Nat.reduceMod, Nat.reduceLeDiff, Int.reduceLT, Int.reduceAdd, Int.reduceEq, Int.reduceToNat, s_draw, i0, i5, hlen, hlt] <;> rfl)); (try (change Gets _ _ _ _ _ _; repeat refine Gets.seq ?_))
    refine Gets.condT (by simp (disch := decide) only [sxL]) (Gets.skip Tryz.tabOk ?_)
    change Gets _ _ _ _ _ _
    refine Gets.seq (Gets.blk ?_)
    repeat refine Gets.seq ?_
    refine Gets.last Tryz.tabOk (ov := noOv) (noOv_ok) 8 (s' := ?sn12) ?hn12 ?kn12; (case hn12 => (simp -implicitDefEqProofs (disch := first | (simp only [ne_eq, Nat.reduceEqDiff, not_false_eq_true, Nat.reduceLT]; done) | assumption | (simp only [s_push_next, s_put_next, Nat.beq_refl]; done) | ((try simp only [s_push_next, s_put_next]) <;> omega) | exact s_one_map _ | exact s_one_slice _ _ _ _ _ | (refine (id ?_ : plainDraw _ = true); kernel_rfl) | fail) only [sxL, s_castN, s_cells_one, noOv, callFn, kindOf, kindC, kindB, unA, boxA, loadPtr, nilCheckA, fst1, ofValue, ofScalar, len, intBin, ibin, boolO, guardA, cCond, condV, cRet, cExit, cSkip, resOut, resultA, extractA, tupleO, Nat.reduceEqDiff, Nat.reduceAdd, Nat.reduceSub, Nat.reduceLT, Nat.reduceBEq, reduceCtorEq, Nat.reduceMod, Nat.reduceLeDiff, Int.reduceLT, Int.reduceAdd, Int.reduceEq, Int.reduceToNat, s_draw, i0, i5, hx, s_varTrue ia51 sz51, hc, zero51, zev_one, hst] <;> rfl)); (try (change Gets _ _ _ _ _ _; repeat refine Gets.seq ?_))
    generalize putBlk (h.push (.cells 51 true zev)) h.next (some (.cells 51 true e.cells)) = h1 at hg1 hN1 hat
    have e0 : cellIn (h1.blks.get h.next) 0 = some (.int .i64 e.call) := by rw [hat]; rfl
    have e1 : cellIn (h1.blks.get h.next) 1 = some (.bool e.reply) := by rw [hat]; rfl
    have e2 : Sx.cellsIn (h1.blks.get h.next) 2 24 = some e.cmd.cells := by rw [hat, s_cellsIn]; rfl
    have e2c : cellIn (h1.blks.get h.next) 3 = some (.int .i64 e.cmd.call) := by rw [hat]; rfl
    have e3 : Sx.cellsIn (h1.blks.get h.next) 26 3 = some [.int .i64 e.err, .int .i64 e.num, .str e.data] := by rw [hat, s_cellsIn]; rfl
    have hst1 := (hv.grow hN (hg.trans hg1)).2 e (List.mem_of_getElem? hki)
    have hgg := hg.trans hg1
    refine Gets.last Tryz.tabOk (ov := noOv) (noOv_ok) 8 (s' := ?sn13) ?hn13 ?kn13; (case hn13 => (simp -implicitDefEqProofs (disch := first | (simp only [ne_eq, Nat.reduceEqDiff, not_false_eq_true, Nat.reduceLT]; done) | assumption | (simp only [s_push_next, s_put_next, Nat.beq_refl]; done) | ((try simp only [s_push_next, s_put_next]) <;> omega) | exact s_one_map _ | exact s_one_slice _ _ _ _ _ | (refine (id ?_ : plainDraw _ = true); kernel_rfl) | fail) only [sxL, s_castN, s_cells_one, noOv, callFn, kindOf, kindC, kindB, unA, boxA, loadPtr, nilCheckA, fst1, ofValue, ofScalar, len, intBin, ibin, boolO, guardA, cCond, condV, cRet, cExit, cSkip, resOut, resultA, extractA, tupleO, Nat.reduceEqDiff, Nat.reduceAdd, Nat.reduceSub, Nat.reduceLT, Nat.reduceBEq, reduceCtorEq, Nat.reduceMod, Nat.reduceLeDiff, Int.reduceLT, Int.reduceAdd, Int.reduceEq, Int.reduceToNat, s_draw, fa51_1, s_varFalse ia4, e1] <;> rfl)); (try (change Gets _ _ _ _ _ _; repeat refine Gets.seq ?_))
    cases hrep : e.reply
    · have hck := refCall_run e.cmd h1 hst1.one hN1
      refine Gets.condT (by simp (disch := decide) only [sxL, hrep]) ?_
      repeat refine Gets.seq ?_
      refine Gets.last Tryz.tabOk (ov := noOv) (noOv_ok) 8 (s' := ?sn14) ?hn14 ?kn14; (case hn14 => (simp -implicitDefEqProofs (disch := first | (simp only [ne_eq, Nat.reduceEqDiff, not_false_eq_true, Nat.reduceLT]; done) | assumption | (simp only [s_push_next, s_put_next, Nat.beq_refl]; done) | ((try simp only [s_push_next, s_put_next]) <;> omega) | exact s_one_map _ | exact s_one_slice _ _ _ _ _ | (refine (id ?_ : plainDraw _ = true); kernel_rfl) | fail) only [sxL, s_castN, s_cells_one, noOv, callFn, kindOf, kindC, kindB, unA, boxA, loadPtr, nilCheckA, fst1, ofValue, ofScalar, len, intBin, ibin, boolO, guardA, cCond, condV, cRet, cExit, cSkip, resOut, resultA, extractA, tupleO, Nat.reduceEqDiff, Nat.reduceAdd, Nat.reduceSub, Nat.reduceLT, Nat.reduceBEq, reduceCtorEq, Nat.reduceMod, Nat.reduceLeDiff, Int.reduceLT, Int.reduceAdd, Int.reduceEq, Int.reduceToNat, s_draw, i4, hwm] <;> rfl)); (try (change Gets _ _ _ _ _ _; repeat refine Gets.seq ?_))
      refine Gets.midA (H := h1) (I := fun tm => tm.get 0 = some v ∧ tm.get 4 = some (.int .i64 ((m : Int) + 1)) ∧ tm.get 5 = some (.int .i64 (i : Int)) ∧ tm.get 47 = some (.bool (!callR m e))) ?_ ?_
      · by_cases h1' : ¬ e.call = (m : Int) + 1
        · try simp only [Decidable.not_not, Bool.not_eq_true] at h1'
          have hck' := hck
          try rw [h3] at hck'
          try simp only [repZ] at h4
          refine Gets.last Tryz.tabOk (ov := ptO noOv 43 [.agg e.cmd.cells] h1 [(.bool (callKindB e.cmd.kind), h1)]) (ptO_ok noOv_ok hck) 8 (s' := ?sn15) ?hn15 ?kn15; (case hn15 => (simp -implicitDefEqProofs (disch := first | (simp only [ne_eq, Nat.reduceEqDiff, not_false_eq_true, Nat.reduceLT]; done) | assumption | (simp only [s_push_next, s_put_next, Nat.beq_refl]; done) | ((try simp only [s_push_next, s_put_next]) <;> omega) | exact s_one_map _ | exact s_one_slice _ _ _ _ _ | (refine (id ?_ : plainDraw _ = true); kernel_rfl) | fail) only [sxL, s_castN, s_cells_one, noOv, callFn, kindOf, kindC, kindB, unA, boxA, loadPtr, nilCheckA, fst1, ofValue, ofScalar, len, intBin, ibin, boolO, guardA, cCond, condV, cRet, cExit, cSkip, resOut, resultA, extractA, tupleO, Nat.reduceEqDiff, Nat.reduceAdd, Nat.reduceSub, Nat.reduceLT, Nat.reduceBEq, reduceCtorEq, Nat.reduceMod, Nat.reduceLeDiff, Int.reduceLT, Int.reduceAdd, Int.reduceEq, Int.reduceToNat, s_draw, fa51_0, fa51_2, fa51_3, fa44_1, s_varFalse ia3, s_varTrue ia44 sz44, s_varTrue ia49 sz49, e0, e2, e2c, e3, build49, eq49, eqBin, notO, s_sbeq, h1'] <;> rfl)); (try (change Gets _ _ _ _ _ _; repeat refine Gets.seq ?_))
          refine ⟨rfl, _, rfl, ?_, ?_, ?_, ?_⟩
          · simp (disch := decide) only [sxL, i0]
          · simp (disch := decide) only [sxL]
          · simp (disch := decide) only [sxL, i5]
          · simp only [callR, repZ, h1']
            simp (disch := decide) only [sxL, h1']
        · by_cases h2 : ¬ e.cmd.call = (m : Int) + 1
          · try simp only [Decidable.not_not, Bool.not_eq_true] at h1' h2
            have hck' := hck
            try rw [h3] at hck'
            try simp only [repZ] at h4
            refine Gets.last Tryz.tabOk (ov := ptO noOv 43 [.agg e.cmd.cells] h1 [(.bool (callKindB e.cmd.kind), h1)]) (ptO_ok noOv_ok hck) 8 (s' := ?sn16) ?hn16 ?kn16; (case hn16 => (simp -implicitDefEqProofs (disch := first | (simp only [ne_eq, Nat.reduceEqDiff, not_false_eq_true, Nat.reduceLT]; done) | assumption | (simp only [s_push_next, s_put_next, Nat.beq_refl]; done) | ((try simp only [s_push_next, s_put_next]) <;> omega) | exact s_one_map _ | exact s_one_slice _ _ _ _ _ | (refine (id ?_ : plainDraw _ = true); kernel_rfl) | fail) only [sxL, s_castN, s_cells_one, noOv, callFn, kindOf, kindC, kindB, unA, boxA, loadPtr, nilCheckA, fst1, ofValue, ofScalar, len, intBin, ibin, boolO, guardA, cCond, condV, cRet, cExit, cSkip, resOut, resultA, extractA, tupleO, Nat.reduceEqDiff, Nat.reduceAdd, Nat.reduceSub, Nat.reduceLT, Nat.reduceBEq, reduceCtorEq, Nat.reduceMod, Nat.reduceLeDiff, Int.reduceLT, Int.reduceAdd, Int.reduceEq, Int.reduceToNat, s_draw, fa51_0, fa51_2, fa51_3, fa44_1, s_varFalse ia3, s_varTrue ia44 sz44, s_varTrue ia49 sz49, e0, e2, e2c, e3, build49, eq49, eqBin, notO, s_sbeq, h1', h2] <;> rfl)); (try (change Gets _ _ _ _ _ _; repeat refine Gets.seq ?_))
            refine ⟨rfl, _, rfl, ?_, ?_, ?_, ?_⟩
            · simp (disch := decide) only [sxL, i0]
            · simp (disch := decide) only [sxL]
            · simp (disch := decide) only [sxL, i5]
            · simp only [callR, repZ, h1', h2]
              simp (disch := decide) only [sxL, h1', h2]
          · by_cases h3 : ¬ callKindB e.cmd.kind = true
            · try simp only [Decidable.not_not, Bool.not_eq_true] at h1' h2 h3
              have hck' := hck
              try rw [h3] at hck'
              try simp only [repZ] at h4
              refine Gets.last Tryz.tabOk (ov := ptO noOv 43 [.agg e.cmd.cells] h1 [(.bool (callKindB e.cmd.kind), h1)]) (ptO_ok noOv_ok hck) 8 (s' := ?sn17) ?hn17 ?kn17; (case hn17 => (simp -implicitDefEqProofs (disch := first | (simp only [ne_eq, Nat.reduceEqDiff, not_false_eq_true, Nat.reduceLT]; done) | assumption | (simp only [s_push_next, s_put_next, Nat.beq_refl]; done) | ((try simp only [s_push_next, s_put_next]) <;> omega) | exact s_one_map _ | exact s_one_slice _ _ _ _ _ | (refine (id ?_ : plainDraw _ = true); kernel_rfl) | fail) only [sxL, s_castN, s_cells_one, noOv, callFn, kindOf, kindC, kindB, unA, boxA, loadPtr, nilCheckA, fst1, ofValue, ofScalar, len, intBin, ibin, boolO, guardA, cCond, condV, cRet, cExit, cSkip, resOut, resultA, extractA, tupleO, Nat.reduceEqDiff, Nat.reduceAdd, Nat.reduceSub, Nat.reduceLT, Nat.reduceBEq, reduceCtorEq, Nat.reduceMod, Nat.reduceLeDiff, Int.reduceLT, Int.reduceAdd, Int.reduceEq, Int.reduceToNat, s_draw, fa51_0, fa51_2, fa51_3, fa44_1, s_varFalse ia3, s_varTrue ia44 sz44, s_varTrue ia49 sz49, e0, e2, e2c, e3, build49, eq49, eqBin, notO, s_sbeq, h1', h2, h3] <;> rfl)); (try (change Gets _ _ _ _ _ _; repeat refine Gets.seq ?_))
              refine ⟨rfl, _, rfl, ?_, ?_, ?_, ?_⟩
              · simp (disch := decide) only [sxL, i0]
              · simp (disch := decide) only [sxL]
              · simp (disch := decide) only [sxL, i5]
              · simp only [callR, repZ, h1', h2, h3]
                simp (disch := decide) only [sxL, h1', h2, h3]
            · by_cases h4 : ¬ repZ e = true
              · try simp only [Decidable.not_not, Bool.not_eq_true] at h1' h2 h3 h4
                have hck' := hck
                try rw [h3] at hck'
                try simp only [repZ] at h4
                refine Gets.last Tryz.tabOk (ov := ptO noOv 43 [.agg e.cmd.cells] h1 [(.bool (callKindB e.cmd.kind), h1)]) (ptO_ok noOv_ok hck) 8 (s' := ?sn18) ?hn18 ?kn18; (case hn18 => (simp -implicitDefEqProofs (disch := first | (simp only [ne_eq, Nat.reduceEqDiff, not_false_eq_true, Nat.reduceLT]; done) | assumption | (simp only [s_push_next, s_put_next, Nat.beq_refl]; done) | ((try simp only [s_push_next, s_put_next]) <;> omega) | exact s_one_map _ | exact s_one_slice _ _ _ _ _ | (refine (id ?_ : plainDraw _ = true); kernel_rfl) | fail) only [sxL, s_castN, s_cells_one, noOv, callFn, kindOf, kindC, kindB, unA, boxA, loadPtr, nilCheckA, fst1, ofValue, ofScalar, len, intBin, ibin, boolO, guardA, cCond, condV, cRet, cExit, cSkip, resOut, resultA, extractA, tupleO, Nat.reduceEqDiff, Nat.reduceAdd, Nat.reduceSub, Nat.reduceLT, Nat.reduceBEq, reduceCtorEq, Nat.reduceMod, Nat.reduceLeDiff, Int.reduceLT, Int.reduceAdd, Int.reduceEq, Int.reduceToNat, s_draw, fa51_0, fa51_2, fa51_3, fa44_1, s_varFalse ia3, s_varTrue ia44 sz44, s_varTrue ia49 sz49, e0, e2, e2c, e3, build49, eq49, eqBin, notO, s_sbeq, h1', h2, h3, h4] <;> rfl)); (try (change Gets _ _ _ _ _ _; repeat refine Gets.seq ?_))
                refine ⟨rfl, _, rfl, ?_, ?_, ?_, ?_⟩
                · simp (disch := decide) only [sxL, i0]
                · simp (disch := decide) only [sxL]
                · simp (disch := decide) only [sxL, i5]
                · simp only [callR, repZ, h1', h2, h3, h4]
                  simp (disch := decide) only [sxL, h1', h2, h3, h4]
              · try simp only [Decidable.not_not, Bool.not_eq_true] at h1' h2 h3 h4
                have hck' := hck
                try rw [h3] at hck'
                try simp only [repZ] at h4
                refine Gets.last Tryz.tabOk (ov := ptO noOv 43 [.agg e.cmd.cells] h1 [(.bool (callKindB e.cmd.kind), h1)]) (ptO_ok noOv_ok hck) 8 (s' := ?sn19) ?hn19 ?kn19; (case hn19 => (simp -implicitDefEqProofs (disch := first | (simp only [ne_eq, Nat.reduceEqDiff, not_false_eq_true, Nat.reduceLT]; done) | assumption | (simp only [s_push_next, s_put_next, Nat.beq_refl]; done) | ((try simp only [s_push_next, s_put_next]) <;> omega) | exact s_one_map _ | exact s_one_slice _ _ _ _ _ | (refine (id ?_ : plainDraw _ = true); kernel_rfl) | fail) only [sxL, s_castN, s_cells_one, noOv, callFn, kindOf, kindC, kindB, unA, boxA, loadPtr, nilCheckA, fst1, ofValue, ofScalar, len, intBin, ibin, boolO, guardA, cCond, condV, cRet, cExit, cSkip, resOut, resultA, extractA, tupleO, Nat.reduceEqDiff, Nat.reduceAdd, Nat.reduceSub, Nat.reduceLT, Nat.reduceBEq, reduceCtorEq, Nat.reduceMod, Nat.reduceLeDiff, Int.reduceLT, Int.reduceAdd, Int.reduceEq, Int.reduceToNat, s_draw, fa51_0, fa51_2, fa51_3, fa44_1, s_varFalse ia3, s_varTrue ia44 sz44, s_varTrue ia49 sz49, e0, e2, e2c, e3, build49, eq49, eqBin, notO, s_sbeq, h1', h2, h3, h4] <;> rfl)); (try (change Gets _ _ _ _ _ _; repeat refine Gets.seq ?_))
                refine ⟨rfl, _, rfl, ?_, ?_, ?_, ?_⟩
                · simp (disch := decide) only [sxL, i0]
                · simp (disch := decide) only [sxL]
                · simp (disch := decide) only [sxL, i5]
                · simp only [callR, repZ, h1', h2, h3, h4]
                  simp (disch := decide) only [sxL, h1', h2, h3, h4]
      rintro tm' ⟨j0, j4, j5, j47⟩
      change Gets _ _ _ _ _ _
      cases hC : callR m e
      · have hres : chkGo l l 0 0 = some i := by rw [← hgo]; simp [chkGo, hrep, hC]
        rw [hres]
        refine Gets.condT (by simp (disch := decide) only [sxL, j47, hC]) (Gets.seq ?_)
        refine Gets.last Tryz.tabOk (ov := noOv) (noOv_ok) 8 (s' := ?sn20) ?hn20 ?kn20; (case hn20 => (simp -implicitDefEqProofs (disch := first | (simp only [ne_eq, Nat.reduceEqDiff, not_false_eq_true, Nat.reduceLT]; done) | assumption | (simp only [s_push_next, s_put_next, Nat.beq_refl]; done) | ((try simp only [s_push_next, s_put_next]) <;> omega) | exact s_one_map _ | exact s_one_slice _ _ _ _ _ | (refine (id ?_ : plainDraw _ = true); kernel_rfl) | fail) only [sxL, s_castN, s_cells_one, noOv, callFn, kindOf, kindC, kindB, unA, boxA, loadPtr, nilCheckA, fst1, ofValue, ofScalar, len, intBin, ibin, boolO, guardA, cCond, condV, cRet, cExit, cSkip, resOut, resultA, extractA, tupleO, Nat.reduceEqDiff, Nat.reduceAdd, Nat.reduceSub, Nat.reduceLT, Nat.reduceBEq, reduceCtorEq, Nat.reduceMod, Nat.reduceLeDiff, Int.reduceLT, Int.reduceAdd, Int.reduceEq, Int.reduceToNat, s_draw, j5] <;> rfl)); (try (change Gets _ _ _ _ _ _; repeat refine Gets.seq ?_))
        refine Gets.ret Tryz.tabOk ?_
        exact ⟨rfl, rfl, [.int .i64 (i : Int), .int .i64 10], by simp (disch := decide) only [sxL, Tryz.f26, resultA], _, List.mem_singleton.2 rfl, .pure hgg.next hgg.get hN ⟨trivial, trivial, trivial⟩⟩
      · have hgo' : chkGo l (l.drop (i + 1)) (i + 1) (m + 1) = chkGo l l 0 0 := by rw [← hgo]; simp [chkGo, hrep, hC]
        refine Gets.condF (by simp (disch := decide) only [sxL, j47, hC]) (Gets.skip Tryz.tabOk ?_)
        change Gets _ _ _ _ _ _
        refine Gets.exit Tryz.tabOk ?_
        refine inBlk_exit ?_
        change Gets _ _ _ _ _ _
        refine Gets.last Tryz.tabOk (ov := noOv) (noOv_ok) 8 (s' := ?sn21) ?hn21 ?kn21; (case hn21 => (simp -implicitDefEqProofs (disch := first | (simp only [ne_eq, Nat.reduceEqDiff, not_false_eq_true, Nat.reduceLT]; done) | assumption | (simp only [s_push_next, s_put_next, Nat.beq_refl]; done) | ((try simp only [s_push_next, s_put_next]) <;> omega) | exact s_one_map _ | exact s_one_slice _ _ _ _ _ | (refine (id ?_ : plainDraw _ = true); kernel_rfl) | fail) only [sxL, s_castN, s_cells_one, noOv, callFn, kindOf, kindC, kindB, unA, boxA, loadPtr, nilCheckA, fst1, ofValue, ofScalar, len, intBin, ibin, boolO, guardA, cCond, condV, cRet, cExit, cSkip, resOut, resultA, extractA, tupleO, Nat.reduceEqDiff, Nat.reduceAdd, Nat.reduceSub, Nat.reduceLT, Nat.reduceBEq, reduceCtorEq, Nat.reduceMod, Nat.reduceLeDiff, Int.reduceLT, Int.reduceAdd, Int.reduceEq, Int.reduceToNat, s_draw, j5, hw] <;> rfl)); (try (change Gets _ _ _ _ _ _; repeat refine Gets.seq ?_))
        refine ⟨_, _, rfl, by omega, m + 1, by omega, hgg, hN1, hgo', ?_, ?_, ?_⟩
        · simp (disch := decide) only [sxL, j0]
        · simp (disch := decide) only [sxL, j4, s_castS]
        · simp (disch := decide) only [sxL, s_castS]
    · obtain ⟨u, hu, hU⟩ := hv.front hcap (i := i) (by omega)
      have h44 := replied_run h1 u (l.take i) e.call (hU.grow hN hgg) hN1 (by rw [List.length_take]; omega)
      have h45 := same_run e.cmd e.keys h1 hst1 hN1
      have h46 := refReply33_run e.err e.num e.data h1 hN1
      refine Gets.condF (by simp (disch := decide) only [sxL, hrep]) (Gets.skip Tryz.tabOk ?_)
      change Gets _ _ _ _ _ _
      repeat refine Gets.seq ?_
      refine Gets.midA (H := h1) (I := fun tm => tm.get 0 = some v ∧ tm.get 4 = some (.int .i64 (m : Int)) ∧ tm.get 5 = some (.int .i64 (i : Int)) ∧ tm.get 79 = some (.bool (!replyR l i m e))) ?_ ?_
      · unfold replyR
        generalize findI (repB e.call) (l.take i) 0 = fx at *
        by_cases h1' : e.call < 1
        · try simp only [Decidable.not_not, Bool.not_eq_true] at h1'
          refine Gets.last Tryz.tabOk (ov := ptO (ptO (ptO noOv 44 [u, .int .i64 e.call] h1 [(.int .i64 fx, h1)]) 45 [.agg e.cmd.cells, .agg zcells] h1 [(.bool (eqZ e.cmd e.keys.length), h1)]) 46 [.agg [.int .i64 e.err, .int .i64 e.num, .str e.data]] h1 [(.int .i64 (checkReply e.err e.num e.data), h1)]) (ptO_ok (ptO_ok (ptO_ok noOv_ok h44) h45) h46) 8 (s' := ?sn1) ?hn1 ?kn1; (case hn1 => (simp -implicitDefEqProofs (disch := first | (simp only [ne_eq, Nat.reduceEqDiff, not_false_eq_true, Nat.reduceLT]; done) | assumption | (simp only [s_push_next, s_put_next, Nat.beq_refl]; done) | ((try simp only [s_push_next, s_put_next]) <;> omega) | exact s_one_map _ | exact s_one_slice _ _ _ _ _ | (refine (id ?_ : multiDraw _ = true); kernel_rfl) | fail) only [sxL, s_castN, s_cells_one, noOv, callFn, kindOf, kindC, kindB, unA, boxA, loadPtr, nilCheckA, fst1, ofValue, ofScalar, len, intBin, ibin, boolO, guardA, cCond, condV, cRet, cExit, cSkip, resOut, resultA, extractA, tupleO, Nat.reduceEqDiff, Nat.reduceAdd, Nat.reduceSub, Nat.reduceLT, Nat.reduceBEq, reduceCtorEq, Nat.reduceMod, Nat.reduceLeDiff, Int.reduceLT, Int.reduceAdd, Int.reduceEq, Int.reduceToNat, s_drawX, i0, i4, i5, hu, z_opSlH, fa51_0, fa51_2, fa51_3, s_varFalse ia3, s_varTrue ia44 sz44, s_varTrue ia49 sz49, e0, e2, e3, build44, h1'] <;> rfl)); (try (change Gets _ _ _ _ _ _; repeat refine Gets.seq ?_))
          refine ⟨rfl, _, rfl, ?_, ?_, ?_, ?_⟩
          · simp (disch := decide) only [sxL, i0]
          · simp (disch := decide) only [sxL, i4]
          · simp (disch := decide) only [sxL, i5]
          · simp (disch := decide) only [sxL, h1']
        · by_cases h2 : (m : Int) < e.call
          · try simp only [Decidable.not_not, Bool.not_eq_true] at h1' h2
            refine Gets.last Tryz.tabOk (ov := ptO (ptO (ptO noOv 44 [u, .int .i64 e.call] h1 [(.int .i64 fx, h1)]) 45 [.agg e.cmd.cells, .agg zcells] h1 [(.bool (eqZ e.cmd e.keys.length), h1)]) 46 [.agg [.int .i64 e.err, .int .i64 e.num, .str e.data]] h1 [(.int .i64 (checkReply e.err e.num e.data), h1)]) (ptO_ok (ptO_ok (ptO_ok noOv_ok h44) h45) h46) 8 (s' := ?sn2) ?hn2 ?kn2; (case hn2 => (simp -implicitDefEqProofs (disch := first | (simp only [ne_eq, Nat.reduceEqDiff, not_false_eq_true, Nat.reduceLT]; done) | assumption | (simp only [s_push_next, s_put_next, Nat.beq_refl]; done) | ((try simp only [s_push_next, s_put_next]) <;> omega) | exact s_one_map _ | exact s_one_slice _ _ _ _ _ | (refine (id ?_ : multiDraw _ = true); kernel_rfl) | fail) only [sxL, s_castN, s_cells_one, noOv, callFn, kindOf, kindC, kindB, unA, boxA, loadPtr, nilCheckA, fst1, ofValue, ofScalar, len, intBin, ibin, boolO, guardA, cCond, condV, cRet, cExit, cSkip, resOut, resultA, extractA, tupleO, Nat.reduceEqDiff, Nat.reduceAdd, Nat.reduceSub, Nat.reduceLT, Nat.reduceBEq, reduceCtorEq, Nat.reduceMod, Nat.reduceLeDiff, Int.reduceLT, Int.reduceAdd, Int.reduceEq, Int.reduceToNat, s_drawX, i0, i4, i5, hu, z_opSlH, fa51_0, fa51_2, fa51_3, s_varFalse ia3, s_varTrue ia44 sz44, s_varTrue ia49 sz49, e0, e2, e3, build44, h1', h2] <;> rfl)); (try (change Gets _ _ _ _ _ _; repeat refine Gets.seq ?_))
            refine ⟨rfl, _, rfl, ?_, ?_, ?_, ?_⟩
            · simp (disch := decide) only [sxL, i0]
            · simp (disch := decide) only [sxL, i4]
            · simp (disch := decide) only [sxL, i5]
            · simp (disch := decide) only [sxL, h1', h2]
          · by_cases h3 : ¬ fx < 0
            · try simp only [Decidable.not_not, Bool.not_eq_true] at h1' h2 h3
              refine Gets.last Tryz.tabOk (ov := ptO (ptO (ptO noOv 44 [u, .int .i64 e.call] h1 [(.int .i64 fx, h1)]) 45 [.agg e.cmd.cells, .agg zcells] h1 [(.bool (eqZ e.cmd e.keys.length), h1)]) 46 [.agg [.int .i64 e.err, .int .i64 e.num, .str e.data]] h1 [(.int .i64 (checkReply e.err e.num e.data), h1)]) (ptO_ok (ptO_ok (ptO_ok noOv_ok h44) h45) h46) 8 (s' := ?sn3) ?hn3 ?kn3; (case hn3 => (simp -implicitDefEqProofs (disch := first | (simp only [ne_eq, Nat.reduceEqDiff, not_false_eq_true, Nat.reduceLT]; done) | assumption | (simp only [s_push_next, s_put_next, Nat.beq_refl]; done) | ((try simp only [s_push_next, s_put_next]) <;> omega) | exact s_one_map _ | exact s_one_slice _ _ _ _ _ | (refine (id ?_ : multiDraw _ = true); kernel_rfl) | fail) only [sxL, s_castN, s_cells_one, noOv, callFn, kindOf, kindC, kindB, unA, boxA, loadPtr, nilCheckA, fst1, ofValue, ofScalar, len, intBin, ibin, boolO, guardA, cCond, condV, cRet, cExit, cSkip, resOut, resultA, extractA, tupleO, Nat.reduceEqDiff, Nat.reduceAdd, Nat.reduceSub, Nat.reduceLT, Nat.reduceBEq, reduceCtorEq, Nat.reduceMod, Nat.reduceLeDiff, Int.reduceLT, Int.reduceAdd, Int.reduceEq, Int.reduceToNat, s_drawX, i0, i4, i5, hu, z_opSlH, fa51_0, fa51_2, fa51_3, s_varFalse ia3, s_varTrue ia44 sz44, s_varTrue ia49 sz49, e0, e2, e3, build44, h1', h2, h3] <;> rfl)); (try (change Gets _ _ _ _ _ _; repeat refine Gets.seq ?_))
              refine ⟨rfl, _, rfl, ?_, ?_, ?_, ?_⟩
              · simp (disch := decide) only [sxL, i0]
              · simp (disch := decide) only [sxL, i4]
              · simp (disch := decide) only [sxL, i5]
              · simp (disch := decide) only [sxL, h1', h2, h3]
            · by_cases h4 : ¬ eqZ e.cmd e.keys.length = true
              · try simp only [Decidable.not_not, Bool.not_eq_true] at h1' h2 h3 h4
                refine Gets.last Tryz.tabOk (ov := ptO (ptO (ptO noOv 44 [u, .int .i64 e.call] h1 [(.int .i64 fx, h1)]) 45 [.agg e.cmd.cells, .agg zcells] h1 [(.bool (eqZ e.cmd e.keys.length), h1)]) 46 [.agg [.int .i64 e.err, .int .i64 e.num, .str e.data]] h1 [(.int .i64 (checkReply e.err e.num e.data), h1)]) (ptO_ok (ptO_ok (ptO_ok noOv_ok h44) h45) h46) 8 (s' := ?sn4) ?hn4 ?kn4; (case hn4 => (simp -implicitDefEqProofs (disch := first | (simp only [ne_eq, Nat.reduceEqDiff, not_false_eq_true, Nat.reduceLT]; done) | assumption | (simp only [s_push_next, s_put_next, Nat.beq_refl]; done) | ((try simp only [s_push_next, s_put_next]) <;> omega) | exact s_one_map _ | exact s_one_slice _ _ _ _ _ | (refine (id ?_ : multiDraw _ = true); kernel_rfl) | fail) only [sxL, s_castN, s_cells_one, noOv, callFn, kindOf, kindC, kindB, unA, boxA, loadPtr, nilCheckA, fst1, ofValue, ofScalar, len, intBin, ibin, boolO, guardA, cCond, condV, cRet, cExit, cSkip, resOut, resultA, extractA, tupleO, Nat.reduceEqDiff, Nat.reduceAdd, Nat.reduceSub, Nat.reduceLT, Nat.reduceBEq, reduceCtorEq, Nat.reduceMod, Nat.reduceLeDiff, Int.reduceLT, Int.reduceAdd, Int.reduceEq, Int.reduceToNat, s_drawX, i0, i4, i5, hu, z_opSlH, fa51_0, fa51_2, fa51_3, s_varFalse ia3, s_varTrue ia44 sz44, s_varTrue ia49 sz49, e0, e2, e3, build44, h1', h2, h3, h4] <;> rfl)); (try (change Gets _ _ _ _ _ _; repeat refine Gets.seq ?_))
                refine ⟨rfl, _, rfl, ?_, ?_, ?_, ?_⟩
                · simp (disch := decide) only [sxL, i0]
                · simp (disch := decide) only [sxL, i4]
                · simp (disch := decide) only [sxL, i5]
                · simp (disch := decide) only [sxL, h1', h2, h3, h4]
              · by_cases h5 : ¬ checkReply e.err e.num e.data = 0
                · try simp only [Decidable.not_not, Bool.not_eq_true] at h1' h2 h3 h4 h5
                  refine Gets.last Tryz.tabOk (ov := ptO (ptO (ptO noOv 44 [u, .int .i64 e.call] h1 [(.int .i64 fx, h1)]) 45 [.agg e.cmd.cells, .agg zcells] h1 [(.bool (eqZ e.cmd e.keys.length), h1)]) 46 [.agg [.int .i64 e.err, .int .i64 e.num, .str e.data]] h1 [(.int .i64 (checkReply e.err e.num e.data), h1)]) (ptO_ok (ptO_ok (ptO_ok noOv_ok h44) h45) h46) 8 (s' := ?sn5) ?hn5 ?kn5; (case hn5 => (simp -implicitDefEqProofs (disch := first | (simp only [ne_eq, Nat.reduceEqDiff, not_false_eq_true, Nat.reduceLT]; done) | assumption | (simp only [s_push_next, s_put_next, Nat.beq_refl]; done) | ((try simp only [s_push_next, s_put_next]) <;> omega) | exact s_one_map _ | exact s_one_slice _ _ _ _ _ | (refine (id ?_ : multiDraw _ = true); kernel_rfl) | fail) only [sxL, s_castN, s_cells_one, noOv, callFn, kindOf, kindC, kindB, unA, boxA, loadPtr, nilCheckA, fst1, ofValue, ofScalar, len, intBin, ibin, boolO, guardA, cCond, condV, cRet, cExit, cSkip, resOut, resultA, extractA, tupleO, Nat.reduceEqDiff, Nat.reduceAdd, Nat.reduceSub, Nat.reduceLT, Nat.reduceBEq, reduceCtorEq, Nat.reduceMod, Nat.reduceLeDiff, Int.reduceLT, Int.reduceAdd, Int.reduceEq, Int.reduceToNat, s_drawX, i0, i4, i5, hu, z_opSlH, fa51_0, fa51_2, fa51_3, s_varFalse ia3, s_varTrue ia44 sz44, s_varTrue ia49 sz49, e0, e2, e3, build44, h1', h2, h3, h4, h5] <;> rfl)); (try (change Gets _ _ _ _ _ _; repeat refine Gets.seq ?_))
                  refine ⟨rfl, _, rfl, ?_, ?_, ?_, ?_⟩
                  · simp (disch := decide) only [sxL, i0]
                  · simp (disch := decide) only [sxL, i4]
                  · simp (disch := decide) only [sxL, i5]
                  · simp (disch := decide) only [sxL, h1', h2, h3, h4, h5]
                · try simp only [Decidable.not_not, Bool.not_eq_true] at h1' h2 h3 h4 h5
                  refine Gets.last Tryz.tabOk (ov := ptO (ptO (ptO noOv 44 [u, .int .i64 e.call] h1 [(.int .i64 fx, h1)]) 45 [.agg e.cmd.cells, .agg zcells] h1 [(.bool (eqZ e.cmd e.keys.length), h1)]) 46 [.agg [.int .i64 e.err, .int .i64 e.num, .str e.data]] h1 [(.int .i64 (checkReply e.err e.num e.data), h1)]) (ptO_ok (ptO_ok (ptO_ok noOv_ok h44) h45) h46) 8 (s' := ?sn6) ?hn6 ?kn6; (case hn6 => (simp -implicitDefEqProofs (disch := first | (simp only [ne_eq, Nat.reduceEqDiff, not_false_eq_true, Nat.reduceLT]; done) | assumption | (simp only [s_push_next, s_put_next, Nat.beq_refl]; done) | ((try simp only [s_push_next, s_put_next]) <;> omega) | exact s_one_map _ | exact s_one_slice _ _ _ _ _ | (refine (id ?_ : multiDraw _ = true); kernel_rfl) | fail) only [sxL, s_castN, s_cells_one, noOv, callFn, kindOf, kindC, kindB, unA, boxA, loadPtr, nilCheckA, fst1, ofValue, ofScalar, len, intBin, ibin, boolO, guardA, cCond, condV, cRet, cExit, cSkip, resOut, resultA, extractA, tupleO, Nat.reduceEqDiff, Nat.reduceAdd, Nat.reduceSub, Nat.reduceLT, Nat.reduceBEq, reduceCtorEq, Nat.reduceMod, Nat.reduceLeDiff, Int.reduceLT, Int.reduceAdd, Int.reduceEq, Int.reduceToNat, s_drawX, i0, i4, i5, hu, z_opSlH, fa51_0, fa51_2, fa51_3, s_varFalse ia3, s_varTrue ia44 sz44, s_varTrue ia49 sz49, e0, e2, e3, build44, h1', h2, h3, h4, h5] <;> rfl)); (try (change Gets _ _ _ _ _ _; repeat refine Gets.seq ?_))
                  refine ⟨rfl, _, rfl, ?_, ?_, ?_, ?_⟩
                  · simp (disch := decide) only [sxL, i0]
                  · simp (disch := decide) only [sxL, i4]
                  · simp (disch := decide) only [sxL, i5]
                  · simp (disch := decide) only [sxL, h1', h2, h3, h4, h5]
      rintro tm' ⟨j0, j4, j5, j79⟩
      change Gets _ _ _ _ _ _
      cases hC : replyR l i m e
      · have hres : chkGo l l 0 0 = some i := by rw [← hgo]; simp [chkGo, hrep, hC]
        rw [hres]
        refine Gets.condT (by simp (disch := decide) only [sxL, j79, hC]) (Gets.seq ?_)
        refine Gets.last Tryz.tabOk (ov := noOv) (noOv_ok) 8 (s' := ?sn22) ?hn22 ?kn22; (case hn22 => (simp -implicitDefEqProofs (disch := first | (simp only [ne_eq, Nat.reduceEqDiff, not_false_eq_true, Nat.reduceLT]; done) | assumption | (simp only [s_push_next, s_put_next, Nat.beq_refl]; done) | ((try simp only [s_push_next, s_put_next]) <;> omega) | exact s_one_map _ | exact s_one_slice _ _ _ _ _ | (refine (id ?_ : plainDraw _ = true); kernel_rfl) | fail) only [sxL, s_castN, s_cells_one, noOv, callFn, kindOf, kindC, kindB, unA, boxA, loadPtr, nilCheckA, fst1, ofValue, ofScalar, len, intBin, ibin, boolO, guardA, cCond, condV, cRet, cExit, cSkip, resOut, resultA, extractA, tupleO, Nat.reduceEqDiff, Nat.reduceAdd, Nat.reduceSub, Nat.reduceLT, Nat.reduceBEq, reduceCtorEq, Nat.reduceMod, Nat.reduceLeDiff, Int.reduceLT, Int.reduceAdd, Int.reduceEq, Int.reduceToNat, s_draw, j5] <;> rfl)); (try (change Gets _ _ _ _ _ _; repeat refine Gets.seq ?_))
        refine Gets.ret Tryz.tabOk ?_
        exact ⟨rfl, rfl, [.int .i64 (i : Int), .int .i64 10], by simp (disch := decide) only [sxL, Tryz.f26, resultA], _, List.mem_singleton.2 rfl, .pure hgg.next hgg.get hN ⟨trivial, trivial, trivial⟩⟩
      · have hgo' : chkGo l (l.drop (i + 1)) (i + 1) m = chkGo l l 0 0 := by rw [← hgo]; simp [chkGo, hrep, hC]
        refine Gets.condF (by simp (disch := decide) only [sxL, j79, hC]) (Gets.skip Tryz.tabOk ?_)
        change Gets _ _ _ _ _ _
        refine Gets.last Tryz.tabOk (ov := noOv) (noOv_ok) 8 (s' := ?sn23) ?hn23 ?kn23; (case hn23 => (simp -implicitDefEqProofs (disch := first | (simp only [ne_eq, Nat.reduceEqDiff, not_false_eq_true, Nat.reduceLT]; done) | assumption | (simp only [s_push_next, s_put_next, Nat.beq_refl]; done) | ((try simp only [s_push_next, s_put_next]) <;> omega) | exact s_one_map _ | exact s_one_slice _ _ _ _ _ | (refine (id ?_ : plainDraw _ = true); kernel_rfl) | fail) only [sxL, s_castN, s_cells_one, noOv, callFn, kindOf, kindC, kindB, unA, boxA, loadPtr, nilCheckA, fst1, ofValue, ofScalar, len, intBin, ibin, boolO, guardA, cCond, condV, cRet, cExit, cSkip, resOut, resultA, extractA, tupleO, Nat.reduceEqDiff, Nat.reduceAdd, Nat.reduceSub, Nat.reduceLT, Nat.reduceBEq, reduceCtorEq, Nat.reduceMod, Nat.reduceLeDiff, Int.reduceLT, Int.reduceAdd, Int.reduceEq, Int.reduceToNat, s_draw, j5, hw] <;> rfl)); (try (change Gets _ _ _ _ _ _; repeat refine Gets.seq ?_))
        refine ⟨_, _, rfl, by omega, m, by omega, hgg, hN1, hgo', ?_, ?_, ?_⟩
        · simp (disch := decide) only [sxL, j0]
        · simp (disch := decide) only [sxL, j4]
        · simp (disch := decide) only [sxL, s_castS]
  · have hil : i = l.length := by omega
    have hres : chkGo l l 0 0 = none := by rw [← hgo, hil, List.drop_length]; rfl
    rw [hres]
    refine Gets.last Tryz.tabOk (ov := noOv) (noOv_ok) 8 (s' := ?sn24) ?hn24 ?kn24; (case hn24 => (simp -implicitDefEqProofs (disch := first | (simp only [ne_eq, Nat.reduceEqDiff, not_false_eq_true, Nat.reduceLT]; done) | assumption | (simp only [s_push_next, s_put_next, Nat.beq_refl]; done) | ((try simp only [s_push_next, s_put_next]) <;> omega) | exact s_one_map _ | exact s_one_slice _ _ _ _ _ | (refine (id ?_ : plainDraw _ = true); kernel_rfl) | fail) only [sxL, s_castN, s_cells_one, noOv, callFn, kindOf, kindC, kindB, unA, boxA, loadPtr, nilCheckA, fst1, ofValue, ofScalar, len, intBin, ibin, boolO, guardA, cCond, condV, cRet, cExit, cSkip, resOut, resultA, extractA, tupleO, Nat.reduceEqDiff, Nat.reduceAdd, Nat.reduceSub, Nat.reduceLT, Nat.reduceBEq, reduceCtorEq, Nat.reduceMod, Nat.reduceLeDiff, Int.reduceLT, Int.reduceAdd, Int.reduceEq, Int.reduceToNat, s_draw, i0, i5, hlen, hlt] <;> rfl)); (try (change Gets _ _ _ _ _ _; repeat refine Gets.seq ?_))
    refine Gets.condF (by simp (disch := decide) only [sxL]) (Gets.exit Tryz.tabOk ?_)
    refine inBlk_exit ?_
    change Gets _ _ _ _ _ _
    repeat refine Gets.seq ?_
    refine Gets.last Tryz.tabOk (ov := noOv) (noOv_ok) 8 (s' := ?sn25) ?hn25 ?kn25; (case hn25 => (simp -implicitDefEqProofs (disch := first | (simp only [ne_eq, Nat.reduceEqDiff, not_false_eq_true, Nat.reduceLT]; done) | assumption | (simp only [s_push_next, s_put_next, Nat.beq_refl]; done) | ((try simp only [s_push_next, s_put_next]) <;> omega) | exact s_one_map _ | exact s_one_slice _ _ _ _ _ | (refine (id ?_ : plainDraw _ = true); kernel_rfl) | fail) only [sxL, s_castN, s_cells_one, noOv, callFn, kindOf, kindC, kindB, unA, boxA, loadPtr, nilCheckA, fst1, ofValue, ofScalar, len, intBin, ibin, boolO, guardA, cCond, condV, cRet, cExit, cSkip, resOut, resultA, extractA, tupleO, Nat.reduceEqDiff, Nat.reduceAdd, Nat.reduceSub, Nat.reduceLT, Nat.reduceBEq, reduceCtorEq, Nat.reduceMod, Nat.reduceLeDiff, Int.reduceLT, Int.reduceAdd, Int.reduceEq, Int.reduceToNat, s_draw] <;> rfl)); (try (change Gets _ _ _ _ _ _; repeat refine Gets.seq ?_))
    refine Gets.ret Tryz.tabOk ?_
    exact ⟨rfl, rfl, [.int .i64 0, .int .i64 0], by simp (disch := decide) only [sxL, Tryz.f26, resultA], _, List.mem_singleton.2 rfl, .pure hg.next hg.get hN ⟨trivial, trivial, trivial⟩⟩
end Go.Proofs

namespace Go.Proofs
open Go.Sx
set_option maxRecDepth 100000
/-! The document's merging. -/
noncomputable def qB (evs : List EvV) (logs : List (List Int)) (at_ : List Nat) (lg : List Int) (i : Nat) : Bool :=
  match lg[i]? with
  | none => false
  | some k => decide (k = 0) || mayL (stopB evs k) logs at_
def nextRf (q : List Int → Nat → Bool) : List (List Int) → List Nat → Nat → Option Nat
  | lg :: logs, i :: at_, g => if q lg i then some g else nextRf q logs at_ (g + 1)
  | _, _, _ => none
def anyL : List (List Int) → List Nat → Bool
  | lg :: logs, i :: at_ => decide (i < lg.length) || anyL logs at_
  | _, _ => false
noncomputable def refGo (evs : List EvV) (logs : List (List Int)) : Nat → List Nat → Option (List Nat)
  | 0, _ => some []
  | n + 1, at_ => match nextRf (qB evs logs at_) logs at_ 0 with
    | none => none
    | some g => (refGo evs logs n (incAt at_ g)).map (g :: ·)
noncomputable def refR (evs : List EvV) (logs : List (List Int)) : Option (List Nat) := refGo evs logs (totA logs) (logs.map fun _ => 0)
theorem nextRf_snoc {q : List Int → Nat → Bool} : ∀ {logs : List (List Int)} {at_ : List Nat} {lg : List Int} {i g0 : Nat}, logs.length = at_.length →
    nextRf q (logs ++ [lg]) (at_ ++ [i]) g0 = match nextRf q logs at_ g0 with | some x => some x | none => if q lg i then some (g0 + logs.length) else none
  | [], [], lg, i, g0, _ => by simp [nextRf]
  | [], _ :: _, _, _, _, h => by simp at h
  | _ :: _, [], _, _, _, h => by simp at h
  | l :: logs, j :: at_, lg, i, g0, h => by
    simp only [List.cons_append, nextRf]
    by_cases hq : q l j = true
    · simp [hq]
    · simp only [hq, Bool.false_eq_true, if_false]
      rw [nextRf_snoc (by simpa using h)]
      simp only [List.length_cons, show g0 + 1 + logs.length = g0 + (logs.length + 1) by omega]
theorem anyL_snoc : ∀ {logs : List (List Int)} {at_ : List Nat} {lg : List Int} {i : Nat}, logs.length = at_.length → anyL (logs ++ [lg]) (at_ ++ [i]) = (anyL logs at_ || decide (i < lg.length))
  | [], [], lg, i, _ => by simp [anyL]
  | [], _ :: _, _, _, h => by simp at h
  | _ :: _, [], _, _, h => by simp at h
  | l :: logs, j :: at_, lg, i, h => by
    simp only [List.cons_append, anyL]
    rw [anyL_snoc (by simpa using h), Bool.or_assoc]
theorem anyL_tot : ∀ {logs : List (List Int)} {at_ : List Nat}, anyL logs at_ = decide (0 < totR logs at_)
  | [], _ => by cases ‹List Nat› <;> rfl
  | _ :: _, [] => rfl
  | l :: logs, j :: at_ => by
    have ih := anyL_tot (logs := logs) (at_ := at_)
    rw [Bool.eq_iff_iff, decide_eq_true_iff] at ih ⊢
    simp only [anyL, totR, Bool.or_eq_true, decide_eq_true_eq]
    rw [ih]
    omega
def optI : Option Nat → Int
  | none => -1
  | some g => (g : Int)
theorem optI_neg (o : Option Nat) : decide (optI o < 0) = o.isNone := by
  cases o with
  | none => rfl
  | some g => exact decide_eq_false (show ¬ (g : Int) < 0 by omega)
/-! Lists of numbers are equal. -/
theorem ints_run (H : Heap) (d d' : Nat) (a b : List Nat) (ha : natL a ≠ [] → H.blks.get d = some (.cells 3 false (natL a))) (hb : natL b ≠ [] → H.blks.get d' = some (.cells 3 false (natL b))) (hN : Neat H) (hm : a.length ≤ 1000) :
    CallTo Tryz.prog Tryz.tab 29 [outV d (natL a), outV d' (natL b)] H [(.bool (decide (a = b)), H)] := by
  refine callTo_of Tryz.tabOk Tryz.func29 rfl rfl ?_
  show Gets Tryz.prog Tryz.tab ⟨none, 26⟩ _ _ _
  have hla : ∀ h, lenA Tryz.tab h 27 (outV d (natL a)) = some (.int .i64 (a.length : Int)) := fun h => by rw [outV_len, natL_len]
  have hlb : ∀ h, lenA Tryz.tab h 27 (outV d' (natL b)) = some (.int .i64 (b.length : Int)) := fun h => by rw [outV_len, natL_len]
  repeat refine Gets.seq ?_
  refine Gets.last Tryz.tabOk (ov := noOv) (noOv_ok) 8 (s' := ?sn1) ?hn1 ?kn1; (case hn1 => (simp -implicitDefEqProofs (disch := first | (simp only [ne_eq, Nat.reduceEqDiff, not_false_eq_true, Nat.reduceLT]; done) | assumption | (simp only [s_push_next, s_put_next, Nat.beq_refl]; done) | ((try simp only [s_push_next, s_put_next]) <;> omega) | exact s_one_map _ | exact s_one_slice _ _ _ _ _ | (refine (id ?_ : plainDraw _ = true); kernel_rfl) | fail) only [sxL, s_castN, s_cells_one, noOv, callFn, kindOf, kindC, kindB, unA, boxA, loadPtr, nilCheckA, fst1, ofValue, ofScalar, len, intBin, ibin, boolO, guardA, cCond, condV, cRet, cExit, cSkip, resOut, resultA, extractA, tupleO, Nat.reduceEqDiff, Nat.reduceAdd, Nat.reduceSub, Nat.reduceLT, Nat.reduceBEq, reduceCtorEq, Nat.reduceMod, Nat.reduceLeDiff, Int.reduceLT, Int.reduceAdd, Int.reduceEq, Int.reduceToNat, s_draw] <;> rfl)); (try (change Gets _ _ _ _ _ _; repeat refine Gets.seq ?_))
  by_cases hl : (a.length : Int) = (b.length : Int)
  · have hl' : a.length = b.length := by omega
    refine Gets.last Tryz.tabOk (ov := noOv) (noOv_ok) 8 (s' := ?sn2) ?hn2 ?kn2; (case hn2 => (simp -implicitDefEqProofs (disch := first | (simp only [ne_eq, Nat.reduceEqDiff, not_false_eq_true, Nat.reduceLT]; done) | assumption | (simp only [s_push_next, s_put_next, Nat.beq_refl]; done) | ((try simp only [s_push_next, s_put_next]) <;> omega) | exact s_one_map _ | exact s_one_slice _ _ _ _ _ | (refine (id ?_ : plainDraw _ = true); kernel_rfl) | fail) only [sxL, s_castN, s_cells_one, noOv, callFn, kindOf, kindC, kindB, unA, boxA, loadPtr, nilCheckA, fst1, ofValue, ofScalar, len, intBin, ibin, boolO, guardA, cCond, condV, cRet, cExit, cSkip, resOut, resultA, extractA, tupleO, Nat.reduceEqDiff, Nat.reduceAdd, Nat.reduceSub, Nat.reduceLT, Nat.reduceBEq, reduceCtorEq, Nat.reduceMod, Nat.reduceLeDiff, Int.reduceLT, Int.reduceAdd, Int.reduceEq, Int.reduceToNat, s_draw, hla, hlb, hl] <;> rfl)); (try (change Gets _ _ _ _ _ _; repeat refine Gets.seq ?_))
    refine Gets.condF (by simp (disch := decide) only [sxL]) (Gets.skip Tryz.tabOk ?_)
    change Gets _ _ _ _ _ _
    repeat refine Gets.seq ?_
    refine Gets.last Tryz.tabOk (ov := noOv) (noOv_ok) 8 (s' := ?sn3) ?hn3 ?kn3; (case hn3 => (simp -implicitDefEqProofs (disch := first | (simp only [ne_eq, Nat.reduceEqDiff, not_false_eq_true, Nat.reduceLT]; done) | assumption | (simp only [s_push_next, s_put_next, Nat.beq_refl]; done) | ((try simp only [s_push_next, s_put_next]) <;> omega) | exact s_one_map _ | exact s_one_slice _ _ _ _ _ | (refine (id ?_ : plainDraw _ = true); kernel_rfl) | fail) only [sxL, s_castN, s_cells_one, noOv, callFn, kindOf, kindC, kindB, unA, boxA, loadPtr, nilCheckA, fst1, ofValue, ofScalar, len, intBin, ibin, boolO, guardA, cCond, condV, cRet, cExit, cSkip, resOut, resultA, extractA, tupleO, Nat.reduceEqDiff, Nat.reduceAdd, Nat.reduceSub, Nat.reduceLT, Nat.reduceBEq, reduceCtorEq, Nat.reduceMod, Nat.reduceLeDiff, Int.reduceLT, Int.reduceAdd, Int.reduceEq, Int.reduceToNat, s_draw] <;> rfl)); (try (change Gets _ _ _ _ _ _; repeat refine Gets.seq ?_))
    refine Gets.upto a.length (fun i tm => (∀ j, j < i → a[j]? = b[j]?) ∧ tm.get 0 = some (outV d (natL a)) ∧ tm.get 1 = some (outV d' (natL b)) ∧ tm.get 5 = some (.int .i64 (i : Int))) ⟨fun j hj => absurd hj (Nat.not_lt_zero _), by simp (disch := decide) only [sxL], by simp (disch := decide) only [sxL], by simp (disch := decide) only [sxL]⟩ ?_
    rintro i tm hi ⟨hq, i0, i1, i5⟩
    repeat refine Gets.seq ?_
    by_cases hlt : (i : Int) < (a.length : Int)
    · obtain ⟨x, hx⟩ : ∃ k, a[i]? = some k := ⟨_, List.getElem?_eq_getElem (by omega)⟩
      obtain ⟨y, hy⟩ : ∃ k, b[i]? = some k := ⟨_, List.getElem?_eq_getElem (by omega)⟩
      have hna : natL a ≠ [] := fun e => by have := natL_len a; rw [e] at this; simp at this; omega
      have hnb : natL b ≠ [] := fun e => by have := natL_len b; rw [e] at this; simp at this; omega
      have ixa := outV_at d (natL a) (i := i) (by rw [natL_len]; omega)
      have ixb := outV_at d' (natL b) (i := i) (by rw [natL_len]; omega)
      have ca : cellIn (H.blks.get d) i = some (.int .i64 (x : Int)) := by rw [ha hna, s_cellIn]; exact natL_at hx
      have cb : cellIn (H.blks.get d') i = some (.int .i64 (y : Int)) := by rw [hb hnb, s_cellIn]; exact natL_at hy
      have hw : awrap .i64 ((i : Int) + 1) = (i : Int) + 1 := s_wrap (by omega) (by omega)
      refine Gets.last Tryz.tabOk (ov := noOv) (noOv_ok) 8 (s' := ?sn4) ?hn4 ?kn4; (case hn4 => (simp -implicitDefEqProofs (disch := first | (simp only [ne_eq, Nat.reduceEqDiff, not_false_eq_true, Nat.reduceLT]; done) | assumption | (simp only [s_push_next, s_put_next, Nat.beq_refl]; done) | ((try simp only [s_push_next, s_put_next]) <;> omega) | exact s_one_map _ | exact s_one_slice _ _ _ _ _ | (refine (id ?_ : plainDraw _ = true); kernel_rfl) | fail) only [sxL, s_castN, s_cells_one, noOv, callFn, kindOf, kindC, kindB, unA, boxA, loadPtr, nilCheckA, fst1, ofValue, ofScalar, len, intBin, ibin, boolO, guardA, cCond, condV, cRet, cExit, cSkip, resOut, resultA, extractA, tupleO, Nat.reduceEqDiff, Nat.reduceAdd, Nat.reduceSub, Nat.reduceLT, Nat.reduceBEq, reduceCtorEq, Nat.reduceMod, Nat.reduceLeDiff, Int.reduceLT, Int.reduceAdd, Int.reduceEq, Int.reduceToNat, s_draw, i0, i5, hla, hlt] <;> rfl)); (try (change Gets _ _ _ _ _ _; repeat refine Gets.seq ?_))
      refine Gets.condT (by simp (disch := decide) only [sxL]) (Gets.skip Tryz.tabOk ?_)
      change Gets _ _ _ _ _ _
      refine Gets.seq (Gets.blk ?_)
      repeat refine Gets.seq ?_
      by_cases hxy : (x : Int) = (y : Int)
      · refine Gets.last Tryz.tabOk (ov := noOv) (noOv_ok) 8 (s' := ?sn5) ?hn5 ?kn5; (case hn5 => (simp -implicitDefEqProofs (disch := first | (simp only [ne_eq, Nat.reduceEqDiff, not_false_eq_true, Nat.reduceLT]; done) | assumption | (simp only [s_push_next, s_put_next, Nat.beq_refl]; done) | ((try simp only [s_push_next, s_put_next]) <;> omega) | exact s_one_map _ | exact s_one_slice _ _ _ _ _ | (refine (id ?_ : plainDraw _ = true); kernel_rfl) | fail) only [sxL, s_castN, s_cells_one, noOv, callFn, kindOf, kindC, kindB, unA, boxA, loadPtr, nilCheckA, fst1, ofValue, ofScalar, len, intBin, ibin, boolO, guardA, cCond, condV, cRet, cExit, cSkip, resOut, resultA, extractA, tupleO, Nat.reduceEqDiff, Nat.reduceAdd, Nat.reduceSub, Nat.reduceLT, Nat.reduceBEq, reduceCtorEq, Nat.reduceMod, Nat.reduceLeDiff, Int.reduceLT, Int.reduceAdd, Int.reduceEq, Int.reduceToNat, s_draw, i0, i1, i5, ixa, ixb, s_varFalse ia3, ca, cb, hxy] <;> rfl)); (try (change Gets _ _ _ _ _ _; repeat refine Gets.seq ?_))
        refine Gets.condF (by simp (disch := decide) only [sxL]) (Gets.skip Tryz.tabOk ?_)
        change Gets _ _ _ _ _ _
        refine Gets.last Tryz.tabOk (ov := noOv) (noOv_ok) 8 (s' := ?sn6) ?hn6 ?kn6; (case hn6 => (simp -implicitDefEqProofs (disch := first | (simp only [ne_eq, Nat.reduceEqDiff, not_false_eq_true, Nat.reduceLT]; done) | assumption | (simp only [s_push_next, s_put_next, Nat.beq_refl]; done) | ((try simp only [s_push_next, s_put_next]) <;> omega) | exact s_one_map _ | exact s_one_slice _ _ _ _ _ | (refine (id ?_ : plainDraw _ = true); kernel_rfl) | fail) only [sxL, s_castN, s_cells_one, noOv, callFn, kindOf, kindC, kindB, unA, boxA, loadPtr, nilCheckA, fst1, ofValue, ofScalar, len, intBin, ibin, boolO, guardA, cCond, condV, cRet, cExit, cSkip, resOut, resultA, extractA, tupleO, Nat.reduceEqDiff, Nat.reduceAdd, Nat.reduceSub, Nat.reduceLT, Nat.reduceBEq, reduceCtorEq, Nat.reduceMod, Nat.reduceLeDiff, Int.reduceLT, Int.reduceAdd, Int.reduceEq, Int.reduceToNat, s_draw, i5, hw] <;> rfl)); (try (change Gets _ _ _ _ _ _; repeat refine Gets.seq ?_))
        refine ⟨_, rfl, by omega, fun j hj => ?_, ?_, ?_, ?_⟩
        · rcases Nat.lt_succ_iff_lt_or_eq.1 hj with hj | rfl
          · exact hq j hj
          · rw [hx, hy]; congr 1; omega
        · simp (disch := decide) only [sxL, i0]
        · simp (disch := decide) only [sxL, i1]
        · simp (disch := decide) only [sxL, s_castS]
      · have hne : decide (a = b) = false := by
          rw [decide_eq_false_iff_not]
          rintro rfl
          rw [hx] at hy; cases hy; exact hxy rfl
        rw [hne]
        refine Gets.last Tryz.tabOk (ov := noOv) (noOv_ok) 8 (s' := ?sn7) ?hn7 ?kn7; (case hn7 => (simp -implicitDefEqProofs (disch := first | (simp only [ne_eq, Nat.reduceEqDiff, not_false_eq_true, Nat.reduceLT]; done) | assumption | (simp only [s_push_next, s_put_next, Nat.beq_refl]; done) | ((try simp only [s_push_next, s_put_next]) <;> omega) | exact s_one_map _ | exact s_one_slice _ _ _ _ _ | (refine (id ?_ : plainDraw _ = true); kernel_rfl) | fail) only [sxL, s_castN, s_cells_one, noOv, callFn, kindOf, kindC, kindB, unA, boxA, loadPtr, nilCheckA, fst1, ofValue, ofScalar, len, intBin, ibin, boolO, guardA, cCond, condV, cRet, cExit, cSkip, resOut, resultA, extractA, tupleO, Nat.reduceEqDiff, Nat.reduceAdd, Nat.reduceSub, Nat.reduceLT, Nat.reduceBEq, reduceCtorEq, Nat.reduceMod, Nat.reduceLeDiff, Int.reduceLT, Int.reduceAdd, Int.reduceEq, Int.reduceToNat, s_draw, i0, i1, i5, ixa, ixb, s_varFalse ia3, ca, cb, hxy] <;> rfl)); (try (change Gets _ _ _ _ _ _; repeat refine Gets.seq ?_))
        refine Gets.condT (by simp (disch := decide) only [sxL]) (Gets.seq ?_)
        refine Gets.last Tryz.tabOk (ov := noOv) (noOv_ok) 8 (s' := ?sn8) ?hn8 ?kn8; (case hn8 => (simp -implicitDefEqProofs (disch := first | (simp only [ne_eq, Nat.reduceEqDiff, not_false_eq_true, Nat.reduceLT]; done) | assumption | (simp only [s_push_next, s_put_next, Nat.beq_refl]; done) | ((try simp only [s_push_next, s_put_next]) <;> omega) | exact s_one_map _ | exact s_one_slice _ _ _ _ _ | (refine (id ?_ : plainDraw _ = true); kernel_rfl) | fail) only [sxL, s_castN, s_cells_one, noOv, callFn, kindOf, kindC, kindB, unA, boxA, loadPtr, nilCheckA, fst1, ofValue, ofScalar, len, intBin, ibin, boolO, guardA, cCond, condV, cRet, cExit, cSkip, resOut, resultA, extractA, tupleO, Nat.reduceEqDiff, Nat.reduceAdd, Nat.reduceSub, Nat.reduceLT, Nat.reduceBEq, reduceCtorEq, Nat.reduceMod, Nat.reduceLeDiff, Int.reduceLT, Int.reduceAdd, Int.reduceEq, Int.reduceToNat, s_draw] <;> rfl)); (try (change Gets _ _ _ _ _ _; repeat refine Gets.seq ?_))
        refine Gets.ret Tryz.tabOk ?_
        exact fin_pure rfl (by simp (disch := decide) only [sxL, Tryz.f29, resultA]) (.refl _) hN trivial
    · have heq : decide (a = b) = true := by
        rw [decide_eq_true_iff]
        apply List.ext_getElem? 
        intro j
        by_cases hj : j < a.length
        · exact hq j (by omega)
        · rw [List.getElem?_eq_none (by omega), List.getElem?_eq_none (by omega)]
      rw [heq]
      refine Gets.last Tryz.tabOk (ov := noOv) (noOv_ok) 8 (s' := ?sn9) ?hn9 ?kn9; (case hn9 => (simp -implicitDefEqProofs (disch := first | (simp only [ne_eq, Nat.reduceEqDiff, not_false_eq_true, Nat.reduceLT]; done) | assumption | (simp only [s_push_next, s_put_next, Nat.beq_refl]; done) | ((try simp only [s_push_next, s_put_next]) <;> omega) | exact s_one_map _ | exact s_one_slice _ _ _ _ _ | (refine (id ?_ : plainDraw _ = true); kernel_rfl) | fail) only [sxL, s_castN, s_cells_one, noOv, callFn, kindOf, kindC, kindB, unA, boxA, loadPtr, nilCheckA, fst1, ofValue, ofScalar, len, intBin, ibin, boolO, guardA, cCond, condV, cRet, cExit, cSkip, resOut, resultA, extractA, tupleO, Nat.reduceEqDiff, Nat.reduceAdd, Nat.reduceSub, Nat.reduceLT, Nat.reduceBEq, reduceCtorEq, Nat.reduceMod, Nat.reduceLeDiff, Int.reduceLT, Int.reduceAdd, Int.reduceEq, Int.reduceToNat, s_draw, i0, i5, hla, hlt] <;> rfl)); (try (change Gets _ _ _ _ _ _; repeat refine Gets.seq ?_))
      refine Gets.condF (by simp (disch := decide) only [sxL]) (Gets.exit Tryz.tabOk ?_)
      refine inBlk_exit ?_
      change Gets _ _ _ _ _ _
      refine Gets.seq ?_
      refine Gets.last Tryz.tabOk (ov := noOv) (noOv_ok) 8 (s' := ?sn10) ?hn10 ?kn10; (case hn10 => (simp -implicitDefEqProofs (disch := first | (simp only [ne_eq, Nat.reduceEqDiff, not_false_eq_true, Nat.reduceLT]; done) | assumption | (simp only [s_push_next, s_put_next, Nat.beq_refl]; done) | ((try simp only [s_push_next, s_put_next]) <;> omega) | exact s_one_map _ | exact s_one_slice _ _ _ _ _ | (refine (id ?_ : plainDraw _ = true); kernel_rfl) | fail) only [sxL, s_castN, s_cells_one, noOv, callFn, kindOf, kindC, kindB, unA, boxA, loadPtr, nilCheckA, fst1, ofValue, ofScalar, len, intBin, ibin, boolO, guardA, cCond, condV, cRet, cExit, cSkip, resOut, resultA, extractA, tupleO, Nat.reduceEqDiff, Nat.reduceAdd, Nat.reduceSub, Nat.reduceLT, Nat.reduceBEq, reduceCtorEq, Nat.reduceMod, Nat.reduceLeDiff, Int.reduceLT, Int.reduceAdd, Int.reduceEq, Int.reduceToNat, s_draw] <;> rfl)); (try (change Gets _ _ _ _ _ _; repeat refine Gets.seq ?_))
      refine Gets.ret Tryz.tabOk ?_
      exact fin_pure rfl (by simp (disch := decide) only [sxL, Tryz.f29, resultA]) (.refl _) hN trivial
  · have hne : decide (a = b) = false := by
      rw [decide_eq_false_iff_not]
      rintro rfl
      exact hl rfl
    rw [hne]
    refine Gets.last Tryz.tabOk (ov := noOv) (noOv_ok) 8 (s' := ?sn11) ?hn11 ?kn11; (case hn11 => (simp -implicitDefEqProofs (disch := first | (simp only [ne_eq, Nat.reduceEqDiff, not_false_eq_true, Nat.reduceLT]; done) | assumption | (simp only [s_push_next, s_put_next, Nat.beq_refl]; done) | ((try simp only [s_push_next, s_put_next]) <;> omega) | exact s_one_map _ | exact s_one_slice _ _ _ _ _ | (refine (id ?_ : plainDraw _ = true); kernel_rfl) | fail) only [sxL, s_castN, s_cells_one, noOv, callFn, kindOf, kindC, kindB, unA, boxA, loadPtr, nilCheckA, fst1, ofValue, ofScalar, len, intBin, ibin, boolO, guardA, cCond, condV, cRet, cExit, cSkip, resOut, resultA, extractA, tupleO, Nat.reduceEqDiff, Nat.reduceAdd, Nat.reduceSub, Nat.reduceLT, Nat.reduceBEq, reduceCtorEq, Nat.reduceMod, Nat.reduceLeDiff, Int.reduceLT, Int.reduceAdd, Int.reduceEq, Int.reduceToNat, s_draw, hla, hlb, hl] <;> rfl)); (try (change Gets _ _ _ _ _ _; repeat refine Gets.seq ?_))
    refine Gets.condT (by simp (disch := decide) only [sxL]) (Gets.seq ?_)
    refine Gets.last Tryz.tabOk (ov := noOv) (noOv_ok) 8 (s' := ?sn12) ?hn12 ?kn12; (case hn12 => (simp -implicitDefEqProofs (disch := first | (simp only [ne_eq, Nat.reduceEqDiff, not_false_eq_true, Nat.reduceLT]; done) | assumption | (simp only [s_push_next, s_put_next, Nat.beq_refl]; done) | ((try simp only [s_push_next, s_put_next]) <;> omega) | exact s_one_map _ | exact s_one_slice _ _ _ _ _ | (refine (id ?_ : plainDraw _ = true); kernel_rfl) | fail) only [sxL, s_castN, s_cells_one, noOv, callFn, kindOf, kindC, kindB, unA, boxA, loadPtr, nilCheckA, fst1, ofValue, ofScalar, len, intBin, ibin, boolO, guardA, cCond, condV, cRet, cExit, cSkip, resOut, resultA, extractA, tupleO, Nat.reduceEqDiff, Nat.reduceAdd, Nat.reduceSub, Nat.reduceLT, Nat.reduceBEq, reduceCtorEq, Nat.reduceMod, Nat.reduceLeDiff, Int.reduceLT, Int.reduceAdd, Int.reduceEq, Int.reduceToNat, s_draw] <;> rfl)); (try (change Gets _ _ _ _ _ _; repeat refine Gets.seq ?_))
    refine Gets.ret Tryz.tabOk ?_
    exact fin_pure rfl (by simp (disch := decide) only [sxL, Tryz.f29, resultA]) (.refl _) hN trivial
theorem ints44_run (H : Heap) (d d' : Nat) (a b : List Nat) (ha : natL a ≠ [] → H.blks.get d = some (.cells 3 false (natL a))) (hb : natL b ≠ [] → H.blks.get d' = some (.cells 3 false (natL b))) (hN : Neat H) (hm : a.length ≤ 1000) :
    CallTo Tryz.prog Tryz.tab 11 [outV d (natL a), outV d' (natL b)] H [(.bool (decide (a = b)), H)] := by
  refine callTo_pure (n := 8) (v := .bool (decide (a = b))) Tryz.tabOk (ptO_ok noOv_ok (ints_run H d d' a b ha hb hN hm)) (H' := H) ?_ (.refl _) hN trivial
  rw [s_callO, s_ptNe _ (by decide), s_callB, get11]
  simp -implicitDefEqProofs (disch := first | (simp only [ne_eq, Nat.reduceEqDiff, not_false_eq_true, Nat.reduceLT]; done) | assumption | (simp only [s_push_next, s_put_next, Nat.beq_refl]; done) | ((try simp only [s_push_next, s_put_next]) <;> omega) | exact s_one_map _ | exact s_one_slice _ _ _ _ _ | (refine (id ?_ : plainDraw _ = true); kernel_rfl) | fail) only [sxL, s_castN, s_cells_one, noOv, callFn, kindOf, kindC, kindB, unA, boxA, loadPtr, nilCheckA, fst1, ofValue, ofScalar, len, intBin, ibin, boolO, guardA, cCond, condV, cRet, cExit, cSkip, resOut, resultA, extractA, tupleO, Nat.reduceEqDiff, Nat.reduceAdd, Nat.reduceSub, Nat.reduceLT, Nat.reduceBEq, reduceCtorEq, Nat.reduceMod, Nat.reduceLeDiff, Int.reduceLT, Int.reduceAdd, Int.reduceEq, Int.reduceToNat, Tryz.f11]
end Go.Proofs
