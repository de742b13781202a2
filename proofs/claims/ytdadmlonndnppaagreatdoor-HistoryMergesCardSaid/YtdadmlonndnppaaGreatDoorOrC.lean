/-
  The reading of a history, walked.
-/
import Derived.Test.YtdadmlonndnppaaGreatDoorOrB
set_option linter.unusedSimpArgs false
set_option linter.unusedVariables false
namespace Go.Proofs
open Go.Sx
set_option maxRecDepth 100000
noncomputable def recHeap (H : Heap) (v : AV) (c r : List (Int × Int)) : Heap := ((H.push (mapB c)).push (mapB r)).push (.cells 80 true [v, .map H.next, .map (H.next + 1)])
noncomputable def readOut (H : Heap) (v : AV) (x : (List (Int × Int) × List (Int × Int)) ⊕ Nat) : VH :=
  match x with
  | .inl (c, r) => (.tuple [.ptr (H.next + 2) 0, .int .i64 0, .int .i64 0], recHeap H v c r)
  | .inr i => (.tuple [.nilptr, .int .i64 (i : Int), .int .i64 10], H)
theorem recHeap_get {H : Heap} {v : AV} {c r : List (Int × Int)} {b : Nat} {o : ABlk} (h : (recHeap H v c r).blks.get b = some o) :
    (b = H.next + 2 ∧ o = .cells 80 true [v, .map H.next, .map (H.next + 1)]) ∨ (b = H.next + 1 ∧ o = mapB r) ∨ (b = H.next ∧ o = mapB c) ∨ H.blks.get b = some o := by
  by_cases h2 : b = H.next + 2
  · subst h2
    have e : (recHeap H v c r).blks.get (H.next + 2) = some (.cells 80 true [v, .map H.next, .map (H.next + 1)]) := s_push_same ((H.push (mapB c)).push (mapB r)) _
    rw [e] at h; cases h; exact .inl ⟨rfl, rfl⟩
  rw [recHeap, s_push_other ((H.push (mapB c)).push (mapB r)) _ h2] at h
  by_cases h1 : b = H.next + 1
  · subst h1
    have e : ((H.push (mapB c)).push (mapB r)).blks.get (H.next + 1) = some (mapB r) := s_push_same (H.push (mapB c)) _
    rw [e] at h; cases h; exact .inr (.inl ⟨rfl, rfl⟩)
  rw [s_push_other (H.push (mapB c)) _ h1] at h
  by_cases h0 : b = H.next
  · subst h0
    rw [s_push_same] at h; cases h; exact .inr (.inr (.inl ⟨rfl, rfl⟩))
  rw [s_push_other H _ h0] at h
  exact .inr (.inr (.inr h))
theorem mapB_lt (N : Nat) (m : List (Int × Int)) : ltB N (mapB m) := by
  have : ∀ (m : List (Int × Int)) (i : Nat), ∀ e ∈ ents m i, ltV N e.key ∧ ltV N e.val := by
    intro m
    induction m with
    | nil => intro i e he; simp [ents] at he
    | cons p m ih =>
      obtain ⟨a, b⟩ := p
      intro i e he
      rcases List.mem_cons.1 he with rfl | he
      · exact ⟨trivial, trivial⟩
      · exact ih (i + 1) e he
  exact this m 0
theorem recAt0 (H : Heap) (v : AV) (hN : Neat H) : RecAt H (((H.push (.map [] 0)).push (.map [] 0)).push (.cells 80 true [v, .map H.next, .map (H.next + 1)])) v [] [] := by
  refine ⟨Nat.le_refl _, (Grows.push _ _).trans ((Grows.push _ _).trans (.push _ _)), ((hN.push _).push _).push _, ?_, ?_, ?_⟩
  · rw [s_push_other _ _ (by simp only [s_push_next]; omega), s_push_other _ _ (by simp only [s_push_next]; omega), s_push_same]; rfl
  · rw [s_push_other _ _ (by simp only [s_push_next]; omega)]; exact s_push_same (H.push (.map [] 0)) _
  · exact s_push_same ((H.push (.map [] 0)).push (.map [] 0)) _
theorem RecAt.cut {H h : Heap} {v : AV} {c r : List (Int × Int)} (hr : RecAt H h v c r) (hN : Neat H) (hv3 : ltV (H.next + 3) v) : Cut H (.tuple [.ptr (H.next + 2) 0, .int .i64 0, .int .i64 0], recHeap H v c r) (.tuple [.ptr (H.next + 2) 0, .int .i64 0, .int .i64 0]) h := by
  have hn : (recHeap H v c r).next = H.next + 3 := rfl
  refine ⟨rfl, hr.next, by show H.next ≤ (recHeap H v c r).next; rw [hn]; omega, fun b o hb => ?_, ⟨by show H.next + 2 < (recHeap H v c r).next; rw [hn]; omega, trivial, trivial, trivial⟩⟩
  show _ ∧ (_ ∨ ltB (recHeap H v c r).next o)
  rw [hn]
  rcases recHeap_get hb with ⟨rfl, rfl⟩ | ⟨rfl, rfl⟩ | ⟨rfl, rfl⟩ | h
  · refine ⟨hr.rec_, .inr ⟨?_, by show H.next < _; omega, by show H.next + 1 < _; omega, trivial⟩⟩
    exact hv3
  · exact ⟨hr.reply, .inr (mapB_lt _ _)⟩
  · exact ⟨hr.call, .inr (mapB_lt _ _)⟩
  · exact ⟨by rw [hr.grows.get b (hN b o h)]; exact h, .inl ⟨hN b o h, h⟩⟩
theorem rowsAt_lt {α : Type} {e k : Nat} {f : α → List AV} {H : Heap} {v : AV} {l : List α} (h : RowsAt e k f H v l) (hN : Neat H) (n : Nat) : ltV (H.next + n) v := by
  rcases h with ⟨h, _⟩ | ⟨b, c, rfl, h⟩
  · exact h.lt _
  · show b < H.next + n
    have := hN b _ h; omega
/-- what stands in each turn -/
structure ReadI (H : Heap) (v : AV) (l : List EvV) (i : Nat) (tm : T AV) (h : Heap) (c r : List (Int × Int)) : Prop where
  go : readGo (l.drop i) i c r = readGo l 0 [] []
  len : c.length ≤ i
  rec_ : RecAt H h v c r
  t5 : tm.get 5 = some (.ptr (H.next + 2) 0)
  t20 : tm.get 20 = some v
  t21 : tm.get 21 = some (.int .i64 (l.length : Int))
  t22 : tm.get 22 = some (.int .i64 (i : Int))
theorem read_run (l : List EvV) (hm : l.length ≤ 1000) (v : AV) (H : Heap) (hv : EvsAt H v l) (hG : GlobAt H) (hN : Neat H) : CallTo Tryz.prog Tryz.tab 23 [v] H [readOut H v (readGo l 0 [] [])] := by
  refine callTo_of Tryz.tabOk Tryz.func23 rfl rfl ?_
  show Gets Tryz.prog Tryz.tab ⟨none, 122⟩ _ _ _
  have hlen := hv.1.len ud23
  have hone := hv.1.one
  have hmany : ¬ 4000 < (l.length : Int) := by omega
  repeat refine Gets.seq ?_
  refine Gets.last Tryz.tabOk (ov := noOv) (noOv_ok) 8 (s' := ?sn1) ?hn1 ?kn1; (case hn1 => (simp -implicitDefEqProofs (disch := first | (simp only [ne_eq, Nat.reduceEqDiff, not_false_eq_true, Nat.reduceLT]; done) | assumption | (simp only [s_push_next, s_put_next, Nat.beq_refl]; done) | ((try simp only [s_push_next, s_put_next]) <;> omega) | exact s_one_map _ | exact s_one_slice _ _ _ _ _ | (refine (id ?_ : plainDraw _ = true); kernel_rfl) | fail) only [sxL, s_castN, s_cells_one, noOv, callFn, kindOf, kindC, kindB, unA, boxA, loadPtr, nilCheckA, fst1, ofValue, ofScalar, len, intBin, ibin, boolO, guardA, cCond, condV, cRet, cExit, cSkip, resOut, resultA, extractA, tupleO, Nat.reduceEqDiff, Nat.reduceAdd, Nat.reduceSub, Nat.reduceLT, Nat.reduceBEq, reduceCtorEq, Nat.reduceMod, Nat.reduceLeDiff, Int.reduceLT, Int.reduceAdd, Int.reduceEq, Int.reduceToNat, s_draw] <;> rfl)); (try (change Gets _ _ _ _ _ _; repeat refine Gets.seq ?_))
  refine Gets.last Tryz.tabOk (ov := noOv) (noOv_ok) 8 (s' := ?sn2) ?hn2 ?kn2; (case hn2 => (simp -implicitDefEqProofs (disch := first | (simp only [ne_eq, Nat.reduceEqDiff, not_false_eq_true, Nat.reduceLT]; done) | assumption | (simp only [s_push_next, s_put_next, Nat.beq_refl]; done) | ((try simp only [s_push_next, s_put_next]) <;> omega) | exact s_one_map _ | exact s_one_slice _ _ _ _ _ | (refine (id ?_ : plainDraw _ = true); kernel_rfl) | fail) only [sxL, s_castN, s_cells_one, noOv, callFn, kindOf, kindC, kindB, unA, boxA, loadPtr, nilCheckA, fst1, ofValue, ofScalar, len, intBin, ibin, boolO, guardA, cCond, condV, cRet, cExit, cSkip, resOut, resultA, extractA, tupleO, Nat.reduceEqDiff, Nat.reduceAdd, Nat.reduceSub, Nat.reduceLT, Nat.reduceBEq, reduceCtorEq, Nat.reduceMod, Nat.reduceLeDiff, Int.reduceLT, Int.reduceAdd, Int.reduceEq, Int.reduceToNat, s_draw, hlen] <;> rfl)); (try (change Gets _ _ _ _ _ _; repeat refine Gets.seq ?_))
  refine Gets.condF (by simp (disch := decide) only [sxL, hmany]) (Gets.skip Tryz.tabOk ?_)
  change Gets _ _ _ _ _ _
  repeat refine Gets.seq ?_
  have hb80 := build80 H.next (H.next + 1) hone
  refine Gets.last Tryz.tabOk (ov := noOv) (noOv_ok) 8 (s' := ?sn3) ?hn3 ?kn3; (case hn3 => (simp -implicitDefEqProofs (disch := first | (simp only [ne_eq, Nat.reduceEqDiff, not_false_eq_true, Nat.reduceLT]; done) | assumption | (simp only [s_push_next, s_put_next, Nat.beq_refl]; done) | ((try simp only [s_push_next, s_put_next]) <;> omega) | exact s_one_map _ | exact s_one_slice _ _ _ _ _ | (refine (id ?_ : plainDraw _ = true); kernel_rfl) | fail) only [sxL, s_castN, s_cells_one, noOv, callFn, kindOf, kindC, kindB, unA, boxA, loadPtr, nilCheckA, fst1, ofValue, ofScalar, len, intBin, ibin, boolO, guardA, cCond, condV, cRet, cExit, cSkip, resOut, resultA, extractA, tupleO, Nat.reduceEqDiff, Nat.reduceAdd, Nat.reduceSub, Nat.reduceLT, Nat.reduceBEq, reduceCtorEq, Nat.reduceMod, Nat.reduceLeDiff, Int.reduceLT, Int.reduceAdd, Int.reduceEq, Int.reduceToNat, s_draw, hb80, hone] <;> rfl)); (try (change Gets _ _ _ _ _ _; repeat refine Gets.seq ?_))
  refine Gets.last Tryz.tabOk (ov := noOv) (noOv_ok) 8 (s' := ?sn4) ?hn4 ?kn4; (case hn4 => (simp -implicitDefEqProofs (disch := first | (simp only [ne_eq, Nat.reduceEqDiff, not_false_eq_true, Nat.reduceLT]; done) | assumption | (simp only [s_push_next, s_put_next, Nat.beq_refl]; done) | ((try simp only [s_push_next, s_put_next]) <;> omega) | exact s_one_map _ | exact s_one_slice _ _ _ _ _ | (refine (id ?_ : plainDraw _ = true); kernel_rfl) | fail) only [sxL, s_castN, s_cells_one, noOv, callFn, kindOf, kindC, kindB, unA, boxA, loadPtr, nilCheckA, fst1, ofValue, ofScalar, len, intBin, ibin, boolO, guardA, cCond, condV, cRet, cExit, cSkip, resOut, resultA, extractA, tupleO, Nat.reduceEqDiff, Nat.reduceAdd, Nat.reduceSub, Nat.reduceLT, Nat.reduceBEq, reduceCtorEq, Nat.reduceMod, Nat.reduceLeDiff, Int.reduceLT, Int.reduceAdd, Int.reduceEq, Int.reduceToNat, s_draw, hlen] <;> rfl)); (try (change Gets _ _ _ _ _ _; repeat refine Gets.seq ?_))
  refine Gets.uptoH l.length (fun i tm h => ∃ c r, ReadI H v l i tm h c r) ⟨[], [], rfl, Nat.le_refl _, recAt0 H v hN, ?_, ?_, ?_, ?_⟩ ?_
  · simp (disch := decide) only [sxL]
  · simp (disch := decide) only [sxL]
  · simp (disch := decide) only [sxL]
  · simp (disch := decide) only [sxL]
  rintro i tm h hi ⟨c, r, I⟩
  repeat refine Gets.seq ?_
  have i5 := I.t5
  have i20 := I.t20
  have i21 := I.t21
  have i22 := I.t22
  by_cases hlt : (i : Int) < (l.length : Int)
  · obtain ⟨e, hki⟩ : ∃ k, l[i]? = some k := ⟨_, List.getElem?_eq_getElem (by omega)⟩
    have hvh := hv.grow hN I.rec_.grows
    obtain ⟨b, hx, hc1, hc2⟩ := hvh.1.row ud23 sz51 EvV.len hki
    have hc : Sx.cellsIn (h.blks.get b) (i * 29) 29 = some e.cells := hc2 0 29 (by omega)
    have hst0 := hvh.2 e (List.mem_of_getElem? hki)
    have hst : storePtr Tryz.tab (h.push (.cells 51 true zev)) 51 (.ptr h.next 0) (.agg e.cells) = some (putBlk (h.push (.cells 51 true zev)) h.next (some (.cells 51 true e.cells))) :=
      store_full (s_push_same _ _) sz51 rfl (EvV.one hst0.one) (by simp [EvV.cells])
    have hR1 : RecAt H (putBlk (h.push (.cells 51 true zev)) h.next (some (.cells 51 true e.cells))) v c r := (I.rec_.push _).put I.rec_.next (by rw [s_push_next]; omega) _
    have hat : (putBlk (h.push (.cells 51 true zev)) h.next (some (.cells 51 true e.cells))).blks.get h.next = some (.cells 51 true e.cells) := s_put_same _ _ _
    have hnx : (putBlk (h.push (.cells 51 true zev)) h.next (some (.cells 51 true e.cells))).next = h.next + 1 := by rw [s_put_next, s_push_next]
    generalize hh1 : putBlk (h.push (.cells 51 true zev)) h.next (some (.cells 51 true e.cells)) = h1 at hst hR1 hat hnx
    have e0 : cellIn (h1.blks.get h.next) 0 = some (.int .i64 e.call) := by rw [hat]; rfl
    have e1 : cellIn (h1.blks.get h.next) 1 = some (.bool e.reply) := by rw [hat]; rfl
    have e2 : Sx.cellsIn (h1.blks.get h.next) 2 24 = some e.cmd.cells := by rw [hat, s_cellsIn]; rfl
    have e2k : cellIn (h1.blks.get h.next) 2 = some (.int .i64 e.cmd.kind) := by rw [hat]; rfl
    have e2c : cellIn (h1.blks.get h.next) 3 = some (.int .i64 e.cmd.call) := by rw [hat]; rfl
    have e3 : Sx.cellsIn (h1.blks.get h.next) 26 3 = some [.int .i64 e.err, .int .i64 e.num, .str e.data] := by rw [hat, s_cellsIn]; rfl
    have r1 : cellIn (h1.blks.get (H.next + 2)) 1 = some (.map H.next) := by rw [hR1.rec_]; rfl
    have r2 : cellIn (h1.blks.get (H.next + 2)) 2 = some (.map (H.next + 1)) := by rw [hR1.rec_]; rfl
    refine Gets.last Tryz.tabOk (ov := noOv) (noOv_ok) 8 (s' := ?sn5) ?hn5 ?kn5; (case hn5 => (simp -implicitDefEqProofs (disch := first | (simp only [ne_eq, Nat.reduceEqDiff, not_false_eq_true, Nat.reduceLT]; done) | assumption | (simp only [s_push_next, s_put_next, Nat.beq_refl]; done) | ((try simp only [s_push_next, s_put_next]) <;> omega) | exact s_one_map _ | exact s_one_slice _ _ _ _ _ | (refine (id ?_ : plainDraw _ = true); kernel_rfl) | fail) only [sxL, s_castN, s_cells_one, noOv, callFn, kindOf, kindC, kindB, unA, boxA, loadPtr, nilCheckA, fst1, ofValue, ofScalar, len, intBin, ibin, boolO, guardA, cCond, condV, cRet, cExit, cSkip, resOut, resultA, extractA, tupleO, Nat.reduceEqDiff, Nat.reduceAdd, Nat.reduceSub, Nat.reduceLT, Nat.reduceBEq, reduceCtorEq, Nat.reduceMod, Nat.reduceLeDiff, Int.reduceLT, Int.reduceAdd, Int.reduceEq, Int.reduceToNat, s_draw, i21, i22, hlt] <;> rfl)); (try (change Gets _ _ _ _ _ _; repeat refine Gets.seq ?_))
    refine Gets.condT (by simp (disch := decide) only [sxL]) (Gets.skip Tryz.tabOk ?_)
    change Gets _ _ _ _ _ _
    refine Gets.seq (Gets.blk ?_)
    repeat refine Gets.seq ?_
    refine Gets.last Tryz.tabOk (ov := noOv) (noOv_ok) 8 (s' := ?sn6) ?hn6 ?kn6; (case hn6 => (simp -implicitDefEqProofs (disch := first | (simp only [ne_eq, Nat.reduceEqDiff, not_false_eq_true, Nat.reduceLT]; done) | assumption | (simp only [s_push_next, s_put_next, Nat.beq_refl]; done) | ((try simp only [s_push_next, s_put_next]) <;> omega) | exact s_one_map _ | exact s_one_slice _ _ _ _ _ | (refine (id ?_ : plainDraw _ = true); kernel_rfl) | fail) only [sxL, s_castN, s_cells_one, noOv, callFn, kindOf, kindC, kindB, unA, boxA, loadPtr, nilCheckA, fst1, ofValue, ofScalar, len, intBin, ibin, boolO, guardA, cCond, condV, cRet, cExit, cSkip, resOut, resultA, extractA, tupleO, Nat.reduceEqDiff, Nat.reduceAdd, Nat.reduceSub, Nat.reduceLT, Nat.reduceBEq, reduceCtorEq, Nat.reduceMod, Nat.reduceLeDiff, Int.reduceLT, Int.reduceAdd, Int.reduceEq, Int.reduceToNat, s_draw, i20, i22, hx, s_varTrue ia51 sz51, hc, zero51, zev_one, hst] <;> rfl)); (try (change Gets _ _ _ _ _ _; repeat refine Gets.seq ?_))
    refine Gets.last Tryz.tabOk (ov := noOv) (noOv_ok) 8 (s' := ?sn7) ?hn7 ?kn7; (case hn7 => (simp -implicitDefEqProofs (disch := first | (simp only [ne_eq, Nat.reduceEqDiff, not_false_eq_true, Nat.reduceLT]; done) | assumption | (simp only [s_push_next, s_put_next, Nat.beq_refl]; done) | ((try simp only [s_push_next, s_put_next]) <;> omega) | exact s_one_map _ | exact s_one_slice _ _ _ _ _ | (refine (id ?_ : plainDraw _ = true); kernel_rfl) | fail) only [sxL, s_castN, s_cells_one, noOv, callFn, kindOf, kindC, kindB, unA, boxA, loadPtr, nilCheckA, fst1, ofValue, ofScalar, len, intBin, ibin, boolO, guardA, cCond, condV, cRet, cExit, cSkip, resOut, resultA, extractA, tupleO, Nat.reduceEqDiff, Nat.reduceAdd, Nat.reduceSub, Nat.reduceLT, Nat.reduceBEq, reduceCtorEq, Nat.reduceMod, Nat.reduceLeDiff, Int.reduceLT, Int.reduceAdd, Int.reduceEq, Int.reduceToNat, s_draw, i5, fa80_1, s_varFalse ia78, r1, fa51_0, s_varFalse ia3, e0, look78 hR1.call] <;> rfl)); (try (change Gets _ _ _ _ _ _; repeat refine Gets.seq ?_))
    refine Gets.last Tryz.tabOk (ov := noOv) (noOv_ok) 8 (s' := ?sn8) ?hn8 ?kn8; (case hn8 => (simp -implicitDefEqProofs (disch := first | (simp only [ne_eq, Nat.reduceEqDiff, not_false_eq_true, Nat.reduceLT]; done) | assumption | (simp only [s_push_next, s_put_next, Nat.beq_refl]; done) | ((try simp only [s_push_next, s_put_next]) <;> omega) | exact s_one_map _ | exact s_one_slice _ _ _ _ _ | (refine (id ?_ : plainDraw _ = true); kernel_rfl) | fail) only [sxL, s_castN, s_cells_one, noOv, callFn, kindOf, kindC, kindB, unA, boxA, loadPtr, nilCheckA, fst1, ofValue, ofScalar, len, intBin, ibin, boolO, guardA, cCond, condV, cRet, cExit, cSkip, resOut, resultA, extractA, tupleO, Nat.reduceEqDiff, Nat.reduceAdd, Nat.reduceSub, Nat.reduceLT, Nat.reduceBEq, reduceCtorEq, Nat.reduceMod, Nat.reduceLeDiff, Int.reduceLT, Int.reduceAdd, Int.reduceEq, Int.reduceToNat, s_draw, i5, fa80_2, s_varFalse ia78, r2, fa51_0, s_varFalse ia3, e0, look78 hR1.reply] <;> rfl)); (try (change Gets _ _ _ _ _ _; repeat refine Gets.seq ?_))
    have hst1 := (hv.grow hN hR1.grows).2 e (List.mem_of_getElem? hki)
    have hq := equal_run e.cmd e.keys h1 hst1 hR1.neat
    have hr := reply_run e.err e.num e.data h1 hR1.neat
    refine Gets.blk ?_
    repeat refine Gets.seq ?_
    refine Gets.midA (H := h1) (I := fun tm => tm.get 5 = some (.ptr (H.next + 2) 0) ∧ tm.get 6 = some (.int .i64 (i : Int)) ∧ tm.get 7 = some (.ptr h.next 0) ∧ tm.get 20 = some v ∧ tm.get 21 = some (.int .i64 (l.length : Int)) ∧ tm.get 22 = some (.int .i64 (i : Int)) ∧ tm.get 48 = some (.bool (isRep c r e))) ?_ ?_
    · by_cases h1' : ¬ e.reply = true
      · try simp only [Decidable.not_not, Bool.not_eq_true] at h1'
        refine Gets.last Tryz.tabOk (ov := ptO (ptO noOv 37 [.agg e.cmd.cells, .agg zcells] h1 [(.bool (eqZ e.cmd e.keys.length), h1)]) 38 [.agg [.int .i64 e.err, .int .i64 e.num, .str e.data]] h1 [(.int .i64 (checkReply e.err e.num e.data), h1)]) (ptO_ok (ptO_ok noOv_ok hq) hr) 8 (s' := ?sn9) ?hn9 ?kn9; (case hn9 => (simp -implicitDefEqProofs (disch := first | (simp only [ne_eq, Nat.reduceEqDiff, not_false_eq_true, Nat.reduceLT]; done) | assumption | (simp only [s_push_next, s_put_next, Nat.beq_refl]; done) | ((try simp only [s_push_next, s_put_next]) <;> omega) | exact s_one_map _ | exact s_one_slice _ _ _ _ _ | (refine (id ?_ : plainDraw _ = true); kernel_rfl) | fail) only [sxL, s_castN, s_cells_one, noOv, callFn, kindOf, kindC, kindB, unA, boxA, loadPtr, nilCheckA, fst1, ofValue, ofScalar, len, intBin, ibin, boolO, guardA, cCond, condV, cRet, cExit, cSkip, resOut, resultA, extractA, tupleO, Nat.reduceEqDiff, Nat.reduceAdd, Nat.reduceSub, Nat.reduceLT, Nat.reduceBEq, reduceCtorEq, Nat.reduceMod, Nat.reduceLeDiff, Int.reduceLT, Int.reduceAdd, Int.reduceEq, Int.reduceToNat, s_draw, fa51_1, fa51_2, fa51_3, s_varFalse ia4, s_varTrue ia44 sz44, s_varTrue ia49 sz49, e1, e2, e3, build44, h1'] <;> rfl)); (try (change Gets _ _ _ _ _ _; repeat refine Gets.seq ?_))
        refine ⟨rfl, _, rfl, ?_, ?_, ?_, ?_, ?_, ?_, ?_⟩
        · simp (disch := decide) only [sxL, i5]
        · simp (disch := decide) only [sxL]
        · simp (disch := decide) only [sxL]
        · simp (disch := decide) only [sxL, i20]
        · simp (disch := decide) only [sxL, i21]
        · simp (disch := decide) only [sxL, i22]
        · simp only [isRep, h1']
          simp (disch := decide) only [sxL, h1']
      · by_cases h2 : ¬ (mGet c e.call).isSome = true
        · try simp only [Decidable.not_not, Bool.not_eq_true] at h1' h2
          refine Gets.last Tryz.tabOk (ov := ptO (ptO noOv 37 [.agg e.cmd.cells, .agg zcells] h1 [(.bool (eqZ e.cmd e.keys.length), h1)]) 38 [.agg [.int .i64 e.err, .int .i64 e.num, .str e.data]] h1 [(.int .i64 (checkReply e.err e.num e.data), h1)]) (ptO_ok (ptO_ok noOv_ok hq) hr) 8 (s' := ?sn10) ?hn10 ?kn10; (case hn10 => (simp -implicitDefEqProofs (disch := first | (simp only [ne_eq, Nat.reduceEqDiff, not_false_eq_true, Nat.reduceLT]; done) | assumption | (simp only [s_push_next, s_put_next, Nat.beq_refl]; done) | ((try simp only [s_push_next, s_put_next]) <;> omega) | exact s_one_map _ | exact s_one_slice _ _ _ _ _ | (refine (id ?_ : plainDraw _ = true); kernel_rfl) | fail) only [sxL, s_castN, s_cells_one, noOv, callFn, kindOf, kindC, kindB, unA, boxA, loadPtr, nilCheckA, fst1, ofValue, ofScalar, len, intBin, ibin, boolO, guardA, cCond, condV, cRet, cExit, cSkip, resOut, resultA, extractA, tupleO, Nat.reduceEqDiff, Nat.reduceAdd, Nat.reduceSub, Nat.reduceLT, Nat.reduceBEq, reduceCtorEq, Nat.reduceMod, Nat.reduceLeDiff, Int.reduceLT, Int.reduceAdd, Int.reduceEq, Int.reduceToNat, s_draw, fa51_1, fa51_2, fa51_3, s_varFalse ia4, s_varTrue ia44 sz44, s_varTrue ia49 sz49, e1, e2, e3, build44, h1', h2] <;> rfl)); (try (change Gets _ _ _ _ _ _; repeat refine Gets.seq ?_))
          refine ⟨rfl, _, rfl, ?_, ?_, ?_, ?_, ?_, ?_, ?_⟩
          · simp (disch := decide) only [sxL, i5]
          · simp (disch := decide) only [sxL]
          · simp (disch := decide) only [sxL]
          · simp (disch := decide) only [sxL, i20]
          · simp (disch := decide) only [sxL, i21]
          · simp (disch := decide) only [sxL, i22]
          · simp only [isRep, h1', h2]
            simp (disch := decide) only [sxL, h1', h2]
        · by_cases h3 : (mGet r e.call).isSome = true
          · try simp only [Decidable.not_not, Bool.not_eq_true] at h1' h2 h3
            refine Gets.last Tryz.tabOk (ov := ptO (ptO noOv 37 [.agg e.cmd.cells, .agg zcells] h1 [(.bool (eqZ e.cmd e.keys.length), h1)]) 38 [.agg [.int .i64 e.err, .int .i64 e.num, .str e.data]] h1 [(.int .i64 (checkReply e.err e.num e.data), h1)]) (ptO_ok (ptO_ok noOv_ok hq) hr) 8 (s' := ?sn11) ?hn11 ?kn11; (case hn11 => (simp -implicitDefEqProofs (disch := first | (simp only [ne_eq, Nat.reduceEqDiff, not_false_eq_true, Nat.reduceLT]; done) | assumption | (simp only [s_push_next, s_put_next, Nat.beq_refl]; done) | ((try simp only [s_push_next, s_put_next]) <;> omega) | exact s_one_map _ | exact s_one_slice _ _ _ _ _ | (refine (id ?_ : plainDraw _ = true); kernel_rfl) | fail) only [sxL, s_castN, s_cells_one, noOv, callFn, kindOf, kindC, kindB, unA, boxA, loadPtr, nilCheckA, fst1, ofValue, ofScalar, len, intBin, ibin, boolO, guardA, cCond, condV, cRet, cExit, cSkip, resOut, resultA, extractA, tupleO, Nat.reduceEqDiff, Nat.reduceAdd, Nat.reduceSub, Nat.reduceLT, Nat.reduceBEq, reduceCtorEq, Nat.reduceMod, Nat.reduceLeDiff, Int.reduceLT, Int.reduceAdd, Int.reduceEq, Int.reduceToNat, s_draw, fa51_1, fa51_2, fa51_3, s_varFalse ia4, s_varTrue ia44 sz44, s_varTrue ia49 sz49, e1, e2, e3, build44, h1', h2, h3] <;> rfl)); (try (change Gets _ _ _ _ _ _; repeat refine Gets.seq ?_))
            refine ⟨rfl, _, rfl, ?_, ?_, ?_, ?_, ?_, ?_, ?_⟩
            · simp (disch := decide) only [sxL, i5]
            · simp (disch := decide) only [sxL]
            · simp (disch := decide) only [sxL]
            · simp (disch := decide) only [sxL, i20]
            · simp (disch := decide) only [sxL, i21]
            · simp (disch := decide) only [sxL, i22]
            · simp only [isRep, h1', h2, h3]
              simp (disch := decide) only [sxL, h1', h2, h3]
          · by_cases h4 : ¬ eqZ e.cmd e.keys.length = true
            · try simp only [Decidable.not_not, Bool.not_eq_true] at h1' h2 h3 h4
              refine Gets.last Tryz.tabOk (ov := ptO (ptO noOv 37 [.agg e.cmd.cells, .agg zcells] h1 [(.bool (eqZ e.cmd e.keys.length), h1)]) 38 [.agg [.int .i64 e.err, .int .i64 e.num, .str e.data]] h1 [(.int .i64 (checkReply e.err e.num e.data), h1)]) (ptO_ok (ptO_ok noOv_ok hq) hr) 8 (s' := ?sn12) ?hn12 ?kn12; (case hn12 => (simp -implicitDefEqProofs (disch := first | (simp only [ne_eq, Nat.reduceEqDiff, not_false_eq_true, Nat.reduceLT]; done) | assumption | (simp only [s_push_next, s_put_next, Nat.beq_refl]; done) | ((try simp only [s_push_next, s_put_next]) <;> omega) | exact s_one_map _ | exact s_one_slice _ _ _ _ _ | (refine (id ?_ : plainDraw _ = true); kernel_rfl) | fail) only [sxL, s_castN, s_cells_one, noOv, callFn, kindOf, kindC, kindB, unA, boxA, loadPtr, nilCheckA, fst1, ofValue, ofScalar, len, intBin, ibin, boolO, guardA, cCond, condV, cRet, cExit, cSkip, resOut, resultA, extractA, tupleO, Nat.reduceEqDiff, Nat.reduceAdd, Nat.reduceSub, Nat.reduceLT, Nat.reduceBEq, reduceCtorEq, Nat.reduceMod, Nat.reduceLeDiff, Int.reduceLT, Int.reduceAdd, Int.reduceEq, Int.reduceToNat, s_draw, fa51_1, fa51_2, fa51_3, s_varFalse ia4, s_varTrue ia44 sz44, s_varTrue ia49 sz49, e1, e2, e3, build44, h1', h2, h3, h4] <;> rfl)); (try (change Gets _ _ _ _ _ _; repeat refine Gets.seq ?_))
              refine ⟨rfl, _, rfl, ?_, ?_, ?_, ?_, ?_, ?_, ?_⟩
              · simp (disch := decide) only [sxL, i5]
              · simp (disch := decide) only [sxL]
              · simp (disch := decide) only [sxL]
              · simp (disch := decide) only [sxL, i20]
              · simp (disch := decide) only [sxL, i21]
              · simp (disch := decide) only [sxL, i22]
              · simp only [isRep, h1', h2, h3, h4]
                simp (disch := decide) only [sxL, h1', h2, h3, h4]
            · by_cases h5 : ¬ checkReply e.err e.num e.data = 0
              · try simp only [Decidable.not_not, Bool.not_eq_true] at h1' h2 h3 h4 h5
                refine Gets.last Tryz.tabOk (ov := ptO (ptO noOv 37 [.agg e.cmd.cells, .agg zcells] h1 [(.bool (eqZ e.cmd e.keys.length), h1)]) 38 [.agg [.int .i64 e.err, .int .i64 e.num, .str e.data]] h1 [(.int .i64 (checkReply e.err e.num e.data), h1)]) (ptO_ok (ptO_ok noOv_ok hq) hr) 8 (s' := ?sn13) ?hn13 ?kn13; (case hn13 => (simp -implicitDefEqProofs (disch := first | (simp only [ne_eq, Nat.reduceEqDiff, not_false_eq_true, Nat.reduceLT]; done) | assumption | (simp only [s_push_next, s_put_next, Nat.beq_refl]; done) | ((try simp only [s_push_next, s_put_next]) <;> omega) | exact s_one_map _ | exact s_one_slice _ _ _ _ _ | (refine (id ?_ : plainDraw _ = true); kernel_rfl) | fail) only [sxL, s_castN, s_cells_one, noOv, callFn, kindOf, kindC, kindB, unA, boxA, loadPtr, nilCheckA, fst1, ofValue, ofScalar, len, intBin, ibin, boolO, guardA, cCond, condV, cRet, cExit, cSkip, resOut, resultA, extractA, tupleO, Nat.reduceEqDiff, Nat.reduceAdd, Nat.reduceSub, Nat.reduceLT, Nat.reduceBEq, reduceCtorEq, Nat.reduceMod, Nat.reduceLeDiff, Int.reduceLT, Int.reduceAdd, Int.reduceEq, Int.reduceToNat, s_draw, fa51_1, fa51_2, fa51_3, s_varFalse ia4, s_varTrue ia44 sz44, s_varTrue ia49 sz49, e1, e2, e3, build44, h1', h2, h3, h4, h5] <;> rfl)); (try (change Gets _ _ _ _ _ _; repeat refine Gets.seq ?_))
                refine ⟨rfl, _, rfl, ?_, ?_, ?_, ?_, ?_, ?_, ?_⟩
                · simp (disch := decide) only [sxL, i5]
                · simp (disch := decide) only [sxL]
                · simp (disch := decide) only [sxL]
                · simp (disch := decide) only [sxL, i20]
                · simp (disch := decide) only [sxL, i21]
                · simp (disch := decide) only [sxL, i22]
                · simp only [isRep, h1', h2, h3, h4, h5]
                  simp (disch := decide) only [sxL, h1', h2, h3, h4, h5]
              · try simp only [Decidable.not_not, Bool.not_eq_true] at h1' h2 h3 h4 h5
                refine Gets.last Tryz.tabOk (ov := ptO (ptO noOv 37 [.agg e.cmd.cells, .agg zcells] h1 [(.bool (eqZ e.cmd e.keys.length), h1)]) 38 [.agg [.int .i64 e.err, .int .i64 e.num, .str e.data]] h1 [(.int .i64 (checkReply e.err e.num e.data), h1)]) (ptO_ok (ptO_ok noOv_ok hq) hr) 8 (s' := ?sn14) ?hn14 ?kn14; (case hn14 => (simp -implicitDefEqProofs (disch := first | (simp only [ne_eq, Nat.reduceEqDiff, not_false_eq_true, Nat.reduceLT]; done) | assumption | (simp only [s_push_next, s_put_next, Nat.beq_refl]; done) | ((try simp only [s_push_next, s_put_next]) <;> omega) | exact s_one_map _ | exact s_one_slice _ _ _ _ _ | (refine (id ?_ : plainDraw _ = true); kernel_rfl) | fail) only [sxL, s_castN, s_cells_one, noOv, callFn, kindOf, kindC, kindB, unA, boxA, loadPtr, nilCheckA, fst1, ofValue, ofScalar, len, intBin, ibin, boolO, guardA, cCond, condV, cRet, cExit, cSkip, resOut, resultA, extractA, tupleO, Nat.reduceEqDiff, Nat.reduceAdd, Nat.reduceSub, Nat.reduceLT, Nat.reduceBEq, reduceCtorEq, Nat.reduceMod, Nat.reduceLeDiff, Int.reduceLT, Int.reduceAdd, Int.reduceEq, Int.reduceToNat, s_draw, fa51_1, fa51_2, fa51_3, s_varFalse ia4, s_varTrue ia44 sz44, s_varTrue ia49 sz49, e1, e2, e3, build44, h1', h2, h3, h4, h5] <;> rfl)); (try (change Gets _ _ _ _ _ _; repeat refine Gets.seq ?_))
                refine ⟨rfl, _, rfl, ?_, ?_, ?_, ?_, ?_, ?_, ?_⟩
                · simp (disch := decide) only [sxL, i5]
                · simp (disch := decide) only [sxL]
                · simp (disch := decide) only [sxL]
                · simp (disch := decide) only [sxL, i20]
                · simp (disch := decide) only [sxL, i21]
                · simp (disch := decide) only [sxL, i22]
                · simp only [isRep, h1', h2, h3, h4, h5]
                  simp (disch := decide) only [sxL, h1', h2, h3, h4, h5]
    rintro tm' ⟨j5, j6, j7, j20, j21, j22, j48⟩
    change Gets _ _ _ _ _ _
    have hdrop : l.drop i = e :: l.drop (i + 1) := by
      have hi' := (List.getElem?_eq_some_iff.1 hki)
      rw [List.drop_eq_getElem_cons hi'.1, hi'.2]
    have hgo := I.go
    rw [hdrop] at hgo
    have hw : awrap .i64 ((i : Int) + 1) = (i : Int) + 1 := s_wrap (by omega) (by omega)
    have hlen' := I.len
    cases hB : isRep c r e
    · refine Gets.condF (by simp (disch := decide) only [sxL, j48, hB]) ?_
      have hG1 := hG.grow hN hR1.grows
      have hk := contains_run e.cmd.kind h1 hG1 hR1.neat
      have g0 : cellIn (h1.blks.get 0) 0 = some (.slice 9 0 5 false 5) := by rw [hG1.1]; rfl
      have hgl : Nat.blt 0 Tryz.tab.nglob = true := by kernel_rfl
      have ag : ∀ tm, aev Tryz.tab tm (.global 0) = some (.ptr 0 0) := fun tm => s_aev_glob tm 0 hgl
      have hwc : awrap .i64 ((c.length : Int) + 1) = (c.length : Int) + 1 := s_wrap (by omega) (by omega)
      repeat refine Gets.seq ?_
      refine Gets.midA (H := h1) (I := fun tm => tm.get 5 = some (.ptr (H.next + 2) 0) ∧ tm.get 6 = some (.int .i64 (i : Int)) ∧ tm.get 7 = some (.ptr h.next 0) ∧ tm.get 20 = some v ∧ tm.get 21 = some (.int .i64 (l.length : Int)) ∧ tm.get 22 = some (.int .i64 (i : Int)) ∧ tm.get 77 = some (.bool (isCall c e))) ?_ ?_
      · by_cases h1' : e.reply = true
        · try simp only [Decidable.not_not, Bool.not_eq_true] at h1'
          try simp only [h2] at h3
          refine Gets.last Tryz.tabOk (ov := ptO noOv 39 [.slice 9 0 5 false 5, .int .i64 e.cmd.kind] h1 [(.bool (callKindB e.cmd.kind), h1)]) (ptO_ok noOv_ok hk) 8 (s' := ?sn15) ?hn15 ?kn15; (case hn15 => (simp -implicitDefEqProofs (disch := first | (simp only [ne_eq, Nat.reduceEqDiff, not_false_eq_true, Nat.reduceLT]; done) | assumption | (simp only [s_push_next, s_put_next, Nat.beq_refl]; done) | ((try simp only [s_push_next, s_put_next]) <;> omega) | exact s_one_map _ | exact s_one_slice _ _ _ _ _ | (refine (id ?_ : plainDraw _ = true); kernel_rfl) | fail) only [sxL, s_castN, s_cells_one, noOv, callFn, kindOf, kindC, kindB, unA, boxA, loadPtr, nilCheckA, fst1, ofValue, ofScalar, len, intBin, ibin, boolO, guardA, cCond, condV, cRet, cExit, cSkip, resOut, resultA, extractA, tupleO, Nat.reduceEqDiff, Nat.reduceAdd, Nat.reduceSub, Nat.reduceLT, Nat.reduceBEq, reduceCtorEq, Nat.reduceMod, Nat.reduceLeDiff, Int.reduceLT, Int.reduceAdd, Int.reduceEq, Int.reduceToNat, s_draw, j5, j6, j7, fa51_0, fa51_1, fa51_2, fa51_3, fa44_0, fa44_1, fa80_1, s_varFalse ia4, s_varFalse ia3, s_varFalse ia27, s_varFalse ia78, s_varTrue ia49 sz49, e0, e1, e2k, e2c, e3, r1, g0, ag, len78 hR1.call, hwc, build49, eq49, eqBin, yesO, s_sbeq, h1'] <;> rfl)); (try (change Gets _ _ _ _ _ _; repeat refine Gets.seq ?_))
          refine ⟨rfl, _, rfl, ?_, ?_, ?_, ?_, ?_, ?_, ?_⟩
          · simp (disch := decide) only [sxL, j5]
          · simp (disch := decide) only [sxL, j6]
          · simp (disch := decide) only [sxL, j7]
          · simp (disch := decide) only [sxL, j20]
          · simp (disch := decide) only [sxL, j21]
          · simp (disch := decide) only [sxL, j22]
          · simp only [isCall, repZ, h1']
            simp (disch := decide) only [sxL, h1']
        · by_cases h2 : ¬ e.call = (c.length : Int) + 1
          · try simp only [Decidable.not_not, Bool.not_eq_true] at h1' h2
            try simp only [h2] at h3
            refine Gets.last Tryz.tabOk (ov := ptO noOv 39 [.slice 9 0 5 false 5, .int .i64 e.cmd.kind] h1 [(.bool (callKindB e.cmd.kind), h1)]) (ptO_ok noOv_ok hk) 8 (s' := ?sn16) ?hn16 ?kn16; (case hn16 => (simp -implicitDefEqProofs (disch := first | (simp only [ne_eq, Nat.reduceEqDiff, not_false_eq_true, Nat.reduceLT]; done) | assumption | (simp only [s_push_next, s_put_next, Nat.beq_refl]; done) | ((try simp only [s_push_next, s_put_next]) <;> omega) | exact s_one_map _ | exact s_one_slice _ _ _ _ _ | (refine (id ?_ : plainDraw _ = true); kernel_rfl) | fail) only [sxL, s_castN, s_cells_one, noOv, callFn, kindOf, kindC, kindB, unA, boxA, loadPtr, nilCheckA, fst1, ofValue, ofScalar, len, intBin, ibin, boolO, guardA, cCond, condV, cRet, cExit, cSkip, resOut, resultA, extractA, tupleO, Nat.reduceEqDiff, Nat.reduceAdd, Nat.reduceSub, Nat.reduceLT, Nat.reduceBEq, reduceCtorEq, Nat.reduceMod, Nat.reduceLeDiff, Int.reduceLT, Int.reduceAdd, Int.reduceEq, Int.reduceToNat, s_draw, j5, j6, j7, fa51_0, fa51_1, fa51_2, fa51_3, fa44_0, fa44_1, fa80_1, s_varFalse ia4, s_varFalse ia3, s_varFalse ia27, s_varFalse ia78, s_varTrue ia49 sz49, e0, e1, e2k, e2c, e3, r1, g0, ag, len78 hR1.call, hwc, build49, eq49, eqBin, yesO, s_sbeq, h1', h2] <;> rfl)); (try (change Gets _ _ _ _ _ _; repeat refine Gets.seq ?_))
            refine ⟨rfl, _, rfl, ?_, ?_, ?_, ?_, ?_, ?_, ?_⟩
            · simp (disch := decide) only [sxL, j5]
            · simp (disch := decide) only [sxL, j6]
            · simp (disch := decide) only [sxL, j7]
            · simp (disch := decide) only [sxL, j20]
            · simp (disch := decide) only [sxL, j21]
            · simp (disch := decide) only [sxL, j22]
            · simp only [isCall, repZ, h1', h2]
              simp (disch := decide) only [sxL, h1', h2]
          · by_cases h3 : ¬ e.cmd.call = e.call
            · try simp only [Decidable.not_not, Bool.not_eq_true] at h1' h2 h3
              try simp only [h2] at h3
              refine Gets.last Tryz.tabOk (ov := ptO noOv 39 [.slice 9 0 5 false 5, .int .i64 e.cmd.kind] h1 [(.bool (callKindB e.cmd.kind), h1)]) (ptO_ok noOv_ok hk) 8 (s' := ?sn17) ?hn17 ?kn17; (case hn17 => (simp -implicitDefEqProofs (disch := first | (simp only [ne_eq, Nat.reduceEqDiff, not_false_eq_true, Nat.reduceLT]; done) | assumption | (simp only [s_push_next, s_put_next, Nat.beq_refl]; done) | ((try simp only [s_push_next, s_put_next]) <;> omega) | exact s_one_map _ | exact s_one_slice _ _ _ _ _ | (refine (id ?_ : plainDraw _ = true); kernel_rfl) | fail) only [sxL, s_castN, s_cells_one, noOv, callFn, kindOf, kindC, kindB, unA, boxA, loadPtr, nilCheckA, fst1, ofValue, ofScalar, len, intBin, ibin, boolO, guardA, cCond, condV, cRet, cExit, cSkip, resOut, resultA, extractA, tupleO, Nat.reduceEqDiff, Nat.reduceAdd, Nat.reduceSub, Nat.reduceLT, Nat.reduceBEq, reduceCtorEq, Nat.reduceMod, Nat.reduceLeDiff, Int.reduceLT, Int.reduceAdd, Int.reduceEq, Int.reduceToNat, s_draw, j5, j6, j7, fa51_0, fa51_1, fa51_2, fa51_3, fa44_0, fa44_1, fa80_1, s_varFalse ia4, s_varFalse ia3, s_varFalse ia27, s_varFalse ia78, s_varTrue ia49 sz49, e0, e1, e2k, e2c, e3, r1, g0, ag, len78 hR1.call, hwc, build49, eq49, eqBin, yesO, s_sbeq, h1', h2, h3] <;> rfl)); (try (change Gets _ _ _ _ _ _; repeat refine Gets.seq ?_))
              refine ⟨rfl, _, rfl, ?_, ?_, ?_, ?_, ?_, ?_, ?_⟩
              · simp (disch := decide) only [sxL, j5]
              · simp (disch := decide) only [sxL, j6]
              · simp (disch := decide) only [sxL, j7]
              · simp (disch := decide) only [sxL, j20]
              · simp (disch := decide) only [sxL, j21]
              · simp (disch := decide) only [sxL, j22]
              · simp only [isCall, repZ, h1', h2, h3]
                simp (disch := decide) only [sxL, h1', h2, h3]
            · by_cases h4 : ¬ callKindB e.cmd.kind = true
              · try simp only [Decidable.not_not, Bool.not_eq_true] at h1' h2 h3 h4
                try simp only [h2] at h3
                refine Gets.last Tryz.tabOk (ov := ptO noOv 39 [.slice 9 0 5 false 5, .int .i64 e.cmd.kind] h1 [(.bool (callKindB e.cmd.kind), h1)]) (ptO_ok noOv_ok hk) 8 (s' := ?sn18) ?hn18 ?kn18; (case hn18 => (simp -implicitDefEqProofs (disch := first | (simp only [ne_eq, Nat.reduceEqDiff, not_false_eq_true, Nat.reduceLT]; done) | assumption | (simp only [s_push_next, s_put_next, Nat.beq_refl]; done) | ((try simp only [s_push_next, s_put_next]) <;> omega) | exact s_one_map _ | exact s_one_slice _ _ _ _ _ | (refine (id ?_ : plainDraw _ = true); kernel_rfl) | fail) only [sxL, s_castN, s_cells_one, noOv, callFn, kindOf, kindC, kindB, unA, boxA, loadPtr, nilCheckA, fst1, ofValue, ofScalar, len, intBin, ibin, boolO, guardA, cCond, condV, cRet, cExit, cSkip, resOut, resultA, extractA, tupleO, Nat.reduceEqDiff, Nat.reduceAdd, Nat.reduceSub, Nat.reduceLT, Nat.reduceBEq, reduceCtorEq, Nat.reduceMod, Nat.reduceLeDiff, Int.reduceLT, Int.reduceAdd, Int.reduceEq, Int.reduceToNat, s_draw, j5, j6, j7, fa51_0, fa51_1, fa51_2, fa51_3, fa44_0, fa44_1, fa80_1, s_varFalse ia4, s_varFalse ia3, s_varFalse ia27, s_varFalse ia78, s_varTrue ia49 sz49, e0, e1, e2k, e2c, e3, r1, g0, ag, len78 hR1.call, hwc, build49, eq49, eqBin, yesO, s_sbeq, h1', h2, h3, h4] <;> rfl)); (try (change Gets _ _ _ _ _ _; repeat refine Gets.seq ?_))
                refine ⟨rfl, _, rfl, ?_, ?_, ?_, ?_, ?_, ?_, ?_⟩
                · simp (disch := decide) only [sxL, j5]
                · simp (disch := decide) only [sxL, j6]
                · simp (disch := decide) only [sxL, j7]
                · simp (disch := decide) only [sxL, j20]
                · simp (disch := decide) only [sxL, j21]
                · simp (disch := decide) only [sxL, j22]
                · simp only [isCall, repZ, h1', h2, h3, h4]
                  simp (disch := decide) only [sxL, h1', h2, h3, h4]
              · try simp only [Decidable.not_not, Bool.not_eq_true] at h1' h2 h3 h4
                try simp only [h2] at h3
                refine Gets.last Tryz.tabOk (ov := ptO noOv 39 [.slice 9 0 5 false 5, .int .i64 e.cmd.kind] h1 [(.bool (callKindB e.cmd.kind), h1)]) (ptO_ok noOv_ok hk) 8 (s' := ?sn19) ?hn19 ?kn19; (case hn19 => (simp -implicitDefEqProofs (disch := first | (simp only [ne_eq, Nat.reduceEqDiff, not_false_eq_true, Nat.reduceLT]; done) | assumption | (simp only [s_push_next, s_put_next, Nat.beq_refl]; done) | ((try simp only [s_push_next, s_put_next]) <;> omega) | exact s_one_map _ | exact s_one_slice _ _ _ _ _ | (refine (id ?_ : plainDraw _ = true); kernel_rfl) | fail) only [sxL, s_castN, s_cells_one, noOv, callFn, kindOf, kindC, kindB, unA, boxA, loadPtr, nilCheckA, fst1, ofValue, ofScalar, len, intBin, ibin, boolO, guardA, cCond, condV, cRet, cExit, cSkip, resOut, resultA, extractA, tupleO, Nat.reduceEqDiff, Nat.reduceAdd, Nat.reduceSub, Nat.reduceLT, Nat.reduceBEq, reduceCtorEq, Nat.reduceMod, Nat.reduceLeDiff, Int.reduceLT, Int.reduceAdd, Int.reduceEq, Int.reduceToNat, s_draw, j5, j6, j7, fa51_0, fa51_1, fa51_2, fa51_3, fa44_0, fa44_1, fa80_1, s_varFalse ia4, s_varFalse ia3, s_varFalse ia27, s_varFalse ia78, s_varTrue ia49 sz49, e0, e1, e2k, e2c, e3, r1, g0, ag, len78 hR1.call, hwc, build49, eq49, eqBin, yesO, s_sbeq, h1', h2, h3, h4] <;> rfl)); (try (change Gets _ _ _ _ _ _; repeat refine Gets.seq ?_))
                refine ⟨rfl, _, rfl, ?_, ?_, ?_, ?_, ?_, ?_, ?_⟩
                · simp (disch := decide) only [sxL, j5]
                · simp (disch := decide) only [sxL, j6]
                · simp (disch := decide) only [sxL, j7]
                · simp (disch := decide) only [sxL, j20]
                · simp (disch := decide) only [sxL, j21]
                · simp (disch := decide) only [sxL, j22]
                · simp only [isCall, repZ, h1', h2, h3, h4]
                  simp (disch := decide) only [sxL, h1', h2, h3, h4]
      rintro tm'' ⟨k5, k6, k7, k20, k21, k22, k77⟩
      change Gets _ _ _ _ _ _
      cases hC : isCall c e
      · have hres : readGo l 0 [] [] = .inr i := by rw [← hgo]; simp [readGo, hB, hC]
        rw [hres]
        refine Gets.condF (by simp (disch := decide) only [sxL, k77, hC]) (Gets.seq ?_)
        refine Gets.last Tryz.tabOk (ov := noOv) (noOv_ok) 8 (s' := ?sn20) ?hn20 ?kn20; (case hn20 => (simp -implicitDefEqProofs (disch := first | (simp only [ne_eq, Nat.reduceEqDiff, not_false_eq_true, Nat.reduceLT]; done) | assumption | (simp only [s_push_next, s_put_next, Nat.beq_refl]; done) | ((try simp only [s_push_next, s_put_next]) <;> omega) | exact s_one_map _ | exact s_one_slice _ _ _ _ _ | (refine (id ?_ : plainDraw _ = true); kernel_rfl) | fail) only [sxL, s_castN, s_cells_one, noOv, callFn, kindOf, kindC, kindB, unA, boxA, loadPtr, nilCheckA, fst1, ofValue, ofScalar, len, intBin, ibin, boolO, guardA, cCond, condV, cRet, cExit, cSkip, resOut, resultA, extractA, tupleO, Nat.reduceEqDiff, Nat.reduceAdd, Nat.reduceSub, Nat.reduceLT, Nat.reduceBEq, reduceCtorEq, Nat.reduceMod, Nat.reduceLeDiff, Int.reduceLT, Int.reduceAdd, Int.reduceEq, Int.reduceToNat, s_draw, k6] <;> rfl)); (try (change Gets _ _ _ _ _ _; repeat refine Gets.seq ?_))
        refine Gets.ret Tryz.tabOk ?_
        exact ⟨rfl, rfl, [.nilptr, .int .i64 (i : Int), .int .i64 10], by simp (disch := decide) only [sxL, Tryz.f23, resultA], _, List.mem_singleton.2 rfl, .pure hR1.grows.next hR1.grows.get hN ⟨trivial, trivial, trivial, trivial⟩⟩
      · refine Gets.condT (by simp (disch := decide) only [sxL, k77, hC]) ?_
        have hgo' : readGo (l.drop (i + 1)) (i + 1) (mUpd c e.call i) r = readGo l 0 [] [] := by
          rw [← hgo]; simp [readGo, hB, hC]
        refine Gets.last Tryz.tabOk (ov := noOv) (noOv_ok) 8 (s' := ?sn21) ?hn21 ?kn21; (case hn21 => (simp -implicitDefEqProofs (disch := first | (simp only [ne_eq, Nat.reduceEqDiff, not_false_eq_true, Nat.reduceLT]; done) | assumption | (simp only [s_push_next, s_put_next, Nat.beq_refl]; done) | ((try simp only [s_push_next, s_put_next]) <;> omega) | exact s_one_map _ | exact s_one_slice _ _ _ _ _ | (refine (id ?_ : plainDraw _ = true); kernel_rfl) | fail) only [sxL, s_castN, s_cells_one, noOv, callFn, kindOf, kindC, kindB, unA, boxA, loadPtr, nilCheckA, fst1, ofValue, ofScalar, len, intBin, ibin, boolO, guardA, cCond, condV, cRet, cExit, cSkip, resOut, resultA, extractA, tupleO, Nat.reduceEqDiff, Nat.reduceAdd, Nat.reduceSub, Nat.reduceLT, Nat.reduceBEq, reduceCtorEq, Nat.reduceMod, Nat.reduceLeDiff, Int.reduceLT, Int.reduceAdd, Int.reduceEq, Int.reduceToNat, s_draw, k5, k6, k7, fa80_1, s_varFalse ia78, r1, fa51_0, s_varFalse ia3, e0, upd78 hR1.call] <;> rfl)); (try (change Gets _ _ _ _ _ _; repeat refine Gets.seq ?_))
        refine Gets.last Tryz.tabOk (ov := noOv) (noOv_ok) 8 (s' := ?sn22) ?hn22 ?kn22; (case hn22 => (simp -implicitDefEqProofs (disch := first | (simp only [ne_eq, Nat.reduceEqDiff, not_false_eq_true, Nat.reduceLT]; done) | assumption | (simp only [s_push_next, s_put_next, Nat.beq_refl]; done) | ((try simp only [s_push_next, s_put_next]) <;> omega) | exact s_one_map _ | exact s_one_slice _ _ _ _ _ | (refine (id ?_ : plainDraw _ = true); kernel_rfl) | fail) only [sxL, s_castN, s_cells_one, noOv, callFn, kindOf, kindC, kindB, unA, boxA, loadPtr, nilCheckA, fst1, ofValue, ofScalar, len, intBin, ibin, boolO, guardA, cCond, condV, cRet, cExit, cSkip, resOut, resultA, extractA, tupleO, Nat.reduceEqDiff, Nat.reduceAdd, Nat.reduceSub, Nat.reduceLT, Nat.reduceBEq, reduceCtorEq, Nat.reduceMod, Nat.reduceLeDiff, Int.reduceLT, Int.reduceAdd, Int.reduceEq, Int.reduceToNat, s_draw, k22, hw] <;> rfl)); (try (change Gets _ _ _ _ _ _; repeat refine Gets.seq ?_))
        refine ⟨_, _, rfl, by omega, mUpd c e.call i, r, hgo', ?_, hR1.putCall _, ?_, ?_, ?_, ?_⟩
        · have := mUpd_len c e.call i; omega
        · simp (disch := decide) only [sxL, k5]
        · simp (disch := decide) only [sxL, k20]
        · simp (disch := decide) only [sxL, k21]
        · simp (disch := decide) only [sxL, s_castS]
    · refine Gets.condT (by simp (disch := decide) only [sxL, j48, hB]) ?_
      have hgo' : readGo (l.drop (i + 1)) (i + 1) c (mUpd r e.call i) = readGo l 0 [] [] := by
        rw [← hgo]; simp [readGo, hB]
      refine Gets.last Tryz.tabOk (ov := noOv) (noOv_ok) 8 (s' := ?sn23) ?hn23 ?kn23; (case hn23 => (simp -implicitDefEqProofs (disch := first | (simp only [ne_eq, Nat.reduceEqDiff, not_false_eq_true, Nat.reduceLT]; done) | assumption | (simp only [s_push_next, s_put_next, Nat.beq_refl]; done) | ((try simp only [s_push_next, s_put_next]) <;> omega) | exact s_one_map _ | exact s_one_slice _ _ _ _ _ | (refine (id ?_ : plainDraw _ = true); kernel_rfl) | fail) only [sxL, s_castN, s_cells_one, noOv, callFn, kindOf, kindC, kindB, unA, boxA, loadPtr, nilCheckA, fst1, ofValue, ofScalar, len, intBin, ibin, boolO, guardA, cCond, condV, cRet, cExit, cSkip, resOut, resultA, extractA, tupleO, Nat.reduceEqDiff, Nat.reduceAdd, Nat.reduceSub, Nat.reduceLT, Nat.reduceBEq, reduceCtorEq, Nat.reduceMod, Nat.reduceLeDiff, Int.reduceLT, Int.reduceAdd, Int.reduceEq, Int.reduceToNat, s_draw, j5, j6, j7, fa80_2, s_varFalse ia78, r2, fa51_0, s_varFalse ia3, e0, upd78 hR1.reply] <;> rfl)); (try (change Gets _ _ _ _ _ _; repeat refine Gets.seq ?_))
      refine Gets.last Tryz.tabOk (ov := noOv) (noOv_ok) 8 (s' := ?sn24) ?hn24 ?kn24; (case hn24 => (simp -implicitDefEqProofs (disch := first | (simp only [ne_eq, Nat.reduceEqDiff, not_false_eq_true, Nat.reduceLT]; done) | assumption | (simp only [s_push_next, s_put_next, Nat.beq_refl]; done) | ((try simp only [s_push_next, s_put_next]) <;> omega) | exact s_one_map _ | exact s_one_slice _ _ _ _ _ | (refine (id ?_ : plainDraw _ = true); kernel_rfl) | fail) only [sxL, s_castN, s_cells_one, noOv, callFn, kindOf, kindC, kindB, unA, boxA, loadPtr, nilCheckA, fst1, ofValue, ofScalar, len, intBin, ibin, boolO, guardA, cCond, condV, cRet, cExit, cSkip, resOut, resultA, extractA, tupleO, Nat.reduceEqDiff, Nat.reduceAdd, Nat.reduceSub, Nat.reduceLT, Nat.reduceBEq, reduceCtorEq, Nat.reduceMod, Nat.reduceLeDiff, Int.reduceLT, Int.reduceAdd, Int.reduceEq, Int.reduceToNat, s_draw, j22, hw] <;> rfl)); (try (change Gets _ _ _ _ _ _; repeat refine Gets.seq ?_))
      refine ⟨_, _, rfl, by omega, c, mUpd r e.call i, hgo', by omega, hR1.putReply _, ?_, ?_, ?_, ?_⟩
      · simp (disch := decide) only [sxL, j5]
      · simp (disch := decide) only [sxL, j20]
      · simp (disch := decide) only [sxL, j21]
      · simp (disch := decide) only [sxL, s_castS]
  · have hil : i = l.length := by omega
    have hres : readGo l 0 [] [] = .inl (c, r) := by
      rw [← I.go, hil, List.drop_length]; rfl
    rw [hres]
    refine Gets.last Tryz.tabOk (ov := noOv) (noOv_ok) 8 (s' := ?sn25) ?hn25 ?kn25; (case hn25 => (simp -implicitDefEqProofs (disch := first | (simp only [ne_eq, Nat.reduceEqDiff, not_false_eq_true, Nat.reduceLT]; done) | assumption | (simp only [s_push_next, s_put_next, Nat.beq_refl]; done) | ((try simp only [s_push_next, s_put_next]) <;> omega) | exact s_one_map _ | exact s_one_slice _ _ _ _ _ | (refine (id ?_ : plainDraw _ = true); kernel_rfl) | fail) only [sxL, s_castN, s_cells_one, noOv, callFn, kindOf, kindC, kindB, unA, boxA, loadPtr, nilCheckA, fst1, ofValue, ofScalar, len, intBin, ibin, boolO, guardA, cCond, condV, cRet, cExit, cSkip, resOut, resultA, extractA, tupleO, Nat.reduceEqDiff, Nat.reduceAdd, Nat.reduceSub, Nat.reduceLT, Nat.reduceBEq, reduceCtorEq, Nat.reduceMod, Nat.reduceLeDiff, Int.reduceLT, Int.reduceAdd, Int.reduceEq, Int.reduceToNat, s_draw, i21, i22, hlt] <;> rfl)); (try (change Gets _ _ _ _ _ _; repeat refine Gets.seq ?_))
    refine Gets.condF (by simp (disch := decide) only [sxL]) (Gets.exit Tryz.tabOk ?_)
    refine inBlk_exit ?_
    change Gets _ _ _ _ _ _
    repeat refine Gets.seq ?_
    refine Gets.last Tryz.tabOk (ov := noOv) (noOv_ok) 8 (s' := ?sn26) ?hn26 ?kn26; (case hn26 => (simp -implicitDefEqProofs (disch := first | (simp only [ne_eq, Nat.reduceEqDiff, not_false_eq_true, Nat.reduceLT]; done) | assumption | (simp only [s_push_next, s_put_next, Nat.beq_refl]; done) | ((try simp only [s_push_next, s_put_next]) <;> omega) | exact s_one_map _ | exact s_one_slice _ _ _ _ _ | (refine (id ?_ : plainDraw _ = true); kernel_rfl) | fail) only [sxL, s_castN, s_cells_one, noOv, callFn, kindOf, kindC, kindB, unA, boxA, loadPtr, nilCheckA, fst1, ofValue, ofScalar, len, intBin, ibin, boolO, guardA, cCond, condV, cRet, cExit, cSkip, resOut, resultA, extractA, tupleO, Nat.reduceEqDiff, Nat.reduceAdd, Nat.reduceSub, Nat.reduceLT, Nat.reduceBEq, reduceCtorEq, Nat.reduceMod, Nat.reduceLeDiff, Int.reduceLT, Int.reduceAdd, Int.reduceEq, Int.reduceToNat, s_draw, i5] <;> rfl)); (try (change Gets _ _ _ _ _ _; repeat refine Gets.seq ?_))
    refine Gets.ret Tryz.tabOk ?_
    exact ⟨rfl, rfl, [.ptr (H.next + 2) 0, .int .i64 0, .int .i64 0], by simp (disch := decide) only [sxL, Tryz.f23, resultA], _, List.mem_singleton.2 rfl, I.rec_.cut hN (rowsAt_lt hv.1 hN 3)⟩
end Go.Proofs
