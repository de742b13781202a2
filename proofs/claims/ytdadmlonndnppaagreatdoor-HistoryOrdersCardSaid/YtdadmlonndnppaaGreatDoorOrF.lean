/-
  Merge, Order and the law's own code, walked: it comes to true for all logs and events.
-/
import Derived.Test.YtdadmlonndnppaaGreatDoorOrE
set_option linter.unusedSimpArgs false
set_option linter.unusedVariables false
namespace Go.Proofs
open Go.Sx
set_option maxRecDepth 100000
theorem recHeap_grows (H : Heap) (v : AV) (c r : List (Int × Int)) : Grows H (recHeap H v c r) := (Grows.push _ _).trans ((Grows.push _ _).trans (.push _ _))
theorem recHeap_neat {H : Heap} (hN : Neat H) (v : AV) (c r : List (Int × Int)) : Neat (recHeap H v c r) := ((hN.push _).push _).push _
theorem recHeap_rec (H : Heap) (v : AV) (c r : List (Int × Int)) : RecP (recHeap H v c r) (H.next + 2) c r := by
  refine ⟨v, H.next, H.next + 1, s_push_same ((H.push (mapB c)).push (mapB r)) _, ?_, ?_⟩
  · unfold recHeap
    rw [s_push_other _ _ (by simp only [s_push_next]; omega), s_push_other _ _ (by simp only [s_push_next]; omega), s_push_same]
  · unfold recHeap
    rw [s_push_other _ _ (by simp only [s_push_next]; omega)]; exact s_push_same (H.push (mapB c)) _
theorem outH_grows {H : Heap} {d : Nat} (hd : H.next ≤ d) (l : List AV) : Grows H (outH H d l) := by
  cases l with
  | nil => exact .refl H
  | cons a l => exact oneMore_grows hd _
theorem outH_neat {H : Heap} (hN : Neat H) {d : Nat} (hd : H.next ≤ d) (l : List AV) : Neat (outH H d l) := by
  cases l with
  | nil => exact hN
  | cons a l => exact oneMore_neat hN hd _
theorem outH_get (H : Heap) (d : Nat) {l : List AV} (h : l ≠ []) : (outH H d l).blks.get d = some (.cells 3 false l) ∧ d < (outH H d l).next := by
  cases l with
  | nil => exact absurd rfl h
  | cons a l => exact ⟨by show (oneMore H d (a :: l)).blks.get d = _; rw [oneMore_get, if_pos rfl], Nat.lt_succ_self d⟩
noncomputable def MergeQ (H : Heap) (d : Nat) (l : List LogV) (evs : List EvV) : VH :=
  match readGo evs 0 [] [] with
  | .inr _ => (.tuple [.nilslice, .bool false, .int .i64 10], H)
  | .inl (c, r) => if 8 < (l.length : Int) then (.tuple [.nilslice, .bool false, .int .i64 12], H) else
    match mergeR c r (callsL l) with
    | none => (.tuple [.nilslice, .bool false, .int .i64 0], H)
    | some o => (.tuple [outV d (natL o), .bool true, .int .i64 0], outH H d (natL o))
theorem Merge_run (H : Heap) (v w : AV) (l : List LogV) (evs : List EvV) (hv : LogsAt H v l) (hw : EvsAt H w evs) (hG : GlobAt H) (hN : Neat H) (hm : evs.length ≤ 1000) (h8 : l.length ≤ 10) (h40 : ∀ x ∈ l, x.l.length ≤ 40) :
    ∃ d, H.next ≤ d ∧ CallTo Tryz.prog Tryz.tab 9 [v, w] H [MergeQ H d l evs] := by
  have hread := read_run evs hm w H hw hG hN
  cases hR : readGo evs 0 [] [] with
  | inr i =>
    rw [hR] at hread
    refine ⟨H.next, Nat.le_refl _, ?_⟩
    have e : MergeQ H H.next l evs = (.tuple [.nilslice, .bool false, .int .i64 10], H) := by simp [MergeQ, hR]
    rw [e]
    have hread : CallTo Tryz.prog Tryz.tab 23 [w] H [(.tuple [.nilptr, .int .i64 (i : Int), .int .i64 10], H)] := hread
    refine callTo_pure (n := 20) Tryz.tabOk (ptO_ok noOv_ok hread) (H' := H) ?_ (.refl _) hN ⟨trivial, trivial, trivial, trivial⟩
    rw [s_callO, s_ptNe _ (by decide), s_callB, get9]
    simp -implicitDefEqProofs (disch := first | (simp only [ne_eq, Nat.reduceEqDiff, not_false_eq_true, Nat.reduceLT]; done) | assumption | (simp only [s_push_next, s_put_next, Nat.beq_refl]; done) | ((try simp only [s_push_next, s_put_next]) <;> omega) | exact s_one_map _ | exact s_one_slice _ _ _ _ _ | (refine (id ?_ : plainDraw _ = true); kernel_rfl) | fail) only [sxL, s_castN, s_cells_one, noOv, callFn, kindOf, kindC, kindB, unA, boxA, loadPtr, nilCheckA, fst1, ofValue, ofScalar, len, intBin, ibin, boolO, guardA, cCond, condV, cRet, cExit, cSkip, resOut, resultA, extractA, tupleO, Nat.reduceEqDiff, Nat.reduceAdd, Nat.reduceSub, Nat.reduceLT, Nat.reduceBEq, reduceCtorEq, Nat.reduceMod, Nat.reduceLeDiff, Int.reduceLT, Int.reduceAdd, Int.reduceEq, Int.reduceToNat, Tryz.f9, noOv]
  | inl p =>
    obtain ⟨c, r⟩ := p
    rw [hR] at hread
    have hread : CallTo Tryz.prog Tryz.tab 23 [w] H [(.tuple [.ptr (H.next + 2) 0, .int .i64 0, .int .i64 0], recHeap H w c r)] := hread
    have hg1 := recHeap_grows H w c r
    have hN1 := recHeap_neat hN w c r
    have hr1 := recHeap_rec H w c r
    have hv1 := hv.grow hN hg1
    have hmany := many_run l v (recHeap H w c r) hv1 hN1 (by omega) h40
    by_cases h8' : 8 < (l.length : Int)
    · refine ⟨H.next, Nat.le_refl _, ?_⟩
      have e : MergeQ H H.next l evs = (.tuple [.nilslice, .bool false, .int .i64 12], H) := by simp only [MergeQ, hR, h8', if_true]
      rw [e]
      rw [if_pos h8'] at hmany
      refine callTo_pure (n := 20) Tryz.tabOk (ptO_ok (ptO_ok noOv_ok hread) hmany) (H' := recHeap H w c r) ?_ hg1 hN ⟨trivial, trivial, trivial, trivial⟩
      rw [s_callO, s_ptNe _ (by decide), s_ptNe _ (by decide), s_callB, get9]
      simp -implicitDefEqProofs (disch := first | (simp only [ne_eq, Nat.reduceEqDiff, not_false_eq_true, Nat.reduceLT]; done) | assumption | (simp only [s_push_next, s_put_next, Nat.beq_refl]; done) | ((try simp only [s_push_next, s_put_next]) <;> omega) | exact s_one_map _ | exact s_one_slice _ _ _ _ _ | (refine (id ?_ : plainDraw _ = true); kernel_rfl) | fail) only [sxL, s_castN, s_cells_one, noOv, callFn, kindOf, kindC, kindB, unA, boxA, loadPtr, nilCheckA, fst1, ofValue, ofScalar, len, intBin, ibin, boolO, guardA, cCond, condV, cRet, cExit, cSkip, resOut, resultA, extractA, tupleO, Nat.reduceEqDiff, Nat.reduceAdd, Nat.reduceSub, Nat.reduceLT, Nat.reduceBEq, reduceCtorEq, Nat.reduceMod, Nat.reduceLeDiff, Int.reduceLT, Int.reduceAdd, Int.reduceEq, Int.reduceToNat, Tryz.f9, noOv]
    · rw [if_neg h8'] at hmany
      obtain ⟨d, hd, hmerge⟩ := merge_run (recHeap H w c r) (H.next + 2) v l c r hr1 hv1 hN1 h8 h40
      have hd' : H.next ≤ d := Nat.le_trans hg1.next hd
      refine ⟨d, hd', ?_⟩
      cases hM : mergeR c r (callsL l) with
      | none =>
        have e : MergeQ H d l evs = (.tuple [.nilslice, .bool false, .int .i64 0], H) := by simp only [MergeQ, hR, h8', if_false, hM]
        rw [e]
        rw [hM] at hmerge
        have hmerge : CallTo Tryz.prog Tryz.tab 25 [.ptr (H.next + 2) 0, v] (recHeap H w c r) [(.tuple [.nilslice, .bool false], recHeap H w c r)] := hmerge
        refine callTo_pure (n := 20) Tryz.tabOk (ptO_ok (ptO_ok (ptO_ok noOv_ok hread) hmany) hmerge) (H' := recHeap H w c r) ?_ hg1 hN ⟨trivial, trivial, trivial, trivial⟩
        rw [s_callO, s_ptNe _ (by decide), s_ptNe _ (by decide), s_ptNe _ (by decide), s_callB, get9]
        simp -implicitDefEqProofs (disch := first | (simp only [ne_eq, Nat.reduceEqDiff, not_false_eq_true, Nat.reduceLT]; done) | assumption | (simp only [s_push_next, s_put_next, Nat.beq_refl]; done) | ((try simp only [s_push_next, s_put_next]) <;> omega) | exact s_one_map _ | exact s_one_slice _ _ _ _ _ | (refine (id ?_ : plainDraw _ = true); kernel_rfl) | fail) only [sxL, s_castN, s_cells_one, noOv, callFn, kindOf, kindC, kindB, unA, boxA, loadPtr, nilCheckA, fst1, ofValue, ofScalar, len, intBin, ibin, boolO, guardA, cCond, condV, cRet, cExit, cSkip, resOut, resultA, extractA, tupleO, Nat.reduceEqDiff, Nat.reduceAdd, Nat.reduceSub, Nat.reduceLT, Nat.reduceBEq, reduceCtorEq, Nat.reduceMod, Nat.reduceLeDiff, Int.reduceLT, Int.reduceAdd, Int.reduceEq, Int.reduceToNat, Tryz.f9, noOv]
      | some o =>
        have e : MergeQ H d l evs = (.tuple [outV d (natL o), .bool true, .int .i64 0], outH H d (natL o)) := by simp only [MergeQ, hR, h8', if_false, hM]
        rw [e]
        rw [hM] at hmerge
        have hmerge : CallTo Tryz.prog Tryz.tab 25 [.ptr (H.next + 2) 0, v] (recHeap H w c r) [(.tuple [outV d (natL o), .bool true], outH (recHeap H w c r) d (natL o))] := hmerge
        have hrun : (fnsO Tryz.tab (ptO (ptO (ptO noOv 23 [w] H [(.tuple [.ptr (H.next + 2) 0, .int .i64 0, .int .i64 0], recHeap H w c r)]) 24 [v] (recHeap H w c r) [(.int .i64 0, recHeap H w c r)]) 25 [.ptr (H.next + 2) 0, v] (recHeap H w c r) [(.tuple [outV d (natL o), .bool true], outH (recHeap H w c r) d (natL o))]) 20).call 9 [v, w] H =
            some [(.tuple [outV d (natL o), .bool true, .int .i64 0], outH (recHeap H w c r) d (natL o))] := by
          rw [s_callO, s_ptNe _ (by decide), s_ptNe _ (by decide), s_ptNe _ (by decide), s_callB, get9]
          simp -implicitDefEqProofs (disch := first | (simp only [ne_eq, Nat.reduceEqDiff, not_false_eq_true, Nat.reduceLT]; done) | assumption | (simp only [s_push_next, s_put_next, Nat.beq_refl]; done) | ((try simp only [s_push_next, s_put_next]) <;> omega) | exact s_one_map _ | exact s_one_slice _ _ _ _ _ | (refine (id ?_ : plainDraw _ = true); kernel_rfl) | fail) only [sxL, s_castN, s_cells_one, noOv, callFn, kindOf, kindC, kindB, unA, boxA, loadPtr, nilCheckA, fst1, ofValue, ofScalar, len, intBin, ibin, boolO, guardA, cCond, condV, cRet, cExit, cSkip, resOut, resultA, extractA, tupleO, Nat.reduceEqDiff, Nat.reduceAdd, Nat.reduceSub, Nat.reduceLT, Nat.reduceBEq, reduceCtorEq, Nat.reduceMod, Nat.reduceLeDiff, Int.reduceLT, Int.reduceAdd, Int.reduceEq, Int.reduceToNat, Tryz.f9, noOv]
        refine (callTo_run Tryz.tabOk (ptO_ok (ptO_ok (ptO_ok noOv_ok hread) hmany) hmerge) hrun).cut fun p hp => ?_
        rw [List.mem_singleton.1 hp]
        refine ⟨_, List.mem_singleton.2 rfl, cut_out hN (hg1.trans (outH_grows hd _)) (fun ho => ?_) ⟨trivial, trivial, trivial⟩⟩
        have ho' : natL o ≠ [] := fun e => ho (by cases o with
          | nil => rfl
          | cons a o => simp [natL] at e)
        obtain ⟨q1, q2⟩ := outH_get (recHeap H w c r) d ho'
        exact ⟨hd', q2, q1⟩
/-! Was a call answered before another one was made? -/
theorem build76 (a b : Int) : buildA Tryz.tab 76 [(0, .int .i64 a), (1, .int .i64 b)] = some (.agg [.int .i64 a, .int .i64 b]) := by kernel_rfl
theorem idx76_0 (a b : Int) : indexA Tryz.tab 76 (.agg [.int .i64 a, .int .i64 b]) (.int .i64 0) = some (.int .i64 a) := by kernel_rfl
theorem idx76_1 (a b : Int) : indexA Tryz.tab 76 (.agg [.int .i64 a, .int .i64 b]) (.int .i64 1) = some (.int .i64 b) := by kernel_rfl
theorem z_opIndex {G : Tab} (t : TypeId) (x i : Operand) (tm : T AV) (H : Heap) : opN (.index t x i) G tm H = withH H (bindO (aev G tm x) fun v => bindO (aev G tm i) fun j => indexA G t v j) := rfl
noncomputable def orderV (evs : List EvV) (a b : Int) : AV :=
  match readGo evs 0 [] [] with
  | .inr _ => .tuple [.bool false, .int .i64 10]
  | .inl (c, r) => if ¬ (mGet c a).isSome = true then .tuple [.bool false, .int .i64 3] else if ¬ (mGet c b).isSome = true then .tuple [.bool false, .int .i64 3] else .tuple [.bool (bfB c r a b), .int .i64 0]
theorem order_run (H : Heap) (w : AV) (evs : List EvV) (a b : Int) (hw : EvsAt H w evs) (hG : GlobAt H) (hN : Neat H) (hm : evs.length ≤ 1000) : CallTo Tryz.prog Tryz.tab 12 [w, .int .i64 a, .int .i64 b] H [(orderV evs a b, H)] := by
  have hread := read_run evs hm w H hw hG hN
  have w1 : awrap .i64 1 = 1 := rfl
  have w2 : awrap .i64 2 = 2 := rfl
  cases hR : readGo evs 0 [] [] with
  | inr i =>
    rw [hR] at hread
    have e : orderV evs a b = .tuple [.bool false, .int .i64 10] := by simp [orderV, hR]
    rw [e]
    have hread : CallTo Tryz.prog Tryz.tab 23 [w] H [(.tuple [.nilptr, .int .i64 (i : Int), .int .i64 10], H)] := hread
    refine callTo_pure (n := 20) Tryz.tabOk (ptO_ok noOv_ok hread) (H' := H) ?_ (.refl _) hN ⟨trivial, trivial, trivial⟩
    rw [s_callO, s_ptNe _ (by decide), s_callB, get12]
    simp -implicitDefEqProofs (disch := first | (simp only [ne_eq, Nat.reduceEqDiff, not_false_eq_true, Nat.reduceLT]; done) | assumption | (simp only [s_push_next, s_put_next, Nat.beq_refl]; done) | ((try simp only [s_push_next, s_put_next]) <;> omega) | exact s_one_map _ | exact s_one_slice _ _ _ _ _ | (refine (id ?_ : plainDraw _ = true); kernel_rfl) | fail) only [sxL, s_castN, s_cells_one, noOv, callFn, kindOf, kindC, kindB, unA, boxA, loadPtr, nilCheckA, fst1, ofValue, ofScalar, len, intBin, ibin, boolO, guardA, cCond, condV, cRet, cExit, cSkip, resOut, resultA, extractA, tupleO, Nat.reduceEqDiff, Nat.reduceAdd, Nat.reduceSub, Nat.reduceLT, Nat.reduceBEq, reduceCtorEq, Nat.reduceMod, Nat.reduceLeDiff, Int.reduceLT, Int.reduceAdd, Int.reduceEq, Int.reduceToNat, Tryz.f12, noOv]
  | inl p =>
    obtain ⟨c, r⟩ := p
    rw [hR] at hread
    have hread : CallTo Tryz.prog Tryz.tab 23 [w] H [(.tuple [.ptr (H.next + 2) 0, .int .i64 0, .int .i64 0], recHeap H w c r)] := hread
    have hg1 := recHeap_grows H w c r
    have hN1 := recHeap_neat hN w c r
    have hr1 := recHeap_rec H w c r
    have hb := before_run c r (H.next + 2) a b (recHeap H w c r) hr1 hN1
    obtain ⟨u, x, y, q1, q2, q3⟩ := hr1
    have r1 : cellIn ((recHeap H w c r).blks.get (H.next + 2)) 1 = some (.map x) := by rw [q1]; rfl
    by_cases ha : (mGet c a).isSome = true
    · by_cases hbb : (mGet c b).isSome = true
      · have e : orderV evs a b = .tuple [.bool (bfB c r a b), .int .i64 0] := by simp only [orderV, hR, ha, hbb, not_true_eq_false, if_false]
        rw [e]
        refine callTo_pure (n := 20) Tryz.tabOk (ptO_ok (ptO_ok noOv_ok hread) hb) (H' := recHeap H w c r) ?_ hg1 hN ⟨trivial, trivial, trivial⟩
        rw [s_callO, s_ptNe _ (by decide), s_ptNe _ (by decide), s_callB, get12]
        simp -implicitDefEqProofs (disch := first | (simp only [ne_eq, Nat.reduceEqDiff, not_false_eq_true, Nat.reduceLT]; done) | assumption | (simp only [s_push_next, s_put_next, Nat.beq_refl]; done) | ((try simp only [s_push_next, s_put_next]) <;> omega) | exact s_one_map _ | exact s_one_slice _ _ _ _ _ | (refine (id ?_ : plainDraw _ = true); kernel_rfl) | fail) only [sxL, s_castN, s_cells_one, noOv, callFn, kindOf, kindC, kindB, unA, boxA, loadPtr, nilCheckA, fst1, ofValue, ofScalar, len, intBin, ibin, boolO, guardA, cCond, condV, cRet, cExit, cSkip, resOut, resultA, extractA, tupleO, Nat.reduceEqDiff, Nat.reduceAdd, Nat.reduceSub, Nat.reduceLT, Nat.reduceBEq, reduceCtorEq, Nat.reduceMod, Nat.reduceLeDiff, Int.reduceLT, Int.reduceAdd, Int.reduceEq, Int.reduceToNat, Tryz.f12, noOv, build76, z_opIndex, idx76_0, idx76_1, fa80_1, s_varFalse ia78, r1, look78 q2, ha, hbb, w1, w2]
      · have e : orderV evs a b = .tuple [.bool false, .int .i64 3] := by simp [orderV, hR, ha, hbb]
        rw [e]
        refine callTo_pure (n := 20) Tryz.tabOk (ptO_ok (ptO_ok noOv_ok hread) hb) (H' := recHeap H w c r) ?_ hg1 hN ⟨trivial, trivial, trivial⟩
        rw [s_callO, s_ptNe _ (by decide), s_ptNe _ (by decide), s_callB, get12]
        simp -implicitDefEqProofs (disch := first | (simp only [ne_eq, Nat.reduceEqDiff, not_false_eq_true, Nat.reduceLT]; done) | assumption | (simp only [s_push_next, s_put_next, Nat.beq_refl]; done) | ((try simp only [s_push_next, s_put_next]) <;> omega) | exact s_one_map _ | exact s_one_slice _ _ _ _ _ | (refine (id ?_ : plainDraw _ = true); kernel_rfl) | fail) only [sxL, s_castN, s_cells_one, noOv, callFn, kindOf, kindC, kindB, unA, boxA, loadPtr, nilCheckA, fst1, ofValue, ofScalar, len, intBin, ibin, boolO, guardA, cCond, condV, cRet, cExit, cSkip, resOut, resultA, extractA, tupleO, Nat.reduceEqDiff, Nat.reduceAdd, Nat.reduceSub, Nat.reduceLT, Nat.reduceBEq, reduceCtorEq, Nat.reduceMod, Nat.reduceLeDiff, Int.reduceLT, Int.reduceAdd, Int.reduceEq, Int.reduceToNat, Tryz.f12, noOv, build76, z_opIndex, idx76_0, idx76_1, fa80_1, s_varFalse ia78, r1, look78 q2, ha, hbb, w1, w2]
    · have e : orderV evs a b = .tuple [.bool false, .int .i64 3] := by simp [orderV, hR, ha]
      rw [e]
      refine callTo_pure (n := 20) Tryz.tabOk (ptO_ok (ptO_ok noOv_ok hread) hb) (H' := recHeap H w c r) ?_ hg1 hN ⟨trivial, trivial, trivial⟩
      rw [s_callO, s_ptNe _ (by decide), s_ptNe _ (by decide), s_callB, get12]
      simp -implicitDefEqProofs (disch := first | (simp only [ne_eq, Nat.reduceEqDiff, not_false_eq_true, Nat.reduceLT]; done) | assumption | (simp only [s_push_next, s_put_next, Nat.beq_refl]; done) | ((try simp only [s_push_next, s_put_next]) <;> omega) | exact s_one_map _ | exact s_one_slice _ _ _ _ _ | (refine (id ?_ : plainDraw _ = true); kernel_rfl) | fail) only [sxL, s_castN, s_cells_one, noOv, callFn, kindOf, kindC, kindB, unA, boxA, loadPtr, nilCheckA, fst1, ofValue, ofScalar, len, intBin, ibin, boolO, guardA, cCond, condV, cRet, cExit, cSkip, resOut, resultA, extractA, tupleO, Nat.reduceEqDiff, Nat.reduceAdd, Nat.reduceSub, Nat.reduceLT, Nat.reduceBEq, reduceCtorEq, Nat.reduceMod, Nat.reduceLeDiff, Int.reduceLT, Int.reduceAdd, Int.reduceEq, Int.reduceToNat, Tryz.f12, noOv, build76, z_opIndex, idx76_0, idx76_1, fa80_1, s_varFalse ia78, r1, look78 q2, ha, w1, w2]
end Go.Proofs

namespace Go.Proofs
open Go.Sx
set_option maxRecDepth 100000
theorem bs27' (H : Heap) (x : Int) : buildSliceA Tryz.tab H 27 1 [(0, .int .i64 x)] = some (.slice H.next 0 1 false 1, H.push (.cells 3 true [.int .i64 x])) := bs27 H x
theorem MergeQ_cases (H : Heap) (d : Nat) (l : List LogV) (evs : List EvV) : (∃ e, MergeQ H d l evs = (.tuple [.nilslice, .bool false, .int .i64 e], H)) ∨
    ∃ c r o, readGo evs 0 [] [] = .inl (c, r) ∧ mergeR c r (callsL l) = some o ∧ MergeQ H d l evs = (.tuple [outV d (natL o), .bool true, .int .i64 0], outH H d (natL o)) := by
  unfold MergeQ
  split
  · exact .inl ⟨_, rfl⟩
  · rename_i c r h
    by_cases h8 : 8 < (l.length : Int)
    · rw [if_pos h8]; exact .inl ⟨_, rfl⟩
    · rw [if_neg h8]
      split
      · exact .inl ⟨_, rfl⟩
      · rename_i o ho
        exact .inr ⟨c, r, o, h, ho, rfl⟩
theorem orderV_no {evs : List EvV} {c r : List (Int × Int)} (h : readGo evs 0 [] [] = .inl (c, r)) {a b : Int} (hb : bfB c r a b = false) : ∃ bk e, orderV evs a b = .tuple [.bool bk, .int .i64 e] ∧ (e = 0 → bk = false) := by
  unfold orderV
  rw [h]
  simp only
  split
  · exact ⟨_, _, rfl, fun h => by simp at h⟩
  · split
    · exact ⟨_, _, rfl, fun h => by simp at h⟩
    · exact ⟨_, _, rfl, fun _ => hb⟩
theorem fewB_ok {l : List LogV} (h : fewB l = true) : l.length ≤ 10 ∧ ∀ x ∈ l, x.l.length ≤ 40 := by
  simp only [fewB, Bool.and_eq_true, Bool.not_eq_true', decide_eq_false_iff_not, List.all_eq_true] at h
  exact ⟨by omega, fun x hx => by have := (h.2 x hx).1; omega⟩
theorem shortB_ok {l : List EvV} {most : Int} (h : shortB l most = true) : (l.length : Int) ≤ most := by
  simp only [shortB, Bool.and_eq_true, Bool.not_eq_true', decide_eq_false_iff_not] at h
  omega
theorem orders_run (hW : ∀ h, GlobAt h → CallTo Tryz.prog Tryz.tab 8 [] h [(.bool true, h)]) (H : Heap) (v w : AV) (l : List LogV) (evs : List EvV) (hv : LogsAt H v l) (hw : EvsAt H w evs) (hG : GlobAt H) (hN : Neat H) :
    CallTo Tryz.prog Tryz.tab 4 [v, w] H [(.bool true, H)] := by
  refine callTo_of Tryz.tabOk Tryz.func4 rfl rfl ?_
  show Gets Tryz.prog Tryz.tab ⟨none, 159⟩ _ _ _
  have hs := short_run evs 40 (by omega) w H hw hN
  have hf := few_run l v H hv hN
  have hW0 := hW H hG
  have hlen := hv.1.len ud22
  repeat refine Gets.seq ?_
  refine Gets.last Tryz.tabOk (ov := noOv) (noOv_ok) 8 (s' := ?sn2) ?hn2 ?kn2; (case hn2 => (simp -implicitDefEqProofs (disch := first | (simp only [ne_eq, Nat.reduceEqDiff, not_false_eq_true, Nat.reduceLT]; done) | assumption | (simp only [s_push_next, s_put_next, Nat.beq_refl]; done) | ((try simp only [s_push_next, s_put_next]) <;> omega) | exact s_one_map _ | exact s_one_slice _ _ _ _ _ | (refine (id ?_ : plainDraw _ = true); kernel_rfl) | fail) only [sxL, s_castN, s_cells_one, noOv, callFn, kindOf, kindC, kindB, unA, boxA, loadPtr, nilCheckA, fst1, ofValue, ofScalar, len, intBin, ibin, boolO, guardA, cCond, condV, cRet, cExit, cSkip, resOut, resultA, extractA, tupleO, Nat.reduceEqDiff, Nat.reduceAdd, Nat.reduceSub, Nat.reduceLT, Nat.reduceBEq, reduceCtorEq, Nat.reduceMod, Nat.reduceLeDiff, Int.reduceLT, Int.reduceAdd, Int.reduceEq, Int.reduceToNat, s_draw] <;> rfl)); (try (change Gets _ _ _ _ _ _; repeat refine Gets.seq ?_))
  by_cases hB : ¬ shortB evs 40 = true ∨ ¬ fewB l = true
  · refine Gets.midA (H := H) (I := fun tm => tm.get 24 = some (.bool true)) ?_ ?_
    · cases hsb : shortB evs 40
      · rw [hsb] at hs
        refine Gets.last Tryz.tabOk (ov := ptO (ptO noOv 6 [w, .int .i64 40] H [(.bool false, H)]) 7 [v] H [(.bool (fewB l), H)]) (ptO_ok (ptO_ok noOv_ok hs) hf) 8 (s' := ?sn3) ?hn3 ?kn3; (case hn3 => (simp -implicitDefEqProofs (disch := first | (simp only [ne_eq, Nat.reduceEqDiff, not_false_eq_true, Nat.reduceLT]; done) | assumption | (simp only [s_push_next, s_put_next, Nat.beq_refl]; done) | ((try simp only [s_push_next, s_put_next]) <;> omega) | exact s_one_map _ | exact s_one_slice _ _ _ _ _ | (refine (id ?_ : plainDraw _ = true); kernel_rfl) | fail) only [sxL, s_castN, s_cells_one, noOv, callFn, kindOf, kindC, kindB, unA, boxA, loadPtr, nilCheckA, fst1, ofValue, ofScalar, len, intBin, ibin, boolO, guardA, cCond, condV, cRet, cExit, cSkip, resOut, resultA, extractA, tupleO, Nat.reduceEqDiff, Nat.reduceAdd, Nat.reduceSub, Nat.reduceLT, Nat.reduceBEq, reduceCtorEq, Nat.reduceMod, Nat.reduceLeDiff, Int.reduceLT, Int.reduceAdd, Int.reduceEq, Int.reduceToNat, s_draw] <;> rfl)); (try (change Gets _ _ _ _ _ _; repeat refine Gets.seq ?_))
        exact ⟨rfl, _, rfl, by simp (disch := decide) only [sxL]⟩
      · have hfb : fewB l = false := by
          rcases hB with h | h
          · exact absurd hsb h
          · simpa using h
        rw [hsb] at hs
        rw [hfb] at hf
        refine Gets.last Tryz.tabOk (ov := ptO (ptO noOv 6 [w, .int .i64 40] H [(.bool true, H)]) 7 [v] H [(.bool false, H)]) (ptO_ok (ptO_ok noOv_ok hs) hf) 8 (s' := ?sn4) ?hn4 ?kn4; (case hn4 => (simp -implicitDefEqProofs (disch := first | (simp only [ne_eq, Nat.reduceEqDiff, not_false_eq_true, Nat.reduceLT]; done) | assumption | (simp only [s_push_next, s_put_next, Nat.beq_refl]; done) | ((try simp only [s_push_next, s_put_next]) <;> omega) | exact s_one_map _ | exact s_one_slice _ _ _ _ _ | (refine (id ?_ : plainDraw _ = true); kernel_rfl) | fail) only [sxL, s_castN, s_cells_one, noOv, callFn, kindOf, kindC, kindB, unA, boxA, loadPtr, nilCheckA, fst1, ofValue, ofScalar, len, intBin, ibin, boolO, guardA, cCond, condV, cRet, cExit, cSkip, resOut, resultA, extractA, tupleO, Nat.reduceEqDiff, Nat.reduceAdd, Nat.reduceSub, Nat.reduceLT, Nat.reduceBEq, reduceCtorEq, Nat.reduceMod, Nat.reduceLeDiff, Int.reduceLT, Int.reduceAdd, Int.reduceEq, Int.reduceToNat, s_draw] <;> rfl)); (try (change Gets _ _ _ _ _ _; repeat refine Gets.seq ?_))
        exact ⟨rfl, _, rfl, by simp (disch := decide) only [sxL]⟩
    rintro tm i24
    change Gets _ _ _ _ _ _
    refine Gets.condT (by simp (disch := decide) only [sxL, i24]) (Gets.seq ?_)
    refine Gets.last Tryz.tabOk (ov := ptO noOv 8 [] H [(.bool true, H)]) (ptO_ok noOv_ok hW0) 8 (s' := ?sn5) ?hn5 ?kn5; (case hn5 => (simp -implicitDefEqProofs (disch := first | (simp only [ne_eq, Nat.reduceEqDiff, not_false_eq_true, Nat.reduceLT]; done) | assumption | (simp only [s_push_next, s_put_next, Nat.beq_refl]; done) | ((try simp only [s_push_next, s_put_next]) <;> omega) | exact s_one_map _ | exact s_one_slice _ _ _ _ _ | (refine (id ?_ : plainDraw _ = true); kernel_rfl) | fail) only [sxL, s_castN, s_cells_one, noOv, callFn, kindOf, kindC, kindB, unA, boxA, loadPtr, nilCheckA, fst1, ofValue, ofScalar, len, intBin, ibin, boolO, guardA, cCond, condV, cRet, cExit, cSkip, resOut, resultA, extractA, tupleO, Nat.reduceEqDiff, Nat.reduceAdd, Nat.reduceSub, Nat.reduceLT, Nat.reduceBEq, reduceCtorEq, Nat.reduceMod, Nat.reduceLeDiff, Int.reduceLT, Int.reduceAdd, Int.reduceEq, Int.reduceToNat, s_draw] <;> rfl)); (try (change Gets _ _ _ _ _ _; repeat refine Gets.seq ?_))
    refine Gets.ret Tryz.tabOk ?_
    exact fin_pure rfl (by simp (disch := decide) only [sxL, Tryz.f4, resultA]) (.refl _) hN trivial
  have hsb : shortB evs 40 = true := by
    cases h : shortB evs 40
    · exact absurd (.inl (by simp [h])) hB
    · rfl
  have hfb : fewB l = true := by
    cases h : fewB l
    · exact absurd (.inr (by simp [h])) hB
    · rfl
  rw [hsb] at hs
  rw [hfb] at hf
  refine Gets.last Tryz.tabOk (ov := ptO (ptO noOv 6 [w, .int .i64 40] H [(.bool true, H)]) 7 [v] H [(.bool true, H)]) (ptO_ok (ptO_ok noOv_ok hs) hf) 8 (s' := ?sn6) ?hn6 ?kn6; (case hn6 => (simp -implicitDefEqProofs (disch := first | (simp only [ne_eq, Nat.reduceEqDiff, not_false_eq_true, Nat.reduceLT]; done) | assumption | (simp only [s_push_next, s_put_next, Nat.beq_refl]; done) | ((try simp only [s_push_next, s_put_next]) <;> omega) | exact s_one_map _ | exact s_one_slice _ _ _ _ _ | (refine (id ?_ : plainDraw _ = true); kernel_rfl) | fail) only [sxL, s_castN, s_cells_one, noOv, callFn, kindOf, kindC, kindB, unA, boxA, loadPtr, nilCheckA, fst1, ofValue, ofScalar, len, intBin, ibin, boolO, guardA, cCond, condV, cRet, cExit, cSkip, resOut, resultA, extractA, tupleO, Nat.reduceEqDiff, Nat.reduceAdd, Nat.reduceSub, Nat.reduceLT, Nat.reduceBEq, reduceCtorEq, Nat.reduceMod, Nat.reduceLeDiff, Int.reduceLT, Int.reduceAdd, Int.reduceEq, Int.reduceToNat, s_draw] <;> rfl)); (try (change Gets _ _ _ _ _ _; repeat refine Gets.seq ?_))
  refine Gets.condF (by simp (disch := decide) only [sxL]) (Gets.skip Tryz.tabOk ?_)
  change Gets _ _ _ _ _ _
  repeat refine Gets.seq ?_
  have hm := shortB_ok hsb
  obtain ⟨h8, h40⟩ := fewB_ok hfb
  obtain ⟨d, hd, hmerge⟩ := Merge_run H v w l evs hv hw hG hN (by omega) h8 h40
  rcases MergeQ_cases H d l evs with ⟨e, hQ⟩ | ⟨c, r, o, hR, hM, hQ⟩
  · rw [hQ] at hmerge
    refine Gets.last Tryz.tabOk (ov := ptO noOv 9 [v, w] H [(.tuple [.nilslice, .bool false, .int .i64 e], H)]) (ptO_ok noOv_ok hmerge) 8 (s' := ?sn7) ?hn7 ?kn7; (case hn7 => (simp -implicitDefEqProofs (disch := first | (simp only [ne_eq, Nat.reduceEqDiff, not_false_eq_true, Nat.reduceLT]; done) | assumption | (simp only [s_push_next, s_put_next, Nat.beq_refl]; done) | ((try simp only [s_push_next, s_put_next]) <;> omega) | exact s_one_map _ | exact s_one_slice _ _ _ _ _ | (refine (id ?_ : plainDraw _ = true); kernel_rfl) | fail) only [sxL, s_castN, s_cells_one, noOv, callFn, kindOf, kindC, kindB, unA, boxA, loadPtr, nilCheckA, fst1, ofValue, ofScalar, len, intBin, ibin, boolO, guardA, cCond, condV, cRet, cExit, cSkip, resOut, resultA, extractA, tupleO, Nat.reduceEqDiff, Nat.reduceAdd, Nat.reduceSub, Nat.reduceLT, Nat.reduceBEq, reduceCtorEq, Nat.reduceMod, Nat.reduceLeDiff, Int.reduceLT, Int.reduceAdd, Int.reduceEq, Int.reduceToNat, s_draw] <;> rfl)); (try (change Gets _ _ _ _ _ _; repeat refine Gets.seq ?_))
    by_cases he : e = 0
    · refine Gets.last Tryz.tabOk (ov := noOv) (noOv_ok) 8 (s' := ?sn8) ?hn8 ?kn8; (case hn8 => (simp -implicitDefEqProofs (disch := first | (simp only [ne_eq, Nat.reduceEqDiff, not_false_eq_true, Nat.reduceLT]; done) | assumption | (simp only [s_push_next, s_put_next, Nat.beq_refl]; done) | ((try simp only [s_push_next, s_put_next]) <;> omega) | exact s_one_map _ | exact s_one_slice _ _ _ _ _ | (refine (id ?_ : plainDraw _ = true); kernel_rfl) | fail) only [sxL, s_castN, s_cells_one, noOv, callFn, kindOf, kindC, kindB, unA, boxA, loadPtr, nilCheckA, fst1, ofValue, ofScalar, len, intBin, ibin, boolO, guardA, cCond, condV, cRet, cExit, cSkip, resOut, resultA, extractA, tupleO, Nat.reduceEqDiff, Nat.reduceAdd, Nat.reduceSub, Nat.reduceLT, Nat.reduceBEq, reduceCtorEq, Nat.reduceMod, Nat.reduceLeDiff, Int.reduceLT, Int.reduceAdd, Int.reduceEq, Int.reduceToNat, s_draw, he] <;> rfl)); (try (change Gets _ _ _ _ _ _; repeat refine Gets.seq ?_))
      refine Gets.condT (by simp (disch := decide) only [sxL]) (Gets.seq ?_)
      refine Gets.last Tryz.tabOk (ov := ptO noOv 8 [] H [(.bool true, H)]) (ptO_ok noOv_ok hW0) 8 (s' := ?sn9) ?hn9 ?kn9; (case hn9 => (simp -implicitDefEqProofs (disch := first | (simp only [ne_eq, Nat.reduceEqDiff, not_false_eq_true, Nat.reduceLT]; done) | assumption | (simp only [s_push_next, s_put_next, Nat.beq_refl]; done) | ((try simp only [s_push_next, s_put_next]) <;> omega) | exact s_one_map _ | exact s_one_slice _ _ _ _ _ | (refine (id ?_ : plainDraw _ = true); kernel_rfl) | fail) only [sxL, s_castN, s_cells_one, noOv, callFn, kindOf, kindC, kindB, unA, boxA, loadPtr, nilCheckA, fst1, ofValue, ofScalar, len, intBin, ibin, boolO, guardA, cCond, condV, cRet, cExit, cSkip, resOut, resultA, extractA, tupleO, Nat.reduceEqDiff, Nat.reduceAdd, Nat.reduceSub, Nat.reduceLT, Nat.reduceBEq, reduceCtorEq, Nat.reduceMod, Nat.reduceLeDiff, Int.reduceLT, Int.reduceAdd, Int.reduceEq, Int.reduceToNat, s_draw, he, s_lenNil ud27] <;> rfl)); (try (change Gets _ _ _ _ _ _; repeat refine Gets.seq ?_))
      refine Gets.ret Tryz.tabOk ?_
      exact fin_pure rfl (by simp (disch := decide) only [sxL, Tryz.f4, resultA]) (.refl _) hN trivial
    · refine Gets.last Tryz.tabOk (ov := noOv) (noOv_ok) 8 (s' := ?sn10) ?hn10 ?kn10; (case hn10 => (simp -implicitDefEqProofs (disch := first | (simp only [ne_eq, Nat.reduceEqDiff, not_false_eq_true, Nat.reduceLT]; done) | assumption | (simp only [s_push_next, s_put_next, Nat.beq_refl]; done) | ((try simp only [s_push_next, s_put_next]) <;> omega) | exact s_one_map _ | exact s_one_slice _ _ _ _ _ | (refine (id ?_ : plainDraw _ = true); kernel_rfl) | fail) only [sxL, s_castN, s_cells_one, noOv, callFn, kindOf, kindC, kindB, unA, boxA, loadPtr, nilCheckA, fst1, ofValue, ofScalar, len, intBin, ibin, boolO, guardA, cCond, condV, cRet, cExit, cSkip, resOut, resultA, extractA, tupleO, Nat.reduceEqDiff, Nat.reduceAdd, Nat.reduceSub, Nat.reduceLT, Nat.reduceBEq, reduceCtorEq, Nat.reduceMod, Nat.reduceLeDiff, Int.reduceLT, Int.reduceAdd, Int.reduceEq, Int.reduceToNat, s_draw, he] <;> rfl)); (try (change Gets _ _ _ _ _ _; repeat refine Gets.seq ?_))
      refine Gets.condT (by simp (disch := decide) only [sxL]) (Gets.seq ?_)
      refine Gets.last Tryz.tabOk (ov := ptO noOv 8 [] H [(.bool true, H)]) (ptO_ok noOv_ok hW0) 8 (s' := ?sn11) ?hn11 ?kn11; (case hn11 => (simp -implicitDefEqProofs (disch := first | (simp only [ne_eq, Nat.reduceEqDiff, not_false_eq_true, Nat.reduceLT]; done) | assumption | (simp only [s_push_next, s_put_next, Nat.beq_refl]; done) | ((try simp only [s_push_next, s_put_next]) <;> omega) | exact s_one_map _ | exact s_one_slice _ _ _ _ _ | (refine (id ?_ : plainDraw _ = true); kernel_rfl) | fail) only [sxL, s_castN, s_cells_one, noOv, callFn, kindOf, kindC, kindB, unA, boxA, loadPtr, nilCheckA, fst1, ofValue, ofScalar, len, intBin, ibin, boolO, guardA, cCond, condV, cRet, cExit, cSkip, resOut, resultA, extractA, tupleO, Nat.reduceEqDiff, Nat.reduceAdd, Nat.reduceSub, Nat.reduceLT, Nat.reduceBEq, reduceCtorEq, Nat.reduceMod, Nat.reduceLeDiff, Int.reduceLT, Int.reduceAdd, Int.reduceEq, Int.reduceToNat, s_draw, he, s_lenNil ud27] <;> rfl)); (try (change Gets _ _ _ _ _ _; repeat refine Gets.seq ?_))
      refine Gets.ret Tryz.tabOk ?_
      exact fin_pure rfl (by simp (disch := decide) only [sxL, Tryz.f4, resultA]) (.refl _) hN trivial
  rw [hQ] at hmerge
  refine Gets.last Tryz.tabOk (ov := ptO noOv 9 [v, w] H [(.tuple [outV d (natL o), .bool true, .int .i64 0], outH H d (natL o))]) (ptO_ok noOv_ok hmerge) 8 (s' := ?sn12) ?hn12 ?kn12; (case hn12 => (simp -implicitDefEqProofs (disch := first | (simp only [ne_eq, Nat.reduceEqDiff, not_false_eq_true, Nat.reduceLT]; done) | assumption | (simp only [s_push_next, s_put_next, Nat.beq_refl]; done) | ((try simp only [s_push_next, s_put_next]) <;> omega) | exact s_one_map _ | exact s_one_slice _ _ _ _ _ | (refine (id ?_ : plainDraw _ = true); kernel_rfl) | fail) only [sxL, s_castN, s_cells_one, noOv, callFn, kindOf, kindC, kindB, unA, boxA, loadPtr, nilCheckA, fst1, ofValue, ofScalar, len, intBin, ibin, boolO, guardA, cCond, condV, cRet, cExit, cSkip, resOut, resultA, extractA, tupleO, Nat.reduceEqDiff, Nat.reduceAdd, Nat.reduceSub, Nat.reduceLT, Nat.reduceBEq, reduceCtorEq, Nat.reduceMod, Nat.reduceLeDiff, Int.reduceLT, Int.reduceAdd, Int.reduceEq, Int.reduceToNat, s_draw] <;> rfl)); (try (change Gets _ _ _ _ _ _; repeat refine Gets.seq ?_))
  have hg1 := outH_grows hd (natL o)
  have hN1 := outH_neat hN hd (natL o)
  have hd1 : natL o ≠ [] → (outH H d (natL o)).blks.get d = some (.cells 3 false (natL o)) ∧ d < (outH H d (natL o)).next := fun h => outH_get H d h
  generalize outH H d (natL o) = H1 at *
  refine Gets.last Tryz.tabOk (ov := noOv) (noOv_ok) 8 (s' := ?sn13) ?hn13 ?kn13; (case hn13 => (simp -implicitDefEqProofs (disch := first | (simp only [ne_eq, Nat.reduceEqDiff, not_false_eq_true, Nat.reduceLT]; done) | assumption | (simp only [s_push_next, s_put_next, Nat.beq_refl]; done) | ((try simp only [s_push_next, s_put_next]) <;> omega) | exact s_one_map _ | exact s_one_slice _ _ _ _ _ | (refine (id ?_ : plainDraw _ = true); kernel_rfl) | fail) only [sxL, s_castN, s_cells_one, noOv, callFn, kindOf, kindC, kindB, unA, boxA, loadPtr, nilCheckA, fst1, ofValue, ofScalar, len, intBin, ibin, boolO, guardA, cCond, condV, cRet, cExit, cSkip, resOut, resultA, extractA, tupleO, Nat.reduceEqDiff, Nat.reduceAdd, Nat.reduceSub, Nat.reduceLT, Nat.reduceBEq, reduceCtorEq, Nat.reduceMod, Nat.reduceLeDiff, Int.reduceLT, Int.reduceAdd, Int.reduceEq, Int.reduceToNat, s_draw] <;> rfl)); (try (change Gets _ _ _ _ _ _; repeat refine Gets.seq ?_))
  refine Gets.condF (by simp (disch := decide) only [sxL]) (Gets.skip Tryz.tabOk ?_)
  change Gets _ _ _ _ _ _
  repeat refine Gets.seq ?_
  obtain ⟨ho, seq, at', hseq, hat', hend, hsl, hpw⟩ := mergeR_ok hM
  have hcl : (callsL l).length = l.length := by simp [callsL]
  rw [hcl] at hat'
  have htot : totA (callsL l) ≤ 400 := by
    have h1 := totA_le (LogsAt.calls h40)
    rw [hcl] at h1
    have : l.length * 40 ≤ 10 * 40 := Nat.mul_le_mul_right 40 h8
    omega
  have hrep : ((callsL l).map fun _ => 0) = List.replicate l.length 0 := by rw [List.map_const', hcl]
  rw [hrep] at hseq
  refine Gets.last Tryz.tabOk (ov := noOv) (noOv_ok) 8 (s' := ?sn14) ?hn14 ?kn14; (case hn14 => (simp -implicitDefEqProofs (disch := first | (simp only [ne_eq, Nat.reduceEqDiff, not_false_eq_true, Nat.reduceLT]; done) | assumption | (simp only [s_push_next, s_put_next, Nat.beq_refl]; done) | ((try simp only [s_push_next, s_put_next]) <;> omega) | exact s_one_map _ | exact s_one_slice _ _ _ _ _ | (refine (id ?_ : plainDraw _ = true); kernel_rfl) | fail) only [sxL, s_castN, s_cells_one, noOv, callFn, kindOf, kindC, kindB, unA, boxA, loadPtr, nilCheckA, fst1, ofValue, ofScalar, len, intBin, ibin, boolO, guardA, cCond, condV, cRet, cExit, cSkip, resOut, resultA, extractA, tupleO, Nat.reduceEqDiff, Nat.reduceAdd, Nat.reduceSub, Nat.reduceLT, Nat.reduceBEq, reduceCtorEq, Nat.reduceMod, Nat.reduceLeDiff, Int.reduceLT, Int.reduceAdd, Int.reduceEq, Int.reduceToNat, s_draw, hlen, make27 _ _ (show l.length ≤ 500 by omega)] <;> rfl)); (try (change Gets _ _ _ _ _ _; repeat refine Gets.seq ?_))
  refine Gets.last Tryz.tabOk (ov := noOv) (noOv_ok) 8 (s' := ?sn15) ?hn15 ?kn15; (case hn15 => (simp -implicitDefEqProofs (disch := first | (simp only [ne_eq, Nat.reduceEqDiff, not_false_eq_true, Nat.reduceLT]; done) | assumption | (simp only [s_push_next, s_put_next, Nat.beq_refl]; done) | ((try simp only [s_push_next, s_put_next]) <;> omega) | exact s_one_map _ | exact s_one_slice _ _ _ _ _ | (refine (id ?_ : plainDraw _ = true); kernel_rfl) | fail) only [sxL, s_castN, s_cells_one, noOv, callFn, kindOf, kindC, kindB, unA, boxA, loadPtr, nilCheckA, fst1, ofValue, ofScalar, len, intBin, ibin, boolO, guardA, cCond, condV, cRet, cExit, cSkip, resOut, resultA, extractA, tupleO, Nat.reduceEqDiff, Nat.reduceAdd, Nat.reduceSub, Nat.reduceLT, Nat.reduceBEq, reduceCtorEq, Nat.reduceMod, Nat.reduceLeDiff, Int.reduceLT, Int.reduceAdd, Int.reduceEq, Int.reduceToNat, s_draw] <;> rfl)); (try (change Gets _ _ _ _ _ _; repeat refine Gets.seq ?_))
  refine Gets.last Tryz.tabOk (ov := noOv) (noOv_ok) 8 (s' := ?sn16) ?hn16 ?kn16; (case hn16 => (simp -implicitDefEqProofs (disch := first | (simp only [ne_eq, Nat.reduceEqDiff, not_false_eq_true, Nat.reduceLT]; done) | assumption | (simp only [s_push_next, s_put_next, Nat.beq_refl]; done) | ((try simp only [s_push_next, s_put_next]) <;> omega) | exact s_one_map _ | exact s_one_slice _ _ _ _ _ | (refine (id ?_ : plainDraw _ = true); kernel_rfl) | fail) only [sxL, s_castN, s_cells_one, noOv, callFn, kindOf, kindC, kindB, unA, boxA, loadPtr, nilCheckA, fst1, ofValue, ofScalar, len, intBin, ibin, boolO, guardA, cCond, condV, cRet, cExit, cSkip, resOut, resultA, extractA, tupleO, Nat.reduceEqDiff, Nat.reduceAdd, Nat.reduceSub, Nat.reduceLT, Nat.reduceBEq, reduceCtorEq, Nat.reduceMod, Nat.reduceLeDiff, Int.reduceLT, Int.reduceAdd, Int.reduceEq, Int.reduceToNat, s_draw] <;> rfl)); (try (change Gets _ _ _ _ _ _; repeat refine Gets.seq ?_))
  have hv1 := hv.grow hN hg1
  have hw1 := hw.grow hN hg1
  have hol : ∀ h, lenA Tryz.tab h 27 (outV d (natL o)) = some (.int .i64 (o.length : Int)) := fun h => by rw [outV_len, natL_len]
  refine Gets.uptoH o.length (fun i tm h => ∃ at_ pre dq, (seqOf (callsL l) (o.drop i) at_).map (fun p => (pre ++ p.1, p.2)) = some (seq, at') ∧ pre.length = i ∧ at_.length = l.length ∧ Grows H1 h ∧ Neat h ∧ H1.next < h.next ∧ h.blks.get H1.next = some (.cells 3 true (natL at_)) ∧
    (pre ≠ [] → h.blks.get dq = some (.cells 3 false (intL pre)) ∧ H1.next < dq ∧ dq < h.next) ∧
    tm.get 0 = some v ∧ tm.get 1 = some w ∧ tm.get 5 = some (outV d (natL o)) ∧ tm.get 8 = some (.slice H1.next 0 l.length false l.length) ∧ tm.get 9 = some (outV dq (intL pre)) ∧ tm.get 10 = some (.int .i64 (i : Int)))
    ⟨List.replicate l.length 0, [], 0, by rw [List.drop_zero, hseq]; rfl, rfl, by simp, .push _ _, hN1.push _, Nat.lt_succ_self _, s_push_same _ _, fun h => absurd rfl h, by simp (disch := decide) only [sxL], by simp (disch := decide) only [sxL], by simp (disch := decide) only [sxL], by simp (disch := decide) only [sxL], by simp (disch := decide) only [sxL]; rfl, by simp (disch := decide) only [sxL]⟩ ?_
  rintro i tm h hi ⟨at_, pre, dq, hsq, hpl, hal, hgh, hNh, hbn, hb, hq, i0, i1, i5, i8, i9, i10⟩
  repeat refine Gets.seq ?_
  by_cases hlt : (i : Int) < (o.length : Int)
  · obtain ⟨g, hog⟩ : ∃ k, o[i]? = some k := ⟨_, List.getElem?_eq_getElem (by omega)⟩
    obtain ⟨p, hp, hpe⟩ := Option.map_eq_some_iff.1 hsq
    rw [drop_cons hog] at hp
    obtain ⟨lg, ai, k, s', q1, q2, q3, q4, q5⟩ := seqOf_cons hp
    obtain ⟨x, hki⟩ : ∃ k, l[g]? = some k := ⟨_, List.getElem?_eq_getElem (by have := (List.getElem?_eq_some_iff.1 q1).1; omega)⟩
    have hlg : lg = callsOf x := by simp [callsL, hki] at q1; exact q1.symm
    have hgl : (g : Int) < (l.length : Int) := by have := (List.getElem?_eq_some_iff.1 hki).1; omega
    have hai : (ai : Int) < (x.l.length : Int) := by have := (List.getElem?_eq_some_iff.1 q3).1; rw [hlg] at this; simp [callsOf] at this; omega
    have hg0 : ¬ (g : Int) < 0 := by omega
    obtain ⟨cd, hcd⟩ : ∃ k, x.l[ai]? = some k := ⟨_, List.getElem?_eq_getElem (by omega)⟩
    have hkc : k = cd.cmd.call := by rw [hlg] at q3; simp [callsOf, hcd] at q3; exact q3.symm
    have hvh := hv1.grow hN1 hgh
    obtain ⟨b, hx, hc1, _⟩ := hvh.1.row ud22 sz33 LogV.len hki
    have hc : cellIn (h.blks.get b) (g * 1) = some x.v := hc1 0 (by omega)
    have hX := hvh.2 x (List.mem_of_getElem? hki)
    have hlx := hX.1.len ud33
    obtain ⟨b', hx', hcc1, _⟩ := hX.1.row ud33 sz44 CmdK.len hcd
    have kc : cellIn (h.blks.get b') (ai * 24 + 1) = some (.int .i64 cd.cmd.call) := hcc1 1 (by omega)
    rw [← hkc] at kc
    have hone : natL o ≠ [] := fun e => by have := natL_len o; rw [e] at this; simp at this; omega
    obtain ⟨d1, d2⟩ := hd1 hone
    have hix := outV_at d (natL o) (i := i) (by rw [natL_len]; omega)
    have hcg : cellIn (h.blks.get d) i = some (.int .i64 (g : Int)) := by rw [hgh.get _ d2, d1, s_cellIn]; exact natL_at hog
    have ix : indexAddrA Tryz.tab 27 (.slice H1.next 0 l.length false l.length) (.int .i64 (g : Int)) = some (.ptr H1.next g) := by
      rw [s_indexSlice ud27 sz3, if_pos ⟨by omega, by omega⟩]; simp
    have pb : cellIn (h.blks.get H1.next) g = some (.int .i64 (ai : Int)) := by rw [hb, s_cellIn]; exact natL_at q2
    refine Gets.last Tryz.tabOk (ov := noOv) (noOv_ok) 8 (s' := ?sn17) ?hn17 ?kn17; (case hn17 => (simp -implicitDefEqProofs (disch := first | (simp only [ne_eq, Nat.reduceEqDiff, not_false_eq_true, Nat.reduceLT]; done) | assumption | (simp only [s_push_next, s_put_next, Nat.beq_refl]; done) | ((try simp only [s_push_next, s_put_next]) <;> omega) | exact s_one_map _ | exact s_one_slice _ _ _ _ _ | (refine (id ?_ : plainDraw _ = true); kernel_rfl) | fail) only [sxL, s_castN, s_cells_one, noOv, callFn, kindOf, kindC, kindB, unA, boxA, loadPtr, nilCheckA, fst1, ofValue, ofScalar, len, intBin, ibin, boolO, guardA, cCond, condV, cRet, cExit, cSkip, resOut, resultA, extractA, tupleO, Nat.reduceEqDiff, Nat.reduceAdd, Nat.reduceSub, Nat.reduceLT, Nat.reduceBEq, reduceCtorEq, Nat.reduceMod, Nat.reduceLeDiff, Int.reduceLT, Int.reduceAdd, Int.reduceEq, Int.reduceToNat, s_draw, i5, i10, hol, hlt] <;> rfl)); (try (change Gets _ _ _ _ _ _; repeat refine Gets.seq ?_))
    refine Gets.condT (by simp (disch := decide) only [sxL]) (Gets.skip Tryz.tabOk ?_)
    change Gets _ _ _ _ _ _
    refine Gets.seq (Gets.blk ?_)
    repeat refine Gets.seq ?_
    refine Gets.last Tryz.tabOk (ov := noOv) (noOv_ok) 8 (s' := ?sn18) ?hn18 ?kn18; (case hn18 => (simp -implicitDefEqProofs (disch := first | (simp only [ne_eq, Nat.reduceEqDiff, not_false_eq_true, Nat.reduceLT]; done) | assumption | (simp only [s_push_next, s_put_next, Nat.beq_refl]; done) | ((try simp only [s_push_next, s_put_next]) <;> omega) | exact s_one_map _ | exact s_one_slice _ _ _ _ _ | (refine (id ?_ : plainDraw _ = true); kernel_rfl) | fail) only [sxL, s_castN, s_cells_one, noOv, callFn, kindOf, kindC, kindB, unA, boxA, loadPtr, nilCheckA, fst1, ofValue, ofScalar, len, intBin, ibin, boolO, guardA, cCond, condV, cRet, cExit, cSkip, resOut, resultA, extractA, tupleO, Nat.reduceEqDiff, Nat.reduceAdd, Nat.reduceSub, Nat.reduceLT, Nat.reduceBEq, reduceCtorEq, Nat.reduceMod, Nat.reduceLeDiff, Int.reduceLT, Int.reduceAdd, Int.reduceEq, Int.reduceToNat, s_draw, i5, i10, hix, s_varFalse ia3, hcg] <;> rfl)); (try (change Gets _ _ _ _ _ _; repeat refine Gets.seq ?_))
    refine Gets.last Tryz.tabOk (ov := noOv) (noOv_ok) 8 (s' := ?sn19) ?hn19 ?kn19; (case hn19 => (simp -implicitDefEqProofs (disch := first | (simp only [ne_eq, Nat.reduceEqDiff, not_false_eq_true, Nat.reduceLT]; done) | assumption | (simp only [s_push_next, s_put_next, Nat.beq_refl]; done) | ((try simp only [s_push_next, s_put_next]) <;> omega) | exact s_one_map _ | exact s_one_slice _ _ _ _ _ | (refine (id ?_ : plainDraw _ = true); kernel_rfl) | fail) only [sxL, s_castN, s_cells_one, noOv, callFn, kindOf, kindC, kindB, unA, boxA, loadPtr, nilCheckA, fst1, ofValue, ofScalar, len, intBin, ibin, boolO, guardA, cCond, condV, cRet, cExit, cSkip, resOut, resultA, extractA, tupleO, Nat.reduceEqDiff, Nat.reduceAdd, Nat.reduceSub, Nat.reduceLT, Nat.reduceBEq, reduceCtorEq, Nat.reduceMod, Nat.reduceLeDiff, Int.reduceLT, Int.reduceAdd, Int.reduceEq, Int.reduceToNat, s_draw, i0, i8, hg0, hgl, hlen, ix, s_varFalse ia3, pb, hx, s_varFalse ia33, hc, hlx, hai] <;> rfl)); (try (change Gets _ _ _ _ _ _; repeat refine Gets.seq ?_))
    refine Gets.condF (by simp (disch := decide) only [sxL]) (Gets.skip Tryz.tabOk ?_)
    change Gets _ _ _ _ _ _
    repeat refine Gets.seq ?_
    have happ := app_out (h := h.push (.cells 3 true [.int .i64 k])) (b := h.next) (d := dq) (l := intL pre) (w := .int .i64 k) (s_push_same _ _)
      (fun hp => by
        have hp' : pre ≠ [] := fun e => hp (by rw [e]; rfl)
        obtain ⟨e1, e2, e3⟩ := hq hp'
        rw [s_push_other _ _ (by omega)]; exact e1) rfl (intL_one _) (by rw [intL_len]; omega)
    refine Gets.last Tryz.tabOk (ov := noOv) (noOv_ok) 8 (s' := ?sn1) ?hn1 ?kn1; (case hn1 => (simp -implicitDefEqProofs (disch := first | (simp only [ne_eq, Nat.reduceEqDiff, not_false_eq_true, Nat.reduceLT]; done) | assumption | (simp only [s_push_next, s_put_next, Nat.beq_refl]; done) | ((try simp only [s_push_next, s_put_next]) <;> omega) | exact s_one_map _ | exact s_one_slice _ _ _ _ _ | (refine (id ?_ : makeDraw _ = true); kernel_rfl) | fail) only [sxL, s_castN, s_cells_one, noOv, callFn, kindOf, kindC, kindB, unA, boxA, loadPtr, nilCheckA, fst1, ofValue, ofScalar, len, intBin, ibin, boolO, guardA, cCond, condV, cRet, cExit, cSkip, resOut, resultA, extractA, tupleO, Nat.reduceEqDiff, Nat.reduceAdd, Nat.reduceSub, Nat.reduceLT, Nat.reduceBEq, reduceCtorEq, Nat.reduceMod, Nat.reduceLeDiff, Int.reduceLT, Int.reduceAdd, Int.reduceEq, Int.reduceToNat, s_drawM, i0, i8, i9, hx, s_varFalse ia33, hc, ix, pb, s_varFalse ia3, hx', fa44_1, kc, bs27, z_opApp, happ] <;> rfl)); (try (change Gets _ _ _ _ _ _; repeat refine Gets.seq ?_))
    have hpn : (h.push (.cells 3 true [.int .i64 k])).next = h.next + 1 := s_push_next _ _
    have hne : intL pre ≠ [] → pre ≠ [] := fun h e => h (by rw [e]; rfl)
    have low : ∀ y, y < h.next → (intL pre ≠ [] → y ≠ dq) → (appH (h.push (.cells 3 true [.int .i64 k])) dq (intL pre) (.int .i64 k)).blks.get y = h.blks.get y := fun y h1 h2 => by
      rw [appH_other _ _ _ _ (by rw [hpn]; omega) h2, s_push_other _ _ (by omega)]
    have hqd : intL pre ≠ [] → H1.next < dq := fun h => (hq (hne h)).2.1
    have n3 : (appH (h.push (.cells 3 true [.int .i64 k])) dq (intL pre) (.int .i64 k)).next = h.next + 2 := by rw [appH_next, hpn]
    have N3 : Neat (appH (h.push (.cells 3 true [.int .i64 k])) dq (intL pre) (.int .i64 k)) := appH_neat (hNh.push _) _ _ _
    have G3 : ∀ y, y < H1.next → (appH (h.push (.cells 3 true [.int .i64 k])) dq (intL pre) (.int .i64 k)).blks.get y = H1.blks.get y := fun y hy => by
      rw [low y (by omega) (fun hh => by have := hqd hh; omega)]; exact hgh.get y hy
    have b3 : (appH (h.push (.cells 3 true [.int .i64 k])) dq (intL pre) (.int .i64 k)).blks.get H1.next = some (.cells 3 true (natL at_)) := by
      rw [low _ hbn (fun hh => by have := hqd hh; omega)]; exact hb
    have q3' : (appH (h.push (.cells 3 true [.int .i64 k])) dq (intL pre) (.int .i64 k)).blks.get (h.next + 1) = some (.cells 3 false (intL (pre ++ [k]))) := by
      have := appH_same (h.push (.cells 3 true [.int .i64 k])) dq (intL pre) (.int .i64 k)
      rw [hpn, intL_snoc] at this; exact this
    change Gets _ _ _ _ ⟨_, appH (h.push (.cells 3 true [.int .i64 k])) dq (intL pre) (.int .i64 k), _⟩ _
    generalize appH (h.push (.cells 3 true [.int .i64 k])) dq (intL pre) (.int .i64 k) = h3 at *
    have pb3 : cellIn (h3.blks.get H1.next) g = some (.int .i64 (ai : Int)) := by rw [b3, s_cellIn]; exact natL_at q2
    have hst := store_one (G := Tryz.tab) (t := 3) (v := .int .i64 ((ai : Int) + 1)) b3 sz3 (off := g) (by rw [natL_len]; omega) rfl
    have hset : (natL at_).set g (.int .i64 ((ai : Int) + 1)) = natL (at_.set g (ai + 1)) := natL_set at_ g (ai + 1)
    rw [hset] at hst
    have hx40 := h40 x (List.mem_of_getElem? hki)
    have hwa : awrap .i64 ((ai : Int) + 1) = (ai : Int) + 1 := s_wrap (by omega) (by omega)
    have hwi : awrap .i64 ((i : Int) + 1) = (i : Int) + 1 := s_wrap (by omega) (by omega)
    refine Gets.last Tryz.tabOk (ov := noOv) (noOv_ok) 8 (s' := ?sn20) ?hn20 ?kn20; (case hn20 => (simp -implicitDefEqProofs (disch := first | (simp only [ne_eq, Nat.reduceEqDiff, not_false_eq_true, Nat.reduceLT]; done) | assumption | (simp only [s_push_next, s_put_next, Nat.beq_refl]; done) | ((try simp only [s_push_next, s_put_next]) <;> omega) | exact s_one_map _ | exact s_one_slice _ _ _ _ _ | (refine (id ?_ : plainDraw _ = true); kernel_rfl) | fail) only [sxL, s_castN, s_cells_one, noOv, callFn, kindOf, kindC, kindB, unA, boxA, loadPtr, nilCheckA, fst1, ofValue, ofScalar, len, intBin, ibin, boolO, guardA, cCond, condV, cRet, cExit, cSkip, resOut, resultA, extractA, tupleO, Nat.reduceEqDiff, Nat.reduceAdd, Nat.reduceSub, Nat.reduceLT, Nat.reduceBEq, reduceCtorEq, Nat.reduceMod, Nat.reduceLeDiff, Int.reduceLT, Int.reduceAdd, Int.reduceEq, Int.reduceToNat, s_draw, i8, ix, pb3, s_varFalse ia3, hwa, hst] <;> rfl)); (try (change Gets _ _ _ _ _ _; repeat refine Gets.seq ?_))
    refine Gets.last Tryz.tabOk (ov := noOv) (noOv_ok) 8 (s' := ?sn21) ?hn21 ?kn21; (case hn21 => (simp -implicitDefEqProofs (disch := first | (simp only [ne_eq, Nat.reduceEqDiff, not_false_eq_true, Nat.reduceLT]; done) | assumption | (simp only [s_push_next, s_put_next, Nat.beq_refl]; done) | ((try simp only [s_push_next, s_put_next]) <;> omega) | exact s_one_map _ | exact s_one_slice _ _ _ _ _ | (refine (id ?_ : plainDraw _ = true); kernel_rfl) | fail) only [sxL, s_castN, s_cells_one, noOv, callFn, kindOf, kindC, kindB, unA, boxA, loadPtr, nilCheckA, fst1, ofValue, ofScalar, len, intBin, ibin, boolO, guardA, cCond, condV, cRet, cExit, cSkip, resOut, resultA, extractA, tupleO, Nat.reduceEqDiff, Nat.reduceAdd, Nat.reduceSub, Nat.reduceLT, Nat.reduceBEq, reduceCtorEq, Nat.reduceMod, Nat.reduceLeDiff, Int.reduceLT, Int.reduceAdd, Int.reduceEq, Int.reduceToNat, s_draw, i10, hwi] <;> rfl)); (try (change Gets _ _ _ _ _ _; repeat refine Gets.seq ?_))
    refine ⟨_, _, rfl, by omega, at_.set g (ai + 1), pre ++ [k], h.next + 1, ?_, by simp [hpl], by simp [hal], ⟨by rw [s_put_next, n3]; have := hgh.next; omega, fun y hy => by rw [s_put_other _ _ _ (by omega)]; exact G3 y hy⟩, N3.put (by omega) _, by rw [s_put_next, n3]; omega, s_put_same _ _ _,
      fun _ => ⟨by rw [s_put_other _ _ _ (by omega)]; exact q3', by omega, by rw [s_put_next, n3]; omega⟩, ?_, ?_, ?_, ?_, ?_, ?_⟩
    · rw [q4, ← hpe, q5]
      simp
    · simp (disch := decide) only [sxL, i0]
    · simp (disch := decide) only [sxL, i1]
    · simp (disch := decide) only [sxL, i5]
    · simp (disch := decide) only [sxL, i8]
    · rw [← intL_snoc]; simp (disch := decide) only [sxL]
    · simp (disch := decide) only [sxL, s_castS]
  have hil : i = o.length := by omega
  rw [hil, List.drop_length] at hsq
  have hsq : some (pre ++ [], at_) = some (seq, at') := hsq
  simp only [List.append_nil, Option.some.injEq, Prod.mk.injEq] at hsq
  obtain ⟨rfl, rfl⟩ := hsq
  refine Gets.last Tryz.tabOk (ov := noOv) (noOv_ok) 8 (s' := ?sn22) ?hn22 ?kn22; (case hn22 => (simp -implicitDefEqProofs (disch := first | (simp only [ne_eq, Nat.reduceEqDiff, not_false_eq_true, Nat.reduceLT]; done) | assumption | (simp only [s_push_next, s_put_next, Nat.beq_refl]; done) | ((try simp only [s_push_next, s_put_next]) <;> omega) | exact s_one_map _ | exact s_one_slice _ _ _ _ _ | (refine (id ?_ : plainDraw _ = true); kernel_rfl) | fail) only [sxL, s_castN, s_cells_one, noOv, callFn, kindOf, kindC, kindB, unA, boxA, loadPtr, nilCheckA, fst1, ofValue, ofScalar, len, intBin, ibin, boolO, guardA, cCond, condV, cRet, cExit, cSkip, resOut, resultA, extractA, tupleO, Nat.reduceEqDiff, Nat.reduceAdd, Nat.reduceSub, Nat.reduceLT, Nat.reduceBEq, reduceCtorEq, Nat.reduceMod, Nat.reduceLeDiff, Int.reduceLT, Int.reduceAdd, Int.reduceEq, Int.reduceToNat, s_draw, i5, i10, hol, hlt] <;> rfl)); (try (change Gets _ _ _ _ _ _; repeat refine Gets.seq ?_))
  refine Gets.condF (by simp (disch := decide) only [sxL]) (Gets.exit Tryz.tabOk ?_)
  refine inBlk_exit ?_
  change Gets _ _ _ _ _ _
  repeat refine Gets.seq ?_
  refine Gets.last Tryz.tabOk (ov := noOv) (noOv_ok) 8 (s' := ?sn23) ?hn23 ?kn23; (case hn23 => (simp -implicitDefEqProofs (disch := first | (simp only [ne_eq, Nat.reduceEqDiff, not_false_eq_true, Nat.reduceLT]; done) | assumption | (simp only [s_push_next, s_put_next, Nat.beq_refl]; done) | ((try simp only [s_push_next, s_put_next]) <;> omega) | exact s_one_map _ | exact s_one_slice _ _ _ _ _ | (refine (id ?_ : plainDraw _ = true); kernel_rfl) | fail) only [sxL, s_castN, s_cells_one, noOv, callFn, kindOf, kindC, kindB, unA, boxA, loadPtr, nilCheckA, fst1, ofValue, ofScalar, len, intBin, ibin, boolO, guardA, cCond, condV, cRet, cExit, cSkip, resOut, resultA, extractA, tupleO, Nat.reduceEqDiff, Nat.reduceAdd, Nat.reduceSub, Nat.reduceLT, Nat.reduceBEq, reduceCtorEq, Nat.reduceMod, Nat.reduceLeDiff, Int.reduceLT, Int.reduceAdd, Int.reduceEq, Int.reduceToNat, s_draw] <;> rfl)); (try (change Gets _ _ _ _ _ _; repeat refine Gets.seq ?_))
  have hvh := hv1.grow hN1 hgh
  have hwh := hw1.grow hN1 hgh
  have hGH := hG.grow hN (hg1.trans hgh)
  have hWh := hW h hGH
  have hgrow := hg1.trans hgh
  refine Gets.upto l.length (fun g tm => tm.get 0 = some v ∧ tm.get 1 = some w ∧ tm.get 8 = some (.slice H1.next 0 l.length false l.length) ∧ tm.get 9 = some (outV dq (intL pre)) ∧ tm.get 12 = some (.int .i64 (g : Int)))
    ⟨by simp (disch := decide) only [sxL, i0], by simp (disch := decide) only [sxL, i1], by simp (disch := decide) only [sxL, i8], by simp (disch := decide) only [sxL, i9], by simp (disch := decide) only [sxL]⟩ ?_
  rintro g tm hg ⟨j0, j1, j8, j9, j12⟩
  repeat refine Gets.seq ?_
  by_cases hlg : (g : Int) < (l.length : Int)
  · obtain ⟨x, hki⟩ : ∃ k, l[g]? = some k := ⟨_, List.getElem?_eq_getElem (by omega)⟩
    obtain ⟨ai, hai⟩ : ∃ k, at_[g]? = some k := ⟨_, List.getElem?_eq_getElem (by omega)⟩
    have hcg : (callsL l)[g]? = some (callsOf x) := by simp [callsL, hki]
    have heq := hend g _ _ hcg hai
    have hcx : (callsOf x).length = x.l.length := by simp [callsOf]
    rw [hcx] at heq
    obtain ⟨b, hx, hc1, _⟩ := hvh.1.row ud22 sz33 LogV.len hki
    have hc : cellIn (h.blks.get b) (g * 1) = some x.v := hc1 0 (by omega)
    have hX := hvh.2 x (List.mem_of_getElem? hki)
    have hlx := hX.1.len ud33
    have ix : indexAddrA Tryz.tab 27 (.slice H1.next 0 l.length false l.length) (.int .i64 (g : Int)) = some (.ptr H1.next g) := by
      rw [s_indexSlice ud27 sz3, if_pos ⟨by omega, by omega⟩]; simp
    have pb : cellIn (h.blks.get H1.next) g = some (.int .i64 (x.l.length : Int)) := by rw [hb, s_cellIn, ← heq]; exact natL_at hai
    have hwi : awrap .i64 ((g : Int) + 1) = (g : Int) + 1 := s_wrap (by omega) (by omega)
    refine Gets.last Tryz.tabOk (ov := noOv) (noOv_ok) 8 (s' := ?sn24) ?hn24 ?kn24; (case hn24 => (simp -implicitDefEqProofs (disch := first | (simp only [ne_eq, Nat.reduceEqDiff, not_false_eq_true, Nat.reduceLT]; done) | assumption | (simp only [s_push_next, s_put_next, Nat.beq_refl]; done) | ((try simp only [s_push_next, s_put_next]) <;> omega) | exact s_one_map _ | exact s_one_slice _ _ _ _ _ | (refine (id ?_ : plainDraw _ = true); kernel_rfl) | fail) only [sxL, s_castN, s_cells_one, noOv, callFn, kindOf, kindC, kindB, unA, boxA, loadPtr, nilCheckA, fst1, ofValue, ofScalar, len, intBin, ibin, boolO, guardA, cCond, condV, cRet, cExit, cSkip, resOut, resultA, extractA, tupleO, Nat.reduceEqDiff, Nat.reduceAdd, Nat.reduceSub, Nat.reduceLT, Nat.reduceBEq, reduceCtorEq, Nat.reduceMod, Nat.reduceLeDiff, Int.reduceLT, Int.reduceAdd, Int.reduceEq, Int.reduceToNat, s_draw, j0, j12, hlen, hlg] <;> rfl)); (try (change Gets _ _ _ _ _ _; repeat refine Gets.seq ?_))
    refine Gets.condT (by simp (disch := decide) only [sxL]) (Gets.skip Tryz.tabOk ?_)
    change Gets _ _ _ _ _ _
    refine Gets.seq (Gets.blk ?_)
    repeat refine Gets.seq ?_
    refine Gets.last Tryz.tabOk (ov := noOv) (noOv_ok) 8 (s' := ?sn25) ?hn25 ?kn25; (case hn25 => (simp -implicitDefEqProofs (disch := first | (simp only [ne_eq, Nat.reduceEqDiff, not_false_eq_true, Nat.reduceLT]; done) | assumption | (simp only [s_push_next, s_put_next, Nat.beq_refl]; done) | ((try simp only [s_push_next, s_put_next]) <;> omega) | exact s_one_map _ | exact s_one_slice _ _ _ _ _ | (refine (id ?_ : plainDraw _ = true); kernel_rfl) | fail) only [sxL, s_castN, s_cells_one, noOv, callFn, kindOf, kindC, kindB, unA, boxA, loadPtr, nilCheckA, fst1, ofValue, ofScalar, len, intBin, ibin, boolO, guardA, cCond, condV, cRet, cExit, cSkip, resOut, resultA, extractA, tupleO, Nat.reduceEqDiff, Nat.reduceAdd, Nat.reduceSub, Nat.reduceLT, Nat.reduceBEq, reduceCtorEq, Nat.reduceMod, Nat.reduceLeDiff, Int.reduceLT, Int.reduceAdd, Int.reduceEq, Int.reduceToNat, s_draw, j0, j8, j12, ix, s_varFalse ia3, pb, hx, s_varFalse ia33, hc, hlx] <;> rfl)); (try (change Gets _ _ _ _ _ _; repeat refine Gets.seq ?_))
    refine Gets.condF (by simp (disch := decide) only [sxL]) (Gets.skip Tryz.tabOk ?_)
    change Gets _ _ _ _ _ _
    refine Gets.last Tryz.tabOk (ov := noOv) (noOv_ok) 8 (s' := ?sn26) ?hn26 ?kn26; (case hn26 => (simp -implicitDefEqProofs (disch := first | (simp only [ne_eq, Nat.reduceEqDiff, not_false_eq_true, Nat.reduceLT]; done) | assumption | (simp only [s_push_next, s_put_next, Nat.beq_refl]; done) | ((try simp only [s_push_next, s_put_next]) <;> omega) | exact s_one_map _ | exact s_one_slice _ _ _ _ _ | (refine (id ?_ : plainDraw _ = true); kernel_rfl) | fail) only [sxL, s_castN, s_cells_one, noOv, callFn, kindOf, kindC, kindB, unA, boxA, loadPtr, nilCheckA, fst1, ofValue, ofScalar, len, intBin, ibin, boolO, guardA, cCond, condV, cRet, cExit, cSkip, resOut, resultA, extractA, tupleO, Nat.reduceEqDiff, Nat.reduceAdd, Nat.reduceSub, Nat.reduceLT, Nat.reduceBEq, reduceCtorEq, Nat.reduceMod, Nat.reduceLeDiff, Int.reduceLT, Int.reduceAdd, Int.reduceEq, Int.reduceToNat, s_draw, j12, hwi] <;> rfl)); (try (change Gets _ _ _ _ _ _; repeat refine Gets.seq ?_))
    refine ⟨_, rfl, by omega, ?_, ?_, ?_, ?_, ?_⟩
    · simp (disch := decide) only [sxL, j0]
    · simp (disch := decide) only [sxL, j1]
    · simp (disch := decide) only [sxL, j8]
    · simp (disch := decide) only [sxL, j9]
    · simp (disch := decide) only [sxL, s_castS]
  refine Gets.last Tryz.tabOk (ov := noOv) (noOv_ok) 8 (s' := ?sn27) ?hn27 ?kn27; (case hn27 => (simp -implicitDefEqProofs (disch := first | (simp only [ne_eq, Nat.reduceEqDiff, not_false_eq_true, Nat.reduceLT]; done) | assumption | (simp only [s_push_next, s_put_next, Nat.beq_refl]; done) | ((try simp only [s_push_next, s_put_next]) <;> omega) | exact s_one_map _ | exact s_one_slice _ _ _ _ _ | (refine (id ?_ : plainDraw _ = true); kernel_rfl) | fail) only [sxL, s_castN, s_cells_one, noOv, callFn, kindOf, kindC, kindB, unA, boxA, loadPtr, nilCheckA, fst1, ofValue, ofScalar, len, intBin, ibin, boolO, guardA, cCond, condV, cRet, cExit, cSkip, resOut, resultA, extractA, tupleO, Nat.reduceEqDiff, Nat.reduceAdd, Nat.reduceSub, Nat.reduceLT, Nat.reduceBEq, reduceCtorEq, Nat.reduceMod, Nat.reduceLeDiff, Int.reduceLT, Int.reduceAdd, Int.reduceEq, Int.reduceToNat, s_draw, j0, j12, hlen, hlg] <;> rfl)); (try (change Gets _ _ _ _ _ _; repeat refine Gets.seq ?_))
  refine Gets.condF (by simp (disch := decide) only [sxL]) (Gets.exit Tryz.tabOk ?_)
  refine inBlk_exit ?_
  change Gets _ _ _ _ _ _
  repeat refine Gets.seq ?_
  have hpl9 : ∀ h, lenA Tryz.tab h 27 (outV dq (intL pre)) = some (.int .i64 (pre.length : Int)) := fun h => by rw [outV_len, intL_len]
  by_cases h60 : 60 < (pre.length : Int)
  · refine Gets.last Tryz.tabOk (ov := noOv) (noOv_ok) 8 (s' := ?sn28) ?hn28 ?kn28; (case hn28 => (simp -implicitDefEqProofs (disch := first | (simp only [ne_eq, Nat.reduceEqDiff, not_false_eq_true, Nat.reduceLT]; done) | assumption | (simp only [s_push_next, s_put_next, Nat.beq_refl]; done) | ((try simp only [s_push_next, s_put_next]) <;> omega) | exact s_one_map _ | exact s_one_slice _ _ _ _ _ | (refine (id ?_ : plainDraw _ = true); kernel_rfl) | fail) only [sxL, s_castN, s_cells_one, noOv, callFn, kindOf, kindC, kindB, unA, boxA, loadPtr, nilCheckA, fst1, ofValue, ofScalar, len, intBin, ibin, boolO, guardA, cCond, condV, cRet, cExit, cSkip, resOut, resultA, extractA, tupleO, Nat.reduceEqDiff, Nat.reduceAdd, Nat.reduceSub, Nat.reduceLT, Nat.reduceBEq, reduceCtorEq, Nat.reduceMod, Nat.reduceLeDiff, Int.reduceLT, Int.reduceAdd, Int.reduceEq, Int.reduceToNat, s_draw, j9, hpl9, h60] <;> rfl)); (try (change Gets _ _ _ _ _ _; repeat refine Gets.seq ?_))
    refine Gets.condT (by simp (disch := decide) only [sxL]) (Gets.seq ?_)
    refine Gets.last Tryz.tabOk (ov := ptO noOv 8 [] h [(.bool true, h)]) (ptO_ok noOv_ok hWh) 8 (s' := ?sn29) ?hn29 ?kn29; (case hn29 => (simp -implicitDefEqProofs (disch := first | (simp only [ne_eq, Nat.reduceEqDiff, not_false_eq_true, Nat.reduceLT]; done) | assumption | (simp only [s_push_next, s_put_next, Nat.beq_refl]; done) | ((try simp only [s_push_next, s_put_next]) <;> omega) | exact s_one_map _ | exact s_one_slice _ _ _ _ _ | (refine (id ?_ : plainDraw _ = true); kernel_rfl) | fail) only [sxL, s_castN, s_cells_one, noOv, callFn, kindOf, kindC, kindB, unA, boxA, loadPtr, nilCheckA, fst1, ofValue, ofScalar, len, intBin, ibin, boolO, guardA, cCond, condV, cRet, cExit, cSkip, resOut, resultA, extractA, tupleO, Nat.reduceEqDiff, Nat.reduceAdd, Nat.reduceSub, Nat.reduceLT, Nat.reduceBEq, reduceCtorEq, Nat.reduceMod, Nat.reduceLeDiff, Int.reduceLT, Int.reduceAdd, Int.reduceEq, Int.reduceToNat, s_draw] <;> rfl)); (try (change Gets _ _ _ _ _ _; repeat refine Gets.seq ?_))
    refine Gets.ret Tryz.tabOk ?_
    exact fin_pure rfl (by simp (disch := decide) only [sxL, Tryz.f4, resultA]) hgrow hN trivial
  refine Gets.last Tryz.tabOk (ov := noOv) (noOv_ok) 8 (s' := ?sn30) ?hn30 ?kn30; (case hn30 => (simp -implicitDefEqProofs (disch := first | (simp only [ne_eq, Nat.reduceEqDiff, not_false_eq_true, Nat.reduceLT]; done) | assumption | (simp only [s_push_next, s_put_next, Nat.beq_refl]; done) | ((try simp only [s_push_next, s_put_next]) <;> omega) | exact s_one_map _ | exact s_one_slice _ _ _ _ _ | (refine (id ?_ : plainDraw _ = true); kernel_rfl) | fail) only [sxL, s_castN, s_cells_one, noOv, callFn, kindOf, kindC, kindB, unA, boxA, loadPtr, nilCheckA, fst1, ofValue, ofScalar, len, intBin, ibin, boolO, guardA, cCond, condV, cRet, cExit, cSkip, resOut, resultA, extractA, tupleO, Nat.reduceEqDiff, Nat.reduceAdd, Nat.reduceSub, Nat.reduceLT, Nat.reduceBEq, reduceCtorEq, Nat.reduceMod, Nat.reduceLeDiff, Int.reduceLT, Int.reduceAdd, Int.reduceEq, Int.reduceToNat, s_draw, j9, hpl9, h60] <;> rfl)); (try (change Gets _ _ _ _ _ _; repeat refine Gets.seq ?_))
  refine Gets.condF (by simp (disch := decide) only [sxL]) (Gets.skip Tryz.tabOk ?_)
  change Gets _ _ _ _ _ _
  repeat refine Gets.seq ?_
  refine Gets.last Tryz.tabOk (ov := noOv) (noOv_ok) 8 (s' := ?sn31) ?hn31 ?kn31; (case hn31 => (simp -implicitDefEqProofs (disch := first | (simp only [ne_eq, Nat.reduceEqDiff, not_false_eq_true, Nat.reduceLT]; done) | assumption | (simp only [s_push_next, s_put_next, Nat.beq_refl]; done) | ((try simp only [s_push_next, s_put_next]) <;> omega) | exact s_one_map _ | exact s_one_slice _ _ _ _ _ | (refine (id ?_ : plainDraw _ = true); kernel_rfl) | fail) only [sxL, s_castN, s_cells_one, noOv, callFn, kindOf, kindC, kindB, unA, boxA, loadPtr, nilCheckA, fst1, ofValue, ofScalar, len, intBin, ibin, boolO, guardA, cCond, condV, cRet, cExit, cSkip, resOut, resultA, extractA, tupleO, Nat.reduceEqDiff, Nat.reduceAdd, Nat.reduceSub, Nat.reduceLT, Nat.reduceBEq, reduceCtorEq, Nat.reduceMod, Nat.reduceLeDiff, Int.reduceLT, Int.reduceAdd, Int.reduceEq, Int.reduceToNat, s_draw] <;> rfl)); (try (change Gets _ _ _ _ _ _; repeat refine Gets.seq ?_))
  refine Gets.upto pre.length (fun i tm => tm.get 1 = some w ∧ tm.get 9 = some (outV dq (intL pre)) ∧ tm.get 13 = some (.int .i64 (i : Int)))
    ⟨by simp (disch := decide) only [sxL, j1], by simp (disch := decide) only [sxL, j9], by simp (disch := decide) only [sxL]⟩ ?_
  rintro i tm hi ⟨k1, k9, k13⟩
  repeat refine Gets.seq ?_
  by_cases hli : (i : Int) < (pre.length : Int)
  · have hwi : awrap .i64 ((i : Int) + 1) = (i : Int) + 1 := s_wrap (by omega) (by omega)
    obtain ⟨si, hsi⟩ : ∃ k, pre[i]? = some k := ⟨_, List.getElem?_eq_getElem (by omega)⟩
    have hpne : pre ≠ [] := fun e => by rw [e] at hsi; simp at hsi
    obtain ⟨e1, e2, e3⟩ := hq hpne
    have hixi := outV_at dq (intL pre) (i := i) (by rw [intL_len]; omega)
    have hci : cellIn (h.blks.get dq) i = some (.int .i64 si) := by rw [e1, s_cellIn]; exact intL_at hsi
    refine Gets.last Tryz.tabOk (ov := noOv) (noOv_ok) 8 (s' := ?sn32) ?hn32 ?kn32; (case hn32 => (simp -implicitDefEqProofs (disch := first | (simp only [ne_eq, Nat.reduceEqDiff, not_false_eq_true, Nat.reduceLT]; done) | assumption | (simp only [s_push_next, s_put_next, Nat.beq_refl]; done) | ((try simp only [s_push_next, s_put_next]) <;> omega) | exact s_one_map _ | exact s_one_slice _ _ _ _ _ | (refine (id ?_ : plainDraw _ = true); kernel_rfl) | fail) only [sxL, s_castN, s_cells_one, noOv, callFn, kindOf, kindC, kindB, unA, boxA, loadPtr, nilCheckA, fst1, ofValue, ofScalar, len, intBin, ibin, boolO, guardA, cCond, condV, cRet, cExit, cSkip, resOut, resultA, extractA, tupleO, Nat.reduceEqDiff, Nat.reduceAdd, Nat.reduceSub, Nat.reduceLT, Nat.reduceBEq, reduceCtorEq, Nat.reduceMod, Nat.reduceLeDiff, Int.reduceLT, Int.reduceAdd, Int.reduceEq, Int.reduceToNat, s_draw, k9, k13, hpl9, hli] <;> rfl)); (try (change Gets _ _ _ _ _ _; repeat refine Gets.seq ?_))
    refine Gets.condT (by simp (disch := decide) only [sxL]) (Gets.skip Tryz.tabOk ?_)
    change Gets _ _ _ _ _ _
    refine Gets.seq (Gets.blk ?_)
    repeat refine Gets.seq ?_
    refine Gets.last Tryz.tabOk (ov := noOv) (noOv_ok) 8 (s' := ?sn33) ?hn33 ?kn33; (case hn33 => (simp -implicitDefEqProofs (disch := first | (simp only [ne_eq, Nat.reduceEqDiff, not_false_eq_true, Nat.reduceLT]; done) | assumption | (simp only [s_push_next, s_put_next, Nat.beq_refl]; done) | ((try simp only [s_push_next, s_put_next]) <;> omega) | exact s_one_map _ | exact s_one_slice _ _ _ _ _ | (refine (id ?_ : plainDraw _ = true); kernel_rfl) | fail) only [sxL, s_castN, s_cells_one, noOv, callFn, kindOf, kindC, kindB, unA, boxA, loadPtr, nilCheckA, fst1, ofValue, ofScalar, len, intBin, ibin, boolO, guardA, cCond, condV, cRet, cExit, cSkip, resOut, resultA, extractA, tupleO, Nat.reduceEqDiff, Nat.reduceAdd, Nat.reduceSub, Nat.reduceLT, Nat.reduceBEq, reduceCtorEq, Nat.reduceMod, Nat.reduceLeDiff, Int.reduceLT, Int.reduceAdd, Int.reduceEq, Int.reduceToNat, s_draw, k13, hwi] <;> rfl)); (try (change Gets _ _ _ _ _ _; repeat refine Gets.seq ?_))
    refine Gets.upto (pre.length - (i + 1)) (fun j tm => tm.get 1 = some w ∧ tm.get 9 = some (outV dq (intL pre)) ∧ tm.get 13 = some (.int .i64 (i : Int)) ∧ tm.get 14 = some (.int .i64 ((i + 1 + j : Nat) : Int)))
      ⟨by simp (disch := decide) only [sxL, k1], by simp (disch := decide) only [sxL, k9], by simp (disch := decide) only [sxL, k13], by simp (disch := decide) only [sxL]; rfl⟩ ?_
    rintro j tm hj ⟨m1, m9, m13, m14⟩
    repeat refine Gets.seq ?_
    generalize hkk : i + 1 + j = kk at m14
    by_cases hlk : (kk : Int) < (pre.length : Int)
    · obtain ⟨sk, hsk⟩ : ∃ k, pre[kk]? = some k := ⟨_, List.getElem?_eq_getElem (by omega)⟩
      have hixk := outV_at dq (intL pre) (i := kk) (by rw [intL_len]; omega)
      have hck : cellIn (h.blks.get dq) kk = some (.int .i64 sk) := by rw [e1, s_cellIn]; exact intL_at hsk
      have hnb := pairwise_at hpw (show i < kk by omega) hsi hsk
      obtain ⟨bk, ee, hov, hno⟩ := orderV_no hR hnb
      have hord := order_run h w evs sk si hwh hGH hNh (by omega)
      rw [hov] at hord
      have hwk : awrap .i64 ((kk : Int) + 1) = (kk : Int) + 1 := s_wrap (by omega) (by omega)
      refine Gets.last Tryz.tabOk (ov := noOv) (noOv_ok) 8 (s' := ?sn34) ?hn34 ?kn34; (case hn34 => (simp -implicitDefEqProofs (disch := first | (simp only [ne_eq, Nat.reduceEqDiff, not_false_eq_true, Nat.reduceLT]; done) | assumption | (simp only [s_push_next, s_put_next, Nat.beq_refl]; done) | ((try simp only [s_push_next, s_put_next]) <;> omega) | exact s_one_map _ | exact s_one_slice _ _ _ _ _ | (refine (id ?_ : plainDraw _ = true); kernel_rfl) | fail) only [sxL, s_castN, s_cells_one, noOv, callFn, kindOf, kindC, kindB, unA, boxA, loadPtr, nilCheckA, fst1, ofValue, ofScalar, len, intBin, ibin, boolO, guardA, cCond, condV, cRet, cExit, cSkip, resOut, resultA, extractA, tupleO, Nat.reduceEqDiff, Nat.reduceAdd, Nat.reduceSub, Nat.reduceLT, Nat.reduceBEq, reduceCtorEq, Nat.reduceMod, Nat.reduceLeDiff, Int.reduceLT, Int.reduceAdd, Int.reduceEq, Int.reduceToNat, s_draw, m9, m14, hpl9, hlk] <;> rfl)); (try (change Gets _ _ _ _ _ _; repeat refine Gets.seq ?_))
      refine Gets.condT (by simp (disch := decide) only [sxL]) (Gets.skip Tryz.tabOk ?_)
      change Gets _ _ _ _ _ _
      refine Gets.seq (Gets.blk ?_)
      repeat refine Gets.seq ?_
      refine Gets.last Tryz.tabOk (ov := ptO noOv 12 [w, .int .i64 sk, .int .i64 si] h [(.tuple [.bool bk, .int .i64 ee], h)]) (ptO_ok noOv_ok hord) 8 (s' := ?sn35) ?hn35 ?kn35; (case hn35 => (simp -implicitDefEqProofs (disch := first | (simp only [ne_eq, Nat.reduceEqDiff, not_false_eq_true, Nat.reduceLT]; done) | assumption | (simp only [s_push_next, s_put_next, Nat.beq_refl]; done) | ((try simp only [s_push_next, s_put_next]) <;> omega) | exact s_one_map _ | exact s_one_slice _ _ _ _ _ | (refine (id ?_ : plainDraw _ = true); kernel_rfl) | fail) only [sxL, s_castN, s_cells_one, noOv, callFn, kindOf, kindC, kindB, unA, boxA, loadPtr, nilCheckA, fst1, ofValue, ofScalar, len, intBin, ibin, boolO, guardA, cCond, condV, cRet, cExit, cSkip, resOut, resultA, extractA, tupleO, Nat.reduceEqDiff, Nat.reduceAdd, Nat.reduceSub, Nat.reduceLT, Nat.reduceBEq, reduceCtorEq, Nat.reduceMod, Nat.reduceLeDiff, Int.reduceLT, Int.reduceAdd, Int.reduceEq, Int.reduceToNat, s_draw, m1, m9, m13, m14, hixk, hixi, s_varFalse ia3, hck, hci] <;> rfl)); (try (change Gets _ _ _ _ _ _; repeat refine Gets.seq ?_))
      by_cases hee : ee = 0
      · have hbk := hno hee
        refine Gets.last Tryz.tabOk (ov := noOv) (noOv_ok) 8 (s' := ?sn36) ?hn36 ?kn36; (case hn36 => (simp -implicitDefEqProofs (disch := first | (simp only [ne_eq, Nat.reduceEqDiff, not_false_eq_true, Nat.reduceLT]; done) | assumption | (simp only [s_push_next, s_put_next, Nat.beq_refl]; done) | ((try simp only [s_push_next, s_put_next]) <;> omega) | exact s_one_map _ | exact s_one_slice _ _ _ _ _ | (refine (id ?_ : plainDraw _ = true); kernel_rfl) | fail) only [sxL, s_castN, s_cells_one, noOv, callFn, kindOf, kindC, kindB, unA, boxA, loadPtr, nilCheckA, fst1, ofValue, ofScalar, len, intBin, ibin, boolO, guardA, cCond, condV, cRet, cExit, cSkip, resOut, resultA, extractA, tupleO, Nat.reduceEqDiff, Nat.reduceAdd, Nat.reduceSub, Nat.reduceLT, Nat.reduceBEq, reduceCtorEq, Nat.reduceMod, Nat.reduceLeDiff, Int.reduceLT, Int.reduceAdd, Int.reduceEq, Int.reduceToNat, s_draw, hee, hbk] <;> rfl)); (try (change Gets _ _ _ _ _ _; repeat refine Gets.seq ?_))
        refine Gets.condF (by simp (disch := decide) only [sxL]) (Gets.skip Tryz.tabOk ?_)
        change Gets _ _ _ _ _ _
        refine Gets.last Tryz.tabOk (ov := noOv) (noOv_ok) 8 (s' := ?sn37) ?hn37 ?kn37; (case hn37 => (simp -implicitDefEqProofs (disch := first | (simp only [ne_eq, Nat.reduceEqDiff, not_false_eq_true, Nat.reduceLT]; done) | assumption | (simp only [s_push_next, s_put_next, Nat.beq_refl]; done) | ((try simp only [s_push_next, s_put_next]) <;> omega) | exact s_one_map _ | exact s_one_slice _ _ _ _ _ | (refine (id ?_ : plainDraw _ = true); kernel_rfl) | fail) only [sxL, s_castN, s_cells_one, noOv, callFn, kindOf, kindC, kindB, unA, boxA, loadPtr, nilCheckA, fst1, ofValue, ofScalar, len, intBin, ibin, boolO, guardA, cCond, condV, cRet, cExit, cSkip, resOut, resultA, extractA, tupleO, Nat.reduceEqDiff, Nat.reduceAdd, Nat.reduceSub, Nat.reduceLT, Nat.reduceBEq, reduceCtorEq, Nat.reduceMod, Nat.reduceLeDiff, Int.reduceLT, Int.reduceAdd, Int.reduceEq, Int.reduceToNat, s_draw, m14, hwk] <;> rfl)); (try (change Gets _ _ _ _ _ _; repeat refine Gets.seq ?_))
        refine ⟨_, rfl, by omega, ?_, ?_, ?_, ?_⟩
        · simp (disch := decide) only [sxL, m1]
        · simp (disch := decide) only [sxL, m9]
        · simp (disch := decide) only [sxL, m13]
        · rw [show i + 1 + (j + 1) = kk + 1 by omega]; simp (disch := decide) only [sxL, s_castS]
      · refine Gets.last Tryz.tabOk (ov := noOv) (noOv_ok) 8 (s' := ?sn38) ?hn38 ?kn38; (case hn38 => (simp -implicitDefEqProofs (disch := first | (simp only [ne_eq, Nat.reduceEqDiff, not_false_eq_true, Nat.reduceLT]; done) | assumption | (simp only [s_push_next, s_put_next, Nat.beq_refl]; done) | ((try simp only [s_push_next, s_put_next]) <;> omega) | exact s_one_map _ | exact s_one_slice _ _ _ _ _ | (refine (id ?_ : plainDraw _ = true); kernel_rfl) | fail) only [sxL, s_castN, s_cells_one, noOv, callFn, kindOf, kindC, kindB, unA, boxA, loadPtr, nilCheckA, fst1, ofValue, ofScalar, len, intBin, ibin, boolO, guardA, cCond, condV, cRet, cExit, cSkip, resOut, resultA, extractA, tupleO, Nat.reduceEqDiff, Nat.reduceAdd, Nat.reduceSub, Nat.reduceLT, Nat.reduceBEq, reduceCtorEq, Nat.reduceMod, Nat.reduceLeDiff, Int.reduceLT, Int.reduceAdd, Int.reduceEq, Int.reduceToNat, s_draw, hee] <;> rfl)); (try (change Gets _ _ _ _ _ _; repeat refine Gets.seq ?_))
        refine Gets.condF (by simp (disch := decide) only [sxL]) (Gets.skip Tryz.tabOk ?_)
        change Gets _ _ _ _ _ _
        refine Gets.last Tryz.tabOk (ov := noOv) (noOv_ok) 8 (s' := ?sn39) ?hn39 ?kn39; (case hn39 => (simp -implicitDefEqProofs (disch := first | (simp only [ne_eq, Nat.reduceEqDiff, not_false_eq_true, Nat.reduceLT]; done) | assumption | (simp only [s_push_next, s_put_next, Nat.beq_refl]; done) | ((try simp only [s_push_next, s_put_next]) <;> omega) | exact s_one_map _ | exact s_one_slice _ _ _ _ _ | (refine (id ?_ : plainDraw _ = true); kernel_rfl) | fail) only [sxL, s_castN, s_cells_one, noOv, callFn, kindOf, kindC, kindB, unA, boxA, loadPtr, nilCheckA, fst1, ofValue, ofScalar, len, intBin, ibin, boolO, guardA, cCond, condV, cRet, cExit, cSkip, resOut, resultA, extractA, tupleO, Nat.reduceEqDiff, Nat.reduceAdd, Nat.reduceSub, Nat.reduceLT, Nat.reduceBEq, reduceCtorEq, Nat.reduceMod, Nat.reduceLeDiff, Int.reduceLT, Int.reduceAdd, Int.reduceEq, Int.reduceToNat, s_draw, m14, hwk] <;> rfl)); (try (change Gets _ _ _ _ _ _; repeat refine Gets.seq ?_))
        refine ⟨_, rfl, by omega, ?_, ?_, ?_, ?_⟩
        · simp (disch := decide) only [sxL, m1]
        · simp (disch := decide) only [sxL, m9]
        · simp (disch := decide) only [sxL, m13]
        · rw [show i + 1 + (j + 1) = kk + 1 by omega]; simp (disch := decide) only [sxL, s_castS]
    · refine Gets.last Tryz.tabOk (ov := noOv) (noOv_ok) 8 (s' := ?sn40) ?hn40 ?kn40; (case hn40 => (simp -implicitDefEqProofs (disch := first | (simp only [ne_eq, Nat.reduceEqDiff, not_false_eq_true, Nat.reduceLT]; done) | assumption | (simp only [s_push_next, s_put_next, Nat.beq_refl]; done) | ((try simp only [s_push_next, s_put_next]) <;> omega) | exact s_one_map _ | exact s_one_slice _ _ _ _ _ | (refine (id ?_ : plainDraw _ = true); kernel_rfl) | fail) only [sxL, s_castN, s_cells_one, noOv, callFn, kindOf, kindC, kindB, unA, boxA, loadPtr, nilCheckA, fst1, ofValue, ofScalar, len, intBin, ibin, boolO, guardA, cCond, condV, cRet, cExit, cSkip, resOut, resultA, extractA, tupleO, Nat.reduceEqDiff, Nat.reduceAdd, Nat.reduceSub, Nat.reduceLT, Nat.reduceBEq, reduceCtorEq, Nat.reduceMod, Nat.reduceLeDiff, Int.reduceLT, Int.reduceAdd, Int.reduceEq, Int.reduceToNat, s_draw, m9, m14, hpl9, hlk] <;> rfl)); (try (change Gets _ _ _ _ _ _; repeat refine Gets.seq ?_))
      refine Gets.condF (by simp (disch := decide) only [sxL]) (Gets.exit Tryz.tabOk ?_)
      refine inBlk_exit ?_
      change Gets _ _ _ _ _ _
      refine Gets.last Tryz.tabOk (ov := noOv) (noOv_ok) 8 (s' := ?sn41) ?hn41 ?kn41; (case hn41 => (simp -implicitDefEqProofs (disch := first | (simp only [ne_eq, Nat.reduceEqDiff, not_false_eq_true, Nat.reduceLT]; done) | assumption | (simp only [s_push_next, s_put_next, Nat.beq_refl]; done) | ((try simp only [s_push_next, s_put_next]) <;> omega) | exact s_one_map _ | exact s_one_slice _ _ _ _ _ | (refine (id ?_ : plainDraw _ = true); kernel_rfl) | fail) only [sxL, s_castN, s_cells_one, noOv, callFn, kindOf, kindC, kindB, unA, boxA, loadPtr, nilCheckA, fst1, ofValue, ofScalar, len, intBin, ibin, boolO, guardA, cCond, condV, cRet, cExit, cSkip, resOut, resultA, extractA, tupleO, Nat.reduceEqDiff, Nat.reduceAdd, Nat.reduceSub, Nat.reduceLT, Nat.reduceBEq, reduceCtorEq, Nat.reduceMod, Nat.reduceLeDiff, Int.reduceLT, Int.reduceAdd, Int.reduceEq, Int.reduceToNat, s_draw, m13, hwi] <;> rfl)); (try (change Gets _ _ _ _ _ _; repeat refine Gets.seq ?_))
      refine ⟨_, rfl, by omega, ?_, ?_, ?_⟩
      · simp (disch := decide) only [sxL, m1]
      · simp (disch := decide) only [sxL, m9]
      · simp (disch := decide) only [sxL, s_castS]
  · refine Gets.last Tryz.tabOk (ov := noOv) (noOv_ok) 8 (s' := ?sn42) ?hn42 ?kn42; (case hn42 => (simp -implicitDefEqProofs (disch := first | (simp only [ne_eq, Nat.reduceEqDiff, not_false_eq_true, Nat.reduceLT]; done) | assumption | (simp only [s_push_next, s_put_next, Nat.beq_refl]; done) | ((try simp only [s_push_next, s_put_next]) <;> omega) | exact s_one_map _ | exact s_one_slice _ _ _ _ _ | (refine (id ?_ : plainDraw _ = true); kernel_rfl) | fail) only [sxL, s_castN, s_cells_one, noOv, callFn, kindOf, kindC, kindB, unA, boxA, loadPtr, nilCheckA, fst1, ofValue, ofScalar, len, intBin, ibin, boolO, guardA, cCond, condV, cRet, cExit, cSkip, resOut, resultA, extractA, tupleO, Nat.reduceEqDiff, Nat.reduceAdd, Nat.reduceSub, Nat.reduceLT, Nat.reduceBEq, reduceCtorEq, Nat.reduceMod, Nat.reduceLeDiff, Int.reduceLT, Int.reduceAdd, Int.reduceEq, Int.reduceToNat, s_draw, k9, k13, hpl9, hli] <;> rfl)); (try (change Gets _ _ _ _ _ _; repeat refine Gets.seq ?_))
    refine Gets.condF (by simp (disch := decide) only [sxL]) (Gets.exit Tryz.tabOk ?_)
    refine inBlk_exit ?_
    change Gets _ _ _ _ _ _
    refine Gets.seq ?_
    refine Gets.last Tryz.tabOk (ov := ptO noOv 8 [] h [(.bool true, h)]) (ptO_ok noOv_ok hWh) 8 (s' := ?sn43) ?hn43 ?kn43; (case hn43 => (simp -implicitDefEqProofs (disch := first | (simp only [ne_eq, Nat.reduceEqDiff, not_false_eq_true, Nat.reduceLT]; done) | assumption | (simp only [s_push_next, s_put_next, Nat.beq_refl]; done) | ((try simp only [s_push_next, s_put_next]) <;> omega) | exact s_one_map _ | exact s_one_slice _ _ _ _ _ | (refine (id ?_ : plainDraw _ = true); kernel_rfl) | fail) only [sxL, s_castN, s_cells_one, noOv, callFn, kindOf, kindC, kindB, unA, boxA, loadPtr, nilCheckA, fst1, ofValue, ofScalar, len, intBin, ibin, boolO, guardA, cCond, condV, cRet, cExit, cSkip, resOut, resultA, extractA, tupleO, Nat.reduceEqDiff, Nat.reduceAdd, Nat.reduceSub, Nat.reduceLT, Nat.reduceBEq, reduceCtorEq, Nat.reduceMod, Nat.reduceLeDiff, Int.reduceLT, Int.reduceAdd, Int.reduceEq, Int.reduceToNat, s_draw] <;> rfl)); (try (change Gets _ _ _ _ _ _; repeat refine Gets.seq ?_))
    refine Gets.ret Tryz.tabOk ?_
    exact fin_pure rfl (by simp (disch := decide) only [sxL, Tryz.f4, resultA]) hgrow hN trivial
end Go.Proofs
