/-
  Merge and Order, walked; the document's own functions: what a command and a reply have to be.
-/
import Derived.Test.YtdadmlonndnppaaGreatDoorOrE
import Derived.Test.YtdadmlonndnppaaGreatDoorMgA
set_option linter.unusedSimpArgs false
set_option linter.unusedVariables false
namespace Go.Proofs
open Go.Sx
set_option maxRecDepth 100000
theorem recHeap_grows (H : Heap) (v : AV) (c r : List (Int × Int)) : Grows H (recHeap H v c r) := (Grows.push _ _).trans ((Grows.push _ _).trans (.push _ _))
theorem recHeap_neat {H : Heap} (hN : Neat H) (v : AV) (c r : List (Int × Int)) : Neat (recHeap H v c r) := ((hN.push _).push _).push _
theorem recHeap_rec (H : Heap) (v : AV) (c r : List (Int × Int)) : RecP (recHeap H v c r) (H.next + 2) c r := by
  refine ⟨v, H.next, H.next + 1, s_push_same ((H.push (mapB c)).push (mapB r)) _, ?_, ?_⟩
  · unfold recHeap
    rw [s_push_other _ _ (by simp only [s_push_next]; omega), s_push_other _ _ (by simp only [s_push_next]; omega), s_push_same]
  · unfold recHeap
    rw [s_push_other _ _ (by simp only [s_push_next]; omega)]; exact s_push_same (H.push (mapB c)) _
theorem outH_grows {H : Heap} {d : Nat} (hd : H.next ≤ d) (l : List AV) : Grows H (outH H d l) := by
  cases l with
  | nil => exact .refl H
  | cons a l => exact oneMore_grows hd _
theorem outH_neat {H : Heap} (hN : Neat H) {d : Nat} (hd : H.next ≤ d) (l : List AV) : Neat (outH H d l) := by
  cases l with
  | nil => exact hN
  | cons a l => exact oneMore_neat hN hd _
theorem outH_get (H : Heap) (d : Nat) {l : List AV} (h : l ≠ []) : (outH H d l).blks.get d = some (.cells 3 false l) ∧ d < (outH H d l).next := by
  cases l with
  | nil => exact absurd rfl h
  | cons a l => exact ⟨by show (oneMore H d (a :: l)).blks.get d = _; rw [oneMore_get, if_pos rfl], Nat.lt_succ_self d⟩
noncomputable def MergeQ (H : Heap) (d : Nat) (l : List LogV) (evs : List EvV) : VH :=
  match readGo evs 0 [] [] with
  | .inr _ => (.tuple [.nilslice, .bool false, .int .i64 10], H)
  | .inl (c, r) => if 8 < (l.length : Int) then (.tuple [.nilslice, .bool false, .int .i64 12], H) else
    match mergeR c r (callsL l) with
    | none => (.tuple [.nilslice, .bool false, .int .i64 0], H)
    | some o => (.tuple [outV d (natL o), .bool true, .int .i64 0], outH H d (natL o))
theorem Merge_run (H : Heap) (v w : AV) (l : List LogV) (evs : List EvV) (hv : LogsAt H v l) (hw : EvsAt H w evs) (hG : GlobAt H) (hN : Neat H) (hm : evs.length ≤ 1000) (h8 : l.length ≤ 10) (h40 : ∀ x ∈ l, x.l.length ≤ 40) :
    ∃ d, H.next ≤ d ∧ CallTo Tryz.prog Tryz.tab 9 [v, w] H [MergeQ H d l evs] := by
  have hread := read_run evs hm w H hw hG hN
  cases hR : readGo evs 0 [] [] with
  | inr i =>
    rw [hR] at hread
    refine ⟨H.next, Nat.le_refl _, ?_⟩
    have e : MergeQ H H.next l evs = (.tuple [.nilslice, .bool false, .int .i64 10], H) := by simp [MergeQ, hR]
    rw [e]
    have hread : CallTo Tryz.prog Tryz.tab 23 [w] H [(.tuple [.nilptr, .int .i64 (i : Int), .int .i64 10], H)] := hread
    refine callTo_pure (n := 20) Tryz.tabOk (ptO_ok noOv_ok hread) (H' := H) ?_ (.refl _) hN ⟨trivial, trivial, trivial, trivial⟩
    rw [s_callO, s_ptNe _ (by decide), s_callB, get9]
    simp -implicitDefEqProofs (disch := first | (simp only [ne_eq, Nat.reduceEqDiff, not_false_eq_true, Nat.reduceLT]; done) | assumption | (simp only [s_push_next, s_put_next, Nat.beq_refl]; done) | ((try simp only [s_push_next, s_put_next]) <;> omega) | exact s_one_map _ | exact s_one_slice _ _ _ _ _ | (refine (id ?_ : plainDraw _ = true); kernel_rfl) | fail) only [sxL, s_castN, s_cells_one, noOv, callFn, kindOf, kindC, kindB, unA, boxA, loadPtr, nilCheckA, fst1, ofValue, ofScalar, len, intBin, ibin, boolO, guardA, cCond, condV, cRet, cExit, cSkip, resOut, resultA, extractA, tupleO, Nat.reduceEqDiff, Nat.reduceAdd, Nat.reduceSub, Nat.reduceLT, Nat.reduceBEq, reduceCtorEq, Nat.reduceMod, Nat.reduceLeDiff, Int.reduceLT, Int.reduceAdd, Int.reduceEq, Int.reduceToNat, Tryz.f9, noOv]
  | inl p =>
    obtain ⟨c, r⟩ := p
    rw [hR] at hread
    have hread : CallTo Tryz.prog Tryz.tab 23 [w] H [(.tuple [.ptr (H.next + 2) 0, .int .i64 0, .int .i64 0], recHeap H w c r)] := hread
    have hg1 := recHeap_grows H w c r
    have hN1 := recHeap_neat hN w c r
    have hr1 := recHeap_rec H w c r
    have hv1 := hv.grow hN hg1
    have hmany := many_run l v (recHeap H w c r) hv1 hN1 (by omega) h40
    by_cases h8' : 8 < (l.length : Int)
    · refine ⟨H.next, Nat.le_refl _, ?_⟩
      have e : MergeQ H H.next l evs = (.tuple [.nilslice, .bool false, .int .i64 12], H) := by simp only [MergeQ, hR, h8', if_true]
      rw [e]
      rw [if_pos h8'] at hmany
      refine callTo_pure (n := 20) Tryz.tabOk (ptO_ok (ptO_ok noOv_ok hread) hmany) (H' := recHeap H w c r) ?_ hg1 hN ⟨trivial, trivial, trivial, trivial⟩
      rw [s_callO, s_ptNe _ (by decide), s_ptNe _ (by decide), s_callB, get9]
      simp -implicitDefEqProofs (disch := first | (simp only [ne_eq, Nat.reduceEqDiff, not_false_eq_true, Nat.reduceLT]; done) | assumption | (simp only [s_push_next, s_put_next, Nat.beq_refl]; done) | ((try simp only [s_push_next, s_put_next]) <;> omega) | exact s_one_map _ | exact s_one_slice _ _ _ _ _ | (refine (id ?_ : plainDraw _ = true); kernel_rfl) | fail) only [sxL, s_castN, s_cells_one, noOv, callFn, kindOf, kindC, kindB, unA, boxA, loadPtr, nilCheckA, fst1, ofValue, ofScalar, len, intBin, ibin, boolO, guardA, cCond, condV, cRet, cExit, cSkip, resOut, resultA, extractA, tupleO, Nat.reduceEqDiff, Nat.reduceAdd, Nat.reduceSub, Nat.reduceLT, Nat.reduceBEq, reduceCtorEq, Nat.reduceMod, Nat.reduceLeDiff, Int.reduceLT, Int.reduceAdd, Int.reduceEq, Int.reduceToNat, Tryz.f9, noOv]
    · rw [if_neg h8'] at hmany
      obtain ⟨d, hd, hmerge⟩ := merge_run (recHeap H w c r) (H.next + 2) v l c r hr1 hv1 hN1 h8 h40
      have hd' : H.next ≤ d := Nat.le_trans hg1.next hd
      refine ⟨d, hd', ?_⟩
      cases hM : mergeR c r (callsL l) with
      | none =>
        have e : MergeQ H d l evs = (.tuple [.nilslice, .bool false, .int .i64 0], H) := by simp only [MergeQ, hR, h8', if_false, hM]
        rw [e]
        rw [hM] at hmerge
        have hmerge : CallTo Tryz.prog Tryz.tab 25 [.ptr (H.next + 2) 0, v] (recHeap H w c r) [(.tuple [.nilslice, .bool false], recHeap H w c r)] := hmerge
        refine callTo_pure (n := 20) Tryz.tabOk (ptO_ok (ptO_ok (ptO_ok noOv_ok hread) hmany) hmerge) (H' := recHeap H w c r) ?_ hg1 hN ⟨trivial, trivial, trivial, trivial⟩
        rw [s_callO, s_ptNe _ (by decide), s_ptNe _ (by decide), s_ptNe _ (by decide), s_callB, get9]
        simp -implicitDefEqProofs (disch := first | (simp only [ne_eq, Nat.reduceEqDiff, not_false_eq_true, Nat.reduceLT]; done) | assumption | (simp only [s_push_next, s_put_next, Nat.beq_refl]; done) | ((try simp only [s_push_next, s_put_next]) <;> omega) | exact s_one_map _ | exact s_one_slice _ _ _ _ _ | (refine (id ?_ : plainDraw _ = true); kernel_rfl) | fail) only [sxL, s_castN, s_cells_one, noOv, callFn, kindOf, kindC, kindB, unA, boxA, loadPtr, nilCheckA, fst1, ofValue, ofScalar, len, intBin, ibin, boolO, guardA, cCond, condV, cRet, cExit, cSkip, resOut, resultA, extractA, tupleO, Nat.reduceEqDiff, Nat.reduceAdd, Nat.reduceSub, Nat.reduceLT, Nat.reduceBEq, reduceCtorEq, Nat.reduceMod, Nat.reduceLeDiff, Int.reduceLT, Int.reduceAdd, Int.reduceEq, Int.reduceToNat, Tryz.f9, noOv]
      | some o =>
        have e : MergeQ H d l evs = (.tuple [outV d (natL o), .bool true, .int .i64 0], outH H d (natL o)) := by simp only [MergeQ, hR, h8', if_false, hM]
        rw [e]
        rw [hM] at hmerge
        have hmerge : CallTo Tryz.prog Tryz.tab 25 [.ptr (H.next + 2) 0, v] (recHeap H w c r) [(.tuple [outV d (natL o), .bool true], outH (recHeap H w c r) d (natL o))] := hmerge
        have hrun : (fnsO Tryz.tab (ptO (ptO (ptO noOv 23 [w] H [(.tuple [.ptr (H.next + 2) 0, .int .i64 0, .int .i64 0], recHeap H w c r)]) 24 [v] (recHeap H w c r) [(.int .i64 0, recHeap H w c r)]) 25 [.ptr (H.next + 2) 0, v] (recHeap H w c r) [(.tuple [outV d (natL o), .bool true], outH (recHeap H w c r) d (natL o))]) 20).call 9 [v, w] H =
            some [(.tuple [outV d (natL o), .bool true, .int .i64 0], outH (recHeap H w c r) d (natL o))] := by
          rw [s_callO, s_ptNe _ (by decide), s_ptNe _ (by decide), s_ptNe _ (by decide), s_callB, get9]
          simp -implicitDefEqProofs (disch := first | (simp only [ne_eq, Nat.reduceEqDiff, not_false_eq_true, Nat.reduceLT]; done) | assumption | (simp only [s_push_next, s_put_next, Nat.beq_refl]; done) | ((try simp only [s_push_next, s_put_next]) <;> omega) | exact s_one_map _ | exact s_one_slice _ _ _ _ _ | (refine (id ?_ : plainDraw _ = true); kernel_rfl) | fail) only [sxL, s_castN, s_cells_one, noOv, callFn, kindOf, kindC, kindB, unA, boxA, loadPtr, nilCheckA, fst1, ofValue, ofScalar, len, intBin, ibin, boolO, guardA, cCond, condV, cRet, cExit, cSkip, resOut, resultA, extractA, tupleO, Nat.reduceEqDiff, Nat.reduceAdd, Nat.reduceSub, Nat.reduceLT, Nat.reduceBEq, reduceCtorEq, Nat.reduceMod, Nat.reduceLeDiff, Int.reduceLT, Int.reduceAdd, Int.reduceEq, Int.reduceToNat, Tryz.f9, noOv]
        refine (callTo_run Tryz.tabOk (ptO_ok (ptO_ok (ptO_ok noOv_ok hread) hmany) hmerge) hrun).cut fun p hp => ?_
        rw [List.mem_singleton.1 hp]
        refine ⟨_, List.mem_singleton.2 rfl, cut_out hN (hg1.trans (outH_grows hd _)) (fun ho => ?_) ⟨trivial, trivial, trivial⟩⟩
        have ho' : natL o ≠ [] := fun e => ho (by cases o with
          | nil => rfl
          | cons a o => simp [natL] at e)
        obtain ⟨q1, q2⟩ := outH_get (recHeap H w c r) d ho'
        exact ⟨hd', q2, q1⟩
/-! Was a call answered before another one was made? -/
theorem build76 (a b : Int) : buildA Tryz.tab 76 [(0, .int .i64 a), (1, .int .i64 b)] = some (.agg [.int .i64 a, .int .i64 b]) := by kernel_rfl
theorem idx76_0 (a b : Int) : indexA Tryz.tab 76 (.agg [.int .i64 a, .int .i64 b]) (.int .i64 0) = some (.int .i64 a) := by kernel_rfl
theorem idx76_1 (a b : Int) : indexA Tryz.tab 76 (.agg [.int .i64 a, .int .i64 b]) (.int .i64 1) = some (.int .i64 b) := by kernel_rfl
theorem z_opIndex {G : Tab} (t : TypeId) (x i : Operand) (tm : T AV) (H : Heap) : opN (.index t x i) G tm H = withH H (bindO (aev G tm x) fun v => bindO (aev G tm i) fun j => indexA G t v j) := rfl
noncomputable def orderV (evs : List EvV) (a b : Int) : AV :=
  match readGo evs 0 [] [] with
  | .inr _ => .tuple [.bool false, .int .i64 10]
  | .inl (c, r) => if ¬ (mGet c a).isSome = true then .tuple [.bool false, .int .i64 3] else if ¬ (mGet c b).isSome = true then .tuple [.bool false, .int .i64 3] else .tuple [.bool (bfB c r a b), .int .i64 0]
theorem order_run (H : Heap) (w : AV) (evs : List EvV) (a b : Int) (hw : EvsAt H w evs) (hG : GlobAt H) (hN : Neat H) (hm : evs.length ≤ 1000) : CallTo Tryz.prog Tryz.tab 12 [w, .int .i64 a, .int .i64 b] H [(orderV evs a b, H)] := by
  have hread := read_run evs hm w H hw hG hN
  have w1 : awrap .i64 1 = 1 := rfl
  have w2 : awrap .i64 2 = 2 := rfl
  cases hR : readGo evs 0 [] [] with
  | inr i =>
    rw [hR] at hread
    have e : orderV evs a b = .tuple [.bool false, .int .i64 10] := by simp [orderV, hR]
    rw [e]
    have hread : CallTo Tryz.prog Tryz.tab 23 [w] H [(.tuple [.nilptr, .int .i64 (i : Int), .int .i64 10], H)] := hread
    refine callTo_pure (n := 20) Tryz.tabOk (ptO_ok noOv_ok hread) (H' := H) ?_ (.refl _) hN ⟨trivial, trivial, trivial⟩
    rw [s_callO, s_ptNe _ (by decide), s_callB, get12]
    simp -implicitDefEqProofs (disch := first | (simp only [ne_eq, Nat.reduceEqDiff, not_false_eq_true, Nat.reduceLT]; done) | assumption | (simp only [s_push_next, s_put_next, Nat.beq_refl]; done) | ((try simp only [s_push_next, s_put_next]) <;> omega) | exact s_one_map _ | exact s_one_slice _ _ _ _ _ | (refine (id ?_ : plainDraw _ = true); kernel_rfl) | fail) only [sxL, s_castN, s_cells_one, noOv, callFn, kindOf, kindC, kindB, unA, boxA, loadPtr, nilCheckA, fst1, ofValue, ofScalar, len, intBin, ibin, boolO, guardA, cCond, condV, cRet, cExit, cSkip, resOut, resultA, extractA, tupleO, Nat.reduceEqDiff, Nat.reduceAdd, Nat.reduceSub, Nat.reduceLT, Nat.reduceBEq, reduceCtorEq, Nat.reduceMod, Nat.reduceLeDiff, Int.reduceLT, Int.reduceAdd, Int.reduceEq, Int.reduceToNat, Tryz.f12, noOv]
  | inl p =>
    obtain ⟨c, r⟩ := p
    rw [hR] at hread
    have hread : CallTo Tryz.prog Tryz.tab 23 [w] H [(.tuple [.ptr (H.next + 2) 0, .int .i64 0, .int .i64 0], recHeap H w c r)] := hread
    have hg1 := recHeap_grows H w c r
    have hN1 := recHeap_neat hN w c r
    have hr1 := recHeap_rec H w c r
    have hb := before_run c r (H.next + 2) a b (recHeap H w c r) hr1 hN1
    obtain ⟨u, x, y, q1, q2, q3⟩ := hr1
    have r1 : cellIn ((recHeap H w c r).blks.get (H.next + 2)) 1 = some (.map x) := by rw [q1]; rfl
    by_cases ha : (mGet c a).isSome = true
    · by_cases hbb : (mGet c b).isSome = true
      · have e : orderV evs a b = .tuple [.bool (bfB c r a b), .int .i64 0] := by simp only [orderV, hR, ha, hbb, not_true_eq_false, if_false]
        rw [e]
        refine callTo_pure (n := 20) Tryz.tabOk (ptO_ok (ptO_ok noOv_ok hread) hb) (H' := recHeap H w c r) ?_ hg1 hN ⟨trivial, trivial, trivial⟩
        rw [s_callO, s_ptNe _ (by decide), s_ptNe _ (by decide), s_callB, get12]
        simp -implicitDefEqProofs (disch := first | (simp only [ne_eq, Nat.reduceEqDiff, not_false_eq_true, Nat.reduceLT]; done) | assumption | (simp only [s_push_next, s_put_next, Nat.beq_refl]; done) | ((try simp only [s_push_next, s_put_next]) <;> omega) | exact s_one_map _ | exact s_one_slice _ _ _ _ _ | (refine (id ?_ : plainDraw _ = true); kernel_rfl) | fail) only [sxL, s_castN, s_cells_one, noOv, callFn, kindOf, kindC, kindB, unA, boxA, loadPtr, nilCheckA, fst1, ofValue, ofScalar, len, intBin, ibin, boolO, guardA, cCond, condV, cRet, cExit, cSkip, resOut, resultA, extractA, tupleO, Nat.reduceEqDiff, Nat.reduceAdd, Nat.reduceSub, Nat.reduceLT, Nat.reduceBEq, reduceCtorEq, Nat.reduceMod, Nat.reduceLeDiff, Int.reduceLT, Int.reduceAdd, Int.reduceEq, Int.reduceToNat, Tryz.f12, noOv, build76, z_opIndex, idx76_0, idx76_1, fa80_1, s_varFalse ia78, r1, look78 q2, ha, hbb, w1, w2]
      · have e : orderV evs a b = .tuple [.bool false, .int .i64 3] := by simp [orderV, hR, ha, hbb]
        rw [e]
        refine callTo_pure (n := 20) Tryz.tabOk (ptO_ok (ptO_ok noOv_ok hread) hb) (H' := recHeap H w c r) ?_ hg1 hN ⟨trivial, trivial, trivial⟩
        rw [s_callO, s_ptNe _ (by decide), s_ptNe _ (by decide), s_callB, get12]
        simp -implicitDefEqProofs (disch := first | (simp only [ne_eq, Nat.reduceEqDiff, not_false_eq_true, Nat.reduceLT]; done) | assumption | (simp only [s_push_next, s_put_next, Nat.beq_refl]; done) | ((try simp only [s_push_next, s_put_next]) <;> omega) | exact s_one_map _ | exact s_one_slice _ _ _ _ _ | (refine (id ?_ : plainDraw _ = true); kernel_rfl) | fail) only [sxL, s_castN, s_cells_one, noOv, callFn, kindOf, kindC, kindB, unA, boxA, loadPtr, nilCheckA, fst1, ofValue, ofScalar, len, intBin, ibin, boolO, guardA, cCond, condV, cRet, cExit, cSkip, resOut, resultA, extractA, tupleO, Nat.reduceEqDiff, Nat.reduceAdd, Nat.reduceSub, Nat.reduceLT, Nat.reduceBEq, reduceCtorEq, Nat.reduceMod, Nat.reduceLeDiff, Int.reduceLT, Int.reduceAdd, Int.reduceEq, Int.reduceToNat, Tryz.f12, noOv, build76, z_opIndex, idx76_0, idx76_1, fa80_1, s_varFalse ia78, r1, look78 q2, ha, hbb, w1, w2]
    · have e : orderV evs a b = .tuple [.bool false, .int .i64 3] := by simp [orderV, hR, ha]
      rw [e]
      refine callTo_pure (n := 20) Tryz.tabOk (ptO_ok (ptO_ok noOv_ok hread) hb) (H' := recHeap H w c r) ?_ hg1 hN ⟨trivial, trivial, trivial⟩
      rw [s_callO, s_ptNe _ (by decide), s_ptNe _ (by decide), s_callB, get12]
      simp -implicitDefEqProofs (disch := first | (simp only [ne_eq, Nat.reduceEqDiff, not_false_eq_true, Nat.reduceLT]; done) | assumption | (simp only [s_push_next, s_put_next, Nat.beq_refl]; done) | ((try simp only [s_push_next, s_put_next]) <;> omega) | exact s_one_map _ | exact s_one_slice _ _ _ _ _ | (refine (id ?_ : plainDraw _ = true); kernel_rfl) | fail) only [sxL, s_castN, s_cells_one, noOv, callFn, kindOf, kindC, kindB, unA, boxA, loadPtr, nilCheckA, fst1, ofValue, ofScalar, len, intBin, ibin, boolO, guardA, cCond, condV, cRet, cExit, cSkip, resOut, resultA, extractA, tupleO, Nat.reduceEqDiff, Nat.reduceAdd, Nat.reduceSub, Nat.reduceLT, Nat.reduceBEq, reduceCtorEq, Nat.reduceMod, Nat.reduceLeDiff, Int.reduceLT, Int.reduceAdd, Int.reduceEq, Int.reduceToNat, Tryz.f12, noOv, build76, z_opIndex, idx76_0, idx76_1, fa80_1, s_varFalse ia78, r1, look78 q2, ha, w1, w2]
end Go.Proofs

namespace Go.Proofs
open Go.Sx
set_option maxRecDepth 100000
theorem get57 : Tryz.tab.funcs.get 57 = some Tryz.f57 := by kernel_rfl
theorem get58 : Tryz.tab.funcs.get 58 = some Tryz.f58 := by kernel_rfl
theorem get46 : Tryz.tab.funcs.get 46 = some Tryz.f46 := by kernel_rfl
theorem get43 : Tryz.tab.funcs.get 43 = some Tryz.f43 := by kernel_rfl
theorem get45 : Tryz.tab.funcs.get 45 = some Tryz.f45 := by kernel_rfl
theorem get44 : Tryz.tab.funcs.get 44 = some Tryz.f44 := by kernel_rfl
theorem get59 : Tryz.tab.funcs.get 59 = some Tryz.f59 := by kernel_rfl
theorem get47 : Tryz.tab.funcs.get 47 = some Tryz.f47 := by kernel_rfl
theorem get27 : Tryz.tab.funcs.get 27 = some Tryz.f27 := by kernel_rfl
theorem get28 : Tryz.tab.funcs.get 28 = some Tryz.f28 := by kernel_rfl
theorem get26 : Tryz.tab.funcs.get 26 = some Tryz.f26 := by kernel_rfl
theorem get10 : Tryz.tab.funcs.get 10 = some Tryz.f10 := by kernel_rfl
theorem get29 : Tryz.tab.funcs.get 29 = some Tryz.f29 := by kernel_rfl
theorem get11 : Tryz.tab.funcs.get 11 = some Tryz.f11 := by kernel_rfl
theorem get3 : Tryz.tab.funcs.get 3 = some Tryz.f3 := by kernel_rfl
theorem fewB_ok {l : List LogV} (h : fewB l = true) : l.length ≤ 10 ∧ ∀ x ∈ l, x.l.length ≤ 40 := by
  simp only [fewB, Bool.and_eq_true, Bool.not_eq_true', decide_eq_false_iff_not, List.all_eq_true] at h
  exact ⟨by omega, fun x hx => by have := (h.2 x hx).1; omega⟩
theorem shortB_ok {l : List EvV} {most : Int} (h : shortB l most = true) : (l.length : Int) ≤ most := by
  simp only [shortB, Bool.and_eq_true, Bool.not_eq_true', decide_eq_false_iff_not] at h
  omega
end Go.Proofs

namespace Go.Proofs
open Go.Sx
set_option maxRecDepth 100000
/-! The document's own functions: what a command and a reply have to be. -/
theorem refEq_run (c : CmdV) (ks : List (List UInt8)) (H : Heap) (hs : StepsAt H c.steps ks) (hN : Neat H) :
    CallTo Tryz.prog Tryz.tab 57 [.agg [.str c.name, .int .i64 c.retries, .int .i64 c.deadline, c.steps], .agg [.str [], .int .i64 0, .int .i64 0, .nilslice]] H [(.bool (defZ c ks.length), H)] := by
  have hone := hs.one
  have hlen := hs.len
  have hnil : ∀ H', lenA Tryz.tab H' 38 .nilslice = some (.int .i64 0) := fun H' => s_lenNil ud38 H'
  refine callTo_pure (v := .bool (defZ c ks.length)) (n := 8) Tryz.tabOk (ov := noOv) noOv_ok (H' := (H.push (.cells 40 true [.str c.name, .int .i64 c.retries, .int .i64 c.deadline, c.steps])).push (.cells 40 true [.str [], .int .i64 0, .int .i64 0, .nilslice])) ?_ ((Grows.push _ _).trans (.push _ _)) hN trivial
  have e : ∀ n : Nat, decide ((n : Int) = 0) = decide (n = 0) := fun n => by simp
  rw [s_callO, s_callB, get57]
  unfold defZ
  by_cases h1 : ¬ c.name = []
  · try simp only [Decidable.not_not] at h1
    simp -implicitDefEqProofs (disch := first | (simp only [ne_eq, Nat.reduceEqDiff, not_false_eq_true, Nat.reduceLT]; done) | assumption | (simp only [s_push_next, s_put_next, Nat.beq_refl]; done) | ((try simp only [s_push_next, s_put_next]) <;> omega) | exact s_one_map _ | exact s_one_slice _ _ _ _ _ | (refine (id ?_ : plainDraw _ = true); kernel_rfl) | fail) only [sxL, s_castN, s_cells_one, noOv, callFn, kindOf, kindC, kindB, unA, boxA, loadPtr, nilCheckA, fst1, ofValue, ofScalar, len, intBin, ibin, boolO, guardA, cCond, condV, cRet, cExit, cSkip, resOut, resultA, extractA, tupleO, Nat.reduceEqDiff, Nat.reduceAdd, Nat.reduceSub, Nat.reduceLT, Nat.reduceBEq, reduceCtorEq, Nat.reduceMod, Nat.reduceLeDiff, Int.reduceLT, Int.reduceAdd, Int.reduceEq, Int.reduceToNat, Tryz.f57, fa40_0, fa40_1, fa40_2, fa40_3, s_varFalse ia9, s_varFalse ia3, s_varFalse ia38, hone, hlen, hnil, sbin, s_sbeq, e, h1]
  · by_cases h2 : ¬ c.retries = 0
    · try simp only [Decidable.not_not] at h1 h2
      simp -implicitDefEqProofs (disch := first | (simp only [ne_eq, Nat.reduceEqDiff, not_false_eq_true, Nat.reduceLT]; done) | assumption | (simp only [s_push_next, s_put_next, Nat.beq_refl]; done) | ((try simp only [s_push_next, s_put_next]) <;> omega) | exact s_one_map _ | exact s_one_slice _ _ _ _ _ | (refine (id ?_ : plainDraw _ = true); kernel_rfl) | fail) only [sxL, s_castN, s_cells_one, noOv, callFn, kindOf, kindC, kindB, unA, boxA, loadPtr, nilCheckA, fst1, ofValue, ofScalar, len, intBin, ibin, boolO, guardA, cCond, condV, cRet, cExit, cSkip, resOut, resultA, extractA, tupleO, Nat.reduceEqDiff, Nat.reduceAdd, Nat.reduceSub, Nat.reduceLT, Nat.reduceBEq, reduceCtorEq, Nat.reduceMod, Nat.reduceLeDiff, Int.reduceLT, Int.reduceAdd, Int.reduceEq, Int.reduceToNat, Tryz.f57, fa40_0, fa40_1, fa40_2, fa40_3, s_varFalse ia9, s_varFalse ia3, s_varFalse ia38, hone, hlen, hnil, sbin, s_sbeq, e, h1, h2]
    · by_cases h3 : ¬ c.deadline = 0
      · try simp only [Decidable.not_not] at h1 h2 h3
        simp -implicitDefEqProofs (disch := first | (simp only [ne_eq, Nat.reduceEqDiff, not_false_eq_true, Nat.reduceLT]; done) | assumption | (simp only [s_push_next, s_put_next, Nat.beq_refl]; done) | ((try simp only [s_push_next, s_put_next]) <;> omega) | exact s_one_map _ | exact s_one_slice _ _ _ _ _ | (refine (id ?_ : plainDraw _ = true); kernel_rfl) | fail) only [sxL, s_castN, s_cells_one, noOv, callFn, kindOf, kindC, kindB, unA, boxA, loadPtr, nilCheckA, fst1, ofValue, ofScalar, len, intBin, ibin, boolO, guardA, cCond, condV, cRet, cExit, cSkip, resOut, resultA, extractA, tupleO, Nat.reduceEqDiff, Nat.reduceAdd, Nat.reduceSub, Nat.reduceLT, Nat.reduceBEq, reduceCtorEq, Nat.reduceMod, Nat.reduceLeDiff, Int.reduceLT, Int.reduceAdd, Int.reduceEq, Int.reduceToNat, Tryz.f57, fa40_0, fa40_1, fa40_2, fa40_3, s_varFalse ia9, s_varFalse ia3, s_varFalse ia38, hone, hlen, hnil, sbin, s_sbeq, e, h1, h2, h3]
      · by_cases h4 : ¬ ks.length = 0
        · try simp only [Decidable.not_not] at h1 h2 h3 h4
          simp -implicitDefEqProofs (disch := first | (simp only [ne_eq, Nat.reduceEqDiff, not_false_eq_true, Nat.reduceLT]; done) | assumption | (simp only [s_push_next, s_put_next, Nat.beq_refl]; done) | ((try simp only [s_push_next, s_put_next]) <;> omega) | exact s_one_map _ | exact s_one_slice _ _ _ _ _ | (refine (id ?_ : plainDraw _ = true); kernel_rfl) | fail) only [sxL, s_castN, s_cells_one, noOv, callFn, kindOf, kindC, kindB, unA, boxA, loadPtr, nilCheckA, fst1, ofValue, ofScalar, len, intBin, ibin, boolO, guardA, cCond, condV, cRet, cExit, cSkip, resOut, resultA, extractA, tupleO, Nat.reduceEqDiff, Nat.reduceAdd, Nat.reduceSub, Nat.reduceLT, Nat.reduceBEq, reduceCtorEq, Nat.reduceMod, Nat.reduceLeDiff, Int.reduceLT, Int.reduceAdd, Int.reduceEq, Int.reduceToNat, Tryz.f57, fa40_0, fa40_1, fa40_2, fa40_3, s_varFalse ia9, s_varFalse ia3, s_varFalse ia38, hone, hlen, hnil, sbin, s_sbeq, e, h1, h2, h3, h4]
        · try simp only [Decidable.not_not] at h1 h2 h3 h4
          simp -implicitDefEqProofs (disch := first | (simp only [ne_eq, Nat.reduceEqDiff, not_false_eq_true, Nat.reduceLT]; done) | assumption | (simp only [s_push_next, s_put_next, Nat.beq_refl]; done) | ((try simp only [s_push_next, s_put_next]) <;> omega) | exact s_one_map _ | exact s_one_slice _ _ _ _ _ | (refine (id ?_ : plainDraw _ = true); kernel_rfl) | fail) only [sxL, s_castN, s_cells_one, noOv, callFn, kindOf, kindC, kindB, unA, boxA, loadPtr, nilCheckA, fst1, ofValue, ofScalar, len, intBin, ibin, boolO, guardA, cCond, condV, cRet, cExit, cSkip, resOut, resultA, extractA, tupleO, Nat.reduceEqDiff, Nat.reduceAdd, Nat.reduceSub, Nat.reduceLT, Nat.reduceBEq, reduceCtorEq, Nat.reduceMod, Nat.reduceLeDiff, Int.reduceLT, Int.reduceAdd, Int.reduceEq, Int.reduceToNat, Tryz.f57, fa40_0, fa40_1, fa40_2, fa40_3, s_varFalse ia9, s_varFalse ia3, s_varFalse ia38, hone, hlen, hnil, sbin, s_sbeq, e, h1, h2, h3, h4]
theorem refReply_run (m : Nat) (e n : Int) (s : List UInt8) (H : Heap) : (fnsO Tryz.tab noOv (m+3)).call 58 [.agg [.int .i64 e, .int .i64 n, .str s]] H =
    some [(.int .i64 (checkReply e n s), H.push (.cells 49 true [.int .i64 e, .int .i64 n, .str s]))] := by
  rw [s_callO, s_callB, get58]
  unfold checkReply numCheck
  by_cases h1 : e < 0
  · simp -implicitDefEqProofs (disch := first | (simp only [ne_eq, Nat.reduceEqDiff, not_false_eq_true, Nat.reduceLT]; done) | assumption | (simp only [s_push_next, s_put_next, Nat.beq_refl]; done) | ((try simp only [s_push_next, s_put_next]) <;> omega) | exact s_one_map _ | exact s_one_slice _ _ _ _ _ | (refine (id ?_ : plainDraw _ = true); kernel_rfl) | fail) only [sxL, s_castN, s_cells_one, noOv, callFn, kindOf, kindC, kindB, unA, boxA, loadPtr, nilCheckA, fst1, ofValue, ofScalar, len, intBin, ibin, boolO, guardA, cCond, condV, cRet, cExit, cSkip, resOut, resultA, extractA, tupleO, Nat.reduceEqDiff, Nat.reduceAdd, Nat.reduceSub, Nat.reduceLT, Nat.reduceBEq, reduceCtorEq, Nat.reduceMod, Nat.reduceLeDiff, Int.reduceLT, Int.reduceAdd, Int.reduceEq, Int.reduceToNat, Tryz.f58, h1, fa49_0, fa49_1, fa49_2, s_varFalse ia28, s_varFalse ia2, s_varFalse ia9, s_lenStr ud9]
  · by_cases h2 : 18 < e
    · simp -implicitDefEqProofs (disch := first | (simp only [ne_eq, Nat.reduceEqDiff, not_false_eq_true, Nat.reduceLT]; done) | assumption | (simp only [s_push_next, s_put_next, Nat.beq_refl]; done) | ((try simp only [s_push_next, s_put_next]) <;> omega) | exact s_one_map _ | exact s_one_slice _ _ _ _ _ | (refine (id ?_ : plainDraw _ = true); kernel_rfl) | fail) only [sxL, s_castN, s_cells_one, noOv, callFn, kindOf, kindC, kindB, unA, boxA, loadPtr, nilCheckA, fst1, ofValue, ofScalar, len, intBin, ibin, boolO, guardA, cCond, condV, cRet, cExit, cSkip, resOut, resultA, extractA, tupleO, Nat.reduceEqDiff, Nat.reduceAdd, Nat.reduceSub, Nat.reduceLT, Nat.reduceBEq, reduceCtorEq, Nat.reduceMod, Nat.reduceLeDiff, Int.reduceLT, Int.reduceAdd, Int.reduceEq, Int.reduceToNat, Tryz.f58, h1, h2, fa49_0, fa49_1, fa49_2, s_varFalse ia28, s_varFalse ia2, s_varFalse ia9, s_lenStr ud9]
    · by_cases h3 : n < -1152921504606846976
      · simp -implicitDefEqProofs (disch := first | (simp only [ne_eq, Nat.reduceEqDiff, not_false_eq_true, Nat.reduceLT]; done) | assumption | (simp only [s_push_next, s_put_next, Nat.beq_refl]; done) | ((try simp only [s_push_next, s_put_next]) <;> omega) | exact s_one_map _ | exact s_one_slice _ _ _ _ _ | (refine (id ?_ : plainDraw _ = true); kernel_rfl) | fail) only [sxL, s_castN, s_cells_one, noOv, callFn, kindOf, kindC, kindB, unA, boxA, loadPtr, nilCheckA, fst1, ofValue, ofScalar, len, intBin, ibin, boolO, guardA, cCond, condV, cRet, cExit, cSkip, resOut, resultA, extractA, tupleO, Nat.reduceEqDiff, Nat.reduceAdd, Nat.reduceSub, Nat.reduceLT, Nat.reduceBEq, reduceCtorEq, Nat.reduceMod, Nat.reduceLeDiff, Int.reduceLT, Int.reduceAdd, Int.reduceEq, Int.reduceToNat, Tryz.f58, h1, h2, h3, fa49_0, fa49_1, fa49_2, s_varFalse ia28, s_varFalse ia2, s_varFalse ia9, s_lenStr ud9]
      · by_cases h4 : 1152921504606846976 < n
        · simp -implicitDefEqProofs (disch := first | (simp only [ne_eq, Nat.reduceEqDiff, not_false_eq_true, Nat.reduceLT]; done) | assumption | (simp only [s_push_next, s_put_next, Nat.beq_refl]; done) | ((try simp only [s_push_next, s_put_next]) <;> omega) | exact s_one_map _ | exact s_one_slice _ _ _ _ _ | (refine (id ?_ : plainDraw _ = true); kernel_rfl) | fail) only [sxL, s_castN, s_cells_one, noOv, callFn, kindOf, kindC, kindB, unA, boxA, loadPtr, nilCheckA, fst1, ofValue, ofScalar, len, intBin, ibin, boolO, guardA, cCond, condV, cRet, cExit, cSkip, resOut, resultA, extractA, tupleO, Nat.reduceEqDiff, Nat.reduceAdd, Nat.reduceSub, Nat.reduceLT, Nat.reduceBEq, reduceCtorEq, Nat.reduceMod, Nat.reduceLeDiff, Int.reduceLT, Int.reduceAdd, Int.reduceEq, Int.reduceToNat, Tryz.f58, h1, h2, h3, h4, fa49_0, fa49_1, fa49_2, s_varFalse ia28, s_varFalse ia2, s_varFalse ia9, s_lenStr ud9]
        · by_cases h5 : 65536 < (s.length : Int)
          · simp -implicitDefEqProofs (disch := first | (simp only [ne_eq, Nat.reduceEqDiff, not_false_eq_true, Nat.reduceLT]; done) | assumption | (simp only [s_push_next, s_put_next, Nat.beq_refl]; done) | ((try simp only [s_push_next, s_put_next]) <;> omega) | exact s_one_map _ | exact s_one_slice _ _ _ _ _ | (refine (id ?_ : plainDraw _ = true); kernel_rfl) | fail) only [sxL, s_castN, s_cells_one, noOv, callFn, kindOf, kindC, kindB, unA, boxA, loadPtr, nilCheckA, fst1, ofValue, ofScalar, len, intBin, ibin, boolO, guardA, cCond, condV, cRet, cExit, cSkip, resOut, resultA, extractA, tupleO, Nat.reduceEqDiff, Nat.reduceAdd, Nat.reduceSub, Nat.reduceLT, Nat.reduceBEq, reduceCtorEq, Nat.reduceMod, Nat.reduceLeDiff, Int.reduceLT, Int.reduceAdd, Int.reduceEq, Int.reduceToNat, Tryz.f58, h1, h2, h3, h4, h5, fa49_0, fa49_1, fa49_2, s_varFalse ia28, s_varFalse ia2, s_varFalse ia9, s_lenStr ud9]
          · simp -implicitDefEqProofs (disch := first | (simp only [ne_eq, Nat.reduceEqDiff, not_false_eq_true, Nat.reduceLT]; done) | assumption | (simp only [s_push_next, s_put_next, Nat.beq_refl]; done) | ((try simp only [s_push_next, s_put_next]) <;> omega) | exact s_one_map _ | exact s_one_slice _ _ _ _ _ | (refine (id ?_ : plainDraw _ = true); kernel_rfl) | fail) only [sxL, s_castN, s_cells_one, noOv, callFn, kindOf, kindC, kindB, unA, boxA, loadPtr, nilCheckA, fst1, ofValue, ofScalar, len, intBin, ibin, boolO, guardA, cCond, condV, cRet, cExit, cSkip, resOut, resultA, extractA, tupleO, Nat.reduceEqDiff, Nat.reduceAdd, Nat.reduceSub, Nat.reduceLT, Nat.reduceBEq, reduceCtorEq, Nat.reduceMod, Nat.reduceLeDiff, Int.reduceLT, Int.reduceAdd, Int.reduceEq, Int.reduceToNat, Tryz.f58, h1, h2, h3, h4, h5, fa49_0, fa49_1, fa49_2, s_varFalse ia28, s_varFalse ia2, s_varFalse ia9, s_lenStr ud9]
theorem refReply33_run (e n : Int) (s : List UInt8) (H : Heap) (hN : Neat H) : CallTo Tryz.prog Tryz.tab 46 [.agg [.int .i64 e, .int .i64 n, .str s]] H [(.int .i64 (checkReply e n s), H)] := by
  have h58 : CallTo Tryz.prog Tryz.tab 58 [.agg [.int .i64 e, .int .i64 n, .str s]] (H.push (.cells 49 true [.int .i64 e, .int .i64 n, .str s])) [(.int .i64 (checkReply e n s), H.push (.cells 49 true [.int .i64 e, .int .i64 n, .str s]))] :=
    callTo_pure Tryz.tabOk (ov := noOv) noOv_ok (refReply_run 0 _ _ _ _) (.push _ _) (hN.push _) trivial
  refine callTo_pure (n := 8) (v := .int .i64 (checkReply e n s)) Tryz.tabOk (ptO_ok noOv_ok h58) (H' := H.push (.cells 49 true [.int .i64 e, .int .i64 n, .str s])) ?_ (.push _ _) hN trivial
  rw [s_callO, s_ptNe _ (by decide), s_callB, get46]
  simp -implicitDefEqProofs (disch := first | (simp only [ne_eq, Nat.reduceEqDiff, not_false_eq_true, Nat.reduceLT]; done) | assumption | (simp only [s_push_next, s_put_next, Nat.beq_refl]; done) | ((try simp only [s_push_next, s_put_next]) <;> omega) | exact s_one_map _ | exact s_one_slice _ _ _ _ _ | (refine (id ?_ : plainDraw _ = true); kernel_rfl) | fail) only [sxL, s_castN, s_cells_one, noOv, callFn, kindOf, kindC, kindB, unA, boxA, loadPtr, nilCheckA, fst1, ofValue, ofScalar, len, intBin, ibin, boolO, guardA, cCond, condV, cRet, cExit, cSkip, resOut, resultA, extractA, tupleO, Nat.reduceEqDiff, Nat.reduceAdd, Nat.reduceSub, Nat.reduceLT, Nat.reduceBEq, reduceCtorEq, Nat.reduceMod, Nat.reduceLeDiff, Int.reduceLT, Int.reduceAdd, Int.reduceEq, Int.reduceToNat, Tryz.f46, s_varTrue ia49 sz49, s_cellsIn, List.drop_zero, List.take_succ_cons, List.take_zero]
theorem refCall_run (c : CmdV) (H : Heap) (hone : oneCell c.steps = true) (hN : Neat H) : CallTo Tryz.prog Tryz.tab 43 [.agg c.cells] H [(.bool (callKindB c.kind), H)] := by
  have hall : allOne c.cells = true := CmdV.one hone
  have hk : c.cells[0]? = some (.int .i64 c.kind) := rfl
  refine callTo_pure (n := 8) (v := .bool (callKindB c.kind)) Tryz.tabOk (ov := noOv) noOv_ok (H' := H.push (.cells 44 true c.cells)) ?_ (.push _ _) hN trivial
  rw [s_callO, s_callB, get43]
  unfold callKindB
  by_cases h1 : c.kind = 2
  · simp -implicitDefEqProofs (disch := first | (simp only [ne_eq, Nat.reduceEqDiff, not_false_eq_true, Nat.reduceLT]; done) | assumption | (simp only [s_push_next, s_put_next, Nat.beq_refl]; done) | ((try simp only [s_push_next, s_put_next]) <;> omega) | exact s_one_map _ | exact s_one_slice _ _ _ _ _ | (refine (id ?_ : plainDraw _ = true); kernel_rfl) | fail) only [sxL, s_castN, s_cells_one, noOv, callFn, kindOf, kindC, kindB, unA, boxA, loadPtr, nilCheckA, fst1, ofValue, ofScalar, len, intBin, ibin, boolO, guardA, cCond, condV, cRet, cExit, cSkip, resOut, resultA, extractA, tupleO, Nat.reduceEqDiff, Nat.reduceAdd, Nat.reduceSub, Nat.reduceLT, Nat.reduceBEq, reduceCtorEq, Nat.reduceMod, Nat.reduceLeDiff, Int.reduceLT, Int.reduceAdd, Int.reduceEq, Int.reduceToNat, Tryz.f43, hall, hk, fa44_0, s_varFalse ia3, h1]
  · by_cases h2 : c.kind = 11
    · simp -implicitDefEqProofs (disch := first | (simp only [ne_eq, Nat.reduceEqDiff, not_false_eq_true, Nat.reduceLT]; done) | assumption | (simp only [s_push_next, s_put_next, Nat.beq_refl]; done) | ((try simp only [s_push_next, s_put_next]) <;> omega) | exact s_one_map _ | exact s_one_slice _ _ _ _ _ | (refine (id ?_ : plainDraw _ = true); kernel_rfl) | fail) only [sxL, s_castN, s_cells_one, noOv, callFn, kindOf, kindC, kindB, unA, boxA, loadPtr, nilCheckA, fst1, ofValue, ofScalar, len, intBin, ibin, boolO, guardA, cCond, condV, cRet, cExit, cSkip, resOut, resultA, extractA, tupleO, Nat.reduceEqDiff, Nat.reduceAdd, Nat.reduceSub, Nat.reduceLT, Nat.reduceBEq, reduceCtorEq, Nat.reduceMod, Nat.reduceLeDiff, Int.reduceLT, Int.reduceAdd, Int.reduceEq, Int.reduceToNat, Tryz.f43, hall, hk, fa44_0, s_varFalse ia3, h1, h2]
    · by_cases h3 : c.kind = 12
      · simp -implicitDefEqProofs (disch := first | (simp only [ne_eq, Nat.reduceEqDiff, not_false_eq_true, Nat.reduceLT]; done) | assumption | (simp only [s_push_next, s_put_next, Nat.beq_refl]; done) | ((try simp only [s_push_next, s_put_next]) <;> omega) | exact s_one_map _ | exact s_one_slice _ _ _ _ _ | (refine (id ?_ : plainDraw _ = true); kernel_rfl) | fail) only [sxL, s_castN, s_cells_one, noOv, callFn, kindOf, kindC, kindB, unA, boxA, loadPtr, nilCheckA, fst1, ofValue, ofScalar, len, intBin, ibin, boolO, guardA, cCond, condV, cRet, cExit, cSkip, resOut, resultA, extractA, tupleO, Nat.reduceEqDiff, Nat.reduceAdd, Nat.reduceSub, Nat.reduceLT, Nat.reduceBEq, reduceCtorEq, Nat.reduceMod, Nat.reduceLeDiff, Int.reduceLT, Int.reduceAdd, Int.reduceEq, Int.reduceToNat, Tryz.f43, hall, hk, fa44_0, s_varFalse ia3, h1, h2, h3]
      · by_cases h4 : c.kind = 13
        · simp -implicitDefEqProofs (disch := first | (simp only [ne_eq, Nat.reduceEqDiff, not_false_eq_true, Nat.reduceLT]; done) | assumption | (simp only [s_push_next, s_put_next, Nat.beq_refl]; done) | ((try simp only [s_push_next, s_put_next]) <;> omega) | exact s_one_map _ | exact s_one_slice _ _ _ _ _ | (refine (id ?_ : plainDraw _ = true); kernel_rfl) | fail) only [sxL, s_castN, s_cells_one, noOv, callFn, kindOf, kindC, kindB, unA, boxA, loadPtr, nilCheckA, fst1, ofValue, ofScalar, len, intBin, ibin, boolO, guardA, cCond, condV, cRet, cExit, cSkip, resOut, resultA, extractA, tupleO, Nat.reduceEqDiff, Nat.reduceAdd, Nat.reduceSub, Nat.reduceLT, Nat.reduceBEq, reduceCtorEq, Nat.reduceMod, Nat.reduceLeDiff, Int.reduceLT, Int.reduceAdd, Int.reduceEq, Int.reduceToNat, Tryz.f43, hall, hk, fa44_0, s_varFalse ia3, h1, h2, h3, h4]
        · by_cases h5 : c.kind = 14
          · simp -implicitDefEqProofs (disch := first | (simp only [ne_eq, Nat.reduceEqDiff, not_false_eq_true, Nat.reduceLT]; done) | assumption | (simp only [s_push_next, s_put_next, Nat.beq_refl]; done) | ((try simp only [s_push_next, s_put_next]) <;> omega) | exact s_one_map _ | exact s_one_slice _ _ _ _ _ | (refine (id ?_ : plainDraw _ = true); kernel_rfl) | fail) only [sxL, s_castN, s_cells_one, noOv, callFn, kindOf, kindC, kindB, unA, boxA, loadPtr, nilCheckA, fst1, ofValue, ofScalar, len, intBin, ibin, boolO, guardA, cCond, condV, cRet, cExit, cSkip, resOut, resultA, extractA, tupleO, Nat.reduceEqDiff, Nat.reduceAdd, Nat.reduceSub, Nat.reduceLT, Nat.reduceBEq, reduceCtorEq, Nat.reduceMod, Nat.reduceLeDiff, Int.reduceLT, Int.reduceAdd, Int.reduceEq, Int.reduceToNat, Tryz.f43, hall, hk, fa44_0, s_varFalse ia3, h1, h2, h3, h4, h5]
          · simp -implicitDefEqProofs (disch := first | (simp only [ne_eq, Nat.reduceEqDiff, not_false_eq_true, Nat.reduceLT]; done) | assumption | (simp only [s_push_next, s_put_next, Nat.beq_refl]; done) | ((try simp only [s_push_next, s_put_next]) <;> omega) | exact s_one_map _ | exact s_one_slice _ _ _ _ _ | (refine (id ?_ : plainDraw _ = true); kernel_rfl) | fail) only [sxL, s_castN, s_cells_one, noOv, callFn, kindOf, kindC, kindB, unA, boxA, loadPtr, nilCheckA, fst1, ofValue, ofScalar, len, intBin, ibin, boolO, guardA, cCond, condV, cRet, cExit, cSkip, resOut, resultA, extractA, tupleO, Nat.reduceEqDiff, Nat.reduceAdd, Nat.reduceSub, Nat.reduceLT, Nat.reduceBEq, reduceCtorEq, Nat.reduceMod, Nat.reduceLeDiff, Int.reduceLT, Int.reduceAdd, Int.reduceEq, Int.reduceToNat, Tryz.f43, hall, hk, fa44_0, s_varFalse ia3, h1, h2, h3, h4, h5]
end Go.Proofs

namespace Go.Proofs
open Go.Sx
set_option maxRecDepth 100000
theorem s_lappC {α : Type} (a : α) (l m : List α) : List.append (a :: l) m = a :: List.append l m := rfl
theorem s_lappN {α : Type} (m : List α) : List.append [] m = m := rfl
def sameZ (c : CmdV) (n : Nat) : Bool := decide (c.kind = 0) && (decide (c.call = 0) && (decide (c.saga = 0) && (effZ c && (decide (c.key = []) && (decide (c.delta = 0) && (decide (c.move = 0) && (rngZ c && (decide (c.group = 0) && (defZ c n && (itemZ c &&
  (decide (c.res = 0) && decide (c.data = []))))))))))))
theorem sameZ_eq (c : CmdV) (n : Nat) : sameZ c n = eqZ c n := by
  unfold sameZ eqZ
  generalize decide (c.kind = 0) = a1
  generalize decide (c.call = 0) = a2
  generalize decide (c.saga = 0) = a3
  generalize effZ c = a4
  generalize decide (c.key = []) = a5
  generalize decide (c.delta = 0) = a6
  generalize decide (c.move = 0) = a7
  generalize rngZ c = a8
  generalize decide (c.group = 0) = a9
  generalize defZ c n = a10
  generalize itemZ c = a11
  generalize decide (c.res = 0) = a12
  generalize decide (c.data = []) = a13
  simp only [Bool.and_comm, Bool.and_left_comm, Bool.and_assoc]
theorem two_boxes94 (C Z : List AV) (H : Heap) (hall : allOne C = true) (hallz : allOne Z = true) (p1 p2 p3 : String) (t1 t2 t3 : TypeId) (e1 e2 e3 : Array Edge) :
    codeB (.region 0 #[⟨some 2, .box 44 (.tmp 0), t1, p1, e1, none⟩, ⟨some 3, .box 44 (.tmp 1), t2, p2, e2, none⟩, ⟨some 4, .assign (.const (.bool false)), t3, p3, e3, none⟩] false) (fnsO Tryz.tab noOv 8) Tryz.tab ⟨none, 94⟩ ⟨argsTm [.agg C, .agg Z], H, []⟩ =
    some [(.normal, ⟨((((T.e.set 0 (some (.agg C))).set 1 (some (.agg Z))).set 2 (some (.ptr H.next 0))).set 3 (some (.ptr (H.next + 1) 0))).set 4 (some (.bool false)), (H.push (.cells 44 true C)).push (.cells 44 true Z), []⟩)] := by
  simp -implicitDefEqProofs (disch := first | (simp only [ne_eq, Nat.reduceEqDiff, not_false_eq_true, Nat.reduceLT]; done) | assumption | (simp only [s_push_next, s_put_next, Nat.beq_refl]; done) | ((try simp only [s_push_next, s_put_next]) <;> omega) | exact s_one_map _ | exact s_one_slice _ _ _ _ _ | (refine (id ?_ : plainDraw _ = true); kernel_rfl) | fail) only [sxL, s_castN, s_cells_one, noOv, callFn, kindOf, kindC, kindB, unA, boxA, loadPtr, nilCheckA, fst1, ofValue, ofScalar, len, intBin, ibin, boolO, guardA, cCond, condV, cRet, cExit, cSkip, resOut, resultA, extractA, tupleO, Nat.reduceEqDiff, Nat.reduceAdd, Nat.reduceSub, Nat.reduceLT, Nat.reduceBEq, reduceCtorEq, Nat.reduceMod, Nat.reduceLeDiff, Int.reduceLT, Int.reduceAdd, Int.reduceEq, Int.reduceToNat, hall, hallz]
theorem same_run (c : CmdV) (ks : List (List UInt8)) (H : Heap) (hs : StepsAt H c.steps ks) (hN : Neat H) : CallTo Tryz.prog Tryz.tab 45 [.agg c.cells, .agg zcells] H [(.bool (eqZ c ks.length), H)] := by
  rw [← sameZ_eq]
  have hone := hs.one
  have hg : Grows H ((H.push (.cells 44 true c.cells)).push (.cells 44 true zcells)) := (Grows.push _ _).trans (.push _ _)
  have hN2 : Neat ((H.push (.cells 44 true c.cells)).push (.cells 44 true zcells)) := (hN.push _).push _
  have hc : c.cells = [.int .i64 c.kind, .int .i64 c.call, .int .i64 c.saga, .int .i64 c.ef0, .int .i64 c.ef1, .int .i64 c.ef2, .str c.key, .int .i64 c.delta, .int .i64 c.move, .str c.rf, .str c.rt, .int .i64 c.group,
   .str c.name, .int .i64 c.retries, .int .i64 c.deadline, c.steps, .int .i64 c.ie0, .int .i64 c.ie1, .int .i64 c.ie2, .int .i64 c.imove, .bool c.iin, .int .i64 c.igroup, .int .i64 c.res, .str c.data] := rfl
  have hz : zcells = [.int .i64 0, .int .i64 0, .int .i64 0, .int .i64 0, .int .i64 0, .int .i64 0, .str [], .int .i64 0, .int .i64 0, .str [], .str [], .int .i64 0, .str [], .int .i64 0, .int .i64 0, .nilslice, .int .i64 0, .int .i64 0, .int .i64 0, .int .i64 0, .bool false, .int .i64 0, .int .i64 0, .str []] := rfl
  have hall : allOne c.cells = true := CmdV.one hone
  have hallz : allOne zcells = true := zc_one
  have hat1 : ((H.push (.cells 44 true c.cells)).push (.cells 44 true zcells)).blks.get H.next = some (.cells 44 true c.cells) := by simp -implicitDefEqProofs (disch := first | (simp only [ne_eq, Nat.reduceEqDiff, not_false_eq_true, Nat.reduceLT]; done) | assumption | (simp only [s_push_next, s_put_next, Nat.beq_refl]; done) | ((try simp only [s_push_next, s_put_next]) <;> omega) | exact s_one_map _ | exact s_one_slice _ _ _ _ _ | (refine (id ?_ : plainDraw _ = true); kernel_rfl) | fail) only [sxL, s_castN, s_cells_one, noOv, callFn, kindOf, kindC, kindB, unA, boxA, loadPtr, nilCheckA, fst1, ofValue, ofScalar, len, intBin, ibin, boolO, guardA, cCond, condV, cRet, cExit, cSkip, resOut, resultA, extractA, tupleO, Nat.reduceEqDiff, Nat.reduceAdd, Nat.reduceSub, Nat.reduceLT, Nat.reduceBEq, reduceCtorEq, Nat.reduceMod, Nat.reduceLeDiff, Int.reduceLT, Int.reduceAdd, Int.reduceEq, Int.reduceToNat]
  have hat2 : ((H.push (.cells 44 true c.cells)).push (.cells 44 true zcells)).blks.get (H.next + 1) = some (.cells 44 true zcells) := by simp -implicitDefEqProofs (disch := first | (simp only [ne_eq, Nat.reduceEqDiff, not_false_eq_true, Nat.reduceLT]; done) | assumption | (simp only [s_push_next, s_put_next, Nat.beq_refl]; done) | ((try simp only [s_push_next, s_put_next]) <;> omega) | exact s_one_map _ | exact s_one_slice _ _ _ _ _ | (refine (id ?_ : plainDraw _ = true); kernel_rfl) | fail) only [sxL, s_castN, s_cells_one, noOv, callFn, kindOf, kindC, kindB, unA, boxA, loadPtr, nilCheckA, fst1, ofValue, ofScalar, len, intBin, ibin, boolO, guardA, cCond, condV, cRet, cExit, cSkip, resOut, resultA, extractA, tupleO, Nat.reduceEqDiff, Nat.reduceAdd, Nat.reduceSub, Nat.reduceLT, Nat.reduceBEq, reduceCtorEq, Nat.reduceMod, Nat.reduceLeDiff, Int.reduceLT, Int.reduceAdd, Int.reduceEq, Int.reduceToNat]
  have hd := refEq_run c ks _ (hs.grow hN hg) hN2
  generalize hH2 : (H.push (.cells 44 true c.cells)).push (.cells 44 true zcells) = H2 at hg hN2 hat1 hat2 hd
  rw [hc] at hat1
  rw [hz] at hat2
  clear hc
  generalize c.cells = C at *
  clear hz
  generalize zcells = Z at *
  refine callTo_of Tryz.tabOk Tryz.func45 rfl rfl ?_
  show Gets Tryz.prog Tryz.tab ⟨none, 94⟩ _ _ _
  repeat refine Gets.seq ?_
  refine Gets.last Tryz.tabOk (ov := noOv) noOv_ok 8 (two_boxes94 _ _ H hall hallz _ _ _ _ _ _ _ _ _) ?_
  rw [hH2]
  change Gets _ _ _ _ _ _
  repeat refine Gets.seq ?_
  refine Gets.midA (H := H2) (I := fun tm => tm.get 4 = some (.bool (sameZ c ks.length))) ?_ ?_
  · unfold sameZ
    by_cases h1 : ¬ c.kind = 0
    · try simp only [Decidable.not_not, Bool.not_eq_true] at h1
      try simp only [effZ, rngZ, itemZ] at h1
      refine Gets.last Tryz.tabOk (ov := ptO noOv 57 [.agg [.str c.name, .int .i64 c.retries, .int .i64 c.deadline, c.steps], .agg [.str [], .int .i64 0, .int .i64 0, .nilslice]] H2 [(.bool (defZ c ks.length), H2)]) (ptO_ok noOv_ok hd) 8 (s' := ?sn1) ?hn1 ?kn1; (case hn1 => (simp -implicitDefEqProofs (disch := first | (simp only [ne_eq, Nat.reduceEqDiff, not_false_eq_true, Nat.reduceLT]; done) | assumption | (simp only [s_push_next, s_put_next, Nat.beq_refl]; done) | ((try simp only [s_push_next, s_put_next]) <;> omega) | exact s_one_map _ | exact s_one_slice _ _ _ _ _ | (refine (id ?_ : plainDraw _ = true); kernel_rfl) | fail) only [sxL, s_castN, s_cells_one, noOv, callFn, kindOf, kindC, kindB, unA, boxA, loadPtr, nilCheckA, fst1, ofValue, ofScalar, len, intBin, ibin, boolO, guardA, cCond, condV, cRet, cExit, cSkip, resOut, resultA, extractA, tupleO, Nat.reduceEqDiff, Nat.reduceAdd, Nat.reduceSub, Nat.reduceLT, Nat.reduceBEq, reduceCtorEq, Nat.reduceMod, Nat.reduceLeDiff, Int.reduceLT, Int.reduceAdd, Int.reduceEq, Int.reduceToNat, s_draw, hat1, hat2, fa44_0, fa44_1, fa44_2, fa44_3, fa44_4, fa44_5, fa44_6, fa44_7, fa44_8, fa44_9, fa44_10, fa44_11, fa44_12, s_varFalse ia9, s_varFalse ia3, s_varFalse ia2, s_varFalse ia28, s_varTrue ia40 sz40, s_varTrue ia35 sz35, s_varTrue ia37 sz37, s_varTrue ia42 sz42, sbin, s_cellsIn, s_sbeq, s_bbeq, eqBin, yesO, notO, eq35, eq37, eq42, List.drop_succ_cons, List.drop_zero, List.take_succ_cons, List.take_zero, s_lappC, s_lappN, h1] <;> rfl)); (try (change Gets _ _ _ _ _ _; repeat refine Gets.seq ?_))
      refine ⟨rfl, _, rfl, ?_⟩
      try simp only [effZ, rngZ, itemZ, h1]
      simp (disch := decide) only [sxL, h1]
    · by_cases h2 : ¬ c.call = 0
      · try simp only [Decidable.not_not, Bool.not_eq_true] at h1 h2
        try simp only [effZ, rngZ, itemZ] at h1 h2
        refine Gets.last Tryz.tabOk (ov := ptO noOv 57 [.agg [.str c.name, .int .i64 c.retries, .int .i64 c.deadline, c.steps], .agg [.str [], .int .i64 0, .int .i64 0, .nilslice]] H2 [(.bool (defZ c ks.length), H2)]) (ptO_ok noOv_ok hd) 8 (s' := ?sn2) ?hn2 ?kn2; (case hn2 => (simp -implicitDefEqProofs (disch := first | (simp only [ne_eq, Nat.reduceEqDiff, not_false_eq_true, Nat.reduceLT]; done) | assumption | (simp only [s_push_next, s_put_next, Nat.beq_refl]; done) | ((try simp only [s_push_next, s_put_next]) <;> omega) | exact s_one_map _ | exact s_one_slice _ _ _ _ _ | (refine (id ?_ : plainDraw _ = true); kernel_rfl) | fail) only [sxL, s_castN, s_cells_one, noOv, callFn, kindOf, kindC, kindB, unA, boxA, loadPtr, nilCheckA, fst1, ofValue, ofScalar, len, intBin, ibin, boolO, guardA, cCond, condV, cRet, cExit, cSkip, resOut, resultA, extractA, tupleO, Nat.reduceEqDiff, Nat.reduceAdd, Nat.reduceSub, Nat.reduceLT, Nat.reduceBEq, reduceCtorEq, Nat.reduceMod, Nat.reduceLeDiff, Int.reduceLT, Int.reduceAdd, Int.reduceEq, Int.reduceToNat, s_draw, hat1, hat2, fa44_0, fa44_1, fa44_2, fa44_3, fa44_4, fa44_5, fa44_6, fa44_7, fa44_8, fa44_9, fa44_10, fa44_11, fa44_12, s_varFalse ia9, s_varFalse ia3, s_varFalse ia2, s_varFalse ia28, s_varTrue ia40 sz40, s_varTrue ia35 sz35, s_varTrue ia37 sz37, s_varTrue ia42 sz42, sbin, s_cellsIn, s_sbeq, s_bbeq, eqBin, yesO, notO, eq35, eq37, eq42, List.drop_succ_cons, List.drop_zero, List.take_succ_cons, List.take_zero, s_lappC, s_lappN, h1, h2] <;> rfl)); (try (change Gets _ _ _ _ _ _; repeat refine Gets.seq ?_))
        refine ⟨rfl, _, rfl, ?_⟩
        try simp only [effZ, rngZ, itemZ, h1, h2]
        simp (disch := decide) only [sxL, h1, h2]
      · by_cases h3 : ¬ c.saga = 0
        · try simp only [Decidable.not_not, Bool.not_eq_true] at h1 h2 h3
          try simp only [effZ, rngZ, itemZ] at h1 h2 h3
          refine Gets.last Tryz.tabOk (ov := ptO noOv 57 [.agg [.str c.name, .int .i64 c.retries, .int .i64 c.deadline, c.steps], .agg [.str [], .int .i64 0, .int .i64 0, .nilslice]] H2 [(.bool (defZ c ks.length), H2)]) (ptO_ok noOv_ok hd) 8 (s' := ?sn3) ?hn3 ?kn3; (case hn3 => (simp -implicitDefEqProofs (disch := first | (simp only [ne_eq, Nat.reduceEqDiff, not_false_eq_true, Nat.reduceLT]; done) | assumption | (simp only [s_push_next, s_put_next, Nat.beq_refl]; done) | ((try simp only [s_push_next, s_put_next]) <;> omega) | exact s_one_map _ | exact s_one_slice _ _ _ _ _ | (refine (id ?_ : plainDraw _ = true); kernel_rfl) | fail) only [sxL, s_castN, s_cells_one, noOv, callFn, kindOf, kindC, kindB, unA, boxA, loadPtr, nilCheckA, fst1, ofValue, ofScalar, len, intBin, ibin, boolO, guardA, cCond, condV, cRet, cExit, cSkip, resOut, resultA, extractA, tupleO, Nat.reduceEqDiff, Nat.reduceAdd, Nat.reduceSub, Nat.reduceLT, Nat.reduceBEq, reduceCtorEq, Nat.reduceMod, Nat.reduceLeDiff, Int.reduceLT, Int.reduceAdd, Int.reduceEq, Int.reduceToNat, s_draw, hat1, hat2, fa44_0, fa44_1, fa44_2, fa44_3, fa44_4, fa44_5, fa44_6, fa44_7, fa44_8, fa44_9, fa44_10, fa44_11, fa44_12, s_varFalse ia9, s_varFalse ia3, s_varFalse ia2, s_varFalse ia28, s_varTrue ia40 sz40, s_varTrue ia35 sz35, s_varTrue ia37 sz37, s_varTrue ia42 sz42, sbin, s_cellsIn, s_sbeq, s_bbeq, eqBin, yesO, notO, eq35, eq37, eq42, List.drop_succ_cons, List.drop_zero, List.take_succ_cons, List.take_zero, s_lappC, s_lappN, h1, h2, h3] <;> rfl)); (try (change Gets _ _ _ _ _ _; repeat refine Gets.seq ?_))
          refine ⟨rfl, _, rfl, ?_⟩
          try simp only [effZ, rngZ, itemZ, h1, h2, h3]
          simp (disch := decide) only [sxL, h1, h2, h3]
        · by_cases h4 : ¬ effZ c = true
          · try simp only [Decidable.not_not, Bool.not_eq_true] at h1 h2 h3 h4
            try simp only [effZ, rngZ, itemZ] at h1 h2 h3 h4
            refine Gets.last Tryz.tabOk (ov := ptO noOv 57 [.agg [.str c.name, .int .i64 c.retries, .int .i64 c.deadline, c.steps], .agg [.str [], .int .i64 0, .int .i64 0, .nilslice]] H2 [(.bool (defZ c ks.length), H2)]) (ptO_ok noOv_ok hd) 8 (s' := ?sn4) ?hn4 ?kn4; (case hn4 => (simp -implicitDefEqProofs (disch := first | (simp only [ne_eq, Nat.reduceEqDiff, not_false_eq_true, Nat.reduceLT]; done) | assumption | (simp only [s_push_next, s_put_next, Nat.beq_refl]; done) | ((try simp only [s_push_next, s_put_next]) <;> omega) | exact s_one_map _ | exact s_one_slice _ _ _ _ _ | (refine (id ?_ : plainDraw _ = true); kernel_rfl) | fail) only [sxL, s_castN, s_cells_one, noOv, callFn, kindOf, kindC, kindB, unA, boxA, loadPtr, nilCheckA, fst1, ofValue, ofScalar, len, intBin, ibin, boolO, guardA, cCond, condV, cRet, cExit, cSkip, resOut, resultA, extractA, tupleO, Nat.reduceEqDiff, Nat.reduceAdd, Nat.reduceSub, Nat.reduceLT, Nat.reduceBEq, reduceCtorEq, Nat.reduceMod, Nat.reduceLeDiff, Int.reduceLT, Int.reduceAdd, Int.reduceEq, Int.reduceToNat, s_draw, hat1, hat2, fa44_0, fa44_1, fa44_2, fa44_3, fa44_4, fa44_5, fa44_6, fa44_7, fa44_8, fa44_9, fa44_10, fa44_11, fa44_12, s_varFalse ia9, s_varFalse ia3, s_varFalse ia2, s_varFalse ia28, s_varTrue ia40 sz40, s_varTrue ia35 sz35, s_varTrue ia37 sz37, s_varTrue ia42 sz42, sbin, s_cellsIn, s_sbeq, s_bbeq, eqBin, yesO, notO, eq35, eq37, eq42, List.drop_succ_cons, List.drop_zero, List.take_succ_cons, List.take_zero, s_lappC, s_lappN, h1, h2, h3, h4] <;> rfl)); (try (change Gets _ _ _ _ _ _; repeat refine Gets.seq ?_))
            refine ⟨rfl, _, rfl, ?_⟩
            try simp only [effZ, rngZ, itemZ, h1, h2, h3, h4]
            simp (disch := decide) only [sxL, h1, h2, h3, h4]
          · by_cases h5 : ¬ c.key = []
            · try simp only [Decidable.not_not, Bool.not_eq_true] at h1 h2 h3 h4 h5
              try simp only [effZ, rngZ, itemZ] at h1 h2 h3 h4 h5
              refine Gets.last Tryz.tabOk (ov := ptO noOv 57 [.agg [.str c.name, .int .i64 c.retries, .int .i64 c.deadline, c.steps], .agg [.str [], .int .i64 0, .int .i64 0, .nilslice]] H2 [(.bool (defZ c ks.length), H2)]) (ptO_ok noOv_ok hd) 8 (s' := ?sn5) ?hn5 ?kn5; (case hn5 => (simp -implicitDefEqProofs (disch := first | (simp only [ne_eq, Nat.reduceEqDiff, not_false_eq_true, Nat.reduceLT]; done) | assumption | (simp only [s_push_next, s_put_next, Nat.beq_refl]; done) | ((try simp only [s_push_next, s_put_next]) <;> omega) | exact s_one_map _ | exact s_one_slice _ _ _ _ _ | (refine (id ?_ : plainDraw _ = true); kernel_rfl) | fail) only [sxL, s_castN, s_cells_one, noOv, callFn, kindOf, kindC, kindB, unA, boxA, loadPtr, nilCheckA, fst1, ofValue, ofScalar, len, intBin, ibin, boolO, guardA, cCond, condV, cRet, cExit, cSkip, resOut, resultA, extractA, tupleO, Nat.reduceEqDiff, Nat.reduceAdd, Nat.reduceSub, Nat.reduceLT, Nat.reduceBEq, reduceCtorEq, Nat.reduceMod, Nat.reduceLeDiff, Int.reduceLT, Int.reduceAdd, Int.reduceEq, Int.reduceToNat, s_draw, hat1, hat2, fa44_0, fa44_1, fa44_2, fa44_3, fa44_4, fa44_5, fa44_6, fa44_7, fa44_8, fa44_9, fa44_10, fa44_11, fa44_12, s_varFalse ia9, s_varFalse ia3, s_varFalse ia2, s_varFalse ia28, s_varTrue ia40 sz40, s_varTrue ia35 sz35, s_varTrue ia37 sz37, s_varTrue ia42 sz42, sbin, s_cellsIn, s_sbeq, s_bbeq, eqBin, yesO, notO, eq35, eq37, eq42, List.drop_succ_cons, List.drop_zero, List.take_succ_cons, List.take_zero, s_lappC, s_lappN, h1, h2, h3, h4, h5] <;> rfl)); (try (change Gets _ _ _ _ _ _; repeat refine Gets.seq ?_))
              refine ⟨rfl, _, rfl, ?_⟩
              try simp only [effZ, rngZ, itemZ, h1, h2, h3, h4, h5]
              simp (disch := decide) only [sxL, h1, h2, h3, h4, h5]
            · by_cases h6 : ¬ c.delta = 0
              · try simp only [Decidable.not_not, Bool.not_eq_true] at h1 h2 h3 h4 h5 h6
                try simp only [effZ, rngZ, itemZ] at h1 h2 h3 h4 h5 h6
                refine Gets.last Tryz.tabOk (ov := ptO noOv 57 [.agg [.str c.name, .int .i64 c.retries, .int .i64 c.deadline, c.steps], .agg [.str [], .int .i64 0, .int .i64 0, .nilslice]] H2 [(.bool (defZ c ks.length), H2)]) (ptO_ok noOv_ok hd) 8 (s' := ?sn6) ?hn6 ?kn6; (case hn6 => (simp -implicitDefEqProofs (disch := first | (simp only [ne_eq, Nat.reduceEqDiff, not_false_eq_true, Nat.reduceLT]; done) | assumption | (simp only [s_push_next, s_put_next, Nat.beq_refl]; done) | ((try simp only [s_push_next, s_put_next]) <;> omega) | exact s_one_map _ | exact s_one_slice _ _ _ _ _ | (refine (id ?_ : plainDraw _ = true); kernel_rfl) | fail) only [sxL, s_castN, s_cells_one, noOv, callFn, kindOf, kindC, kindB, unA, boxA, loadPtr, nilCheckA, fst1, ofValue, ofScalar, len, intBin, ibin, boolO, guardA, cCond, condV, cRet, cExit, cSkip, resOut, resultA, extractA, tupleO, Nat.reduceEqDiff, Nat.reduceAdd, Nat.reduceSub, Nat.reduceLT, Nat.reduceBEq, reduceCtorEq, Nat.reduceMod, Nat.reduceLeDiff, Int.reduceLT, Int.reduceAdd, Int.reduceEq, Int.reduceToNat, s_draw, hat1, hat2, fa44_0, fa44_1, fa44_2, fa44_3, fa44_4, fa44_5, fa44_6, fa44_7, fa44_8, fa44_9, fa44_10, fa44_11, fa44_12, s_varFalse ia9, s_varFalse ia3, s_varFalse ia2, s_varFalse ia28, s_varTrue ia40 sz40, s_varTrue ia35 sz35, s_varTrue ia37 sz37, s_varTrue ia42 sz42, sbin, s_cellsIn, s_sbeq, s_bbeq, eqBin, yesO, notO, eq35, eq37, eq42, List.drop_succ_cons, List.drop_zero, List.take_succ_cons, List.take_zero, s_lappC, s_lappN, h1, h2, h3, h4, h5, h6] <;> rfl)); (try (change Gets _ _ _ _ _ _; repeat refine Gets.seq ?_))
                refine ⟨rfl, _, rfl, ?_⟩
                try simp only [effZ, rngZ, itemZ, h1, h2, h3, h4, h5, h6]
                simp (disch := decide) only [sxL, h1, h2, h3, h4, h5, h6]
              · by_cases h7 : ¬ c.move = 0
                · try simp only [Decidable.not_not, Bool.not_eq_true] at h1 h2 h3 h4 h5 h6 h7
                  try simp only [effZ, rngZ, itemZ] at h1 h2 h3 h4 h5 h6 h7
                  refine Gets.last Tryz.tabOk (ov := ptO noOv 57 [.agg [.str c.name, .int .i64 c.retries, .int .i64 c.deadline, c.steps], .agg [.str [], .int .i64 0, .int .i64 0, .nilslice]] H2 [(.bool (defZ c ks.length), H2)]) (ptO_ok noOv_ok hd) 8 (s' := ?sn7) ?hn7 ?kn7; (case hn7 => (simp -implicitDefEqProofs (disch := first | (simp only [ne_eq, Nat.reduceEqDiff, not_false_eq_true, Nat.reduceLT]; done) | assumption | (simp only [s_push_next, s_put_next, Nat.beq_refl]; done) | ((try simp only [s_push_next, s_put_next]) <;> omega) | exact s_one_map _ | exact s_one_slice _ _ _ _ _ | (refine (id ?_ : plainDraw _ = true); kernel_rfl) | fail) only [sxL, s_castN, s_cells_one, noOv, callFn, kindOf, kindC, kindB, unA, boxA, loadPtr, nilCheckA, fst1, ofValue, ofScalar, len, intBin, ibin, boolO, guardA, cCond, condV, cRet, cExit, cSkip, resOut, resultA, extractA, tupleO, Nat.reduceEqDiff, Nat.reduceAdd, Nat.reduceSub, Nat.reduceLT, Nat.reduceBEq, reduceCtorEq, Nat.reduceMod, Nat.reduceLeDiff, Int.reduceLT, Int.reduceAdd, Int.reduceEq, Int.reduceToNat, s_draw, hat1, hat2, fa44_0, fa44_1, fa44_2, fa44_3, fa44_4, fa44_5, fa44_6, fa44_7, fa44_8, fa44_9, fa44_10, fa44_11, fa44_12, s_varFalse ia9, s_varFalse ia3, s_varFalse ia2, s_varFalse ia28, s_varTrue ia40 sz40, s_varTrue ia35 sz35, s_varTrue ia37 sz37, s_varTrue ia42 sz42, sbin, s_cellsIn, s_sbeq, s_bbeq, eqBin, yesO, notO, eq35, eq37, eq42, List.drop_succ_cons, List.drop_zero, List.take_succ_cons, List.take_zero, s_lappC, s_lappN, h1, h2, h3, h4, h5, h6, h7] <;> rfl)); (try (change Gets _ _ _ _ _ _; repeat refine Gets.seq ?_))
                  refine ⟨rfl, _, rfl, ?_⟩
                  try simp only [effZ, rngZ, itemZ, h1, h2, h3, h4, h5, h6, h7]
                  simp (disch := decide) only [sxL, h1, h2, h3, h4, h5, h6, h7]
                · by_cases h8 : ¬ rngZ c = true
                  · try simp only [Decidable.not_not, Bool.not_eq_true] at h1 h2 h3 h4 h5 h6 h7 h8
                    try simp only [effZ, rngZ, itemZ] at h1 h2 h3 h4 h5 h6 h7 h8
                    refine Gets.last Tryz.tabOk (ov := ptO noOv 57 [.agg [.str c.name, .int .i64 c.retries, .int .i64 c.deadline, c.steps], .agg [.str [], .int .i64 0, .int .i64 0, .nilslice]] H2 [(.bool (defZ c ks.length), H2)]) (ptO_ok noOv_ok hd) 8 (s' := ?sn8) ?hn8 ?kn8; (case hn8 => (simp -implicitDefEqProofs (disch := first | (simp only [ne_eq, Nat.reduceEqDiff, not_false_eq_true, Nat.reduceLT]; done) | assumption | (simp only [s_push_next, s_put_next, Nat.beq_refl]; done) | ((try simp only [s_push_next, s_put_next]) <;> omega) | exact s_one_map _ | exact s_one_slice _ _ _ _ _ | (refine (id ?_ : plainDraw _ = true); kernel_rfl) | fail) only [sxL, s_castN, s_cells_one, noOv, callFn, kindOf, kindC, kindB, unA, boxA, loadPtr, nilCheckA, fst1, ofValue, ofScalar, len, intBin, ibin, boolO, guardA, cCond, condV, cRet, cExit, cSkip, resOut, resultA, extractA, tupleO, Nat.reduceEqDiff, Nat.reduceAdd, Nat.reduceSub, Nat.reduceLT, Nat.reduceBEq, reduceCtorEq, Nat.reduceMod, Nat.reduceLeDiff, Int.reduceLT, Int.reduceAdd, Int.reduceEq, Int.reduceToNat, s_draw, hat1, hat2, fa44_0, fa44_1, fa44_2, fa44_3, fa44_4, fa44_5, fa44_6, fa44_7, fa44_8, fa44_9, fa44_10, fa44_11, fa44_12, s_varFalse ia9, s_varFalse ia3, s_varFalse ia2, s_varFalse ia28, s_varTrue ia40 sz40, s_varTrue ia35 sz35, s_varTrue ia37 sz37, s_varTrue ia42 sz42, sbin, s_cellsIn, s_sbeq, s_bbeq, eqBin, yesO, notO, eq35, eq37, eq42, List.drop_succ_cons, List.drop_zero, List.take_succ_cons, List.take_zero, s_lappC, s_lappN, h1, h2, h3, h4, h5, h6, h7, h8] <;> rfl)); (try (change Gets _ _ _ _ _ _; repeat refine Gets.seq ?_))
                    refine ⟨rfl, _, rfl, ?_⟩
                    try simp only [effZ, rngZ, itemZ, h1, h2, h3, h4, h5, h6, h7, h8]
                    simp (disch := decide) only [sxL, h1, h2, h3, h4, h5, h6, h7, h8]
                  · by_cases h9 : ¬ c.group = 0
                    · try simp only [Decidable.not_not, Bool.not_eq_true] at h1 h2 h3 h4 h5 h6 h7 h8 h9
                      try simp only [effZ, rngZ, itemZ] at h1 h2 h3 h4 h5 h6 h7 h8 h9
                      refine Gets.last Tryz.tabOk (ov := ptO noOv 57 [.agg [.str c.name, .int .i64 c.retries, .int .i64 c.deadline, c.steps], .agg [.str [], .int .i64 0, .int .i64 0, .nilslice]] H2 [(.bool (defZ c ks.length), H2)]) (ptO_ok noOv_ok hd) 8 (s' := ?sn9) ?hn9 ?kn9; (case hn9 => (simp -implicitDefEqProofs (disch := first | (simp only [ne_eq, Nat.reduceEqDiff, not_false_eq_true, Nat.reduceLT]; done) | assumption | (simp only [s_push_next, s_put_next, Nat.beq_refl]; done) | ((try simp only [s_push_next, s_put_next]) <;> omega) | exact s_one_map _ | exact s_one_slice _ _ _ _ _ | (refine (id ?_ : plainDraw _ = true); kernel_rfl) | fail) only [sxL, s_castN, s_cells_one, noOv, callFn, kindOf, kindC, kindB, unA, boxA, loadPtr, nilCheckA, fst1, ofValue, ofScalar, len, intBin, ibin, boolO, guardA, cCond, condV, cRet, cExit, cSkip, resOut, resultA, extractA, tupleO, Nat.reduceEqDiff, Nat.reduceAdd, Nat.reduceSub, Nat.reduceLT, Nat.reduceBEq, reduceCtorEq, Nat.reduceMod, Nat.reduceLeDiff, Int.reduceLT, Int.reduceAdd, Int.reduceEq, Int.reduceToNat, s_draw, hat1, hat2, fa44_0, fa44_1, fa44_2, fa44_3, fa44_4, fa44_5, fa44_6, fa44_7, fa44_8, fa44_9, fa44_10, fa44_11, fa44_12, s_varFalse ia9, s_varFalse ia3, s_varFalse ia2, s_varFalse ia28, s_varTrue ia40 sz40, s_varTrue ia35 sz35, s_varTrue ia37 sz37, s_varTrue ia42 sz42, sbin, s_cellsIn, s_sbeq, s_bbeq, eqBin, yesO, notO, eq35, eq37, eq42, List.drop_succ_cons, List.drop_zero, List.take_succ_cons, List.take_zero, s_lappC, s_lappN, h1, h2, h3, h4, h5, h6, h7, h8, h9] <;> rfl)); (try (change Gets _ _ _ _ _ _; repeat refine Gets.seq ?_))
                      refine ⟨rfl, _, rfl, ?_⟩
                      try simp only [effZ, rngZ, itemZ, h1, h2, h3, h4, h5, h6, h7, h8, h9]
                      simp (disch := decide) only [sxL, h1, h2, h3, h4, h5, h6, h7, h8, h9]
                    · by_cases h10 : ¬ defZ c ks.length = true
                      · try simp only [Decidable.not_not, Bool.not_eq_true] at h1 h2 h3 h4 h5 h6 h7 h8 h9 h10
                        try simp only [effZ, rngZ, itemZ] at h1 h2 h3 h4 h5 h6 h7 h8 h9 h10
                        refine Gets.last Tryz.tabOk (ov := ptO noOv 57 [.agg [.str c.name, .int .i64 c.retries, .int .i64 c.deadline, c.steps], .agg [.str [], .int .i64 0, .int .i64 0, .nilslice]] H2 [(.bool (defZ c ks.length), H2)]) (ptO_ok noOv_ok hd) 8 (s' := ?sn10) ?hn10 ?kn10; (case hn10 => (simp -implicitDefEqProofs (disch := first | (simp only [ne_eq, Nat.reduceEqDiff, not_false_eq_true, Nat.reduceLT]; done) | assumption | (simp only [s_push_next, s_put_next, Nat.beq_refl]; done) | ((try simp only [s_push_next, s_put_next]) <;> omega) | exact s_one_map _ | exact s_one_slice _ _ _ _ _ | (refine (id ?_ : plainDraw _ = true); kernel_rfl) | fail) only [sxL, s_castN, s_cells_one, noOv, callFn, kindOf, kindC, kindB, unA, boxA, loadPtr, nilCheckA, fst1, ofValue, ofScalar, len, intBin, ibin, boolO, guardA, cCond, condV, cRet, cExit, cSkip, resOut, resultA, extractA, tupleO, Nat.reduceEqDiff, Nat.reduceAdd, Nat.reduceSub, Nat.reduceLT, Nat.reduceBEq, reduceCtorEq, Nat.reduceMod, Nat.reduceLeDiff, Int.reduceLT, Int.reduceAdd, Int.reduceEq, Int.reduceToNat, s_draw, hat1, hat2, fa44_0, fa44_1, fa44_2, fa44_3, fa44_4, fa44_5, fa44_6, fa44_7, fa44_8, fa44_9, fa44_10, fa44_11, fa44_12, s_varFalse ia9, s_varFalse ia3, s_varFalse ia2, s_varFalse ia28, s_varTrue ia40 sz40, s_varTrue ia35 sz35, s_varTrue ia37 sz37, s_varTrue ia42 sz42, sbin, s_cellsIn, s_sbeq, s_bbeq, eqBin, yesO, notO, eq35, eq37, eq42, List.drop_succ_cons, List.drop_zero, List.take_succ_cons, List.take_zero, s_lappC, s_lappN, h1, h2, h3, h4, h5, h6, h7, h8, h9, h10] <;> rfl)); (try (change Gets _ _ _ _ _ _; repeat refine Gets.seq ?_))
                        refine ⟨rfl, _, rfl, ?_⟩
                        try simp only [effZ, rngZ, itemZ, h1, h2, h3, h4, h5, h6, h7, h8, h9, h10]
                        simp (disch := decide) only [sxL, h1, h2, h3, h4, h5, h6, h7, h8, h9, h10]
                      · by_cases h11 : ¬ itemZ c = true
                        · try simp only [Decidable.not_not, Bool.not_eq_true] at h1 h2 h3 h4 h5 h6 h7 h8 h9 h10 h11
                          try simp only [effZ, rngZ, itemZ] at h1 h2 h3 h4 h5 h6 h7 h8 h9 h10 h11
                          refine Gets.last Tryz.tabOk (ov := ptO noOv 57 [.agg [.str c.name, .int .i64 c.retries, .int .i64 c.deadline, c.steps], .agg [.str [], .int .i64 0, .int .i64 0, .nilslice]] H2 [(.bool (defZ c ks.length), H2)]) (ptO_ok noOv_ok hd) 8 (s' := ?sn11) ?hn11 ?kn11; (case hn11 => (simp -implicitDefEqProofs (disch := first | (simp only [ne_eq, Nat.reduceEqDiff, not_false_eq_true, Nat.reduceLT]; done) | assumption | (simp only [s_push_next, s_put_next, Nat.beq_refl]; done) | ((try simp only [s_push_next, s_put_next]) <;> omega) | exact s_one_map _ | exact s_one_slice _ _ _ _ _ | (refine (id ?_ : plainDraw _ = true); kernel_rfl) | fail) only [sxL, s_castN, s_cells_one, noOv, callFn, kindOf, kindC, kindB, unA, boxA, loadPtr, nilCheckA, fst1, ofValue, ofScalar, len, intBin, ibin, boolO, guardA, cCond, condV, cRet, cExit, cSkip, resOut, resultA, extractA, tupleO, Nat.reduceEqDiff, Nat.reduceAdd, Nat.reduceSub, Nat.reduceLT, Nat.reduceBEq, reduceCtorEq, Nat.reduceMod, Nat.reduceLeDiff, Int.reduceLT, Int.reduceAdd, Int.reduceEq, Int.reduceToNat, s_draw, hat1, hat2, fa44_0, fa44_1, fa44_2, fa44_3, fa44_4, fa44_5, fa44_6, fa44_7, fa44_8, fa44_9, fa44_10, fa44_11, fa44_12, s_varFalse ia9, s_varFalse ia3, s_varFalse ia2, s_varFalse ia28, s_varTrue ia40 sz40, s_varTrue ia35 sz35, s_varTrue ia37 sz37, s_varTrue ia42 sz42, sbin, s_cellsIn, s_sbeq, s_bbeq, eqBin, yesO, notO, eq35, eq37, eq42, List.drop_succ_cons, List.drop_zero, List.take_succ_cons, List.take_zero, s_lappC, s_lappN, h1, h2, h3, h4, h5, h6, h7, h8, h9, h10, h11] <;> rfl)); (try (change Gets _ _ _ _ _ _; repeat refine Gets.seq ?_))
                          refine ⟨rfl, _, rfl, ?_⟩
                          try simp only [effZ, rngZ, itemZ, h1, h2, h3, h4, h5, h6, h7, h8, h9, h10, h11]
                          simp (disch := decide) only [sxL, h1, h2, h3, h4, h5, h6, h7, h8, h9, h10, h11]
                        · by_cases h12 : ¬ c.res = 0
                          · try simp only [Decidable.not_not, Bool.not_eq_true] at h1 h2 h3 h4 h5 h6 h7 h8 h9 h10 h11 h12
                            try simp only [effZ, rngZ, itemZ] at h1 h2 h3 h4 h5 h6 h7 h8 h9 h10 h11 h12
                            refine Gets.last Tryz.tabOk (ov := ptO noOv 57 [.agg [.str c.name, .int .i64 c.retries, .int .i64 c.deadline, c.steps], .agg [.str [], .int .i64 0, .int .i64 0, .nilslice]] H2 [(.bool (defZ c ks.length), H2)]) (ptO_ok noOv_ok hd) 8 (s' := ?sn12) ?hn12 ?kn12; (case hn12 => (simp -implicitDefEqProofs (disch := first | (simp only [ne_eq, Nat.reduceEqDiff, not_false_eq_true, Nat.reduceLT]; done) | assumption | (simp only [s_push_next, s_put_next, Nat.beq_refl]; done) | ((try simp only [s_push_next, s_put_next]) <;> omega) | exact s_one_map _ | exact s_one_slice _ _ _ _ _ | (refine (id ?_ : plainDraw _ = true); kernel_rfl) | fail) only [sxL, s_castN, s_cells_one, noOv, callFn, kindOf, kindC, kindB, unA, boxA, loadPtr, nilCheckA, fst1, ofValue, ofScalar, len, intBin, ibin, boolO, guardA, cCond, condV, cRet, cExit, cSkip, resOut, resultA, extractA, tupleO, Nat.reduceEqDiff, Nat.reduceAdd, Nat.reduceSub, Nat.reduceLT, Nat.reduceBEq, reduceCtorEq, Nat.reduceMod, Nat.reduceLeDiff, Int.reduceLT, Int.reduceAdd, Int.reduceEq, Int.reduceToNat, s_draw, hat1, hat2, fa44_0, fa44_1, fa44_2, fa44_3, fa44_4, fa44_5, fa44_6, fa44_7, fa44_8, fa44_9, fa44_10, fa44_11, fa44_12, s_varFalse ia9, s_varFalse ia3, s_varFalse ia2, s_varFalse ia28, s_varTrue ia40 sz40, s_varTrue ia35 sz35, s_varTrue ia37 sz37, s_varTrue ia42 sz42, sbin, s_cellsIn, s_sbeq, s_bbeq, eqBin, yesO, notO, eq35, eq37, eq42, List.drop_succ_cons, List.drop_zero, List.take_succ_cons, List.take_zero, s_lappC, s_lappN, h1, h2, h3, h4, h5, h6, h7, h8, h9, h10, h11, h12] <;> rfl)); (try (change Gets _ _ _ _ _ _; repeat refine Gets.seq ?_))
                            refine ⟨rfl, _, rfl, ?_⟩
                            try simp only [effZ, rngZ, itemZ, h1, h2, h3, h4, h5, h6, h7, h8, h9, h10, h11, h12]
                            simp (disch := decide) only [sxL, h1, h2, h3, h4, h5, h6, h7, h8, h9, h10, h11, h12]
                          · try simp only [Decidable.not_not, Bool.not_eq_true] at h1 h2 h3 h4 h5 h6 h7 h8 h9 h10 h11 h12
                            try simp only [effZ, rngZ, itemZ] at h1 h2 h3 h4 h5 h6 h7 h8 h9 h10 h11 h12
                            refine Gets.last Tryz.tabOk (ov := ptO noOv 57 [.agg [.str c.name, .int .i64 c.retries, .int .i64 c.deadline, c.steps], .agg [.str [], .int .i64 0, .int .i64 0, .nilslice]] H2 [(.bool (defZ c ks.length), H2)]) (ptO_ok noOv_ok hd) 8 (s' := ?sn13) ?hn13 ?kn13; (case hn13 => (simp -implicitDefEqProofs (disch := first | (simp only [ne_eq, Nat.reduceEqDiff, not_false_eq_true, Nat.reduceLT]; done) | assumption | (simp only [s_push_next, s_put_next, Nat.beq_refl]; done) | ((try simp only [s_push_next, s_put_next]) <;> omega) | exact s_one_map _ | exact s_one_slice _ _ _ _ _ | (refine (id ?_ : plainDraw _ = true); kernel_rfl) | fail) only [sxL, s_castN, s_cells_one, noOv, callFn, kindOf, kindC, kindB, unA, boxA, loadPtr, nilCheckA, fst1, ofValue, ofScalar, len, intBin, ibin, boolO, guardA, cCond, condV, cRet, cExit, cSkip, resOut, resultA, extractA, tupleO, Nat.reduceEqDiff, Nat.reduceAdd, Nat.reduceSub, Nat.reduceLT, Nat.reduceBEq, reduceCtorEq, Nat.reduceMod, Nat.reduceLeDiff, Int.reduceLT, Int.reduceAdd, Int.reduceEq, Int.reduceToNat, s_draw, hat1, hat2, fa44_0, fa44_1, fa44_2, fa44_3, fa44_4, fa44_5, fa44_6, fa44_7, fa44_8, fa44_9, fa44_10, fa44_11, fa44_12, s_varFalse ia9, s_varFalse ia3, s_varFalse ia2, s_varFalse ia28, s_varTrue ia40 sz40, s_varTrue ia35 sz35, s_varTrue ia37 sz37, s_varTrue ia42 sz42, sbin, s_cellsIn, s_sbeq, s_bbeq, eqBin, yesO, notO, eq35, eq37, eq42, List.drop_succ_cons, List.drop_zero, List.take_succ_cons, List.take_zero, s_lappC, s_lappN, h1, h2, h3, h4, h5, h6, h7, h8, h9, h10, h11, h12] <;> rfl)); (try (change Gets _ _ _ _ _ _; repeat refine Gets.seq ?_))
                            refine ⟨rfl, _, rfl, ?_⟩
                            try simp only [effZ, rngZ, itemZ, h1, h2, h3, h4, h5, h6, h7, h8, h9, h10, h11, h12]
                            simp (disch := decide) only [sxL, h1, h2, h3, h4, h5, h6, h7, h8, h9, h10, h11, h12]
  rintro tm j4
  change Gets _ _ _ _ _ _
  refine Gets.ret Tryz.tabOk ?_
  exact fin_pure rfl (by simp -implicitDefEqProofs (disch := first | (simp only [ne_eq, Nat.reduceEqDiff, not_false_eq_true, Nat.reduceLT]; done) | assumption | (simp only [s_push_next, s_put_next, Nat.beq_refl]; done) | ((try simp only [s_push_next, s_put_next]) <;> omega) | exact s_one_map _ | exact s_one_slice _ _ _ _ _ | (refine (id ?_ : plainDraw _ = true); kernel_rfl) | fail) only [sxL, s_castN, s_cells_one, noOv, callFn, kindOf, kindC, kindB, unA, boxA, loadPtr, nilCheckA, fst1, ofValue, ofScalar, len, intBin, ibin, boolO, guardA, cCond, condV, cRet, cExit, cSkip, resOut, resultA, extractA, tupleO, Nat.reduceEqDiff, Nat.reduceAdd, Nat.reduceSub, Nat.reduceLT, Nat.reduceBEq, reduceCtorEq, Nat.reduceMod, Nat.reduceLeDiff, Int.reduceLT, Int.reduceAdd, Int.reduceEq, Int.reduceToNat, Tryz.f45, j4]) hg hN trivial
end Go.Proofs
