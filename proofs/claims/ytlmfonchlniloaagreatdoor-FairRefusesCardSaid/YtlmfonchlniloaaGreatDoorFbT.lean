/-
  What is refused, walked (part 2): the law's own code comes to true for every input.
-/
import Derived.Test.YtlmfonchlniloaaGreatDoorFbB
import Derived.Test.YtlmfonchlniloaaGreatDoorSxH
set_option linter.unusedSimpArgs false
set_option linter.unusedVariables false
namespace Go.Proofs
open Go.Sx
set_option maxRecDepth 100000
theorem el26 : Go.Sx.elemOf Tryz.tab 26 = some 25 := by kernel_rfl
theorem zero25 : Tryz.tab.zero 25 = some .nilFunc := by kernel_rfl
abbrev fns4 : List AV := [.func (.func 4) [] [], .func (.func 5) [] [], .func (.func 6) [] [], .func (.func 7) [] []]
theorem fill26 : fillA (fun i => some (i * 1, 1)) [(0, .func (.func 4) [] []), (1, .func (.func 5) [] []), (2, .func (.func 6) [] []), (3, .func (.func 7) [] [])] (repeatL (AV.cells .nilFunc) 4) = some fns4 := by kernel_rfl
theorem bs26 (H : Heap) : buildSliceA Tryz.tab H 26 4 [(0, .func (.func 4) [] []), (1, .func (.func 5) [] []), (2, .func (.func 6) [] []), (3, .func (.func 7) [] [])] = some (.slice H.next 0 4 false 4, H.push (.cells 25 true fns4)) := by
  unfold buildSliceA
  rw [el26, s_bindO, sz25, s_bindO, zero25, s_bindO]
  rw [show Nat.ble (4 * 1) 10000 = true from rfl, cond_true, show Nat.beq (len (AV.cells .nilFunc)) 1 = true by kernel_rfl, cond_true, fill26, s_bindO]
  unfold newSlice
  rw [s_newRowA]
  rfl
theorem len26 (H : Heap) (b : Nat) : lenA Tryz.tab H 26 (.slice b 0 4 false 4) = some (.int .i64 4) := by kernel_rfl
theorem fns4_at (k : Nat) (hk : k < 4) : fns4[k]? = some (.func (.func (4 + k)) [] []) := by
  match k, hk with
  | 0, _ => rfl
  | 1, _ => rfl
  | 2, _ => rfl
  | 3, _ => rfl
theorem ix26 (b k : Nat) (hk : k < 4) : indexAddrA Tryz.tab 26 (.slice b 0 4 false 4) (.int .i64 (k : Int)) = some (.ptr b k) := by
  match k, hk with
  | 0, _ => (show _ = _; kernel_rfl)
  | 1, _ => (show _ = _; kernel_rfl)
  | 2, _ => (show _ = _; kernel_rfl)
  | 3, _ => (show _ = _; kernel_rfl)
theorem el38 : Go.Sx.elemOf Tryz.tab 38 = some 3 := by kernel_rfl
theorem zero3 : Tryz.tab.zero 3 = some (.int .i64 0) := by kernel_rfl
theorem fill38 (x y : Int) : fillA (fun i => some (i * 1, 1)) [(0, .int .i64 x), (1, .int .i64 y)] (repeatL (AV.cells (.int .i64 0)) 2) = some [.int .i64 x, .int .i64 y] := by kernel_rfl
theorem bs38 (H : Heap) (x y : Int) : buildSliceA Tryz.tab H 38 2 [(0, .int .i64 x), (1, .int .i64 y)] = some (.slice H.next 0 2 false 2, H.push (.cells 3 true [.int .i64 x, .int .i64 y])) := by
  unfold buildSliceA
  rw [el38, s_bindO, sz3, s_bindO, zero3, s_bindO]
  rw [show Nat.ble (2 * 1) 10000 = true from rfl, cond_true, show Nat.beq (len (AV.cells (.int .i64 0))) 1 = true by kernel_rfl, cond_true, fill38, s_bindO]
  unfold newSlice
  rw [s_newRowA]
  rfl
theorem len38 (H : Heap) (b : Nat) : lenA Tryz.tab H 38 (.slice b 0 2 false 2) = some (.int .i64 2) := by kernel_rfl
theorem ix38 (b k : Nat) (hk : k < 2) : indexAddrA Tryz.tab 38 (.slice b 0 2 false 2) (.int .i64 (k : Int)) = some (.ptr b k) := by
  match k, hk with
  | 0, _ => (show _ = _; kernel_rfl)
  | 1, _ => (show _ = _; kernel_rfl)
theorem el55 : Go.Sx.elemOf Tryz.tab 55 = some 29 := by kernel_rfl
theorem zero29 : Tryz.tab.zero 29 = some .nilptr := by kernel_rfl
theorem fill55 (b : Nat) : fillA (fun i => some (i * 1, 1)) [(0, .nilptr), (1, .ptr b 0)] (repeatL (AV.cells .nilptr) 2) = some [.nilptr, .ptr b 0] := by kernel_rfl
theorem bs55 (H : Heap) (b : Nat) : buildSliceA Tryz.tab H 55 2 [(0, .nilptr), (1, .ptr b 0)] = some (.slice H.next 0 2 false 2, H.push (.cells 29 true [.nilptr, .ptr b 0])) := by
  unfold buildSliceA
  rw [el55, s_bindO, sz29, s_bindO, zero29, s_bindO]
  rw [show Nat.ble (2 * 1) 10000 = true from rfl, cond_true, show Nat.beq (len (AV.cells .nilptr)) 1 = true by kernel_rfl, cond_true, fill55, s_bindO]
  unfold newSlice
  rw [s_newRowA]
  rfl
theorem len55 (H : Heap) (b : Nat) : lenA Tryz.tab H 55 (.slice b 0 2 false 2) = some (.int .i64 2) := by kernel_rfl
theorem ix55 (b k : Nat) (hk : k < 2) : indexAddrA Tryz.tab 55 (.slice b 0 2 false 2) (.int .i64 (k : Int)) = some (.ptr b k) := by
  match k, hk with
  | 0, _ => (show _ = _; kernel_rfl)
  | 1, _ => (show _ = _; kernel_rfl)
theorem build54 : buildA Tryz.tab 54 [] = some (.agg z54) := by kernel_rfl
theorem box54 (H : Heap) : boxA H 54 (.agg z54) = some (.ptr H.next 0, H.push (.cells 54 true z54)) := by
  unfold boxA
  rw [s_newRowA]
  rfl
theorem mk43a (H : Heap) : makeSliceA Tryz.tab H 43 (.int .i64 100001) (.int .i64 100001) = newBig H 120 100001 100001 1000010 z120 := by kernel_rfl
theorem mk43 (H : Heap) : makeSliceA Tryz.tab H 43 (.int .i64 100001) (.int .i64 100001) = some (.slice H.next 0 100001 false 100001, H.push (.big 120 1000010 z120)) := by
  rw [mk43a]; unfold newBig; rw [forceN_eq, forceVs_eq, newA_eq]
theorem mk43b (H : Heap) : makeSliceA Tryz.tab H 43 (.int .i64 100000) (.int .i64 100000) = newBig H 120 100000 100000 1000000 z120 := by kernel_rfl
theorem mk43c (H : Heap) : makeSliceA Tryz.tab H 43 (.int .i64 100000) (.int .i64 100000) = some (.slice H.next 0 100000 false 100000, H.push (.big 120 1000000 z120)) := by
  rw [mk43b]; unfold newBig; rw [forceN_eq, forceVs_eq, newA_eq]
theorem nq24 : isNoneO (Tryz.tab.noEq.get 24) = true := by kernel_rfl
theorem eq24 : eqBin .neq (eqA Tryz.tab 60 24 (.agg [.int .i64 0, .int .i64 0, .int .i64 0, .int .i64 0, .int .i64 0, .int .i64 0]) (.agg [.int .i64 0, .int .i64 0, .int .i64 0, .int .i64 0, .int .i64 0, .int .i64 0])) = some (.bool false) := by kernel_rfl
/-- the four bounds refuse a size that is none -/
theorem top_kf (k : Nat) (hk : k < 4) (a b c d e f : Int) (h : okS a b c d e f = false) (H : Heap) (hn : Neat H) : CallTo Tryz.prog Tryz.tab (4 + k) [szV a b c d e f] H [(.tuple [.int .i64 0, .int .i64 2], H)] := by
  match k, hk with
  | 0, _ => (have := top_elect a b c d e f H hn; rw [valG_f _ h] at this; exact this)
  | 1, _ => (have := top_comm a b c d e f H hn; rw [valG_f _ h] at this; exact this)
  | 2, _ => (have := top_itm a b c d e f H hn; rw [valG_f _ h] at this; exact this)
  | 3, _ => (have := top_bnd a b c d e f H hn; rw [valG_f _ h] at this; exact this)
theorem AH.push {n : Nat} {h : Heap} {o : ABlk} (hA : AH n h o) (hn : 10 < n) (o' : ABlk) : AH (n + 1) (h.push o') o :=
  ⟨by rw [s_push_next, hA.next], by rw [s_push_other _ _ (by rw [hA.next]; omega)]; exact hA.get, fun b hb => by rw [s_push_other _ _ (by rw [hA.next]; omega)]; exact hA.low b hb, hA.neat.push _⟩
/-- the four bounds, one by one -/
theorem fr_it4 (m : Int) (tm : T AV) (h : Heap) (hB : BadSz 11 m tm h) : Gets Tryz.prog Tryz.tab ⟨none, 228⟩ (itC 4 fr3) ⟨tm, h, []⟩ fun e s' => e = .normal ∧ ∃ tm h, s' = ⟨tm, h, []⟩ ∧ BadSz 12 m tm h := by
  obtain ⟨i5, i6, s0, s1, s2, s3, s4, s5, hok, hA⟩ := hB
  repeat refine Gets.seq ?_
  refine Gets.last Tryz.tabOk (ov := noOv) (noOv_ok) 8 (s' := ?sn1) ?hn1 ?kn1; (case hn1 => (simp -implicitDefEqProofs (disch := first | (simp only [ne_eq, Nat.reduceEqDiff, not_false_eq_true, Nat.reduceLT]; done) | assumption | (simp only [s_push_next, s_put_next, Nat.beq_refl]; done) | ((try simp only [s_push_next, s_put_next]) <;> omega) | exact s_one_map _ | exact s_one_slice _ _ _ _ _ | (refine (id ?_ : plainDraw _ = true); kernel_rfl) | fail) only [sxL, s_castN, s_cells_one, noOv, callFn, kindOf, kindC, kindB, unA, boxA, loadPtr, nilCheckA, fst1, ofValue, ofScalar, len, intBin, ibin, boolO, guardA, cCond, condV, cRet, cExit, cSkip, resOut, resultA, extractA, tupleO, Nat.reduceEqDiff, Nat.reduceAdd, Nat.reduceSub, Nat.reduceLT, Nat.reduceBEq, reduceCtorEq, Nat.reduceMod, Nat.reduceLeDiff, Int.reduceLT, Int.reduceAdd, Int.reduceEq, Int.reduceToNat, s_draw, bs26, len26] <;> rfl)); (try (change Gets _ _ _ _ _ _; repeat refine Gets.seq ?_))
  have A2 := hA.push (by omega) (.cells 25 true fns4)
  have gb : (h.push (.cells 25 true fns4)).blks.get h.next = some (.cells 25 true fns4) := s_push_same _ _
  have n2 := A2.neat
  refine Gets.upto 4 (fun k tm => tm.get 5 = some (.int .i64 m) ∧ tm.get 6 = some (.ptr 10 0) ∧ tm.get 100 = some (.slice h.next 0 4 false 4) ∧ tm.get 101 = some (.int .i64 4) ∧ tm.get 102 = some (.int .i64 (k : Int))) ⟨by simp (disch := decide) only [sxL, i5], by simp (disch := decide) only [sxL, i6], by simp (disch := decide) only [sxL], by simp (disch := decide) only [sxL], by simp (disch := decide) only [sxL]⟩ ?_
  generalize h.push (.cells 25 true fns4) = h2 at A2 gb n2 ⊢
  generalize h.next = b at gb ⊢
  clear i5 i6
  rintro k tm hk ⟨i5, i6, i100, i101, i102⟩
  repeat refine Gets.seq ?_
  by_cases hlk : (k : Int) < 4
  · have hk4 : k < 4 := by omega
    have hf := fns4_at k hk4
    have hc : cellIn (h2.blks.get b) k = some (.func (.func (4 + k)) [] []) := by rw [gb, s_cellIn]; exact hf
    have cX : Sx.cellsIn (h2.blks.get 10) 0 6 = some [.int .i64 s0, .int .i64 s1, .int .i64 s2, .int .i64 s3, .int .i64 s4, .int .i64 s5] := by rw [A2.get]; exact cells6 ..
    have q1 := top_kf k hk4 _ _ _ _ _ _ hok h2 n2
    have hwk : awrap .i64 ((k : Int) + 1) = (k : Int) + 1 := s_wrap (by omega) (by omega)
    refine Gets.last Tryz.tabOk (ov := noOv) (noOv_ok) 8 (s' := ?sn2) ?hn2 ?kn2; (case hn2 => (simp -implicitDefEqProofs (disch := first | (simp only [ne_eq, Nat.reduceEqDiff, not_false_eq_true, Nat.reduceLT]; done) | assumption | (simp only [s_push_next, s_put_next, Nat.beq_refl]; done) | ((try simp only [s_push_next, s_put_next]) <;> omega) | exact s_one_map _ | exact s_one_slice _ _ _ _ _ | (refine (id ?_ : plainDraw _ = true); kernel_rfl) | fail) only [sxL, s_castN, s_cells_one, noOv, callFn, kindOf, kindC, kindB, unA, boxA, loadPtr, nilCheckA, fst1, ofValue, ofScalar, len, intBin, ibin, boolO, guardA, cCond, condV, cRet, cExit, cSkip, resOut, resultA, extractA, tupleO, Nat.reduceEqDiff, Nat.reduceAdd, Nat.reduceSub, Nat.reduceLT, Nat.reduceBEq, reduceCtorEq, Nat.reduceMod, Nat.reduceLeDiff, Int.reduceLT, Int.reduceAdd, Int.reduceEq, Int.reduceToNat, s_draw, i101, i102, hlk] <;> rfl)); (try (change Gets _ _ _ _ _ _; repeat refine Gets.seq ?_))
    refine Gets.condT (by simp (disch := decide) only [sxL]) (Gets.skip Tryz.tabOk ?_)
    change Gets _ _ _ _ _ _
    refine Gets.seq (Gets.blk ?_)
    repeat refine Gets.seq ?_
    refine Gets.last Tryz.tabOk (ov := noOv) (noOv_ok) 8 (s' := ?sn3) ?hn3 ?kn3; (case hn3 => (simp -implicitDefEqProofs (disch := first | (simp only [ne_eq, Nat.reduceEqDiff, not_false_eq_true, Nat.reduceLT]; done) | assumption | (simp only [s_push_next, s_put_next, Nat.beq_refl]; done) | ((try simp only [s_push_next, s_put_next]) <;> omega) | exact s_one_map _ | exact s_one_slice _ _ _ _ _ | (refine (id ?_ : plainDraw _ = true); kernel_rfl) | fail) only [sxL, s_castN, s_cells_one, noOv, callFn, kindOf, kindC, kindB, unA, boxA, loadPtr, nilCheckA, fst1, ofValue, ofScalar, len, intBin, ibin, boolO, guardA, cCond, condV, cRet, cExit, cSkip, resOut, resultA, extractA, tupleO, Nat.reduceEqDiff, Nat.reduceAdd, Nat.reduceSub, Nat.reduceLT, Nat.reduceBEq, reduceCtorEq, Nat.reduceMod, Nat.reduceLeDiff, Int.reduceLT, Int.reduceAdd, Int.reduceEq, Int.reduceToNat, s_draw, i100, i102, ix26 b k hk4, s_varFalse ia25, hc] <;> rfl)); (try (change Gets _ _ _ _ _ _; repeat refine Gets.seq ?_))
    refine Gets.last Tryz.tabOk (ov := ptO noOv (4 + k) [szV s0 s1 s2 s3 s4 s5] h2 [(.tuple [.int .i64 0, .int .i64 2], h2)]) (ptO_ok noOv_ok q1) 8 (s' := ?sn4) ?hn4 ?kn4; (case hn4 => (simp -implicitDefEqProofs (disch := first | (simp only [ne_eq, Nat.reduceEqDiff, not_false_eq_true, Nat.reduceLT]; done) | assumption | (simp only [s_push_next, s_put_next, Nat.beq_refl]; done) | ((try simp only [s_push_next, s_put_next]) <;> omega) | exact s_one_map _ | exact s_one_slice _ _ _ _ _ | (refine (id ?_ : plainDraw _ = true); kernel_rfl) | fail) only [sxL, s_castN, s_cells_one, noOv, callFn, kindOf, kindC, kindB, unA, boxA, loadPtr, nilCheckA, fst1, ofValue, ofScalar, len, intBin, ibin, boolO, guardA, cCond, condV, cRet, cExit, cSkip, resOut, resultA, extractA, tupleO, Nat.reduceEqDiff, Nat.reduceAdd, Nat.reduceSub, Nat.reduceLT, Nat.reduceBEq, reduceCtorEq, Nat.reduceMod, Nat.reduceLeDiff, Int.reduceLT, Int.reduceAdd, Int.reduceEq, Int.reduceToNat, s_draw, i6, cX, s_varTrue ia24 sz24] <;> rfl)); (try (change Gets _ _ _ _ _ _; repeat refine Gets.seq ?_))
    refine Gets.last Tryz.tabOk (ov := noOv) (noOv_ok) 8 (s' := ?sn5) ?hn5 ?kn5; (case hn5 => (simp -implicitDefEqProofs (disch := first | (simp only [ne_eq, Nat.reduceEqDiff, not_false_eq_true, Nat.reduceLT]; done) | assumption | (simp only [s_push_next, s_put_next, Nat.beq_refl]; done) | ((try simp only [s_push_next, s_put_next]) <;> omega) | exact s_one_map _ | exact s_one_slice _ _ _ _ _ | (refine (id ?_ : plainDraw _ = true); kernel_rfl) | fail) only [sxL, s_castN, s_cells_one, noOv, callFn, kindOf, kindC, kindB, unA, boxA, loadPtr, nilCheckA, fst1, ofValue, ofScalar, len, intBin, ibin, boolO, guardA, cCond, condV, cRet, cExit, cSkip, resOut, resultA, extractA, tupleO, Nat.reduceEqDiff, Nat.reduceAdd, Nat.reduceSub, Nat.reduceLT, Nat.reduceBEq, reduceCtorEq, Nat.reduceMod, Nat.reduceLeDiff, Int.reduceLT, Int.reduceAdd, Int.reduceEq, Int.reduceToNat, s_draw] <;> rfl)); (try (change Gets _ _ _ _ _ _; repeat refine Gets.seq ?_))
    refine Gets.condF (by simp (disch := decide) only [sxL]) (Gets.skip Tryz.tabOk ?_)
    change Gets _ _ _ _ _ _
    refine Gets.last Tryz.tabOk (ov := noOv) (noOv_ok) 8 (s' := ?sn6) ?hn6 ?kn6; (case hn6 => (simp -implicitDefEqProofs (disch := first | (simp only [ne_eq, Nat.reduceEqDiff, not_false_eq_true, Nat.reduceLT]; done) | assumption | (simp only [s_push_next, s_put_next, Nat.beq_refl]; done) | ((try simp only [s_push_next, s_put_next]) <;> omega) | exact s_one_map _ | exact s_one_slice _ _ _ _ _ | (refine (id ?_ : plainDraw _ = true); kernel_rfl) | fail) only [sxL, s_castN, s_cells_one, noOv, callFn, kindOf, kindC, kindB, unA, boxA, loadPtr, nilCheckA, fst1, ofValue, ofScalar, len, intBin, ibin, boolO, guardA, cCond, condV, cRet, cExit, cSkip, resOut, resultA, extractA, tupleO, Nat.reduceEqDiff, Nat.reduceAdd, Nat.reduceSub, Nat.reduceLT, Nat.reduceBEq, reduceCtorEq, Nat.reduceMod, Nat.reduceLeDiff, Int.reduceLT, Int.reduceAdd, Int.reduceEq, Int.reduceToNat, s_draw, i102, hwk] <;> rfl)); (try (change Gets _ _ _ _ _ _; repeat refine Gets.seq ?_))
    refine ⟨_, rfl, by omega, by simp (disch := decide) only [sxL, i5], by simp (disch := decide) only [sxL, i6], by simp (disch := decide) only [sxL, i100], by simp (disch := decide) only [sxL, i101], by simp (disch := decide) only [sxL, s_castS]⟩
  · have hk4 : k = 4 := by omega
    subst hk4
    refine Gets.last Tryz.tabOk (ov := noOv) (noOv_ok) 8 (s' := ?sn7) ?hn7 ?kn7; (case hn7 => (simp -implicitDefEqProofs (disch := first | (simp only [ne_eq, Nat.reduceEqDiff, not_false_eq_true, Nat.reduceLT]; done) | assumption | (simp only [s_push_next, s_put_next, Nat.beq_refl]; done) | ((try simp only [s_push_next, s_put_next]) <;> omega) | exact s_one_map _ | exact s_one_slice _ _ _ _ _ | (refine (id ?_ : plainDraw _ = true); kernel_rfl) | fail) only [sxL, s_castN, s_cells_one, noOv, callFn, kindOf, kindC, kindB, unA, boxA, loadPtr, nilCheckA, fst1, ofValue, ofScalar, len, intBin, ibin, boolO, guardA, cCond, condV, cRet, cExit, cSkip, resOut, resultA, extractA, tupleO, Nat.reduceEqDiff, Nat.reduceAdd, Nat.reduceSub, Nat.reduceLT, Nat.reduceBEq, reduceCtorEq, Nat.reduceMod, Nat.reduceLeDiff, Int.reduceLT, Int.reduceAdd, Int.reduceEq, Int.reduceToNat, s_draw, i101, i102, hlk] <;> rfl)); (try (change Gets _ _ _ _ _ _; repeat refine Gets.seq ?_))
    refine Gets.condF (by simp (disch := decide) only [sxL]) (Gets.exit Tryz.tabOk ?_)
    refine inBlk_exit ?_
    exact ⟨rfl, _, _, rfl, by simp (disch := decide) only [sxL, i5], by simp (disch := decide) only [sxL, i6], _, _, _, _, _, _, hok, A2⟩
/-- the memory when the cluster of the examples stands -/
structure KH (n : Nat) (h : Heap) : Prop where
  next : h.next = n
  knows : Knows h
  low : ∀ b, b < 10 → h.blks.get b = gH0.blks.get b
  neat : Neat h
theorem KH.push {n : Nat} {h : Heap} (hk : KH n h) (hn : 10 ≤ n) (o : ABlk) : KH (n + 1) (h.push o) :=
  ⟨by rw [s_push_next, hk.next], hk.knows.push hk.neat o, fun b hb => by rw [s_push_other _ _ (by rw [hk.next]; omega)]; exact hk.low b hb, hk.neat.push _⟩
theorem KH.put {n : Nat} {h : Heap} (hk : KH n h) {k : Nat} (h1 : 701 ≤ k) (h2 : k < n) (o : ABlk) : KH n (putBlk h k (some o)) :=
  ⟨by rw [s_put_next]; exact hk.next, hk.knows.put h1 _, fun b hb => by rw [s_put_other _ _ _ (by omega)]; exact hk.low b hb, hk.neat.put (by rw [hk.next]; exact h2) _⟩
theorem KH.raise {n : Nat} {h : Heap} (hk : KH n h) (n' : Nat) (hle : n ≤ n') : KH n' ⟨n', h.blks⟩ :=
  ⟨rfl, hk.knows, hk.low, fun b o hb => Nat.lt_of_lt_of_le (by have := hk.neat b o hb; rw [hk.next] at this; exact this) hle⟩
theorem up_to {c : Ctx} {x : Code} {tm : T AV} {H : Heap} {Q : Ex → St → Prop} (n' : Nat) (hn : H.next ≤ n') (h : Gets Tryz.prog Tryz.tab c x ⟨tm, ⟨n', H.blks⟩, []⟩ Q) : Gets Tryz.prog Tryz.tab c x ⟨tm, H, []⟩ Q :=
  Gets.subH (H' := ⟨n', H.blks⟩) (fun _ _ hb => hb) hn h
theorem fr0_10 : frH0.blks.get 10 = none := by kernel_rfl
theorem frC_10 : frCfg.blks.get 10 = none := by kernel_rfl
theorem frN_10 : frN.blks.get 10 = none := by kernel_rfl
theorem g0_lt (b : Nat) (o : ABlk) (h : gH0.blks.get b = some o) : b < 10 := by
  unfold gH0 at h
  simp only at h
  rw [T.get_set] at h
  split at h
  · omega
  · simp [T.get_e] at h
theorem frN_low (b : Nat) (hb : b < 10) : frN.blks.get b = gH0.blks.get b := by
  have h1 := (keptB_ok frK2k).2.1 b (show b < 16 by omega)
  have h2 := (keptB_ok frK1k).2.1 b (show b < 12 by omega)
  rw [h1, h2]; rfl
theorem KH.base (o : ABlk) : KH 701 ⟨701, frN.blks.set 10 (some o)⟩ :=
  ⟨rfl, fun b o' hb => by
    show (frN.blks.set 10 (some o)).get b = _
    rw [T.get_set, if_neg (by rintro rfl; rw [frN_10] at hb; simp at hb)]; exact hb, fun b hb => by
    show (frN.blks.set 10 (some o)).get b = _
    rw [T.get_set, if_neg (by omega)]; exact frN_low b hb, fun b o' hb => by
    have hb : (frN.blks.set 10 (some o)).get b = some o' := hb
    show b < 701
    rw [T.get_set] at hb
    split at hb
    · omega
    · exact frN_lt b o' hb⟩
def MadeC (m : Int) (tm : T AV) (h : Heap) : Prop := tm.get 5 = some (.int .i64 m) ∧ tm.get 6 = some (.ptr 10 0) ∧ tm.get 11 = some frC ∧ tm.get 12 = some (.int .i64 0) ∧ KH 701 h ∧
  ∃ s0 s1 s2 s3 s4 s5 : Int, okS s0 s1 s2 s3 s4 s5 = false ∧ h.blks.get 10 = some (szB 24 s0 s1 s2 s3 s4 s5)
/-- the cluster of the examples -/
theorem fr_it5 (m : Int) (tm : T AV) (h : Heap) (hB : BadSz 12 m tm h) : Gets Tryz.prog Tryz.tab ⟨none, 228⟩ (itC 5 fr3) ⟨tm, h, []⟩ fun e s' => e = .normal ∧ ∃ tm h, s' = ⟨tm, h, []⟩ ∧ MadeC m tm h := by
  obtain ⟨i5, i6, s0, s1, s2, s3, s4, s5, hok, hA⟩ := hB
  refine Gets.subH (H' := ⟨12, gH0.blks.set 10 (some (szB 24 s0 s1 s2 s3 s4 s5))⟩) (fun b o hb => ?_) (by rw [hA.next]; exact Nat.le_refl _) ?_
  · have hb : (gH0.blks.set 10 (some (szB 24 s0 s1 s2 s3 s4 s5))).get b = some o := hb
    rw [T.get_set] at hb
    split at hb
    · rename_i e; rw [e, hA.get]; exact hb
    · rw [hA.low b (g0_lt b o hb)]; exact hb
  have q1 := union_run (runTo_ok Tryz.tabOk frOv0_ok frK1 frK1k) frK1k frK1c (k := 10) fr0_10 (show 10 < 12 by omega) (szB 24 s0 s1 s2 s3 s4 s5)
  have q2 := union_run (runTo_ok Tryz.tabOk frOv_ok frK2 frK2k) frK2k frK2c (k := 10) frC_10 (show 10 < 16 by omega) (szB 24 s0 s1 s2 s3 s4 s5)
  have k3 := KH.base (szB 24 s0 s1 s2 s3 s4 s5)
  have g3 : (⟨701, frN.blks.set 10 (some (szB 24 s0 s1 s2 s3 s4 s5))⟩ : Heap).blks.get 10 = some (szB 24 s0 s1 s2 s3 s4 s5) := by
    show (frN.blks.set 10 _).get 10 = _
    rw [T.get_set, if_pos rfl]
  change CallTo _ _ _ _ ⟨12, gH0.blks.set 10 (some (szB 24 s0 s1 s2 s3 s4 s5))⟩ _ at q1
  change CallTo _ _ _ _ _ [(_, ⟨701, frN.blks.set 10 (some (szB 24 s0 s1 s2 s3 s4 s5))⟩)] at q2
  generalize (⟨12, gH0.blks.set 10 (some (szB 24 s0 s1 s2 s3 s4 s5))⟩ : Heap) = h0 at q1 ⊢
  generalize (⟨701, frN.blks.set 10 (some (szB 24 s0 s1 s2 s3 s4 s5))⟩ : Heap) = h2 at q2 k3 g3 ⊢
  generalize (⟨frCfg.next, frCfg.blks.set 10 (some (szB 24 s0 s1 s2 s3 s4 s5))⟩ : Heap) = h1 at q1 q2
  generalize frCf = cf at q1 q2
  change Gets _ _ _ (Code.region _ _ _) _ _
  refine Gets.last Tryz.tabOk (ov := ptO (ptO noOv 9 [.int .u8 0, .int .u8 0] h0 [(cf, h1)]) 8 [cf] h1 [(.tuple [frC, .int .i64 0], h2)]) (ptO_ok (ptO_ok noOv_ok q1) q2) 8 (s' := ?sn8) ?hn8 ?kn8; (case hn8 => (simp -implicitDefEqProofs (disch := first | (simp only [ne_eq, Nat.reduceEqDiff, not_false_eq_true, Nat.reduceLT]; done) | assumption | (simp only [s_push_next, s_put_next, Nat.beq_refl]; done) | ((try simp only [s_push_next, s_put_next]) <;> omega) | exact s_one_map _ | exact s_one_slice _ _ _ _ _ | (refine (id ?_ : plainDraw _ = true); kernel_rfl) | fail) only [sxL, s_castN, s_cells_one, noOv, callFn, kindOf, kindC, kindB, unA, boxA, loadPtr, nilCheckA, fst1, ofValue, ofScalar, len, intBin, ibin, boolO, guardA, cCond, condV, cRet, cExit, cSkip, resOut, resultA, extractA, tupleO, Nat.reduceEqDiff, Nat.reduceAdd, Nat.reduceSub, Nat.reduceLT, Nat.reduceBEq, reduceCtorEq, Nat.reduceMod, Nat.reduceLeDiff, Int.reduceLT, Int.reduceAdd, Int.reduceEq, Int.reduceToNat, s_draw, s_ptEq] <;> rfl)); (try (change Gets _ _ _ _ _ _; repeat refine Gets.seq ?_))
  exact ⟨rfl, _, _, rfl, by simp (disch := decide) only [sxL, i5], by simp (disch := decide) only [sxL, i6], by simp (disch := decide) only [sxL], by simp (disch := decide) only [sxL], k3, _, _, _, _, _, _, hok, g3⟩
/-- the size is none -/
theorem fr_it6 (m : Int) (tm : T AV) (h : Heap) (hB : MadeC m tm h) : Gets Tryz.prog Tryz.tab ⟨none, 228⟩ (itC 6 fr3) ⟨tm, h, []⟩ fun e s' => e = .normal ∧ ∃ tm h, s' = ⟨tm, h, []⟩ ∧ MadeC m tm h := by
  obtain ⟨i5, i6, i11, i12, hK, s0, s1, s2, s3, s4, s5, hok, g10⟩ := hB
  repeat refine Gets.seq ?_
  have cX : Sx.cellsIn (h.blks.get 10) 0 6 = some [.int .i64 s0, .int .i64 s1, .int .i64 s2, .int .i64 s3, .int .i64 s4, .int .i64 s5] := by rw [g10]; exact cells6 ..
  have q1 := chk_pure s0 s1 s2 s3 s4 s5 h hK.neat
  rw [chk_f hok] at q1
  refine Gets.last Tryz.tabOk (ov := ptO noOv 10 [szV s0 s1 s2 s3 s4 s5] h [(.int .i64 2, h)]) (ptO_ok noOv_ok q1) 8 (s' := ?sn9) ?hn9 ?kn9; (case hn9 => (simp -implicitDefEqProofs (disch := first | (simp only [ne_eq, Nat.reduceEqDiff, not_false_eq_true, Nat.reduceLT]; done) | assumption | (simp only [s_push_next, s_put_next, Nat.beq_refl]; done) | ((try simp only [s_push_next, s_put_next]) <;> omega) | exact s_one_map _ | exact s_one_slice _ _ _ _ _ | (refine (id ?_ : plainDraw _ = true); kernel_rfl) | fail) only [sxL, s_castN, s_cells_one, noOv, callFn, kindOf, kindC, kindB, unA, boxA, loadPtr, nilCheckA, fst1, ofValue, ofScalar, len, intBin, ibin, boolO, guardA, cCond, condV, cRet, cExit, cSkip, resOut, resultA, extractA, tupleO, Nat.reduceEqDiff, Nat.reduceAdd, Nat.reduceSub, Nat.reduceLT, Nat.reduceBEq, reduceCtorEq, Nat.reduceMod, Nat.reduceLeDiff, Int.reduceLT, Int.reduceAdd, Int.reduceEq, Int.reduceToNat, s_draw, i6, i12, cX, s_varTrue ia24 sz24] <;> rfl)); (try (change Gets _ _ _ _ _ _; repeat refine Gets.seq ?_))
  refine Gets.condF (by simp (disch := decide) only [sxL]) (Gets.skip Tryz.tabOk ?_)
  exact ⟨rfl, _, _, rfl, by simp (disch := decide) only [sxL, i5], by simp (disch := decide) only [sxL, i6], by simp (disch := decide) only [sxL, i11], by simp (disch := decide) only [sxL, i12], hK, _, _, _, _, _, _, hok, g10⟩
end Go.Proofs

namespace Go.Proofs
open Go.Sx
set_option maxRecDepth 100000
def TwoB (i n : Nat) (m : Int) (tm : T AV) (h : Heap) : Prop := tm.get 11 = some frC ∧ tm.get 135 = some (.slice 701 0 2 false 2) ∧ tm.get 136 = some (.int .i64 2) ∧ tm.get 137 = some (.int .i64 (i : Int)) ∧ KH n h ∧ h.blks.get 701 = some (.cells 3 true [.int .i64 (-m), .int .i64 (1000001 + m)])
/-- windows that are none -/
theorem fr_it7 (m : Int) (hm : U m) (tm : T AV) (h : Heap) (hB : MadeC m tm h) : Gets Tryz.prog Tryz.tab ⟨none, 228⟩ (itC 7 fr3) ⟨tm, h, []⟩ fun e s' => e = .normal ∧ ∃ tm h, s' = ⟨tm, h, []⟩ ∧ tm.get 11 = some frC ∧ KH 704 h := by
  obtain ⟨i5, i6, i11, i12, hK, -⟩ := hB
  have hn := hK.next
  have w1 : awrap .i64 (0 - m) = -m := (s_wrap (by have := hm; omega) (by have := hm; omega)).trans (by omega)
  have w2 : awrap .i64 (1000001 + m) = 1000001 + m := s_wrap (by have := hm; omega) (by have := hm; omega)
  repeat refine Gets.seq ?_
  refine Gets.last Tryz.tabOk (ov := noOv) (noOv_ok) 8 (s' := ?sn1) ?hn1 ?kn1; (case hn1 => (simp -implicitDefEqProofs (disch := first | (simp only [ne_eq, Nat.reduceEqDiff, not_false_eq_true, Nat.reduceLT]; done) | assumption | (simp only [s_push_next, s_put_next, Nat.beq_refl]; done) | ((try simp only [s_push_next, s_put_next]) <;> omega) | exact s_one_map _ | exact s_one_slice _ _ _ _ _ | (refine (id ?_ : plainDraw _ = true); kernel_rfl) | fail) only [sxL, s_castN, s_cells_one, noOv, callFn, kindOf, kindC, kindB, unA, boxA, loadPtr, nilCheckA, fst1, ofValue, ofScalar, len, intBin, ibin, boolO, guardA, cCond, condV, cRet, cExit, cSkip, resOut, resultA, extractA, tupleO, Nat.reduceEqDiff, Nat.reduceAdd, Nat.reduceSub, Nat.reduceLT, Nat.reduceBEq, reduceCtorEq, Nat.reduceMod, Nat.reduceLeDiff, Int.reduceLT, Int.reduceAdd, Int.reduceEq, Int.reduceToNat, s_draw, i5, w1, w2, bs38, len38] <;> rfl)); (try (change Gets _ _ _ _ _ _; repeat refine Gets.seq ?_))
  refine Gets.uptoH 2 (fun i tm h => TwoB i (702 + i) m tm h) ⟨by simp (disch := decide) only [sxL, i11], by simp (disch := decide) only [sxL, hn], by simp (disch := decide) only [sxL], by simp (disch := decide) only [sxL], hK.push (by omega) _, by rw [← hn]; exact s_push_same _ _⟩ ?_
  clear hK hn i5 i6 i11 i12
  rintro i tm h hi ⟨i11, i135, i136, i137, hK, g⟩
  repeat refine Gets.seq ?_
  by_cases hlt : (i : Int) < 2
  · have hi2 : i < 2 := by omega
    have hn := hK.next
    obtain ⟨w, hc, hw⟩ : ∃ w, cellIn (h.blks.get 701) i = some (.int .i64 w) ∧ inN w 1 1000000 = false := by
      rw [g, s_cellIn]
      match i, hi2 with
      | 0, _ => exact ⟨-m, rfl, decide_eq_false (by have := hm; omega)⟩
      | 1, _ => exact ⟨1000001 + m, rfl, decide_eq_false (by have := hm; omega)⟩
    have hwi : awrap .i64 ((i : Int) + 1) = (i : Int) + 1 := s_wrap (by omega) (by omega)
    refine Gets.last Tryz.tabOk (ov := noOv) (noOv_ok) 8 (s' := ?sn2) ?hn2 ?kn2; (case hn2 => (simp -implicitDefEqProofs (disch := first | (simp only [ne_eq, Nat.reduceEqDiff, not_false_eq_true, Nat.reduceLT]; done) | assumption | (simp only [s_push_next, s_put_next, Nat.beq_refl]; done) | ((try simp only [s_push_next, s_put_next]) <;> omega) | exact s_one_map _ | exact s_one_slice _ _ _ _ _ | (refine (id ?_ : plainDraw _ = true); kernel_rfl) | fail) only [sxL, s_castN, s_cells_one, noOv, callFn, kindOf, kindC, kindB, unA, boxA, loadPtr, nilCheckA, fst1, ofValue, ofScalar, len, intBin, ibin, boolO, guardA, cCond, condV, cRet, cExit, cSkip, resOut, resultA, extractA, tupleO, Nat.reduceEqDiff, Nat.reduceAdd, Nat.reduceSub, Nat.reduceLT, Nat.reduceBEq, reduceCtorEq, Nat.reduceMod, Nat.reduceLeDiff, Int.reduceLT, Int.reduceAdd, Int.reduceEq, Int.reduceToNat, s_draw, i136, i137, hlt] <;> rfl)); (try (change Gets _ _ _ _ _ _; repeat refine Gets.seq ?_))
    refine Gets.condT (by simp (disch := decide) only [sxL]) (Gets.skip Tryz.tabOk ?_)
    change Gets _ _ _ _ _ _
    refine Gets.seq (Gets.blk ?_)
    repeat refine Gets.seq ?_
    refine Gets.last Tryz.tabOk (ov := noOv) (noOv_ok) 8 (s' := ?sn3) ?hn3 ?kn3; (case hn3 => (simp -implicitDefEqProofs (disch := first | (simp only [ne_eq, Nat.reduceEqDiff, not_false_eq_true, Nat.reduceLT]; done) | assumption | (simp only [s_push_next, s_put_next, Nat.beq_refl]; done) | ((try simp only [s_push_next, s_put_next]) <;> omega) | exact s_one_map _ | exact s_one_slice _ _ _ _ _ | (refine (id ?_ : plainDraw _ = true); kernel_rfl) | fail) only [sxL, s_castN, s_cells_one, noOv, callFn, kindOf, kindC, kindB, unA, boxA, loadPtr, nilCheckA, fst1, ofValue, ofScalar, len, intBin, ibin, boolO, guardA, cCond, condV, cRet, cExit, cSkip, resOut, resultA, extractA, tupleO, Nat.reduceEqDiff, Nat.reduceAdd, Nat.reduceSub, Nat.reduceLT, Nat.reduceBEq, reduceCtorEq, Nat.reduceMod, Nat.reduceLeDiff, Int.reduceLT, Int.reduceAdd, Int.reduceEq, Int.reduceToNat, s_draw, i135, i137, ix38 701 i hi2, s_varFalse ia3, hc] <;> rfl)); (try (change Gets _ _ _ _ _ _; repeat refine Gets.seq ?_))
    have q1 := is_bad w hw h hK.knows hK.neat
    have q2 := of_bad w hw h hK.knows hK.neat
    have hs := put24 (h := h.push (szB 24 0 0 0 0 0 0)) (b := h.next) (s_push_same _ _) 0 0 0 0 0 0
    refine Gets.last Tryz.tabOk (ov := ptO noOv 11 [frC, .nilslice, .int .i64 w] h [(.tuple [.bool false, .int .i64 2], h)]) (ptO_ok noOv_ok q1) 8 (s' := ?sn4) ?hn4 ?kn4; (case hn4 => (simp -implicitDefEqProofs (disch := first | (simp only [ne_eq, Nat.reduceEqDiff, not_false_eq_true, Nat.reduceLT]; done) | assumption | (simp only [s_push_next, s_put_next, Nat.beq_refl]; done) | ((try simp only [s_push_next, s_put_next]) <;> omega) | exact s_one_map _ | exact s_one_slice _ _ _ _ _ | (refine (id ?_ : plainDraw _ = true); kernel_rfl) | fail) only [sxL, s_castN, s_cells_one, noOv, callFn, kindOf, kindC, kindB, unA, boxA, loadPtr, nilCheckA, fst1, ofValue, ofScalar, len, intBin, ibin, boolO, guardA, cCond, condV, cRet, cExit, cSkip, resOut, resultA, extractA, tupleO, Nat.reduceEqDiff, Nat.reduceAdd, Nat.reduceSub, Nat.reduceLT, Nat.reduceBEq, reduceCtorEq, Nat.reduceMod, Nat.reduceLeDiff, Int.reduceLT, Int.reduceAdd, Int.reduceEq, Int.reduceToNat, s_draw, i11] <;> rfl)); (try (change Gets _ _ _ _ _ _; repeat refine Gets.seq ?_))
    refine Gets.last Tryz.tabOk (ov := ptO noOv 12 [frC, .int .i64 w] h [(.tuple [sz0, .int .i64 2], h)]) (ptO_ok noOv_ok q2) 8 (s' := ?sn5) ?hn5 ?kn5; (case hn5 => (simp -implicitDefEqProofs (disch := first | (simp only [ne_eq, Nat.reduceEqDiff, not_false_eq_true, Nat.reduceLT]; done) | assumption | (simp only [s_push_next, s_put_next, Nat.beq_refl]; done) | ((try simp only [s_push_next, s_put_next]) <;> omega) | exact s_one_map _ | exact s_one_slice _ _ _ _ _ | (refine (id ?_ : plainDraw _ = true); kernel_rfl) | fail) only [sxL, s_castN, s_cells_one, noOv, callFn, kindOf, kindC, kindB, unA, boxA, loadPtr, nilCheckA, fst1, ofValue, ofScalar, len, intBin, ibin, boolO, guardA, cCond, condV, cRet, cExit, cSkip, resOut, resultA, extractA, tupleO, Nat.reduceEqDiff, Nat.reduceAdd, Nat.reduceSub, Nat.reduceLT, Nat.reduceBEq, reduceCtorEq, Nat.reduceMod, Nat.reduceLeDiff, Int.reduceLT, Int.reduceAdd, Int.reduceEq, Int.reduceToNat, s_draw, i11, zero24, hs] <;> rfl)); (try (change Gets _ _ _ _ _ _; repeat refine Gets.seq ?_))
    have K2 := (hK.push (by omega) (szB 24 0 0 0 0 0 0)).put (k := h.next) (by omega) (by omega) (szB 24 0 0 0 0 0 0)
    have g2 : (putBlk (h.push (szB 24 0 0 0 0 0 0)) h.next (some (szB 24 0 0 0 0 0 0))).blks.get 701 = some (.cells 3 true [.int .i64 (-m), .int .i64 (1000001 + m)]) := by rw [s_put_other _ _ _ (by omega), s_push_other _ _ (by omega)]; exact g
    have c2 : Sx.cellsIn ((putBlk (h.push (szB 24 0 0 0 0 0 0)) h.next (some (szB 24 0 0 0 0 0 0))).blks.get h.next) 0 6 = some [.int .i64 0, .int .i64 0, .int .i64 0, .int .i64 0, .int .i64 0, .int .i64 0] := by rw [s_put_same]; exact cells6 ..
    generalize putBlk (h.push (szB 24 0 0 0 0 0 0)) h.next (some (szB 24 0 0 0 0 0 0)) = h2 at K2 g2 c2 ⊢
    refine Gets.last Tryz.tabOk (ov := noOv) (noOv_ok) 8 (s' := ?sn6) ?hn6 ?kn6; (case hn6 => (simp -implicitDefEqProofs (disch := first | (simp only [ne_eq, Nat.reduceEqDiff, not_false_eq_true, Nat.reduceLT]; done) | assumption | (simp only [s_push_next, s_put_next, Nat.beq_refl]; done) | ((try simp only [s_push_next, s_put_next]) <;> omega) | exact s_one_map _ | exact s_one_slice _ _ _ _ _ | (refine (id ?_ : plainDraw _ = true); kernel_rfl) | fail) only [sxL, s_castN, s_cells_one, noOv, callFn, kindOf, kindC, kindB, unA, boxA, loadPtr, nilCheckA, fst1, ofValue, ofScalar, len, intBin, ibin, boolO, guardA, cCond, condV, cRet, cExit, cSkip, resOut, resultA, extractA, tupleO, Nat.reduceEqDiff, Nat.reduceAdd, Nat.reduceSub, Nat.reduceLT, Nat.reduceBEq, reduceCtorEq, Nat.reduceMod, Nat.reduceLeDiff, Int.reduceLT, Int.reduceAdd, Int.reduceEq, Int.reduceToNat, s_draw, c2, s_varTrue ia24 sz24, build0, nq24, eq24] <;> rfl)); (try (change Gets _ _ _ _ _ _; repeat refine Gets.seq ?_))
    refine Gets.condF (by simp (disch := decide) only [sxL]) (Gets.skip Tryz.tabOk ?_)
    change Gets _ _ _ _ _ _
    refine Gets.last Tryz.tabOk (ov := noOv) (noOv_ok) 8 (s' := ?sn7) ?hn7 ?kn7; (case hn7 => (simp -implicitDefEqProofs (disch := first | (simp only [ne_eq, Nat.reduceEqDiff, not_false_eq_true, Nat.reduceLT]; done) | assumption | (simp only [s_push_next, s_put_next, Nat.beq_refl]; done) | ((try simp only [s_push_next, s_put_next]) <;> omega) | exact s_one_map _ | exact s_one_slice _ _ _ _ _ | (refine (id ?_ : plainDraw _ = true); kernel_rfl) | fail) only [sxL, s_castN, s_cells_one, noOv, callFn, kindOf, kindC, kindB, unA, boxA, loadPtr, nilCheckA, fst1, ofValue, ofScalar, len, intBin, ibin, boolO, guardA, cCond, condV, cRet, cExit, cSkip, resOut, resultA, extractA, tupleO, Nat.reduceEqDiff, Nat.reduceAdd, Nat.reduceSub, Nat.reduceLT, Nat.reduceBEq, reduceCtorEq, Nat.reduceMod, Nat.reduceLeDiff, Int.reduceLT, Int.reduceAdd, Int.reduceEq, Int.reduceToNat, s_draw, i137, hwi] <;> rfl)); (try (change Gets _ _ _ _ _ _; repeat refine Gets.seq ?_))
    exact ⟨_, _, rfl, hi2, by simp (disch := decide) only [sxL, i11], by simp (disch := decide) only [sxL, i135], by simp (disch := decide) only [sxL, i136], by simp (disch := decide) only [sxL, s_castS], K2, g2⟩
  · have hi2 : i = 2 := by omega
    subst hi2
    refine Gets.last Tryz.tabOk (ov := noOv) (noOv_ok) 8 (s' := ?sn8) ?hn8 ?kn8; (case hn8 => (simp -implicitDefEqProofs (disch := first | (simp only [ne_eq, Nat.reduceEqDiff, not_false_eq_true, Nat.reduceLT]; done) | assumption | (simp only [s_push_next, s_put_next, Nat.beq_refl]; done) | ((try simp only [s_push_next, s_put_next]) <;> omega) | exact s_one_map _ | exact s_one_slice _ _ _ _ _ | (refine (id ?_ : plainDraw _ = true); kernel_rfl) | fail) only [sxL, s_castN, s_cells_one, noOv, callFn, kindOf, kindC, kindB, unA, boxA, loadPtr, nilCheckA, fst1, ofValue, ofScalar, len, intBin, ibin, boolO, guardA, cCond, condV, cRet, cExit, cSkip, resOut, resultA, extractA, tupleO, Nat.reduceEqDiff, Nat.reduceAdd, Nat.reduceSub, Nat.reduceLT, Nat.reduceBEq, reduceCtorEq, Nat.reduceMod, Nat.reduceLeDiff, Int.reduceLT, Int.reduceAdd, Int.reduceEq, Int.reduceToNat, s_draw, i136, i137, hlt] <;> rfl)); (try (change Gets _ _ _ _ _ _; repeat refine Gets.seq ?_))
    refine Gets.condF (by simp (disch := decide) only [sxL]) (Gets.exit Tryz.tabOk ?_)
    refine inBlk_exit ?_
    exact ⟨rfl, _, _, rfl, by simp (disch := decide) only [sxL, i11], hK⟩
theorem frB_sub {H0 h : Heap} {k c : Nat} (h0 : ∀ b o, H0.blks.get b = some o → h.blks.get b = some o) (hn : h.next = k) : ∀ b o, (frB H0 k c).blks.get b = some o → (h.push (.big 120 c z120)).blks.get b = some o := fun b o hb => by
  have hb : (H0.blks.set k (some (.big 120 c z120))).get b = some o := hb
  rw [T.get_set] at hb
  rw [Heap.get_push, hn]
  by_cases e : b = k
  · rw [if_pos e] at hb ⊢; exact hb
  · rw [if_neg e] at hb ⊢; exact h0 b o hb
/-- too many operations -/
theorem fr_it8 (tm : T AV) (h : Heap) (i11 : tm.get 11 = some frC) (hK : KH 704 h) : Gets Tryz.prog Tryz.tab ⟨none, 228⟩ (itC 8 fr3) ⟨tm, h, []⟩ fun e s' => e = .normal ∧ ∃ tm h, s' = ⟨tm, h, []⟩ ∧ tm.get 11 = some frC ∧ tm.get 19 = some (.bool false) ∧ tm.get 20 = some (.int .i64 12) ∧ KH 721 h := by
  refine up_to 720 (by rw [hK.next]; omega) ?_
  have K2 := hK.raise 720 (by omega)
  generalize (⟨720, h.blks⟩ : Heap) = h2 at K2 ⊢
  have q1 := embed_run Tryz.tabOk frK4 (by rfl) frK4c (h2.push (.big 120 1000010 z120)) (frB_sub K2.knows K2.next)
  have K3 := K2.push (by omega) (.big 120 1000010 z120)
  have hmk := mk43 h2
  rw [K2.next] at hmk
  generalize h2.push (.big 120 1000010 z120) = h3 at q1 K3 hmk ⊢
  change Gets _ _ _ (Code.region _ _ _) _ _
  refine Gets.last Tryz.tabOk (ov := ptO noOv 11 [frC, .slice 720 0 100001 false 100001, .int .i64 9] h3 [(.tuple [.bool false, .int .i64 12], h3)]) (ptO_ok noOv_ok q1) 8 (s' := ?sn9) ?hn9 ?kn9; (case hn9 => (simp -implicitDefEqProofs (disch := first | (simp only [ne_eq, Nat.reduceEqDiff, not_false_eq_true, Nat.reduceLT]; done) | assumption | (simp only [s_push_next, s_put_next, Nat.beq_refl]; done) | ((try simp only [s_push_next, s_put_next]) <;> omega) | exact s_one_map _ | exact s_one_slice _ _ _ _ _ | (refine (id ?_ : plainDraw _ = true); kernel_rfl) | fail) only [sxL, s_castN, s_cells_one, noOv, callFn, kindOf, kindC, kindB, unA, boxA, loadPtr, nilCheckA, fst1, ofValue, ofScalar, len, intBin, ibin, boolO, guardA, cCond, condV, cRet, cExit, cSkip, resOut, resultA, extractA, tupleO, Nat.reduceEqDiff, Nat.reduceAdd, Nat.reduceSub, Nat.reduceLT, Nat.reduceBEq, reduceCtorEq, Nat.reduceMod, Nat.reduceLeDiff, Int.reduceLT, Int.reduceAdd, Int.reduceEq, Int.reduceToNat, s_draw, i11, hmk] <;> rfl)); (try (change Gets _ _ _ _ _ _; repeat refine Gets.seq ?_))
  exact ⟨rfl, _, _, rfl, by simp (disch := decide) only [sxL, i11], by simp (disch := decide) only [sxL], by simp (disch := decide) only [sxL], K3⟩
/-- as many as may be -/
theorem fr_it9 (tm : T AV) (h : Heap) (i11 : tm.get 11 = some frC) (i19 : tm.get 19 = some (.bool false)) (i20 : tm.get 20 = some (.int .i64 12)) (hK : KH 721 h) : Gets Tryz.prog Tryz.tab ⟨none, 228⟩ (itC 9 fr3) ⟨tm, h, []⟩ fun e s' => e = .normal ∧ ∃ tm h, s' = ⟨tm, h, []⟩ ∧
    tm.get 19 = some (.bool false) ∧ tm.get 20 = some (.int .i64 12) ∧ tm.get 21 = some (.bool false) ∧ tm.get 22 = some (.int .i64 0) ∧ KH 731 h := by
  refine up_to 730 (by rw [hK.next]; omega) ?_
  have K2 := hK.raise 730 (by omega)
  generalize (⟨730, h.blks⟩ : Heap) = h2 at K2 ⊢
  have q1 := embed_run Tryz.tabOk frK5 (by rfl) frK5c (h2.push (.big 120 1000000 z120)) (frB_sub K2.knows K2.next)
  have K3 := K2.push (by omega) (.big 120 1000000 z120)
  have hmk := mk43c h2
  rw [K2.next] at hmk
  generalize h2.push (.big 120 1000000 z120) = h3 at q1 K3 hmk ⊢
  change Gets _ _ _ (Code.region _ _ _) _ _
  refine Gets.last Tryz.tabOk (ov := ptO noOv 11 [frC, .slice 730 0 100000 false 100000, .int .i64 9] h3 [(.tuple [.bool false, .int .i64 0], h3)]) (ptO_ok noOv_ok q1) 8 (s' := ?sn10) ?hn10 ?kn10; (case hn10 => (simp -implicitDefEqProofs (disch := first | (simp only [ne_eq, Nat.reduceEqDiff, not_false_eq_true, Nat.reduceLT]; done) | assumption | (simp only [s_push_next, s_put_next, Nat.beq_refl]; done) | ((try simp only [s_push_next, s_put_next]) <;> omega) | exact s_one_map _ | exact s_one_slice _ _ _ _ _ | (refine (id ?_ : plainDraw _ = true); kernel_rfl) | fail) only [sxL, s_castN, s_cells_one, noOv, callFn, kindOf, kindC, kindB, unA, boxA, loadPtr, nilCheckA, fst1, ofValue, ofScalar, len, intBin, ibin, boolO, guardA, cCond, condV, cRet, cExit, cSkip, resOut, resultA, extractA, tupleO, Nat.reduceEqDiff, Nat.reduceAdd, Nat.reduceSub, Nat.reduceLT, Nat.reduceBEq, reduceCtorEq, Nat.reduceMod, Nat.reduceLeDiff, Int.reduceLT, Int.reduceAdd, Int.reduceEq, Int.reduceToNat, s_draw, i11, hmk] <;> rfl)); (try (change Gets _ _ _ _ _ _; repeat refine Gets.seq ?_))
  exact ⟨rfl, _, _, rfl, by simp (disch := decide) only [sxL, i19], by simp (disch := decide) only [sxL, i20], by simp (disch := decide) only [sxL], by simp (disch := decide) only [sxL], K3⟩
theorem fr_it10 (tm : T AV) (h : Heap) (i19 : tm.get 19 = some (.bool false)) (i20 : tm.get 20 = some (.int .i64 12)) (i21 : tm.get 21 = some (.bool false)) (i22 : tm.get 22 = some (.int .i64 0)) : Gets Tryz.prog Tryz.tab ⟨none, 228⟩ (itC 10 fr3) ⟨tm, h, []⟩ fun e s' => e = .normal ∧ ∃ tm, s' = ⟨tm, h, []⟩ ∧ True := by
  repeat refine Gets.seq ?_
  refine Gets.last Tryz.tabOk (ov := noOv) (noOv_ok) 8 (s' := ?sn11) ?hn11 ?kn11; (case hn11 => (simp -implicitDefEqProofs (disch := first | (simp only [ne_eq, Nat.reduceEqDiff, not_false_eq_true, Nat.reduceLT]; done) | assumption | (simp only [s_push_next, s_put_next, Nat.beq_refl]; done) | ((try simp only [s_push_next, s_put_next]) <;> omega) | exact s_one_map _ | exact s_one_slice _ _ _ _ _ | (refine (id ?_ : plainDraw _ = true); kernel_rfl) | fail) only [sxL, s_castN, s_cells_one, noOv, callFn, kindOf, kindC, kindB, unA, boxA, loadPtr, nilCheckA, fst1, ofValue, ofScalar, len, intBin, ibin, boolO, guardA, cCond, condV, cRet, cExit, cSkip, resOut, resultA, extractA, tupleO, Nat.reduceEqDiff, Nat.reduceAdd, Nat.reduceSub, Nat.reduceLT, Nat.reduceBEq, reduceCtorEq, Nat.reduceMod, Nat.reduceLeDiff, Int.reduceLT, Int.reduceAdd, Int.reduceEq, Int.reduceToNat, s_draw, i19, i20, i21, i22] <;> rfl)); (try (change Gets _ _ _ _ _ _; repeat refine Gets.seq ?_))
  refine Gets.condF (by simp (disch := decide) only [sxL]) (Gets.skip Tryz.tabOk ?_)
  exact ⟨rfl, _, rfl, trivial⟩
def TwoE (i n : Nat) (tm : T AV) (h : Heap) : Prop := tm.get 195 = some (.slice 741 0 2 false 2) ∧ tm.get 196 = some (.int .i64 2) ∧ tm.get 197 = some (.int .i64 (i : Int)) ∧ KH n h ∧ h.blks.get 740 = some (.cells 54 true z54) ∧ h.blks.get 741 = some (.cells 29 true [.nilptr, .ptr 740 0])
/-- no cluster, and one that is not made -/
theorem fr_it12 (tm : T AV) (h : Heap) (i23 : tm.get 23 = some .nilptr) (hK : KH 731 h) : Gets Tryz.prog Tryz.tab ⟨none, 228⟩ (itC 12 fr3) ⟨tm, h, []⟩ fun e s' => e = .normal ∧ ∃ tm h, s' = ⟨tm, h, []⟩ ∧ KH 762 h := by
  refine up_to 740 (by rw [hK.next]; omega) ?_
  have K2 := hK.raise 740 (by omega)
  generalize (⟨740, h.blks⟩ : Heap) = h2 at K2 ⊢
  have hn := K2.next
  repeat refine Gets.seq ?_
  have K3 := K2.push (by omega) (.cells 54 true z54)
  have ha : allOne z54 = true := rfl
  have g1 : (h2.push (.cells 54 true z54)).blks.get 740 = some (.cells 54 true z54) := by rw [← hn]; exact s_push_same _ _
  generalize hh3 : h2.push (.cells 54 true z54) = h3 at K3 g1
  have hn3 : h3.next = 741 := K3.next
  have K4 := K3.push (by omega) (.cells 29 true [.nilptr, .ptr 740 0])
  have hs := bs55 h3 740
  rw [hn3] at hs
  have g2 : (h3.push (.cells 29 true [.nilptr, .ptr 740 0])).blks.get 740 = some (.cells 54 true z54) := by rw [s_push_other _ _ (by rw [K3.next]; omega)]; exact g1
  have g3 : (h3.push (.cells 29 true [.nilptr, .ptr 740 0])).blks.get 741 = some (.cells 29 true [.nilptr, .ptr 740 0]) := by rw [← hn3]; exact s_push_same _ _
  generalize h3.push (.cells 29 true [.nilptr, .ptr 740 0]) = h4 at K4 hs g2 g3 ⊢
  refine Gets.last Tryz.tabOk (ov := noOv) (noOv_ok) 8 (s' := ?sn12) ?hn12 ?kn12; (case hn12 => (simp -implicitDefEqProofs (disch := first | (simp only [ne_eq, Nat.reduceEqDiff, not_false_eq_true, Nat.reduceLT]; done) | assumption | (simp only [s_push_next, s_put_next, Nat.beq_refl]; done) | ((try simp only [s_push_next, s_put_next]) <;> omega) | exact s_one_map _ | exact s_one_slice _ _ _ _ _ | (refine (id ?_ : plainDraw _ = true); kernel_rfl) | fail) only [sxL, s_castN, s_cells_one, noOv, callFn, kindOf, kindC, kindB, unA, boxA, loadPtr, nilCheckA, fst1, ofValue, ofScalar, len, intBin, ibin, boolO, guardA, cCond, condV, cRet, cExit, cSkip, resOut, resultA, extractA, tupleO, Nat.reduceEqDiff, Nat.reduceAdd, Nat.reduceSub, Nat.reduceLT, Nat.reduceBEq, reduceCtorEq, Nat.reduceMod, Nat.reduceLeDiff, Int.reduceLT, Int.reduceAdd, Int.reduceEq, Int.reduceToNat, s_draw, i23, build54, ha, hh3, hn, hs, len55] <;> rfl)); (try (change Gets _ _ _ _ _ _; repeat refine Gets.seq ?_))
  refine Gets.uptoH 2 (fun i tm h => TwoE i (742 + 10 * i) tm h) ⟨by simp (disch := decide) only [sxL], by simp (disch := decide) only [sxL], by simp (disch := decide) only [sxL], K4, g2, g3⟩ ?_
  clear K2 K3 K4 ha hs g1 g2 g3 hn hK i23 hn3 hh3
  rintro i tm h hi ⟨i195, i196, i197, hK, g1, g2⟩
  repeat refine Gets.seq ?_
  by_cases hlt : (i : Int) < 2
  · have hi2 : i < 2 := by omega
    have hwi : awrap .i64 ((i : Int) + 1) = (i : Int) + 1 := s_wrap (by omega) (by omega)
    refine Gets.last Tryz.tabOk (ov := noOv) (noOv_ok) 8 (s' := ?sn13) ?hn13 ?kn13; (case hn13 => (simp -implicitDefEqProofs (disch := first | (simp only [ne_eq, Nat.reduceEqDiff, not_false_eq_true, Nat.reduceLT]; done) | assumption | (simp only [s_push_next, s_put_next, Nat.beq_refl]; done) | ((try simp only [s_push_next, s_put_next]) <;> omega) | exact s_one_map _ | exact s_one_slice _ _ _ _ _ | (refine (id ?_ : plainDraw _ = true); kernel_rfl) | fail) only [sxL, s_castN, s_cells_one, noOv, callFn, kindOf, kindC, kindB, unA, boxA, loadPtr, nilCheckA, fst1, ofValue, ofScalar, len, intBin, ibin, boolO, guardA, cCond, condV, cRet, cExit, cSkip, resOut, resultA, extractA, tupleO, Nat.reduceEqDiff, Nat.reduceAdd, Nat.reduceSub, Nat.reduceLT, Nat.reduceBEq, reduceCtorEq, Nat.reduceMod, Nat.reduceLeDiff, Int.reduceLT, Int.reduceAdd, Int.reduceEq, Int.reduceToNat, s_draw, i196, i197, hlt] <;> rfl)); (try (change Gets _ _ _ _ _ _; repeat refine Gets.seq ?_))
    refine Gets.condT (by simp (disch := decide) only [sxL]) (Gets.skip Tryz.tabOk ?_)
    change Gets _ _ _ _ _ _
    refine up_to (750 + 10 * i) (by rw [hK.next]; omega) ?_
    have K2 := hK.raise (750 + 10 * i) (by omega)
    have e1 : (⟨750 + 10 * i, h.blks⟩ : Heap).blks.get 740 = some (.cells 54 true z54) := g1
    have e2 : (⟨750 + 10 * i, h.blks⟩ : Heap).blks.get 741 = some (.cells 29 true [.nilptr, .ptr 740 0]) := g2
    generalize (⟨750 + 10 * i, h.blks⟩ : Heap) = h2 at K2 e1 e2 ⊢
    have hn := K2.next
    have hG : ∀ b o, gH0.blks.get b = some o → h2.blks.get b = some o := fun b o hb => by rw [K2.low b (g0_lt b o hb)]; exact hb
    have hZ : ∀ b o, frZ.blks.get b = some o → h2.blks.get b = some o := fun b o hb => by
      have hb : (gH0.blks.set 740 (some (.cells 54 true z54))).get b = some o := hb
      rw [T.get_set] at hb
      split at hb
      · rename_i e; rw [e, e1]; exact hb
      · exact hG b o hb
    obtain ⟨p, hc, q1, q2⟩ : ∃ p, cellIn (h2.blks.get 741) i = some p ∧ CallTo Tryz.prog Tryz.tab 11 [p, .slice (750 + 10 * i) 0 100001 false 100001, .int .i64 0] (h2.push (.big 120 1000010 z120)) [(.tuple [.bool false, .int .i64 1], h2.push (.big 120 1000010 z120))] ∧
        (∀ h', (∀ b o, h2.blks.get b = some o → h'.blks.get b = some o) → CallTo Tryz.prog Tryz.tab 12 [p, .int .i64 0] h' [(.tuple [sz0, .int .i64 1], h')]) := by
      rw [e2, s_cellIn]
      match i, hi2, hn with
      | 0, _, hn => exact ⟨.nilptr, rfl, embed_run Tryz.tabOk frK6 (by rfl) frK6c _ (frB_sub (H0 := frZ0) hG hn), fun h' hs => embed_run Tryz.tabOk frK7 (by rfl) frK7c h' fun b o hb => hs b o (hG b o hb)⟩
      | 1, _, hn => exact ⟨.ptr 740 0, rfl, embed_run Tryz.tabOk frK8 (by rfl) frK8c _ (frB_sub hZ hn), fun h' hs => embed_run Tryz.tabOk frK9 (by rfl) frK9c h' fun b o hb => hs b o (hZ b o hb)⟩
    have q2 := q2 (h2.push (.big 120 1000010 z120)) fun b o hb => by rw [s_push_other _ _ (by have := K2.neat b o hb; omega)]; exact hb
    have K3 := K2.push (by omega) (.big 120 1000010 z120)
    have hmk := mk43 h2
    rw [hn] at hmk
    have f1 : (h2.push (.big 120 1000010 z120)).blks.get 740 = some (.cells 54 true z54) := by rw [s_push_other _ _ (by omega)]; exact e1
    have f2 : (h2.push (.big 120 1000010 z120)).blks.get 741 = some (.cells 29 true [.nilptr, .ptr 740 0]) := by rw [s_push_other _ _ (by omega)]; exact e2
    refine Gets.seq (Gets.blk ?_)
    repeat refine Gets.seq ?_
    refine Gets.last Tryz.tabOk (ov := noOv) (noOv_ok) 8 (s' := ?sn14) ?hn14 ?kn14; (case hn14 => (simp -implicitDefEqProofs (disch := first | (simp only [ne_eq, Nat.reduceEqDiff, not_false_eq_true, Nat.reduceLT]; done) | assumption | (simp only [s_push_next, s_put_next, Nat.beq_refl]; done) | ((try simp only [s_push_next, s_put_next]) <;> omega) | exact s_one_map _ | exact s_one_slice _ _ _ _ _ | (refine (id ?_ : plainDraw _ = true); kernel_rfl) | fail) only [sxL, s_castN, s_cells_one, noOv, callFn, kindOf, kindC, kindB, unA, boxA, loadPtr, nilCheckA, fst1, ofValue, ofScalar, len, intBin, ibin, boolO, guardA, cCond, condV, cRet, cExit, cSkip, resOut, resultA, extractA, tupleO, Nat.reduceEqDiff, Nat.reduceAdd, Nat.reduceSub, Nat.reduceLT, Nat.reduceBEq, reduceCtorEq, Nat.reduceMod, Nat.reduceLeDiff, Int.reduceLT, Int.reduceAdd, Int.reduceEq, Int.reduceToNat, s_draw, i195, i197, ix55 741 i hi2, s_varFalse ia29, hc] <;> rfl)); (try (change Gets _ _ _ _ _ _; repeat refine Gets.seq ?_))
    generalize h2.push (.big 120 1000010 z120) = h3 at q1 q2 K3 hmk f1 f2 ⊢
    refine Gets.last Tryz.tabOk (ov := ptO noOv 11 [p, .slice (750 + 10 * i) 0 100001 false 100001, .int .i64 0] h3 [(.tuple [.bool false, .int .i64 1], h3)]) (ptO_ok noOv_ok q1) 8 (s' := ?sn15) ?hn15 ?kn15; (case hn15 => (simp -implicitDefEqProofs (disch := first | (simp only [ne_eq, Nat.reduceEqDiff, not_false_eq_true, Nat.reduceLT]; done) | assumption | (simp only [s_push_next, s_put_next, Nat.beq_refl]; done) | ((try simp only [s_push_next, s_put_next]) <;> omega) | exact s_one_map _ | exact s_one_slice _ _ _ _ _ | (refine (id ?_ : plainDraw _ = true); kernel_rfl) | fail) only [sxL, s_castN, s_cells_one, noOv, callFn, kindOf, kindC, kindB, unA, boxA, loadPtr, nilCheckA, fst1, ofValue, ofScalar, len, intBin, ibin, boolO, guardA, cCond, condV, cRet, cExit, cSkip, resOut, resultA, extractA, tupleO, Nat.reduceEqDiff, Nat.reduceAdd, Nat.reduceSub, Nat.reduceLT, Nat.reduceBEq, reduceCtorEq, Nat.reduceMod, Nat.reduceLeDiff, Int.reduceLT, Int.reduceAdd, Int.reduceEq, Int.reduceToNat, s_draw, hmk] <;> rfl)); (try (change Gets _ _ _ _ _ _; repeat refine Gets.seq ?_))
    have hs := put24 (h := h3.push (szB 24 0 0 0 0 0 0)) (b := h3.next) (s_push_same _ _) 0 0 0 0 0 0
    have hn3 := K3.next
    refine Gets.last Tryz.tabOk (ov := ptO noOv 12 [p, .int .i64 0] h3 [(.tuple [sz0, .int .i64 1], h3)]) (ptO_ok noOv_ok q2) 8 (s' := ?sn16) ?hn16 ?kn16; (case hn16 => (simp -implicitDefEqProofs (disch := first | (simp only [ne_eq, Nat.reduceEqDiff, not_false_eq_true, Nat.reduceLT]; done) | assumption | (simp only [s_push_next, s_put_next, Nat.beq_refl]; done) | ((try simp only [s_push_next, s_put_next]) <;> omega) | exact s_one_map _ | exact s_one_slice _ _ _ _ _ | (refine (id ?_ : plainDraw _ = true); kernel_rfl) | fail) only [sxL, s_castN, s_cells_one, noOv, callFn, kindOf, kindC, kindB, unA, boxA, loadPtr, nilCheckA, fst1, ofValue, ofScalar, len, intBin, ibin, boolO, guardA, cCond, condV, cRet, cExit, cSkip, resOut, resultA, extractA, tupleO, Nat.reduceEqDiff, Nat.reduceAdd, Nat.reduceSub, Nat.reduceLT, Nat.reduceBEq, reduceCtorEq, Nat.reduceMod, Nat.reduceLeDiff, Int.reduceLT, Int.reduceAdd, Int.reduceEq, Int.reduceToNat, s_draw, zero24, hs] <;> rfl)); (try (change Gets _ _ _ _ _ _; repeat refine Gets.seq ?_))
    have K4 := (K3.push (by omega) (szB 24 0 0 0 0 0 0)).put (k := h3.next) (by omega) (by omega) (szB 24 0 0 0 0 0 0)
    have j1 : (putBlk (h3.push (szB 24 0 0 0 0 0 0)) h3.next (some (szB 24 0 0 0 0 0 0))).blks.get 740 = some (.cells 54 true z54) := by rw [s_put_other _ _ _ (by omega), s_push_other _ _ (by omega)]; exact f1
    have j2 : (putBlk (h3.push (szB 24 0 0 0 0 0 0)) h3.next (some (szB 24 0 0 0 0 0 0))).blks.get 741 = some (.cells 29 true [.nilptr, .ptr 740 0]) := by rw [s_put_other _ _ _ (by omega), s_push_other _ _ (by omega)]; exact f2
    have c2 : Sx.cellsIn ((putBlk (h3.push (szB 24 0 0 0 0 0 0)) h3.next (some (szB 24 0 0 0 0 0 0))).blks.get h3.next) 0 6 = some [.int .i64 0, .int .i64 0, .int .i64 0, .int .i64 0, .int .i64 0, .int .i64 0] := by rw [s_put_same]; exact cells6 ..
    generalize putBlk (h3.push (szB 24 0 0 0 0 0 0)) h3.next (some (szB 24 0 0 0 0 0 0)) = h4 at K4 j1 j2 c2 ⊢
    refine Gets.last Tryz.tabOk (ov := noOv) (noOv_ok) 8 (s' := ?sn17) ?hn17 ?kn17; (case hn17 => (simp -implicitDefEqProofs (disch := first | (simp only [ne_eq, Nat.reduceEqDiff, not_false_eq_true, Nat.reduceLT]; done) | assumption | (simp only [s_push_next, s_put_next, Nat.beq_refl]; done) | ((try simp only [s_push_next, s_put_next]) <;> omega) | exact s_one_map _ | exact s_one_slice _ _ _ _ _ | (refine (id ?_ : plainDraw _ = true); kernel_rfl) | fail) only [sxL, s_castN, s_cells_one, noOv, callFn, kindOf, kindC, kindB, unA, boxA, loadPtr, nilCheckA, fst1, ofValue, ofScalar, len, intBin, ibin, boolO, guardA, cCond, condV, cRet, cExit, cSkip, resOut, resultA, extractA, tupleO, Nat.reduceEqDiff, Nat.reduceAdd, Nat.reduceSub, Nat.reduceLT, Nat.reduceBEq, reduceCtorEq, Nat.reduceMod, Nat.reduceLeDiff, Int.reduceLT, Int.reduceAdd, Int.reduceEq, Int.reduceToNat, s_draw, c2, s_varTrue ia24 sz24, build0, nq24, eq24] <;> rfl)); (try (change Gets _ _ _ _ _ _; repeat refine Gets.seq ?_))
    refine Gets.condF (by simp (disch := decide) only [sxL]) (Gets.skip Tryz.tabOk ?_)
    change Gets _ _ _ _ _ _
    refine Gets.last Tryz.tabOk (ov := noOv) (noOv_ok) 8 (s' := ?sn18) ?hn18 ?kn18; (case hn18 => (simp -implicitDefEqProofs (disch := first | (simp only [ne_eq, Nat.reduceEqDiff, not_false_eq_true, Nat.reduceLT]; done) | assumption | (simp only [s_push_next, s_put_next, Nat.beq_refl]; done) | ((try simp only [s_push_next, s_put_next]) <;> omega) | exact s_one_map _ | exact s_one_slice _ _ _ _ _ | (refine (id ?_ : plainDraw _ = true); kernel_rfl) | fail) only [sxL, s_castN, s_cells_one, noOv, callFn, kindOf, kindC, kindB, unA, boxA, loadPtr, nilCheckA, fst1, ofValue, ofScalar, len, intBin, ibin, boolO, guardA, cCond, condV, cRet, cExit, cSkip, resOut, resultA, extractA, tupleO, Nat.reduceEqDiff, Nat.reduceAdd, Nat.reduceSub, Nat.reduceLT, Nat.reduceBEq, reduceCtorEq, Nat.reduceMod, Nat.reduceLeDiff, Int.reduceLT, Int.reduceAdd, Int.reduceEq, Int.reduceToNat, s_draw, i197, hwi] <;> rfl)); (try (change Gets _ _ _ _ _ _; repeat refine Gets.seq ?_))
    refine ⟨_, _, rfl, hi2, by simp (disch := decide) only [sxL, i195], by simp (disch := decide) only [sxL, i196], by simp (disch := decide) only [sxL, s_castS], ?_, j1, j2⟩
    have e : 742 + 10 * (i + 1) = 750 + 10 * i + 1 + 1 := by omega
    rw [e]; exact K4
  · have hi2 : i = 2 := by omega
    subst hi2
    refine Gets.last Tryz.tabOk (ov := noOv) (noOv_ok) 8 (s' := ?sn19) ?hn19 ?kn19; (case hn19 => (simp -implicitDefEqProofs (disch := first | (simp only [ne_eq, Nat.reduceEqDiff, not_false_eq_true, Nat.reduceLT]; done) | assumption | (simp only [s_push_next, s_put_next, Nat.beq_refl]; done) | ((try simp only [s_push_next, s_put_next]) <;> omega) | exact s_one_map _ | exact s_one_slice _ _ _ _ _ | (refine (id ?_ : plainDraw _ = true); kernel_rfl) | fail) only [sxL, s_castN, s_cells_one, noOv, callFn, kindOf, kindC, kindB, unA, boxA, loadPtr, nilCheckA, fst1, ofValue, ofScalar, len, intBin, ibin, boolO, guardA, cCond, condV, cRet, cExit, cSkip, resOut, resultA, extractA, tupleO, Nat.reduceEqDiff, Nat.reduceAdd, Nat.reduceSub, Nat.reduceLT, Nat.reduceBEq, reduceCtorEq, Nat.reduceMod, Nat.reduceLeDiff, Int.reduceLT, Int.reduceAdd, Int.reduceEq, Int.reduceToNat, s_draw, i196, i197, hlt] <;> rfl)); (try (change Gets _ _ _ _ _ _; repeat refine Gets.seq ?_))
    refine Gets.condF (by simp (disch := decide) only [sxL]) (Gets.exit Tryz.tabOk ?_)
    refine inBlk_exit ?_
    exact ⟨rfl, _, _, rfl, hK⟩
end Go.Proofs

namespace Go.Proofs
open Go.Sx
set_option maxRecDepth 100000
/-- where the one table stands that the examples read -/
def GlobAt (H : Heap) : Prop := H.blks.get 9 = some (.big 838 16 (crcFours.map fun x => .int .u32 x))
theorem fr_run (hW : ∀ h, GlobAt h → CallTo Tryz.prog Tryz.tab 13 [] h [(.bool true, h)]) (hG : GlobAt gH0) {x m : Int} (hx : 0 ≤ x ∧ x ≤ 255) (hm : U m) :
    CallTo Tryz.prog Tryz.tab 3 [.int .u8 x, .int .u16 m] gH0 [(.bool true, gH0)] := by
  refine callTo_of Tryz.tabOk Tryz.func3 rfl rfl ?_
  show Gets Tryz.prog Tryz.tab ⟨none, 228⟩ _ _ _
  have hN : Neat gH0 := g0_lt
  have e10 : gH0.next = 10 := rfl
  have w1 : awrap .i64 m = m := s_wrap (by have := hm; omega) (by have := hm; omega)
  have hs := put24 (h := gH0.push (szB 24 0 0 0 0 0 0)) (b := gH0.next) (s_push_same _ _) 3 3 2 2 7 50
  have r1 : remO .u8 x 13 = some (.int .u8 (x % 13)) := s_rem _ hx.1 (by omega)
  have A1 : AH 11 (putBlk (gH0.push (szB 24 0 0 0 0 0 0)) gH0.next (some (szB 24 3 3 2 2 7 50))) (szB 24 3 3 2 2 7 50) :=
    ⟨by rw [s_put_next]; rfl, by rw [e10]; exact s_put_same _ _ _, fun b hb => by rw [s_put_other _ _ _ (by omega)]; exact s_push_other gH0 _ (by omega), (hN.push _).put (by show 10 < 11; omega) _⟩
  refine Gets.seq ?_
  refine Gets.last Tryz.tabOk (ov := noOv) (noOv_ok) 8 (s' := ?sn1) ?hn1 ?kn1; (case hn1 => (simp -implicitDefEqProofs (disch := first | (simp only [ne_eq, Nat.reduceEqDiff, not_false_eq_true, Nat.reduceLT]; done) | assumption | (simp only [s_push_next, s_put_next, Nat.beq_refl]; done) | ((try simp only [s_push_next, s_put_next]) <;> omega) | exact s_one_map _ | exact s_one_slice _ _ _ _ _ | (refine (id ?_ : plainDraw _ = true); kernel_rfl) | fail) only [sxL, s_castN, s_cells_one, noOv, callFn, kindOf, kindC, kindB, unA, boxA, loadPtr, nilCheckA, fst1, ofValue, ofScalar, len, intBin, ibin, boolO, guardA, cCond, condV, cRet, cExit, cSkip, resOut, resultA, extractA, tupleO, Nat.reduceEqDiff, Nat.reduceAdd, Nat.reduceSub, Nat.reduceLT, Nat.reduceBEq, reduceCtorEq, Nat.reduceMod, Nat.reduceLeDiff, Int.reduceLT, Int.reduceAdd, Int.reduceEq, Int.reduceToNat, s_draw] <;> rfl)); (try (change Gets _ _ _ _ _ _; repeat refine Gets.seq ?_))
  refine Gets.last Tryz.tabOk (ov := noOv) (noOv_ok) 8 (s' := ?sn2) ?hn2 ?kn2; (case hn2 => (simp -implicitDefEqProofs (disch := first | (simp only [ne_eq, Nat.reduceEqDiff, not_false_eq_true, Nat.reduceLT]; done) | assumption | (simp only [s_push_next, s_put_next, Nat.beq_refl]; done) | ((try simp only [s_push_next, s_put_next]) <;> omega) | exact s_one_map _ | exact s_one_slice _ _ _ _ _ | (refine (id ?_ : plainDraw _ = true); kernel_rfl) | fail) only [sxL, s_castN, s_cells_one, noOv, callFn, kindOf, kindC, kindB, unA, boxA, loadPtr, nilCheckA, fst1, ofValue, ofScalar, len, intBin, ibin, boolO, guardA, cCond, condV, cRet, cExit, cSkip, resOut, resultA, extractA, tupleO, Nat.reduceEqDiff, Nat.reduceAdd, Nat.reduceSub, Nat.reduceLT, Nat.reduceBEq, reduceCtorEq, Nat.reduceMod, Nat.reduceLeDiff, Int.reduceLT, Int.reduceAdd, Int.reduceEq, Int.reduceToNat, s_draw, z_conv, conv22, w1] <;> rfl)); (try (change Gets _ _ _ _ _ _; repeat refine Gets.seq ?_))
  refine Gets.last Tryz.tabOk (ov := noOv) (noOv_ok) 8 (s' := ?sn3) ?hn3 ?kn3; (case hn3 => (simp -implicitDefEqProofs (disch := first | (simp only [ne_eq, Nat.reduceEqDiff, not_false_eq_true, Nat.reduceLT]; done) | assumption | (simp only [s_push_next, s_put_next, Nat.beq_refl]; done) | ((try simp only [s_push_next, s_put_next]) <;> omega) | exact s_one_map _ | exact s_one_slice _ _ _ _ _ | (refine (id ?_ : plainDraw _ = true); kernel_rfl) | fail) only [sxL, s_castN, s_cells_one, noOv, callFn, kindOf, kindC, kindB, unA, boxA, loadPtr, nilCheckA, fst1, ofValue, ofScalar, len, intBin, ibin, boolO, guardA, cCond, condV, cRet, cExit, cSkip, resOut, resultA, extractA, tupleO, Nat.reduceEqDiff, Nat.reduceAdd, Nat.reduceSub, Nat.reduceLT, Nat.reduceBEq, reduceCtorEq, Nat.reduceMod, Nat.reduceLeDiff, Int.reduceLT, Int.reduceAdd, Int.reduceEq, Int.reduceToNat, s_draw, build24, zero24, hs] <;> rfl)); (try (change Gets _ _ _ _ _ _; repeat refine Gets.seq ?_))
  generalize putBlk (gH0.push (szB 24 0 0 0 0 0 0)) gH0.next (some (szB 24 3 3 2 2 7 50)) = h1 at A1 ⊢
  refine Gets.last Tryz.tabOk (ov := noOv) (noOv_ok) 8 (s' := ?sn4) ?hn4 ?kn4; (case hn4 => (simp -implicitDefEqProofs (disch := first | (simp only [ne_eq, Nat.reduceEqDiff, not_false_eq_true, Nat.reduceLT]; done) | assumption | (simp only [s_push_next, s_put_next, Nat.beq_refl]; done) | ((try simp only [s_push_next, s_put_next]) <;> omega) | exact s_one_map _ | exact s_one_slice _ _ _ _ _ | (refine (id ?_ : plainDraw _ = true); kernel_rfl) | fail) only [sxL, s_castN, s_cells_one, noOv, callFn, kindOf, kindC, kindB, unA, boxA, loadPtr, nilCheckA, fst1, ofValue, ofScalar, len, intBin, ibin, boolO, guardA, cCond, condV, cRet, cExit, cSkip, resOut, resultA, extractA, tupleO, Nat.reduceEqDiff, Nat.reduceAdd, Nat.reduceSub, Nat.reduceLT, Nat.reduceBEq, reduceCtorEq, Nat.reduceMod, Nat.reduceLeDiff, Int.reduceLT, Int.reduceAdd, Int.reduceEq, Int.reduceToNat, s_draw, r1] <;> rfl)); (try (change Gets _ _ _ _ _ _; repeat refine Gets.seq ?_))
  refine Gets.midH (I := BadSz 11 m) (frA_sw (x % 13) m (by omega) hm _ h1 (by simp (disch := decide) only [sxL]) (by simp (disch := decide) only [sxL, e10]) (by simp (disch := decide) only [sxL]) A1) ?_
  clear A1 hs
  rintro tm h hB
  change Gets _ _ _ _ _ _
  refine Gets.seq (Gets.midH (I := BadSz 12 m) (fr_it4 m tm h hB) ?_)
  clear hB
  rintro tm h hB
  change Gets _ _ _ _ _ _
  refine Gets.seq (Gets.midH (I := MadeC m) (fr_it5 m tm h hB) ?_)
  clear hB
  rintro tm h hB
  change Gets _ _ _ _ _ _
  refine Gets.seq (Gets.midH (I := MadeC m) (fr_it6 m tm h hB) ?_)
  clear hB
  rintro tm h hB
  change Gets _ _ _ _ _ _
  refine Gets.seq (Gets.midH (I := fun tm h => tm.get 11 = some frC ∧ KH 704 h) (fr_it7 m hm tm h hB) ?_)
  clear hB
  rintro tm h ⟨i11, hK⟩
  change Gets _ _ _ _ _ _
  refine Gets.seq (Gets.midH (I := fun tm h => tm.get 11 = some frC ∧ tm.get 19 = some (.bool false) ∧ tm.get 20 = some (.int .i64 12) ∧ KH 721 h) (fr_it8 tm h i11 hK) ?_)
  clear i11 hK
  rintro tm h ⟨i11, i19, i20, hK⟩
  change Gets _ _ _ _ _ _
  refine Gets.seq (Gets.midH (I := fun tm h => tm.get 19 = some (.bool false) ∧ tm.get 20 = some (.int .i64 12) ∧ tm.get 21 = some (.bool false) ∧ tm.get 22 = some (.int .i64 0) ∧ KH 731 h) (fr_it9 tm h i11 i19 i20 hK) ?_)
  clear i11 i19 i20 hK
  rintro tm h ⟨i19, i20, i21, i22, hK⟩
  change Gets _ _ _ _ _ _
  refine Gets.seq (Gets.midA (H := h) (I := fun _ => True) (fr_it10 tm h i19 i20 i21 i22) ?_)
  clear i19 i20 i21 i22
  rintro tm -
  change Gets _ _ _ _ _ _
  refine Gets.seq (Gets.midA (H := h) (I := fun tm => tm.get 23 = some .nilptr) ?_ ?_)
  · refine Gets.last Tryz.tabOk (ov := noOv) (noOv_ok) 8 (s' := ?sn5) ?hn5 ?kn5; (case hn5 => (simp -implicitDefEqProofs (disch := first | (simp only [ne_eq, Nat.reduceEqDiff, not_false_eq_true, Nat.reduceLT]; done) | assumption | (simp only [s_push_next, s_put_next, Nat.beq_refl]; done) | ((try simp only [s_push_next, s_put_next]) <;> omega) | exact s_one_map _ | exact s_one_slice _ _ _ _ _ | (refine (id ?_ : plainDraw _ = true); kernel_rfl) | fail) only [sxL, s_castN, s_cells_one, noOv, callFn, kindOf, kindC, kindB, unA, boxA, loadPtr, nilCheckA, fst1, ofValue, ofScalar, len, intBin, ibin, boolO, guardA, cCond, condV, cRet, cExit, cSkip, resOut, resultA, extractA, tupleO, Nat.reduceEqDiff, Nat.reduceAdd, Nat.reduceSub, Nat.reduceLT, Nat.reduceBEq, reduceCtorEq, Nat.reduceMod, Nat.reduceLeDiff, Int.reduceLT, Int.reduceAdd, Int.reduceEq, Int.reduceToNat, s_draw] <;> rfl)); (try (change Gets _ _ _ _ _ _; repeat refine Gets.seq ?_))
    exact ⟨rfl, _, rfl, by simp (disch := decide) only [sxL]⟩
  rintro tm i23
  change Gets _ _ _ _ _ _
  refine Gets.seq (Gets.midH (I := fun _ h => KH 762 h) (fr_it12 tm h i23 hK) ?_)
  clear i23 hK
  rintro tm h hK
  change Gets _ _ _ _ _ _
  refine Gets.seq ?_
  have hw := hW h (by unfold GlobAt; rw [hK.low 9 (by omega)]; exact hG)
  refine Gets.last Tryz.tabOk (ov := ptO noOv 13 [] h [(.bool true, h)]) (ptO_ok noOv_ok hw) 8 (s' := ?sn6) ?hn6 ?kn6; (case hn6 => (simp -implicitDefEqProofs (disch := first | (simp only [ne_eq, Nat.reduceEqDiff, not_false_eq_true, Nat.reduceLT]; done) | assumption | (simp only [s_push_next, s_put_next, Nat.beq_refl]; done) | ((try simp only [s_push_next, s_put_next]) <;> omega) | exact s_one_map _ | exact s_one_slice _ _ _ _ _ | (refine (id ?_ : plainDraw _ = true); kernel_rfl) | fail) only [sxL, s_castN, s_cells_one, noOv, callFn, kindOf, kindC, kindB, unA, boxA, loadPtr, nilCheckA, fst1, ofValue, ofScalar, len, intBin, ibin, boolO, guardA, cCond, condV, cRet, cExit, cSkip, resOut, resultA, extractA, tupleO, Nat.reduceEqDiff, Nat.reduceAdd, Nat.reduceSub, Nat.reduceLT, Nat.reduceBEq, reduceCtorEq, Nat.reduceMod, Nat.reduceLeDiff, Int.reduceLT, Int.reduceAdd, Int.reduceEq, Int.reduceToNat, s_draw, s_ptEq] <;> rfl)); (try (change Gets _ _ _ _ _ _; repeat refine Gets.seq ?_))
  refine Gets.ret Tryz.tabOk ?_
  exact fin_pure rfl (by simp (disch := decide) only [sxL, Tryz.f3, resultA]) ⟨by rw [hK.next]; omega, fun b hb => hK.low b hb⟩ hN trivial
end Go.Proofs
