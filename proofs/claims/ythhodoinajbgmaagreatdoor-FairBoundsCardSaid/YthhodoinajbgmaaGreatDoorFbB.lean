/-
  Elect, Commit, Item, Bound of both sides come to the same, for every size; the law's own code, walked.
-/
import Derived.Test.YthhodoinajbgmaaGreatDoorFbA
import Derived.Test.YthhodoinajbgmaaGreatDoorSxH
import Derived.Test.YthhodoinajbgmaaGreatDoorSxTab
import Derived.Test.YthhodoinajbgmaaGreatDoorSxG
set_option linter.unusedSimpArgs false
set_option linter.unusedVariables false
namespace Go.Proofs
open Go.Sx
set_option maxRecDepth 100000
abbrev Rg (a d : Int) : Prop := (1 ≤ a ∧ a ≤ 7) ∧ (0 ≤ d ∧ d ≤ 8)
theorem cut_pure {fn : Nat} {args : List AV} {H H' : Heap} {v : AV} (h : CallTo Tryz.prog Tryz.tab fn args H [(v, H')]) (hg : Grows H H') (hn : Neat H) (hv : ltV H.next v) : CallTo Tryz.prog Tryz.tab fn args H [(v, H)] :=
  h.cut fun p hp => by rw [List.mem_singleton.1 hp]; exact ⟨_, List.mem_singleton.2 rfl, .pure hg.next hg.get hn hv⟩
/-- a function of a size that comes to a number and does nothing else -/
def SzTo (fn : Nat) (g : Int → Int → Int) : Prop := ∀ a b c d e f H, Rg a d → Neat H → CallTo Tryz.prog Tryz.tab fn [szV a b c d e f] H [(.int .i64 (g a d), H)]
theorem elected_to : SzTo 16 electG := fun a b c d e f H h hn => cut_pure (callTo_run Tryz.tabOk ov2_ok (elected_run 0 a b c d e f h.1 H)) (Grows.push _ _) hn trivial
theorem item_to : SzTo 20 itemG := fun a b c d e f H h hn => cut_pure (callTo_run Tryz.tabOk ov2_ok (item_run 0 a b c d e f h.1 H)) (Grows.push _ _) hn trivial
theorem comm_to : SzTo 18 commG := fun a b c d e f H _ hn => cut_pure (callTo_run Tryz.tabOk ov3_ok (comm_run 0 a b c d e f H)) (Grows.push _ _) hn trivial
theorem itm_to : SzTo 19 itmG := fun a b c d e f H h hn => cut_pure (callTo_run Tryz.tabOk ov3_ok (itm_run 0 a b c d e f h H)) ((Grows.push _ _).trans (Grows.push _ _)) hn trivial
theorem chk_pure (a b c d e f : Int) (H : Heap) (hn : Neat H) : CallTo Tryz.prog Tryz.tab 12 [szV a b c d e f] H [(.int .i64 (chkN a b c d e f), H)] :=
  cut_pure (callTo_run Tryz.tabOk ov1_ok (check_run 0 a b c d e f H)) (Grows.push _ _) hn trivial
theorem chkR_pure (a b c d e f : Int) (H : Heap) (hn : Neat H) : CallTo Tryz.prog Tryz.tab 13 [szV a b c d e f] H [(.int .i64 (chkN a b c d e f), H)] :=
  cut_pure (callTo_run Tryz.tabOk ov1_ok (checkR_run 0 a b c d e f H)) (Grows.push _ _) hn trivial
theorem two_d (a d : Int) (h : Rg a d) : 0 ≤ 2 * d * (4 * a + 6) ∧ 2 * d * (4 * a + 6) ≤ 16 * 34 := ⟨Int.mul_nonneg (by omega) (by omega), Int.mul_le_mul (by omega) (by omega) (by omega) (by omega)⟩
theorem bnd_to : SzTo 21 bndG := by
  intro a b c d e f H h hn
  have hn1 : Neat (H.push (szB 23 a b c d e f)) := hn.push _
  have q1 := elected_to a b c d e f _ h hn1
  have q2 := item_to a b c d e f _ h hn1
  have e1 : electG a d = longN a + 3 := rfl
  have e2 : itemG a d = 4 * a + 6 := rfl
  have hl : longN a = 6 + 4 * (a - 1) := rfl
  have hmb := two_d a d h
  have hw0 : awrap .i64 (2 * d) = 2 * d := s_wrap (by omega) (by omega)
  have hw1 : awrap .i64 (electG a d + 1032) = longN a + 3 + 1032 := by rw [e1]; exact s_wrap (by omega) (by omega)
  have hw2 : awrap .i64 (longN a + 3 + 1032 + 4) = longN a + 3 + 1032 + 4 := s_wrap (by omega) (by omega)
  have hm : awrap .i64 (2 * d * itemG a d) = 2 * d * (4 * a + 6) := by rw [e2]; exact wrap_mul (by omega) (by omega)
  have hw3 : awrap .i64 (longN a + 3 + 1032 + 4 + 2 * d * (4 * a + 6)) = longN a + 3 + 1032 + 4 + 2 * d * (4 * a + 6) := s_wrap (by omega) (by omega)
  refine callTo_of Tryz.tabOk Tryz.func21 rfl rfl ?_
  show Gets Tryz.prog Tryz.tab ⟨none, 14⟩ _ _ _
  repeat refine Gets.seq ?_
  refine Gets.last Tryz.tabOk (ov := noOv) (noOv_ok) 8 (s' := ?sn2) ?hn2 ?kn2; (case hn2 => (simp -implicitDefEqProofs (disch := first | (simp only [ne_eq, Nat.reduceEqDiff, not_false_eq_true, Nat.reduceLT]; done) | assumption | (simp only [s_push_next, s_put_next, Nat.beq_refl]; done) | ((try simp only [s_push_next, s_put_next]) <;> omega) | exact s_one_map _ | exact s_one_slice _ _ _ _ _ | (refine (id ?_ : plainDraw _ = true); kernel_rfl) | fail) only [sxL, s_castN, s_cells_one, noOv, callFn, kindOf, kindC, kindB, unA, boxA, loadPtr, nilCheckA, fst1, ofValue, ofScalar, len, intBin, ibin, boolO, guardA, cCond, condV, cRet, cExit, cSkip, resOut, resultA, extractA, tupleO, Nat.reduceEqDiff, Nat.reduceAdd, Nat.reduceSub, Nat.reduceLT, Nat.reduceBEq, reduceCtorEq, Nat.reduceMod, Nat.reduceLeDiff, Int.reduceLT, Int.reduceAdd, Int.reduceEq, Int.reduceToNat, s_draw, s_varTrue ia23 sz23] <;> rfl)); (try (change Gets _ _ _ _ _ _; repeat refine Gets.seq ?_))
  refine Gets.drawP Tryz.tabOk (ov := ptO (ptO noOv 16 [szV a b c d e f] (H.push (szB 23 a b c d e f)) [(.int .i64 (electG a d), H.push (szB 23 a b c d e f))]) 20 [szV a b c d e f] (H.push (szB 23 a b c d e f)) [(.int .i64 (itemG a d), H.push (szB 23 a b c d e f))]) (ptO_ok (ptO_ok noOv_ok q1) q2) 8 (s' := ?sn1) [0, 4, 5, 6, 7, 1, 2, 3, 8, 9, 10, 11] (by kernel_rfl) ?hn1 ?kn1; (case hn1 => (simp -implicitDefEqProofs (disch := first | (simp only [ne_eq, Nat.reduceEqDiff, not_false_eq_true, Nat.reduceLT]; done) | assumption | (simp only [s_push_next, s_put_next, Nat.beq_refl]; done) | ((try simp only [s_push_next, s_put_next]) <;> omega) | exact s_one_map _ | exact s_one_slice _ _ _ _ _ | (refine (id ?_ : plainDraw _ = true); kernel_rfl) | fail) only [sxL, s_castN, s_cells_one, noOv, callFn, kindOf, kindC, kindB, unA, boxA, loadPtr, nilCheckA, fst1, ofValue, ofScalar, len, intBin, ibin, boolO, guardA, cCond, condV, cRet, cExit, cSkip, resOut, resultA, extractA, tupleO, Nat.reduceEqDiff, Nat.reduceAdd, Nat.reduceSub, Nat.reduceLT, Nat.reduceBEq, reduceCtorEq, Nat.reduceMod, Nat.reduceLeDiff, Int.reduceLT, Int.reduceAdd, Int.reduceEq, Int.reduceToNat, pick_nil, pick_cons, pick_some, h_nil, h_ops, h_opsG, h_G_true, h_G_false, h_K_pure, h_K_read, h_K_eff, h_N, h_N0, h_E, h_E0, cells6, fa23_3, s_varTrue ia23 sz23, s_varFalse ia3, hw0, hw1, hw2, hm, hw3] <;> rfl)); (try (change Gets _ _ _ _ _ _; repeat refine Gets.seq ?_))
  refine Gets.ret Tryz.tabOk ?_
  exact fin_pure rfl (by simp (disch := decide) only [sxL, Tryz.f21, resultA]; rfl) (Grows.push _ _) hn trivial
end Go.Proofs

namespace Go.Proofs
open Go.Sx
set_option maxRecDepth 100000
theorem chk_f {a b c d e f : Int} (h : okS a b c d e f = false) : chkN a b c d e f = 2 := by unfold chkN; rw [h]; rfl
theorem chk_t {a b c d e f : Int} (h : okS a b c d e f = true) : chkN a b c d e f = 0 := by unfold chkN; rw [h]; rfl
/-- what the four bounds come to -/
noncomputable def valG (g : Int → Int → Int) (a b c d e f : Int) : AV := .tuple [.int .i64 (if okS a b c d e f then g a d * f else 0), .int .i64 (chkN a b c d e f)]
theorem valG_t (g : Int → Int → Int) {a b c d e f : Int} (hk : okS a b c d e f = true) : valG g a b c d e f = .tuple [.int .i64 (g a d * f), .int .i64 0] := by unfold valG; rw [hk, chk_t hk]; rfl
theorem valG_f (g : Int → Int → Int) {a b c d e f : Int} (hk : okS a b c d e f = false) : valG g a b c d e f = .tuple [.int .i64 0, .int .i64 2] := by unfold valG; rw [hk, chk_f hk]; rfl
theorem valG_lt (n : Nat) (g : Int → Int → Int) (a b c d e f : Int) : ltV n (valG g a b c d e f) := ⟨trivial, trivial, trivial⟩
def Small (g : Int → Int → Int) : Prop := ∀ a d, Rg a d → 0 ≤ g a d ∧ g a d ≤ 100000
theorem g_elect : Small electG := by intro a d h; unfold electG longN; omega
theorem g_comm : Small commG := by intro a d h; unfold commG; omega
theorem g_itm : Small itmG := by intro a d h; unfold itmG; omega
theorem g_bnd : Small bndG := by
  intro a d h
  have := two_d a d h
  unfold bndG longN; omega
theorem events_to {g : Int → Int → Int} {fn : Nat} (hg : Small g) (hf : SzTo fn g) (a b c d e f : Int) (H : Heap) (hn : Neat H) :
    CallTo Tryz.prog Tryz.tab 15 [szV a b c d e f, .func (.func fn) [] []] H [(valG g a b c d e f, H)] := by
  have hn1 : Neat (H.push (szB 23 a b c d e f)) := hn.push _
  have q1 := chk_pure a b c d e f _ hn1
  refine callTo_of Tryz.tabOk Tryz.func15 rfl rfl ?_
  show Gets Tryz.prog Tryz.tab ⟨none, 18⟩ _ _ _
  repeat refine Gets.seq ?_
  refine Gets.last Tryz.tabOk (ov := noOv) (noOv_ok) 8 (s' := ?sn2) ?hn2 ?kn2; (case hn2 => (simp -implicitDefEqProofs (disch := first | (simp only [ne_eq, Nat.reduceEqDiff, not_false_eq_true, Nat.reduceLT]; done) | assumption | (simp only [s_push_next, s_put_next, Nat.beq_refl]; done) | ((try simp only [s_push_next, s_put_next]) <;> omega) | exact s_one_map _ | exact s_one_slice _ _ _ _ _ | (refine (id ?_ : plainDraw _ = true); kernel_rfl) | fail) only [sxL, s_castN, s_cells_one, noOv, callFn, kindOf, kindC, kindB, unA, boxA, loadPtr, nilCheckA, fst1, ofValue, ofScalar, len, intBin, ibin, boolO, guardA, cCond, condV, cRet, cExit, cSkip, resOut, resultA, extractA, tupleO, Nat.reduceEqDiff, Nat.reduceAdd, Nat.reduceSub, Nat.reduceLT, Nat.reduceBEq, reduceCtorEq, Nat.reduceMod, Nat.reduceLeDiff, Int.reduceLT, Int.reduceAdd, Int.reduceEq, Int.reduceToNat, s_draw, s_varTrue ia23 sz23] <;> rfl)); (try (change Gets _ _ _ _ _ _; repeat refine Gets.seq ?_))
  cases hk : okS a b c d e f
  · rw [chk_f hk] at q1
    refine Gets.last Tryz.tabOk (ov := ptO noOv 12 [szV a b c d e f] (H.push (szB 23 a b c d e f)) [(.int .i64 2, H.push (szB 23 a b c d e f))]) (ptO_ok noOv_ok q1) 8 (s' := ?sn3) ?hn3 ?kn3; (case hn3 => (simp -implicitDefEqProofs (disch := first | (simp only [ne_eq, Nat.reduceEqDiff, not_false_eq_true, Nat.reduceLT]; done) | assumption | (simp only [s_push_next, s_put_next, Nat.beq_refl]; done) | ((try simp only [s_push_next, s_put_next]) <;> omega) | exact s_one_map _ | exact s_one_slice _ _ _ _ _ | (refine (id ?_ : plainDraw _ = true); kernel_rfl) | fail) only [sxL, s_castN, s_cells_one, noOv, callFn, kindOf, kindC, kindB, unA, boxA, loadPtr, nilCheckA, fst1, ofValue, ofScalar, len, intBin, ibin, boolO, guardA, cCond, condV, cRet, cExit, cSkip, resOut, resultA, extractA, tupleO, Nat.reduceEqDiff, Nat.reduceAdd, Nat.reduceSub, Nat.reduceLT, Nat.reduceBEq, reduceCtorEq, Nat.reduceMod, Nat.reduceLeDiff, Int.reduceLT, Int.reduceAdd, Int.reduceEq, Int.reduceToNat, s_draw, s_varTrue ia23 sz23, cells6] <;> rfl)); (try (change Gets _ _ _ _ _ _; repeat refine Gets.seq ?_))
    refine Gets.last Tryz.tabOk (ov := noOv) (noOv_ok) 8 (s' := ?sn4) ?hn4 ?kn4; (case hn4 => (simp -implicitDefEqProofs (disch := first | (simp only [ne_eq, Nat.reduceEqDiff, not_false_eq_true, Nat.reduceLT]; done) | assumption | (simp only [s_push_next, s_put_next, Nat.beq_refl]; done) | ((try simp only [s_push_next, s_put_next]) <;> omega) | exact s_one_map _ | exact s_one_slice _ _ _ _ _ | (refine (id ?_ : plainDraw _ = true); kernel_rfl) | fail) only [sxL, s_castN, s_cells_one, noOv, callFn, kindOf, kindC, kindB, unA, boxA, loadPtr, nilCheckA, fst1, ofValue, ofScalar, len, intBin, ibin, boolO, guardA, cCond, condV, cRet, cExit, cSkip, resOut, resultA, extractA, tupleO, Nat.reduceEqDiff, Nat.reduceAdd, Nat.reduceSub, Nat.reduceLT, Nat.reduceBEq, reduceCtorEq, Nat.reduceMod, Nat.reduceLeDiff, Int.reduceLT, Int.reduceAdd, Int.reduceEq, Int.reduceToNat, s_draw] <;> rfl)); (try (change Gets _ _ _ _ _ _; repeat refine Gets.seq ?_))
    refine Gets.condT (by simp (disch := decide) only [sxL]) ?_
    repeat refine Gets.seq ?_
    refine Gets.last Tryz.tabOk (ov := noOv) (noOv_ok) 8 (s' := ?sn5) ?hn5 ?kn5; (case hn5 => (simp -implicitDefEqProofs (disch := first | (simp only [ne_eq, Nat.reduceEqDiff, not_false_eq_true, Nat.reduceLT]; done) | assumption | (simp only [s_push_next, s_put_next, Nat.beq_refl]; done) | ((try simp only [s_push_next, s_put_next]) <;> omega) | exact s_one_map _ | exact s_one_slice _ _ _ _ _ | (refine (id ?_ : plainDraw _ = true); kernel_rfl) | fail) only [sxL, s_castN, s_cells_one, noOv, callFn, kindOf, kindC, kindB, unA, boxA, loadPtr, nilCheckA, fst1, ofValue, ofScalar, len, intBin, ibin, boolO, guardA, cCond, condV, cRet, cExit, cSkip, resOut, resultA, extractA, tupleO, Nat.reduceEqDiff, Nat.reduceAdd, Nat.reduceSub, Nat.reduceLT, Nat.reduceBEq, reduceCtorEq, Nat.reduceMod, Nat.reduceLeDiff, Int.reduceLT, Int.reduceAdd, Int.reduceEq, Int.reduceToNat, s_draw] <;> rfl)); (try (change Gets _ _ _ _ _ _; repeat refine Gets.seq ?_))
    refine Gets.ret Tryz.tabOk ?_
    rw [valG_f g hk]
    refine fin_pure2 rfl ?_ (Grows.push _ _) hn ⟨trivial, trivial, trivial⟩
    simp (disch := decide) only [sxL, Tryz.f15, resultA]
  · rw [chk_t hk] at q1
    have hp := ok_parts hk
    have h : Rg a d := ⟨hp.1, hp.2.1⟩
    have hw : awrap .i64 (g a d * f) = g a d * f := wrap_mul (hg a d h) (by omega)
    have q2 := hf a b c d e f _ h hn1
    refine Gets.last Tryz.tabOk (ov := ptO noOv 12 [szV a b c d e f] (H.push (szB 23 a b c d e f)) [(.int .i64 0, H.push (szB 23 a b c d e f))]) (ptO_ok noOv_ok q1) 8 (s' := ?sn6) ?hn6 ?kn6; (case hn6 => (simp -implicitDefEqProofs (disch := first | (simp only [ne_eq, Nat.reduceEqDiff, not_false_eq_true, Nat.reduceLT]; done) | assumption | (simp only [s_push_next, s_put_next, Nat.beq_refl]; done) | ((try simp only [s_push_next, s_put_next]) <;> omega) | exact s_one_map _ | exact s_one_slice _ _ _ _ _ | (refine (id ?_ : plainDraw _ = true); kernel_rfl) | fail) only [sxL, s_castN, s_cells_one, noOv, callFn, kindOf, kindC, kindB, unA, boxA, loadPtr, nilCheckA, fst1, ofValue, ofScalar, len, intBin, ibin, boolO, guardA, cCond, condV, cRet, cExit, cSkip, resOut, resultA, extractA, tupleO, Nat.reduceEqDiff, Nat.reduceAdd, Nat.reduceSub, Nat.reduceLT, Nat.reduceBEq, reduceCtorEq, Nat.reduceMod, Nat.reduceLeDiff, Int.reduceLT, Int.reduceAdd, Int.reduceEq, Int.reduceToNat, s_draw, s_varTrue ia23 sz23, cells6] <;> rfl)); (try (change Gets _ _ _ _ _ _; repeat refine Gets.seq ?_))
    refine Gets.last Tryz.tabOk (ov := noOv) (noOv_ok) 8 (s' := ?sn7) ?hn7 ?kn7; (case hn7 => (simp -implicitDefEqProofs (disch := first | (simp only [ne_eq, Nat.reduceEqDiff, not_false_eq_true, Nat.reduceLT]; done) | assumption | (simp only [s_push_next, s_put_next, Nat.beq_refl]; done) | ((try simp only [s_push_next, s_put_next]) <;> omega) | exact s_one_map _ | exact s_one_slice _ _ _ _ _ | (refine (id ?_ : plainDraw _ = true); kernel_rfl) | fail) only [sxL, s_castN, s_cells_one, noOv, callFn, kindOf, kindC, kindB, unA, boxA, loadPtr, nilCheckA, fst1, ofValue, ofScalar, len, intBin, ibin, boolO, guardA, cCond, condV, cRet, cExit, cSkip, resOut, resultA, extractA, tupleO, Nat.reduceEqDiff, Nat.reduceAdd, Nat.reduceSub, Nat.reduceLT, Nat.reduceBEq, reduceCtorEq, Nat.reduceMod, Nat.reduceLeDiff, Int.reduceLT, Int.reduceAdd, Int.reduceEq, Int.reduceToNat, s_draw] <;> rfl)); (try (change Gets _ _ _ _ _ _; repeat refine Gets.seq ?_))
    refine Gets.condF (by simp (disch := decide) only [sxL]) (Gets.skip Tryz.tabOk ?_)
    change Gets _ _ _ _ _ _
    repeat refine Gets.seq ?_
    refine Gets.drawP Tryz.tabOk (ov := ptO noOv fn [szV a b c d e f] (H.push (szB 23 a b c d e f)) [(.int .i64 (g a d), H.push (szB 23 a b c d e f))]) (ptO_ok noOv_ok q2) 8 (s' := ?sn1) [0, 1, 3, 4, 2, 5, 6, 7] (by kernel_rfl) ?hn1 ?kn1; (case hn1 => (simp -implicitDefEqProofs (disch := first | (simp only [ne_eq, Nat.reduceEqDiff, not_false_eq_true, Nat.reduceLT]; done) | assumption | (simp only [s_push_next, s_put_next, Nat.beq_refl]; done) | ((try simp only [s_push_next, s_put_next]) <;> omega) | exact s_one_map _ | exact s_one_slice _ _ _ _ _ | (refine (id ?_ : plainDraw _ = true); kernel_rfl) | fail) only [sxL, s_castN, s_cells_one, noOv, callFn, kindOf, kindC, kindB, unA, boxA, loadPtr, nilCheckA, fst1, ofValue, ofScalar, len, intBin, ibin, boolO, guardA, cCond, condV, cRet, cExit, cSkip, resOut, resultA, extractA, tupleO, Nat.reduceEqDiff, Nat.reduceAdd, Nat.reduceSub, Nat.reduceLT, Nat.reduceBEq, reduceCtorEq, Nat.reduceMod, Nat.reduceLeDiff, Int.reduceLT, Int.reduceAdd, Int.reduceEq, Int.reduceToNat, pick_nil, pick_cons, pick_some, h_nil, h_ops, h_opsG, h_G_true, h_G_false, h_K_pure, h_K_read, h_K_eff, h_N, h_N0, h_E, h_E0, cells6, fa23_5, s_varTrue ia23 sz23, s_varFalse ia3, hw] <;> rfl)); (try (change Gets _ _ _ _ _ _; repeat refine Gets.seq ?_))
    refine Gets.ret Tryz.tabOk ?_
    rw [valG_t g hk]
    refine fin_pure2 rfl ?_ (Grows.push _ _) hn ⟨trivial, trivial, trivial⟩
    simp (disch := decide) only [sxL, Tryz.f15, resultA]
theorem top_elect (a b c d e f : Int) (H : Heap) (hn : Neat H) : CallTo Tryz.prog Tryz.tab 4 [szV a b c d e f] H [(valG electG a b c d e f, H)] := by
  refine cut_pure (H' := H.push (szB 23 a b c d e f)) (callTo_run Tryz.tabOk (ptO_ok noOv_ok (events_to g_elect elected_to a b c d e f (H.push (szB 23 a b c d e f)) (hn.push _))) (n := 3) ?_) (Grows.push _ _) hn (valG_lt _ _ _ _ _ _ _ _)
  rw [s_callO, s_callB, get4]
  unfold szV szB valG
  simp -implicitDefEqProofs (disch := first | (simp only [ne_eq, Nat.reduceEqDiff, not_false_eq_true, Nat.reduceLT]; done) | assumption | (simp only [s_push_next, s_put_next, Nat.beq_refl]; done) | ((try simp only [s_push_next, s_put_next]) <;> omega) | exact s_one_map _ | exact s_one_slice _ _ _ _ _ | (refine (id ?_ : plainDraw _ = true); kernel_rfl) | fail) only [sxL, s_castN, s_cells_one, noOv, callFn, kindOf, kindC, kindB, unA, boxA, loadPtr, nilCheckA, fst1, ofValue, ofScalar, len, intBin, ibin, boolO, guardA, cCond, condV, cRet, cExit, cSkip, resOut, resultA, extractA, tupleO, Nat.reduceEqDiff, Nat.reduceAdd, Nat.reduceSub, Nat.reduceLT, Nat.reduceBEq, reduceCtorEq, Nat.reduceMod, Nat.reduceLeDiff, Int.reduceLT, Int.reduceAdd, Int.reduceEq, Int.reduceToNat, Tryz.f4, noOv, s_varTrue ia23 sz23, s_varFalse ia3, cells6]
theorem top_comm (a b c d e f : Int) (H : Heap) (hn : Neat H) : CallTo Tryz.prog Tryz.tab 6 [szV a b c d e f] H [(valG commG a b c d e f, H)] := by
  refine cut_pure (H' := H.push (szB 23 a b c d e f)) (callTo_run Tryz.tabOk (ptO_ok noOv_ok (events_to g_comm comm_to a b c d e f (H.push (szB 23 a b c d e f)) (hn.push _))) (n := 3) ?_) (Grows.push _ _) hn (valG_lt _ _ _ _ _ _ _ _)
  rw [s_callO, s_callB, get6]
  unfold szV szB valG
  simp -implicitDefEqProofs (disch := first | (simp only [ne_eq, Nat.reduceEqDiff, not_false_eq_true, Nat.reduceLT]; done) | assumption | (simp only [s_push_next, s_put_next, Nat.beq_refl]; done) | ((try simp only [s_push_next, s_put_next]) <;> omega) | exact s_one_map _ | exact s_one_slice _ _ _ _ _ | (refine (id ?_ : plainDraw _ = true); kernel_rfl) | fail) only [sxL, s_castN, s_cells_one, noOv, callFn, kindOf, kindC, kindB, unA, boxA, loadPtr, nilCheckA, fst1, ofValue, ofScalar, len, intBin, ibin, boolO, guardA, cCond, condV, cRet, cExit, cSkip, resOut, resultA, extractA, tupleO, Nat.reduceEqDiff, Nat.reduceAdd, Nat.reduceSub, Nat.reduceLT, Nat.reduceBEq, reduceCtorEq, Nat.reduceMod, Nat.reduceLeDiff, Int.reduceLT, Int.reduceAdd, Int.reduceEq, Int.reduceToNat, Tryz.f6, noOv, s_varTrue ia23 sz23, s_varFalse ia3, cells6]
theorem top_itm (a b c d e f : Int) (H : Heap) (hn : Neat H) : CallTo Tryz.prog Tryz.tab 8 [szV a b c d e f] H [(valG itmG a b c d e f, H)] := by
  refine cut_pure (H' := H.push (szB 23 a b c d e f)) (callTo_run Tryz.tabOk (ptO_ok noOv_ok (events_to g_itm itm_to a b c d e f (H.push (szB 23 a b c d e f)) (hn.push _))) (n := 3) ?_) (Grows.push _ _) hn (valG_lt _ _ _ _ _ _ _ _)
  rw [s_callO, s_callB, get8]
  unfold szV szB valG
  simp -implicitDefEqProofs (disch := first | (simp only [ne_eq, Nat.reduceEqDiff, not_false_eq_true, Nat.reduceLT]; done) | assumption | (simp only [s_push_next, s_put_next, Nat.beq_refl]; done) | ((try simp only [s_push_next, s_put_next]) <;> omega) | exact s_one_map _ | exact s_one_slice _ _ _ _ _ | (refine (id ?_ : plainDraw _ = true); kernel_rfl) | fail) only [sxL, s_castN, s_cells_one, noOv, callFn, kindOf, kindC, kindB, unA, boxA, loadPtr, nilCheckA, fst1, ofValue, ofScalar, len, intBin, ibin, boolO, guardA, cCond, condV, cRet, cExit, cSkip, resOut, resultA, extractA, tupleO, Nat.reduceEqDiff, Nat.reduceAdd, Nat.reduceSub, Nat.reduceLT, Nat.reduceBEq, reduceCtorEq, Nat.reduceMod, Nat.reduceLeDiff, Int.reduceLT, Int.reduceAdd, Int.reduceEq, Int.reduceToNat, Tryz.f8, noOv, s_varTrue ia23 sz23, s_varFalse ia3, cells6]
theorem top_bnd (a b c d e f : Int) (H : Heap) (hn : Neat H) : CallTo Tryz.prog Tryz.tab 10 [szV a b c d e f] H [(valG bndG a b c d e f, H)] := by
  refine cut_pure (H' := H.push (szB 23 a b c d e f)) (callTo_run Tryz.tabOk (ptO_ok noOv_ok (events_to g_bnd bnd_to a b c d e f (H.push (szB 23 a b c d e f)) (hn.push _))) (n := 3) ?_) (Grows.push _ _) hn (valG_lt _ _ _ _ _ _ _ _)
  rw [s_callO, s_callB, get10]
  unfold szV szB valG
  simp -implicitDefEqProofs (disch := first | (simp only [ne_eq, Nat.reduceEqDiff, not_false_eq_true, Nat.reduceLT]; done) | assumption | (simp only [s_push_next, s_put_next, Nat.beq_refl]; done) | ((try simp only [s_push_next, s_put_next]) <;> omega) | exact s_one_map _ | exact s_one_slice _ _ _ _ _ | (refine (id ?_ : plainDraw _ = true); kernel_rfl) | fail) only [sxL, s_castN, s_cells_one, noOv, callFn, kindOf, kindC, kindB, unA, boxA, loadPtr, nilCheckA, fst1, ofValue, ofScalar, len, intBin, ibin, boolO, guardA, cCond, condV, cRet, cExit, cSkip, resOut, resultA, extractA, tupleO, Nat.reduceEqDiff, Nat.reduceAdd, Nat.reduceSub, Nat.reduceLT, Nat.reduceBEq, reduceCtorEq, Nat.reduceMod, Nat.reduceLeDiff, Int.reduceLT, Int.reduceAdd, Int.reduceEq, Int.reduceToNat, Tryz.f10, noOv, s_varTrue ia23 sz23, s_varFalse ia3, cells6]
end Go.Proofs

namespace Go.Proofs
open Go.Sx
set_option maxRecDepth 100000
noncomputable abbrev rndV (a : Int) : AV := .tuple [.int .i64 (longN a + 3), .int .i64 1032, .int .i64 (4 * a + 6)]
theorem long_to (a : Int) (h : 1 ≤ a ∧ a ≤ 7) (H : Heap) : CallTo Tryz.prog Tryz.tab 28 [.int .i64 a] H [(.tuple [.int .i64 (longN a), .int .i64 0], H)] := callTo_run Tryz.tabOk ov0_ok (longR_run H a h)
theorem rounds_to (a b c d e f : Int) (h : 1 ≤ a ∧ a ≤ 7) (H : Heap) (hn : Neat H) : CallTo Tryz.prog Tryz.tab 17 [szV a b c d e f] H [(rndV a, H)] := by
  have hl : longN a = 6 + 4 * (a - 1) := rfl
  have hw1 : awrap .i64 (longN a + 3) = longN a + 3 := s_wrap (by omega) (by omega)
  have hw2 : awrap .i64 (4 * a) = 4 * a := s_wrap (by omega) (by omega)
  have hw3 : awrap .i64 (4 * a + 6) = 4 * a + 6 := s_wrap (by omega) (by omega)
  have q1 := long_to a h (H.push (szB 24 a b c d e f))
  refine callTo_of Tryz.tabOk Tryz.func17 rfl rfl ?_
  show Gets Tryz.prog Tryz.tab ⟨none, 19⟩ _ _ _
  repeat refine Gets.seq ?_
  refine Gets.last Tryz.tabOk (ov := noOv) (noOv_ok) 8 (s' := ?sn2) ?hn2 ?kn2; (case hn2 => (simp -implicitDefEqProofs (disch := first | (simp only [ne_eq, Nat.reduceEqDiff, not_false_eq_true, Nat.reduceLT]; done) | assumption | (simp only [s_push_next, s_put_next, Nat.beq_refl]; done) | ((try simp only [s_push_next, s_put_next]) <;> omega) | exact s_one_map _ | exact s_one_slice _ _ _ _ _ | (refine (id ?_ : plainDraw _ = true); kernel_rfl) | fail) only [sxL, s_castN, s_cells_one, noOv, callFn, kindOf, kindC, kindB, unA, boxA, loadPtr, nilCheckA, fst1, ofValue, ofScalar, len, intBin, ibin, boolO, guardA, cCond, condV, cRet, cExit, cSkip, resOut, resultA, extractA, tupleO, Nat.reduceEqDiff, Nat.reduceAdd, Nat.reduceSub, Nat.reduceLT, Nat.reduceBEq, reduceCtorEq, Nat.reduceMod, Nat.reduceLeDiff, Int.reduceLT, Int.reduceAdd, Int.reduceEq, Int.reduceToNat, s_draw, s_varTrue ia24 sz24] <;> rfl)); (try (change Gets _ _ _ _ _ _; repeat refine Gets.seq ?_))
  refine Gets.last Tryz.tabOk (ov := ptO noOv 28 [.int .i64 a] (H.push (szB 24 a b c d e f)) [(.tuple [.int .i64 (longN a), .int .i64 0], H.push (szB 24 a b c d e f))]) (ptO_ok noOv_ok q1) 8 (s' := ?sn3) ?hn3 ?kn3; (case hn3 => (simp -implicitDefEqProofs (disch := first | (simp only [ne_eq, Nat.reduceEqDiff, not_false_eq_true, Nat.reduceLT]; done) | assumption | (simp only [s_push_next, s_put_next, Nat.beq_refl]; done) | ((try simp only [s_push_next, s_put_next]) <;> omega) | exact s_one_map _ | exact s_one_slice _ _ _ _ _ | (refine (id ?_ : plainDraw _ = true); kernel_rfl) | fail) only [sxL, s_castN, s_cells_one, noOv, callFn, kindOf, kindC, kindB, unA, boxA, loadPtr, nilCheckA, fst1, ofValue, ofScalar, len, intBin, ibin, boolO, guardA, cCond, condV, cRet, cExit, cSkip, resOut, resultA, extractA, tupleO, Nat.reduceEqDiff, Nat.reduceAdd, Nat.reduceSub, Nat.reduceLT, Nat.reduceBEq, reduceCtorEq, Nat.reduceMod, Nat.reduceLeDiff, Int.reduceLT, Int.reduceAdd, Int.reduceEq, Int.reduceToNat, s_draw, fa24_0, s_varFalse ia3] <;> rfl)); (try (change Gets _ _ _ _ _ _; repeat refine Gets.seq ?_))
  refine Gets.drawP Tryz.tabOk (ov := noOv) (noOv_ok) 8 (s' := ?sn1) [0, 1, 2, 3, 4, 5, 6, 7, 8] (by kernel_rfl) ?hn1 ?kn1; (case hn1 => (simp -implicitDefEqProofs (disch := first | (simp only [ne_eq, Nat.reduceEqDiff, not_false_eq_true, Nat.reduceLT]; done) | assumption | (simp only [s_push_next, s_put_next, Nat.beq_refl]; done) | ((try simp only [s_push_next, s_put_next]) <;> omega) | exact s_one_map _ | exact s_one_slice _ _ _ _ _ | (refine (id ?_ : plainDraw _ = true); kernel_rfl) | fail) only [sxL, s_castN, s_cells_one, noOv, callFn, kindOf, kindC, kindB, unA, boxA, loadPtr, nilCheckA, fst1, ofValue, ofScalar, len, intBin, ibin, boolO, guardA, cCond, condV, cRet, cExit, cSkip, resOut, resultA, extractA, tupleO, Nat.reduceEqDiff, Nat.reduceAdd, Nat.reduceSub, Nat.reduceLT, Nat.reduceBEq, reduceCtorEq, Nat.reduceMod, Nat.reduceLeDiff, Int.reduceLT, Int.reduceAdd, Int.reduceEq, Int.reduceToNat, pick_nil, pick_cons, pick_some, h_nil, h_ops, h_opsG, h_G_true, h_G_false, h_K_pure, h_K_read, h_K_eff, h_N, h_N0, h_E, h_E0, fa24_0, s_varFalse ia3, hw1, hw2, hw3] <;> rfl)); (try (change Gets _ _ _ _ _ _; repeat refine Gets.seq ?_))
  refine Gets.ret Tryz.tabOk ?_
  refine fin_pure3 rfl ?_ (Grows.push _ _) hn ⟨trivial, trivial, trivial, trivial⟩
  simp (disch := decide) only [sxL, Tryz.f17, resultA]
theorem ref_elect (a b c d e f : Int) (H : Heap) (hn : Neat H) : CallTo Tryz.prog Tryz.tab 5 [szV a b c d e f] H [(valG electG a b c d e f, H)] := by
  refine cut_pure (H' := H.push (szB 24 a b c d e f)) ?_ (Grows.push _ _) hn (valG_lt _ _ _ _ _ _ _ _)
  have hn1 : Neat (H.push (szB 24 a b c d e f)) := hn.push _
  have hC := chkR_pure a b c d e f _ hn1
  cases hk : okS a b c d e f
  · rw [chk_f hk] at hC
    refine callTo_run Tryz.tabOk (ptO_ok noOv_ok hC) (n := 3) ?_
    rw [s_callO, s_callB, get5, valG_f _ hk]
    unfold szV szB
    simp -implicitDefEqProofs (disch := first | (simp only [ne_eq, Nat.reduceEqDiff, not_false_eq_true, Nat.reduceLT]; done) | assumption | (simp only [s_push_next, s_put_next, Nat.beq_refl]; done) | ((try simp only [s_push_next, s_put_next]) <;> omega) | exact s_one_map _ | exact s_one_slice _ _ _ _ _ | (refine (id ?_ : plainDraw _ = true); kernel_rfl) | fail) only [sxL, s_castN, s_cells_one, noOv, callFn, kindOf, kindC, kindB, unA, boxA, loadPtr, nilCheckA, fst1, ofValue, ofScalar, len, intBin, ibin, boolO, guardA, cCond, condV, cRet, cExit, cSkip, resOut, resultA, extractA, tupleO, Nat.reduceEqDiff, Nat.reduceAdd, Nat.reduceSub, Nat.reduceLT, Nat.reduceBEq, reduceCtorEq, Nat.reduceMod, Nat.reduceLeDiff, Int.reduceLT, Int.reduceAdd, Int.reduceEq, Int.reduceToNat, Tryz.f5, noOv, s_varTrue ia24 sz24, s_varFalse ia3, cells6]
  · rw [chk_t hk] at hC
    have hp := ok_parts hk
    have h : Rg a d := ⟨hp.1, hp.2.1⟩
    refine callTo_run Tryz.tabOk (ptO_ok (ptO_ok noOv_ok hC) (rounds_to a b c d e f hp.1 _ hn1)) (n := 3) ?_
    rw [s_callO, s_callB, get5, valG_t _ hk]
    have hw : awrap .i64 ((longN a + 3) * f) = electG a d * f := wrap_mul (x := longN a + 3) (g_elect a d h) (by omega)
    unfold szV szB rndV
    simp -implicitDefEqProofs (disch := first | (simp only [ne_eq, Nat.reduceEqDiff, not_false_eq_true, Nat.reduceLT]; done) | assumption | (simp only [s_push_next, s_put_next, Nat.beq_refl]; done) | ((try simp only [s_push_next, s_put_next]) <;> omega) | exact s_one_map _ | exact s_one_slice _ _ _ _ _ | (refine (id ?_ : plainDraw _ = true); kernel_rfl) | fail) only [sxL, s_castN, s_cells_one, noOv, callFn, kindOf, kindC, kindB, unA, boxA, loadPtr, nilCheckA, fst1, ofValue, ofScalar, len, intBin, ibin, boolO, guardA, cCond, condV, cRet, cExit, cSkip, resOut, resultA, extractA, tupleO, Nat.reduceEqDiff, Nat.reduceAdd, Nat.reduceSub, Nat.reduceLT, Nat.reduceBEq, reduceCtorEq, Nat.reduceMod, Nat.reduceLeDiff, Int.reduceLT, Int.reduceAdd, Int.reduceEq, Int.reduceToNat, Tryz.f5, noOv, s_varTrue ia24 sz24, s_varFalse ia3, cells6, fa24_5, fa24_3, hw]
theorem ref_comm (a b c d e f : Int) (H : Heap) (hn : Neat H) : CallTo Tryz.prog Tryz.tab 7 [szV a b c d e f] H [(valG commG a b c d e f, H)] := by
  refine cut_pure (H' := H.push (szB 24 a b c d e f)) ?_ (Grows.push _ _) hn (valG_lt _ _ _ _ _ _ _ _)
  have hn1 : Neat (H.push (szB 24 a b c d e f)) := hn.push _
  have hC := chkR_pure a b c d e f _ hn1
  cases hk : okS a b c d e f
  · rw [chk_f hk] at hC
    refine callTo_run Tryz.tabOk (ptO_ok noOv_ok hC) (n := 3) ?_
    rw [s_callO, s_callB, get7, valG_f _ hk]
    unfold szV szB
    simp -implicitDefEqProofs (disch := first | (simp only [ne_eq, Nat.reduceEqDiff, not_false_eq_true, Nat.reduceLT]; done) | assumption | (simp only [s_push_next, s_put_next, Nat.beq_refl]; done) | ((try simp only [s_push_next, s_put_next]) <;> omega) | exact s_one_map _ | exact s_one_slice _ _ _ _ _ | (refine (id ?_ : plainDraw _ = true); kernel_rfl) | fail) only [sxL, s_castN, s_cells_one, noOv, callFn, kindOf, kindC, kindB, unA, boxA, loadPtr, nilCheckA, fst1, ofValue, ofScalar, len, intBin, ibin, boolO, guardA, cCond, condV, cRet, cExit, cSkip, resOut, resultA, extractA, tupleO, Nat.reduceEqDiff, Nat.reduceAdd, Nat.reduceSub, Nat.reduceLT, Nat.reduceBEq, reduceCtorEq, Nat.reduceMod, Nat.reduceLeDiff, Int.reduceLT, Int.reduceAdd, Int.reduceEq, Int.reduceToNat, Tryz.f7, noOv, s_varTrue ia24 sz24, s_varFalse ia3, cells6]
  · rw [chk_t hk] at hC
    have hp := ok_parts hk
    have h : Rg a d := ⟨hp.1, hp.2.1⟩
    refine callTo_run Tryz.tabOk (ptO_ok (ptO_ok noOv_ok hC) (rounds_to a b c d e f hp.1 _ hn1)) (n := 3) ?_
    rw [s_callO, s_callB, get7, valG_t _ hk]
    have hw0 : awrap .i64 1035 = 1035 := s_wrap (by omega) (by omega)
    have hw : awrap .i64 (1035 * f) = commG a d * f := wrap_mul (x := 1035) (g_comm a d h) (by omega)
    unfold szV szB rndV
    simp -implicitDefEqProofs (disch := first | (simp only [ne_eq, Nat.reduceEqDiff, not_false_eq_true, Nat.reduceLT]; done) | assumption | (simp only [s_push_next, s_put_next, Nat.beq_refl]; done) | ((try simp only [s_push_next, s_put_next]) <;> omega) | exact s_one_map _ | exact s_one_slice _ _ _ _ _ | (refine (id ?_ : plainDraw _ = true); kernel_rfl) | fail) only [sxL, s_castN, s_cells_one, noOv, callFn, kindOf, kindC, kindB, unA, boxA, loadPtr, nilCheckA, fst1, ofValue, ofScalar, len, intBin, ibin, boolO, guardA, cCond, condV, cRet, cExit, cSkip, resOut, resultA, extractA, tupleO, Nat.reduceEqDiff, Nat.reduceAdd, Nat.reduceSub, Nat.reduceLT, Nat.reduceBEq, reduceCtorEq, Nat.reduceMod, Nat.reduceLeDiff, Int.reduceLT, Int.reduceAdd, Int.reduceEq, Int.reduceToNat, Tryz.f7, noOv, s_varTrue ia24 sz24, s_varFalse ia3, cells6, fa24_5, fa24_3, hw0, hw]
theorem ref_itm (a b c d e f : Int) (H : Heap) (hn : Neat H) : CallTo Tryz.prog Tryz.tab 9 [szV a b c d e f] H [(valG itmG a b c d e f, H)] := by
  refine cut_pure (H' := H.push (szB 24 a b c d e f)) ?_ (Grows.push _ _) hn (valG_lt _ _ _ _ _ _ _ _)
  have hn1 : Neat (H.push (szB 24 a b c d e f)) := hn.push _
  have hC := chkR_pure a b c d e f _ hn1
  cases hk : okS a b c d e f
  · rw [chk_f hk] at hC
    refine callTo_run Tryz.tabOk (ptO_ok noOv_ok hC) (n := 3) ?_
    rw [s_callO, s_callB, get9, valG_f _ hk]
    unfold szV szB
    simp -implicitDefEqProofs (disch := first | (simp only [ne_eq, Nat.reduceEqDiff, not_false_eq_true, Nat.reduceLT]; done) | assumption | (simp only [s_push_next, s_put_next, Nat.beq_refl]; done) | ((try simp only [s_push_next, s_put_next]) <;> omega) | exact s_one_map _ | exact s_one_slice _ _ _ _ _ | (refine (id ?_ : plainDraw _ = true); kernel_rfl) | fail) only [sxL, s_castN, s_cells_one, noOv, callFn, kindOf, kindC, kindB, unA, boxA, loadPtr, nilCheckA, fst1, ofValue, ofScalar, len, intBin, ibin, boolO, guardA, cCond, condV, cRet, cExit, cSkip, resOut, resultA, extractA, tupleO, Nat.reduceEqDiff, Nat.reduceAdd, Nat.reduceSub, Nat.reduceLT, Nat.reduceBEq, reduceCtorEq, Nat.reduceMod, Nat.reduceLeDiff, Int.reduceLT, Int.reduceAdd, Int.reduceEq, Int.reduceToNat, Tryz.f9, noOv, s_varTrue ia24 sz24, s_varFalse ia3, cells6]
  · rw [chk_t hk] at hC
    have hp := ok_parts hk
    have h : Rg a d := ⟨hp.1, hp.2.1⟩
    refine callTo_run Tryz.tabOk (ptO_ok (ptO_ok noOv_ok hC) (rounds_to a b c d e f hp.1 _ hn1)) (n := 3) ?_
    rw [s_callO, s_callB, get9, valG_t _ hk]
    have hw0 : awrap .i64 (1032 + (4 * a + 6)) = 1032 + (4 * a + 6) := s_wrap (by omega) (by omega)
    have hw : awrap .i64 ((1032 + (4 * a + 6)) * f) = itmG a d * f := wrap_mul (x := 1032 + (4 * a + 6)) (g_itm a d h) (by omega)
    unfold szV szB rndV
    simp -implicitDefEqProofs (disch := first | (simp only [ne_eq, Nat.reduceEqDiff, not_false_eq_true, Nat.reduceLT]; done) | assumption | (simp only [s_push_next, s_put_next, Nat.beq_refl]; done) | ((try simp only [s_push_next, s_put_next]) <;> omega) | exact s_one_map _ | exact s_one_slice _ _ _ _ _ | (refine (id ?_ : plainDraw _ = true); kernel_rfl) | fail) only [sxL, s_castN, s_cells_one, noOv, callFn, kindOf, kindC, kindB, unA, boxA, loadPtr, nilCheckA, fst1, ofValue, ofScalar, len, intBin, ibin, boolO, guardA, cCond, condV, cRet, cExit, cSkip, resOut, resultA, extractA, tupleO, Nat.reduceEqDiff, Nat.reduceAdd, Nat.reduceSub, Nat.reduceLT, Nat.reduceBEq, reduceCtorEq, Nat.reduceMod, Nat.reduceLeDiff, Int.reduceLT, Int.reduceAdd, Int.reduceEq, Int.reduceToNat, Tryz.f9, noOv, s_varTrue ia24 sz24, s_varFalse ia3, cells6, fa24_5, fa24_3, hw0, hw]
theorem ref_bnd (a b c d e f : Int) (H : Heap) (hn : Neat H) : CallTo Tryz.prog Tryz.tab 11 [szV a b c d e f] H [(valG bndG a b c d e f, H)] := by
  refine cut_pure (H' := H.push (szB 24 a b c d e f)) ?_ (Grows.push _ _) hn (valG_lt _ _ _ _ _ _ _ _)
  have hn1 : Neat (H.push (szB 24 a b c d e f)) := hn.push _
  have hC := chkR_pure a b c d e f _ hn1
  cases hk : okS a b c d e f
  · rw [chk_f hk] at hC
    refine callTo_run Tryz.tabOk (ptO_ok noOv_ok hC) (n := 3) ?_
    rw [s_callO, s_callB, get11, valG_f _ hk]
    unfold szV szB
    simp -implicitDefEqProofs (disch := first | (simp only [ne_eq, Nat.reduceEqDiff, not_false_eq_true, Nat.reduceLT]; done) | assumption | (simp only [s_push_next, s_put_next, Nat.beq_refl]; done) | ((try simp only [s_push_next, s_put_next]) <;> omega) | exact s_one_map _ | exact s_one_slice _ _ _ _ _ | (refine (id ?_ : plainDraw _ = true); kernel_rfl) | fail) only [sxL, s_castN, s_cells_one, noOv, callFn, kindOf, kindC, kindB, unA, boxA, loadPtr, nilCheckA, fst1, ofValue, ofScalar, len, intBin, ibin, boolO, guardA, cCond, condV, cRet, cExit, cSkip, resOut, resultA, extractA, tupleO, Nat.reduceEqDiff, Nat.reduceAdd, Nat.reduceSub, Nat.reduceLT, Nat.reduceBEq, reduceCtorEq, Nat.reduceMod, Nat.reduceLeDiff, Int.reduceLT, Int.reduceAdd, Int.reduceEq, Int.reduceToNat, Tryz.f11, noOv, s_varTrue ia24 sz24, s_varFalse ia3, cells6]
  · rw [chk_t hk] at hC
    have hp := ok_parts hk
    have h : Rg a d := ⟨hp.1, hp.2.1⟩
    refine callTo_run Tryz.tabOk (ptO_ok (ptO_ok noOv_ok hC) (rounds_to a b c d e f hp.1 _ hn1)) (n := 3) ?_
    rw [s_callO, s_callB, get11, valG_t _ hk]
    have hl : longN a = 6 + 4 * (a - 1) := rfl
    have hb := two_d a d h
    have hw0 : awrap .i64 (longN a + 3 + 1032) = longN a + 3 + 1032 := s_wrap (by omega) (by omega)
    have hw1 : awrap .i64 (longN a + 3 + 1032 + 4) = longN a + 3 + 1032 + 4 := s_wrap (by omega) (by omega)
    have hw2 : awrap .i64 (2 * d) = 2 * d := s_wrap (by omega) (by omega)
    have hw3 : awrap .i64 (2 * d * (4 * a + 6)) = 2 * d * (4 * a + 6) := s_wrap (by omega) (by omega)
    have hw4 : awrap .i64 (longN a + 3 + 1032 + 4 + 2 * d * (4 * a + 6)) = longN a + 3 + 1032 + 4 + 2 * d * (4 * a + 6) := s_wrap (by omega) (by omega)
    have hw : awrap .i64 ((longN a + 3 + 1032 + 4 + 2 * d * (4 * a + 6)) * f) = bndG a d * f := wrap_mul (x := longN a + 3 + 1032 + 4 + 2 * d * (4 * a + 6)) (g_bnd a d h) (by omega)
    unfold szV szB rndV
    simp -implicitDefEqProofs (disch := first | (simp only [ne_eq, Nat.reduceEqDiff, not_false_eq_true, Nat.reduceLT]; done) | assumption | (simp only [s_push_next, s_put_next, Nat.beq_refl]; done) | ((try simp only [s_push_next, s_put_next]) <;> omega) | exact s_one_map _ | exact s_one_slice _ _ _ _ _ | (refine (id ?_ : plainDraw _ = true); kernel_rfl) | fail) only [sxL, s_castN, s_cells_one, noOv, callFn, kindOf, kindC, kindB, unA, boxA, loadPtr, nilCheckA, fst1, ofValue, ofScalar, len, intBin, ibin, boolO, guardA, cCond, condV, cRet, cExit, cSkip, resOut, resultA, extractA, tupleO, Nat.reduceEqDiff, Nat.reduceAdd, Nat.reduceSub, Nat.reduceLT, Nat.reduceBEq, reduceCtorEq, Nat.reduceMod, Nat.reduceLeDiff, Int.reduceLT, Int.reduceAdd, Int.reduceEq, Int.reduceToNat, Tryz.f11, noOv, s_varTrue ia24 sz24, s_varFalse ia3, cells6, fa24_5, fa24_3, hw0, hw1, hw2, hw3, hw4, hw]
end Go.Proofs

namespace Go.Proofs
open Go.Sx
/-- the one table that the examples read -/
def crcFours : List Int := [0, 498536548, 997073096, 651767980, 1994146192, 1802195444, 1303535960, 1342533948, 3988292384, 4027552580, 3604390888, 3412177804, 2607071920, 2262029012, 2685067896, 3183342108]
noncomputable def gH0 : Heap := ⟨10, T.e.set 9 (some (.big 840 16 (crcFours.map fun x => .int .u32 x)))⟩
end Go.Proofs

namespace Go.Proofs
open Go.Sx
set_option maxRecDepth 100000
/-- where the one table stands that the examples read -/
def GlobAt (H : Heap) : Prop := H.blks.get 9 = some (.big 840 16 (crcFours.map fun x => .int .u32 x))
theorem GlobAt.grow {H H' : Heap} (h : GlobAt H) (hN : Neat H) (hg : Grows H H') : GlobAt H' := by unfold GlobAt; rw [hg.get 9 (hN 9 _ h)]; exact h
theorem zero24 : Tryz.tab.zero 24 = some (.agg [.int .i64 0, .int .i64 0, .int .i64 0, .int .i64 0, .int .i64 0, .int .i64 0]) := by kernel_rfl
theorem fb_run (hW : ∀ h, GlobAt h → CallTo Tryz.prog Tryz.tab 14 [] h [(.bool true, h)]) (a b c d e f : Int) (H : Heap) (hN : Neat H) (hG : GlobAt H) : CallTo Tryz.prog Tryz.tab 3 [szV a b c d e f] H [(.bool true, H)] := by
  have hst : storePtr Tryz.tab ((H.push (szB 23 a b c d e f)).push (szB 24 0 0 0 0 0 0)) 24 (.ptr (H.next + 1) 0) (szV a b c d e f) =
      some (putBlk ((H.push (szB 23 a b c d e f)).push (szB 24 0 0 0 0 0 0)) (H.next + 1) (some (szB 24 a b c d e f))) := store_full (s_push_same _ _) sz24 rfl rfl (by simp)
  have hg1 : Grows H (putBlk ((H.push (szB 23 a b c d e f)).push (szB 24 0 0 0 0 0 0)) (H.next + 1) (some (szB 24 a b c d e f))) :=
    ⟨by rw [s_put_next]; show H.next ≤ H.next + 1 + 1; omega, fun x hx => by rw [s_put_other _ _ _ (by omega), s_push_other _ _ (by rw [s_push_next]; omega), s_push_other _ _ (by omega)]⟩
  have hn1 : Neat (putBlk ((H.push (szB 23 a b c d e f)).push (szB 24 0 0 0 0 0 0)) (H.next + 1) (some (szB 24 a b c d e f))) := ((hN.push _).push _).put (by show H.next + 1 < H.next + 1 + 1; omega) _
  have b1 : (putBlk ((H.push (szB 23 a b c d e f)).push (szB 24 0 0 0 0 0 0)) (H.next + 1) (some (szB 24 a b c d e f))).blks.get H.next = some (szB 23 a b c d e f) := by
    rw [s_put_other _ _ _ (by omega), s_push_other _ _ (by rw [s_push_next]; omega), s_push_same]
  have b2 : (putBlk ((H.push (szB 23 a b c d e f)).push (szB 24 0 0 0 0 0 0)) (H.next + 1) (some (szB 24 a b c d e f))).blks.get (H.next + 1) = some (szB 24 a b c d e f) := s_put_same _ _ _
  refine callTo_of Tryz.tabOk Tryz.func3 rfl rfl ?_
  show Gets Tryz.prog Tryz.tab ⟨none, 109⟩ _ _ _
  repeat refine Gets.seq ?_
  refine Gets.last Tryz.tabOk (ov := noOv) (noOv_ok) 8 (s' := ?sn2) ?hn2 ?kn2; (case hn2 => (simp -implicitDefEqProofs (disch := first | (simp only [ne_eq, Nat.reduceEqDiff, not_false_eq_true, Nat.reduceLT]; done) | assumption | (simp only [s_push_next, s_put_next, Nat.beq_refl]; done) | ((try simp only [s_push_next, s_put_next]) <;> omega) | exact s_one_map _ | exact s_one_slice _ _ _ _ _ | (refine (id ?_ : plainDraw _ = true); kernel_rfl) | fail) only [sxL, s_castN, s_cells_one, noOv, callFn, kindOf, kindC, kindB, unA, boxA, loadPtr, nilCheckA, fst1, ofValue, ofScalar, len, intBin, ibin, boolO, guardA, cCond, condV, cRet, cExit, cSkip, resOut, resultA, extractA, tupleO, Nat.reduceEqDiff, Nat.reduceAdd, Nat.reduceSub, Nat.reduceLT, Nat.reduceBEq, reduceCtorEq, Nat.reduceMod, Nat.reduceLeDiff, Int.reduceLT, Int.reduceAdd, Int.reduceEq, Int.reduceToNat, s_draw, s_varTrue ia23 sz23] <;> rfl)); (try (change Gets _ _ _ _ _ _; repeat refine Gets.seq ?_))
  refine Gets.mid (I := fun s => ∃ tm, s = ⟨tm, putBlk ((H.push (szB 23 a b c d e f)).push (szB 24 0 0 0 0 0 0)) (H.next + 1) (some (szB 24 a b c d e f)), []⟩ ∧ tm.get 1 = some (.ptr H.next 0) ∧ tm.get 3 = some (.ptr (H.next + 1) 0)) ?_ ?_
  · refine Gets.last Tryz.tabOk (ov := noOv) (noOv_ok) 8 (s' := ?sn3) ?hn3 ?kn3; (case hn3 => (simp -implicitDefEqProofs (disch := first | (simp only [ne_eq, Nat.reduceEqDiff, not_false_eq_true, Nat.reduceLT]; done) | assumption | (simp only [s_push_next, s_put_next, Nat.beq_refl]; done) | ((try simp only [s_push_next, s_put_next]) <;> omega) | exact s_one_map _ | exact s_one_slice _ _ _ _ _ | (refine (id ?_ : plainDraw _ = true); kernel_rfl) | fail) only [sxL, s_castN, s_cells_one, noOv, callFn, kindOf, kindC, kindB, unA, boxA, loadPtr, nilCheckA, fst1, ofValue, ofScalar, len, intBin, ibin, boolO, guardA, cCond, condV, cRet, cExit, cSkip, resOut, resultA, extractA, tupleO, Nat.reduceEqDiff, Nat.reduceAdd, Nat.reduceSub, Nat.reduceLT, Nat.reduceBEq, reduceCtorEq, Nat.reduceMod, Nat.reduceLeDiff, Int.reduceLT, Int.reduceAdd, Int.reduceEq, Int.reduceToNat, s_draw, s_varTrue ia23 sz23, s_varTrue ia24 sz24, cells6, zero24, hst] <;> rfl)); (try (change Gets _ _ _ _ _ _; repeat refine Gets.seq ?_))
    exact ⟨rfl, _, rfl, by simp (disch := decide) only [sxL], by simp (disch := decide) only [sxL]⟩
  rintro _ ⟨tm, rfl, t1, t3⟩
  generalize putBlk ((H.push (szB 23 a b c d e f)).push (szB 24 0 0 0 0 0 0)) (H.next + 1) (some (szB 24 a b c d e f)) = h2 at *
  have hG2 := hG.grow hN hg1
  have hw := hW h2 hG2
  have q0 := chk_pure a b c d e f h2 hn1
  have r0 := chkR_pure a b c d e f h2 hn1
  have q1 := top_elect a b c d e f h2 hn1
  have r1 := ref_elect a b c d e f h2 hn1
  have q2 := top_comm a b c d e f h2 hn1
  have r2 := ref_comm a b c d e f h2 hn1
  have q3 := top_itm a b c d e f h2 hn1
  have r3 := ref_itm a b c d e f h2 hn1
  have q4 := top_bnd a b c d e f h2 hn1
  have r4 := ref_bnd a b c d e f h2 hn1
  unfold valG at q1 r1 q2 r2 q3 r3 q4 r4
  generalize (if okS a b c d e f then electG a d * f else 0) = x1 at q1 r1
  generalize (if okS a b c d e f then commG a d * f else 0) = x2 at q2 r2
  generalize (if okS a b c d e f then itmG a d * f else 0) = x3 at q3 r3
  generalize (if okS a b c d e f then bndG a d * f else 0) = x4 at q4 r4
  generalize chkN a b c d e f = k at *
  have c1 : Sx.cellsIn (h2.blks.get H.next) 0 6 = some [.int .i64 a, .int .i64 b, .int .i64 c, .int .i64 d, .int .i64 e, .int .i64 f] := by rw [b1]; exact cells6 ..
  have c2 : Sx.cellsIn (h2.blks.get (H.next + 1)) 0 6 = some [.int .i64 a, .int .i64 b, .int .i64 c, .int .i64 d, .int .i64 e, .int .i64 f] := by rw [b2]; exact cells6 ..
  change Gets _ _ _ _ _ _
  repeat refine Gets.seq ?_
  refine Gets.last Tryz.tabOk (ov := ptO noOv 4 [szV a b c d e f] h2 [(.tuple [.int .i64 x1, .int .i64 k], h2)]) (ptO_ok noOv_ok q1) 8 (s' := ?sn4) ?hn4 ?kn4; (case hn4 => (simp -implicitDefEqProofs (disch := first | (simp only [ne_eq, Nat.reduceEqDiff, not_false_eq_true, Nat.reduceLT]; done) | assumption | (simp only [s_push_next, s_put_next, Nat.beq_refl]; done) | ((try simp only [s_push_next, s_put_next]) <;> omega) | exact s_one_map _ | exact s_one_slice _ _ _ _ _ | (refine (id ?_ : plainDraw _ = true); kernel_rfl) | fail) only [sxL, s_castN, s_cells_one, noOv, callFn, kindOf, kindC, kindB, unA, boxA, loadPtr, nilCheckA, fst1, ofValue, ofScalar, len, intBin, ibin, boolO, guardA, cCond, condV, cRet, cExit, cSkip, resOut, resultA, extractA, tupleO, Nat.reduceEqDiff, Nat.reduceAdd, Nat.reduceSub, Nat.reduceLT, Nat.reduceBEq, reduceCtorEq, Nat.reduceMod, Nat.reduceLeDiff, Int.reduceLT, Int.reduceAdd, Int.reduceEq, Int.reduceToNat, s_draw, t1, t3, c1, c2, s_varTrue ia23 sz23, s_varTrue ia24 sz24] <;> rfl)); (try (change Gets _ _ _ _ _ _; repeat refine Gets.seq ?_))
  refine Gets.last Tryz.tabOk (ov := ptO noOv 5 [szV a b c d e f] h2 [(.tuple [.int .i64 x1, .int .i64 k], h2)]) (ptO_ok noOv_ok r1) 8 (s' := ?sn5) ?hn5 ?kn5; (case hn5 => (simp -implicitDefEqProofs (disch := first | (simp only [ne_eq, Nat.reduceEqDiff, not_false_eq_true, Nat.reduceLT]; done) | assumption | (simp only [s_push_next, s_put_next, Nat.beq_refl]; done) | ((try simp only [s_push_next, s_put_next]) <;> omega) | exact s_one_map _ | exact s_one_slice _ _ _ _ _ | (refine (id ?_ : plainDraw _ = true); kernel_rfl) | fail) only [sxL, s_castN, s_cells_one, noOv, callFn, kindOf, kindC, kindB, unA, boxA, loadPtr, nilCheckA, fst1, ofValue, ofScalar, len, intBin, ibin, boolO, guardA, cCond, condV, cRet, cExit, cSkip, resOut, resultA, extractA, tupleO, Nat.reduceEqDiff, Nat.reduceAdd, Nat.reduceSub, Nat.reduceLT, Nat.reduceBEq, reduceCtorEq, Nat.reduceMod, Nat.reduceLeDiff, Int.reduceLT, Int.reduceAdd, Int.reduceEq, Int.reduceToNat, s_draw, t1, t3, c1, c2, s_varTrue ia23 sz23, s_varTrue ia24 sz24] <;> rfl)); (try (change Gets _ _ _ _ _ _; repeat refine Gets.seq ?_))
  refine Gets.last Tryz.tabOk (ov := ptO noOv 6 [szV a b c d e f] h2 [(.tuple [.int .i64 x2, .int .i64 k], h2)]) (ptO_ok noOv_ok q2) 8 (s' := ?sn6) ?hn6 ?kn6; (case hn6 => (simp -implicitDefEqProofs (disch := first | (simp only [ne_eq, Nat.reduceEqDiff, not_false_eq_true, Nat.reduceLT]; done) | assumption | (simp only [s_push_next, s_put_next, Nat.beq_refl]; done) | ((try simp only [s_push_next, s_put_next]) <;> omega) | exact s_one_map _ | exact s_one_slice _ _ _ _ _ | (refine (id ?_ : plainDraw _ = true); kernel_rfl) | fail) only [sxL, s_castN, s_cells_one, noOv, callFn, kindOf, kindC, kindB, unA, boxA, loadPtr, nilCheckA, fst1, ofValue, ofScalar, len, intBin, ibin, boolO, guardA, cCond, condV, cRet, cExit, cSkip, resOut, resultA, extractA, tupleO, Nat.reduceEqDiff, Nat.reduceAdd, Nat.reduceSub, Nat.reduceLT, Nat.reduceBEq, reduceCtorEq, Nat.reduceMod, Nat.reduceLeDiff, Int.reduceLT, Int.reduceAdd, Int.reduceEq, Int.reduceToNat, s_draw, t1, t3, c1, c2, s_varTrue ia23 sz23, s_varTrue ia24 sz24] <;> rfl)); (try (change Gets _ _ _ _ _ _; repeat refine Gets.seq ?_))
  refine Gets.last Tryz.tabOk (ov := ptO noOv 7 [szV a b c d e f] h2 [(.tuple [.int .i64 x2, .int .i64 k], h2)]) (ptO_ok noOv_ok r2) 8 (s' := ?sn7) ?hn7 ?kn7; (case hn7 => (simp -implicitDefEqProofs (disch := first | (simp only [ne_eq, Nat.reduceEqDiff, not_false_eq_true, Nat.reduceLT]; done) | assumption | (simp only [s_push_next, s_put_next, Nat.beq_refl]; done) | ((try simp only [s_push_next, s_put_next]) <;> omega) | exact s_one_map _ | exact s_one_slice _ _ _ _ _ | (refine (id ?_ : plainDraw _ = true); kernel_rfl) | fail) only [sxL, s_castN, s_cells_one, noOv, callFn, kindOf, kindC, kindB, unA, boxA, loadPtr, nilCheckA, fst1, ofValue, ofScalar, len, intBin, ibin, boolO, guardA, cCond, condV, cRet, cExit, cSkip, resOut, resultA, extractA, tupleO, Nat.reduceEqDiff, Nat.reduceAdd, Nat.reduceSub, Nat.reduceLT, Nat.reduceBEq, reduceCtorEq, Nat.reduceMod, Nat.reduceLeDiff, Int.reduceLT, Int.reduceAdd, Int.reduceEq, Int.reduceToNat, s_draw, t1, t3, c1, c2, s_varTrue ia23 sz23, s_varTrue ia24 sz24] <;> rfl)); (try (change Gets _ _ _ _ _ _; repeat refine Gets.seq ?_))
  refine Gets.last Tryz.tabOk (ov := ptO noOv 8 [szV a b c d e f] h2 [(.tuple [.int .i64 x3, .int .i64 k], h2)]) (ptO_ok noOv_ok q3) 8 (s' := ?sn8) ?hn8 ?kn8; (case hn8 => (simp -implicitDefEqProofs (disch := first | (simp only [ne_eq, Nat.reduceEqDiff, not_false_eq_true, Nat.reduceLT]; done) | assumption | (simp only [s_push_next, s_put_next, Nat.beq_refl]; done) | ((try simp only [s_push_next, s_put_next]) <;> omega) | exact s_one_map _ | exact s_one_slice _ _ _ _ _ | (refine (id ?_ : plainDraw _ = true); kernel_rfl) | fail) only [sxL, s_castN, s_cells_one, noOv, callFn, kindOf, kindC, kindB, unA, boxA, loadPtr, nilCheckA, fst1, ofValue, ofScalar, len, intBin, ibin, boolO, guardA, cCond, condV, cRet, cExit, cSkip, resOut, resultA, extractA, tupleO, Nat.reduceEqDiff, Nat.reduceAdd, Nat.reduceSub, Nat.reduceLT, Nat.reduceBEq, reduceCtorEq, Nat.reduceMod, Nat.reduceLeDiff, Int.reduceLT, Int.reduceAdd, Int.reduceEq, Int.reduceToNat, s_draw, t1, t3, c1, c2, s_varTrue ia23 sz23, s_varTrue ia24 sz24] <;> rfl)); (try (change Gets _ _ _ _ _ _; repeat refine Gets.seq ?_))
  refine Gets.last Tryz.tabOk (ov := ptO noOv 9 [szV a b c d e f] h2 [(.tuple [.int .i64 x3, .int .i64 k], h2)]) (ptO_ok noOv_ok r3) 8 (s' := ?sn9) ?hn9 ?kn9; (case hn9 => (simp -implicitDefEqProofs (disch := first | (simp only [ne_eq, Nat.reduceEqDiff, not_false_eq_true, Nat.reduceLT]; done) | assumption | (simp only [s_push_next, s_put_next, Nat.beq_refl]; done) | ((try simp only [s_push_next, s_put_next]) <;> omega) | exact s_one_map _ | exact s_one_slice _ _ _ _ _ | (refine (id ?_ : plainDraw _ = true); kernel_rfl) | fail) only [sxL, s_castN, s_cells_one, noOv, callFn, kindOf, kindC, kindB, unA, boxA, loadPtr, nilCheckA, fst1, ofValue, ofScalar, len, intBin, ibin, boolO, guardA, cCond, condV, cRet, cExit, cSkip, resOut, resultA, extractA, tupleO, Nat.reduceEqDiff, Nat.reduceAdd, Nat.reduceSub, Nat.reduceLT, Nat.reduceBEq, reduceCtorEq, Nat.reduceMod, Nat.reduceLeDiff, Int.reduceLT, Int.reduceAdd, Int.reduceEq, Int.reduceToNat, s_draw, t1, t3, c1, c2, s_varTrue ia23 sz23, s_varTrue ia24 sz24] <;> rfl)); (try (change Gets _ _ _ _ _ _; repeat refine Gets.seq ?_))
  refine Gets.last Tryz.tabOk (ov := ptO noOv 10 [szV a b c d e f] h2 [(.tuple [.int .i64 x4, .int .i64 k], h2)]) (ptO_ok noOv_ok q4) 8 (s' := ?sn10) ?hn10 ?kn10; (case hn10 => (simp -implicitDefEqProofs (disch := first | (simp only [ne_eq, Nat.reduceEqDiff, not_false_eq_true, Nat.reduceLT]; done) | assumption | (simp only [s_push_next, s_put_next, Nat.beq_refl]; done) | ((try simp only [s_push_next, s_put_next]) <;> omega) | exact s_one_map _ | exact s_one_slice _ _ _ _ _ | (refine (id ?_ : plainDraw _ = true); kernel_rfl) | fail) only [sxL, s_castN, s_cells_one, noOv, callFn, kindOf, kindC, kindB, unA, boxA, loadPtr, nilCheckA, fst1, ofValue, ofScalar, len, intBin, ibin, boolO, guardA, cCond, condV, cRet, cExit, cSkip, resOut, resultA, extractA, tupleO, Nat.reduceEqDiff, Nat.reduceAdd, Nat.reduceSub, Nat.reduceLT, Nat.reduceBEq, reduceCtorEq, Nat.reduceMod, Nat.reduceLeDiff, Int.reduceLT, Int.reduceAdd, Int.reduceEq, Int.reduceToNat, s_draw, t1, t3, c1, c2, s_varTrue ia23 sz23, s_varTrue ia24 sz24] <;> rfl)); (try (change Gets _ _ _ _ _ _; repeat refine Gets.seq ?_))
  refine Gets.last Tryz.tabOk (ov := ptO noOv 11 [szV a b c d e f] h2 [(.tuple [.int .i64 x4, .int .i64 k], h2)]) (ptO_ok noOv_ok r4) 8 (s' := ?sn11) ?hn11 ?kn11; (case hn11 => (simp -implicitDefEqProofs (disch := first | (simp only [ne_eq, Nat.reduceEqDiff, not_false_eq_true, Nat.reduceLT]; done) | assumption | (simp only [s_push_next, s_put_next, Nat.beq_refl]; done) | ((try simp only [s_push_next, s_put_next]) <;> omega) | exact s_one_map _ | exact s_one_slice _ _ _ _ _ | (refine (id ?_ : plainDraw _ = true); kernel_rfl) | fail) only [sxL, s_castN, s_cells_one, noOv, callFn, kindOf, kindC, kindB, unA, boxA, loadPtr, nilCheckA, fst1, ofValue, ofScalar, len, intBin, ibin, boolO, guardA, cCond, condV, cRet, cExit, cSkip, resOut, resultA, extractA, tupleO, Nat.reduceEqDiff, Nat.reduceAdd, Nat.reduceSub, Nat.reduceLT, Nat.reduceBEq, reduceCtorEq, Nat.reduceMod, Nat.reduceLeDiff, Int.reduceLT, Int.reduceAdd, Int.reduceEq, Int.reduceToNat, s_draw, t1, t3, c1, c2, s_varTrue ia23 sz23, s_varTrue ia24 sz24] <;> rfl)); (try (change Gets _ _ _ _ _ _; repeat refine Gets.seq ?_))
  refine Gets.drawP Tryz.tabOk (ov := ptO (ptO (ptO noOv 12 [szV a b c d e f] h2 [(.int .i64 k, h2)]) 13 [szV a b c d e f] h2 [(.int .i64 k, h2)]) 14 [] h2 [(.bool true, h2)]) (ptO_ok (ptO_ok (ptO_ok noOv_ok q0) r0) hw) 8 (s' := ?sn1) [0, 2, 1, 3, 4, 5, 6, 7, 8, 9, 10, 11, 12, 13, 14, 15, 16, 17, 18, 19, 20, 21, 22, 23, 24, 25, 26, 27, 28, 29, 30, 31, 32, 33, 34, 35, 36, 37, 38, 39, 40, 41, 42, 43, 44, 45, 46, 47, 48] (by kernel_rfl) ?hn1 ?kn1; (case hn1 => (simp -implicitDefEqProofs (disch := first | (simp only [ne_eq, Nat.reduceEqDiff, not_false_eq_true, Nat.reduceLT]; done) | assumption | (simp only [s_push_next, s_put_next, Nat.beq_refl]; done) | ((try simp only [s_push_next, s_put_next]) <;> omega) | exact s_one_map _ | exact s_one_slice _ _ _ _ _ | (refine (id ?_ : plainDraw _ = true); kernel_rfl) | fail) only [sxL, s_castN, s_cells_one, noOv, callFn, kindOf, kindC, kindB, unA, boxA, loadPtr, nilCheckA, fst1, ofValue, ofScalar, len, intBin, ibin, boolO, guardA, cCond, condV, cRet, cExit, cSkip, resOut, resultA, extractA, tupleO, Nat.reduceEqDiff, Nat.reduceAdd, Nat.reduceSub, Nat.reduceLT, Nat.reduceBEq, reduceCtorEq, Nat.reduceMod, Nat.reduceLeDiff, Int.reduceLT, Int.reduceAdd, Int.reduceEq, Int.reduceToNat, pick_nil, pick_cons, pick_some, h_nil, h_ops, h_opsG, h_G_true, h_G_false, h_K_pure, h_K_read, h_K_eff, h_N, h_N0, h_E, h_E0, t1, t3, c1, c2, s_varTrue ia23 sz23, s_varTrue ia24 sz24, s_beqI] <;> rfl)); (try (change Gets _ _ _ _ _ _; repeat refine Gets.seq ?_))
  refine Gets.ret Tryz.tabOk ?_
  exact fin_pure rfl (by simp (disch := decide) only [sxL, Tryz.f3, resultA]) hg1 hN trivial
end Go.Proofs
