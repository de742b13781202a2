/-
  Elect, Commit, Item, Bound come to their values, for every size; the law's own code, walked.
-/
import Derived.Test.YthkfnldaeihmiaaGreatDoorFbA
import Derived.Test.YthkfnldaeihmiaaGreatDoorSxH
import Derived.Test.YthkfnldaeihmiaaGreatDoorSxTab
import Derived.Test.YthkfnldaeihmiaaGreatDoorSxG
set_option linter.unusedSimpArgs false
set_option linter.unusedVariables false
namespace Go.Proofs
open Go.Sx
set_option maxRecDepth 100000
abbrev Rg (a d : Int) : Prop := (1 ≤ a ∧ a ≤ 7) ∧ (0 ≤ d ∧ d ≤ 8)
theorem cut_pure {fn : Nat} {args : List AV} {H H' : Heap} {v : AV} (h : CallTo Tryz.prog Tryz.tab fn args H [(v, H')]) (hg : Grows H H') (hn : Neat H) (hv : ltV H.next v) : CallTo Tryz.prog Tryz.tab fn args H [(v, H)] :=
  h.cut fun p hp => by rw [List.mem_singleton.1 hp]; exact ⟨_, List.mem_singleton.2 rfl, .pure hg.next hg.get hn hv⟩
/-- a function of a size that comes to a number and does nothing else -/
def SzTo (fn : Nat) (g : Int → Int → Int) : Prop := ∀ a b c d e f H, Rg a d → Neat H → CallTo Tryz.prog Tryz.tab fn [szV a b c d e f] H [(.int .i64 (g a d), H)]
theorem elected_to : SzTo 12 electG := fun a b c d e f H h hn => cut_pure (callTo_run Tryz.tabOk ov2_ok (elected_run 0 a b c d e f h.1 H)) (Grows.push _ _) hn trivial
theorem item_to : SzTo 15 itemG := fun a b c d e f H h hn => cut_pure (callTo_run Tryz.tabOk ov2_ok (item_run 0 a b c d e f h.1 H)) (Grows.push _ _) hn trivial
theorem comm_to : SzTo 13 commG := fun a b c d e f H _ hn => cut_pure (callTo_run Tryz.tabOk ov3_ok (comm_run 0 a b c d e f H)) (Grows.push _ _) hn trivial
theorem itm_to : SzTo 14 itmG := fun a b c d e f H h hn => cut_pure (callTo_run Tryz.tabOk ov3_ok (itm_run 0 a b c d e f h H)) ((Grows.push _ _).trans (Grows.push _ _)) hn trivial
theorem chk_pure (a b c d e f : Int) (H : Heap) (hn : Neat H) : CallTo Tryz.prog Tryz.tab 9 [szV a b c d e f] H [(.int .i64 (chkN a b c d e f), H)] :=
  cut_pure (callTo_run Tryz.tabOk ov1_ok (check_run 0 a b c d e f H)) (Grows.push _ _) hn trivial
theorem two_d (a d : Int) (h : Rg a d) : 0 ≤ 2 * d * (4 * a + 6) ∧ 2 * d * (4 * a + 6) ≤ 16 * 34 := ⟨Int.mul_nonneg (by omega) (by omega), Int.mul_le_mul (by omega) (by omega) (by omega) (by omega)⟩
theorem bnd_to : SzTo 16 bndG := by
  intro a b c d e f H h hn
  have hn1 : Neat (H.push (szB 25 a b c d e f)) := hn.push _
  have q1 := elected_to a b c d e f _ h hn1
  have q2 := item_to a b c d e f _ h hn1
  have e1 : electG a d = longN a + 3 := rfl
  have e2 : itemG a d = 4 * a + 6 := rfl
  have hl : longN a = 6 + 4 * (a - 1) := rfl
  have hmb := two_d a d h
  have hw0 : awrap .i64 (2 * d) = 2 * d := s_wrap (by omega) (by omega)
  have hw1 : awrap .i64 (electG a d + 1032) = longN a + 3 + 1032 := by rw [e1]; exact s_wrap (by omega) (by omega)
  have hw2 : awrap .i64 (longN a + 3 + 1032 + 4) = longN a + 3 + 1032 + 4 := s_wrap (by omega) (by omega)
  have hm : awrap .i64 (2 * d * itemG a d) = 2 * d * (4 * a + 6) := by rw [e2]; exact wrap_mul (by omega) (by omega)
  have hw3 : awrap .i64 (longN a + 3 + 1032 + 4 + 2 * d * (4 * a + 6)) = longN a + 3 + 1032 + 4 + 2 * d * (4 * a + 6) := s_wrap (by omega) (by omega)
  refine callTo_of Tryz.tabOk Tryz.func16 rfl rfl ?_
  show Gets Tryz.prog Tryz.tab ⟨none, 14⟩ _ _ _
  repeat refine Gets.seq ?_
  refine Gets.last Tryz.tabOk (ov := noOv) (noOv_ok) 8 (s' := ?sn2) ?hn2 ?kn2; (case hn2 => (simp -implicitDefEqProofs (disch := first | (simp only [ne_eq, Nat.reduceEqDiff, not_false_eq_true, Nat.reduceLT]; done) | assumption | (simp only [s_push_next, s_put_next, Nat.beq_refl]; done) | ((try simp only [s_push_next, s_put_next]) <;> omega) | exact s_one_map _ | exact s_one_slice _ _ _ _ _ | (refine (id ?_ : plainDraw _ = true); kernel_rfl) | fail) only [sxL, s_castN, s_cells_one, noOv, callFn, kindOf, kindC, kindB, unA, boxA, loadPtr, nilCheckA, fst1, ofValue, ofScalar, len, intBin, ibin, boolO, guardA, cCond, condV, cRet, cExit, cSkip, resOut, resultA, extractA, tupleO, Nat.reduceEqDiff, Nat.reduceAdd, Nat.reduceSub, Nat.reduceLT, Nat.reduceBEq, reduceCtorEq, Nat.reduceMod, Nat.reduceLeDiff, Int.reduceLT, Int.reduceAdd, Int.reduceEq, Int.reduceToNat, s_draw, s_varTrue ia25 sz25] <;> rfl)); (try (change Gets _ _ _ _ _ _; repeat refine Gets.seq ?_))
  refine Gets.drawP Tryz.tabOk (ov := ptO (ptO noOv 12 [szV a b c d e f] (H.push (szB 25 a b c d e f)) [(.int .i64 (electG a d), H.push (szB 25 a b c d e f))]) 15 [szV a b c d e f] (H.push (szB 25 a b c d e f)) [(.int .i64 (itemG a d), H.push (szB 25 a b c d e f))]) (ptO_ok (ptO_ok noOv_ok q1) q2) 8 (s' := ?sn1) [0, 4, 5, 6, 7, 1, 2, 3, 8, 9, 10, 11] (by kernel_rfl) ?hn1 ?kn1; (case hn1 => (simp -implicitDefEqProofs (disch := first | (simp only [ne_eq, Nat.reduceEqDiff, not_false_eq_true, Nat.reduceLT]; done) | assumption | (simp only [s_push_next, s_put_next, Nat.beq_refl]; done) | ((try simp only [s_push_next, s_put_next]) <;> omega) | exact s_one_map _ | exact s_one_slice _ _ _ _ _ | (refine (id ?_ : plainDraw _ = true); kernel_rfl) | fail) only [sxL, s_castN, s_cells_one, noOv, callFn, kindOf, kindC, kindB, unA, boxA, loadPtr, nilCheckA, fst1, ofValue, ofScalar, len, intBin, ibin, boolO, guardA, cCond, condV, cRet, cExit, cSkip, resOut, resultA, extractA, tupleO, Nat.reduceEqDiff, Nat.reduceAdd, Nat.reduceSub, Nat.reduceLT, Nat.reduceBEq, reduceCtorEq, Nat.reduceMod, Nat.reduceLeDiff, Int.reduceLT, Int.reduceAdd, Int.reduceEq, Int.reduceToNat, pick_nil, pick_cons, pick_some, h_nil, h_ops, h_opsG, h_G_true, h_G_false, h_K_pure, h_K_read, h_K_eff, h_N, h_N0, h_E, h_E0, cells6, fa25_3, s_varTrue ia25 sz25, s_varFalse ia3, hw0, hw1, hw2, hm, hw3] <;> rfl)); (try (change Gets _ _ _ _ _ _; repeat refine Gets.seq ?_))
  refine Gets.ret Tryz.tabOk ?_
  exact fin_pure rfl (by simp (disch := decide) only [sxL, Tryz.f16, resultA]; rfl) (Grows.push _ _) hn trivial
end Go.Proofs

namespace Go.Proofs
open Go.Sx
set_option maxRecDepth 100000
theorem chk_f {a b c d e f : Int} (h : okS a b c d e f = false) : chkN a b c d e f = 2 := by unfold chkN; rw [h]; rfl
theorem chk_t {a b c d e f : Int} (h : okS a b c d e f = true) : chkN a b c d e f = 0 := by unfold chkN; rw [h]; rfl
/-- what the four bounds come to -/
noncomputable def valG (g : Int → Int → Int) (a b c d e f : Int) : AV := .tuple [.int .i64 (if okS a b c d e f then g a d * f else 0), .int .i64 (chkN a b c d e f)]
theorem valG_t (g : Int → Int → Int) {a b c d e f : Int} (hk : okS a b c d e f = true) : valG g a b c d e f = .tuple [.int .i64 (g a d * f), .int .i64 0] := by unfold valG; rw [hk, chk_t hk]; rfl
theorem valG_f (g : Int → Int → Int) {a b c d e f : Int} (hk : okS a b c d e f = false) : valG g a b c d e f = .tuple [.int .i64 0, .int .i64 2] := by unfold valG; rw [hk, chk_f hk]; rfl
theorem valG_lt (n : Nat) (g : Int → Int → Int) (a b c d e f : Int) : ltV n (valG g a b c d e f) := ⟨trivial, trivial, trivial⟩
def Small (g : Int → Int → Int) : Prop := ∀ a d, Rg a d → 0 ≤ g a d ∧ g a d ≤ 100000
theorem g_elect : Small electG := by intro a d h; unfold electG longN; omega
theorem g_comm : Small commG := by intro a d h; unfold commG; omega
theorem g_itm : Small itmG := by intro a d h; unfold itmG; omega
theorem g_bnd : Small bndG := by
  intro a d h
  have := two_d a d h
  unfold bndG longN; omega
theorem events_to {g : Int → Int → Int} {fn : Nat} (hg : Small g) (hf : SzTo fn g) (a b c d e f : Int) (H : Heap) (hn : Neat H) :
    CallTo Tryz.prog Tryz.tab 11 [szV a b c d e f, .func (.func fn) [] []] H [(valG g a b c d e f, H)] := by
  have hn1 : Neat (H.push (szB 25 a b c d e f)) := hn.push _
  have q1 := chk_pure a b c d e f _ hn1
  refine callTo_of Tryz.tabOk Tryz.func11 rfl rfl ?_
  show Gets Tryz.prog Tryz.tab ⟨none, 18⟩ _ _ _
  repeat refine Gets.seq ?_
  refine Gets.last Tryz.tabOk (ov := noOv) (noOv_ok) 8 (s' := ?sn2) ?hn2 ?kn2; (case hn2 => (simp -implicitDefEqProofs (disch := first | (simp only [ne_eq, Nat.reduceEqDiff, not_false_eq_true, Nat.reduceLT]; done) | assumption | (simp only [s_push_next, s_put_next, Nat.beq_refl]; done) | ((try simp only [s_push_next, s_put_next]) <;> omega) | exact s_one_map _ | exact s_one_slice _ _ _ _ _ | (refine (id ?_ : plainDraw _ = true); kernel_rfl) | fail) only [sxL, s_castN, s_cells_one, noOv, callFn, kindOf, kindC, kindB, unA, boxA, loadPtr, nilCheckA, fst1, ofValue, ofScalar, len, intBin, ibin, boolO, guardA, cCond, condV, cRet, cExit, cSkip, resOut, resultA, extractA, tupleO, Nat.reduceEqDiff, Nat.reduceAdd, Nat.reduceSub, Nat.reduceLT, Nat.reduceBEq, reduceCtorEq, Nat.reduceMod, Nat.reduceLeDiff, Int.reduceLT, Int.reduceAdd, Int.reduceEq, Int.reduceToNat, s_draw, s_varTrue ia25 sz25] <;> rfl)); (try (change Gets _ _ _ _ _ _; repeat refine Gets.seq ?_))
  cases hk : okS a b c d e f
  · rw [chk_f hk] at q1
    refine Gets.last Tryz.tabOk (ov := ptO noOv 9 [szV a b c d e f] (H.push (szB 25 a b c d e f)) [(.int .i64 2, H.push (szB 25 a b c d e f))]) (ptO_ok noOv_ok q1) 8 (s' := ?sn3) ?hn3 ?kn3; (case hn3 => (simp -implicitDefEqProofs (disch := first | (simp only [ne_eq, Nat.reduceEqDiff, not_false_eq_true, Nat.reduceLT]; done) | assumption | (simp only [s_push_next, s_put_next, Nat.beq_refl]; done) | ((try simp only [s_push_next, s_put_next]) <;> omega) | exact s_one_map _ | exact s_one_slice _ _ _ _ _ | (refine (id ?_ : plainDraw _ = true); kernel_rfl) | fail) only [sxL, s_castN, s_cells_one, noOv, callFn, kindOf, kindC, kindB, unA, boxA, loadPtr, nilCheckA, fst1, ofValue, ofScalar, len, intBin, ibin, boolO, guardA, cCond, condV, cRet, cExit, cSkip, resOut, resultA, extractA, tupleO, Nat.reduceEqDiff, Nat.reduceAdd, Nat.reduceSub, Nat.reduceLT, Nat.reduceBEq, reduceCtorEq, Nat.reduceMod, Nat.reduceLeDiff, Int.reduceLT, Int.reduceAdd, Int.reduceEq, Int.reduceToNat, s_draw, s_varTrue ia25 sz25, cells6] <;> rfl)); (try (change Gets _ _ _ _ _ _; repeat refine Gets.seq ?_))
    refine Gets.last Tryz.tabOk (ov := noOv) (noOv_ok) 8 (s' := ?sn4) ?hn4 ?kn4; (case hn4 => (simp -implicitDefEqProofs (disch := first | (simp only [ne_eq, Nat.reduceEqDiff, not_false_eq_true, Nat.reduceLT]; done) | assumption | (simp only [s_push_next, s_put_next, Nat.beq_refl]; done) | ((try simp only [s_push_next, s_put_next]) <;> omega) | exact s_one_map _ | exact s_one_slice _ _ _ _ _ | (refine (id ?_ : plainDraw _ = true); kernel_rfl) | fail) only [sxL, s_castN, s_cells_one, noOv, callFn, kindOf, kindC, kindB, unA, boxA, loadPtr, nilCheckA, fst1, ofValue, ofScalar, len, intBin, ibin, boolO, guardA, cCond, condV, cRet, cExit, cSkip, resOut, resultA, extractA, tupleO, Nat.reduceEqDiff, Nat.reduceAdd, Nat.reduceSub, Nat.reduceLT, Nat.reduceBEq, reduceCtorEq, Nat.reduceMod, Nat.reduceLeDiff, Int.reduceLT, Int.reduceAdd, Int.reduceEq, Int.reduceToNat, s_draw] <;> rfl)); (try (change Gets _ _ _ _ _ _; repeat refine Gets.seq ?_))
    refine Gets.condT (by simp (disch := decide) only [sxL]) ?_
    repeat refine Gets.seq ?_
    refine Gets.last Tryz.tabOk (ov := noOv) (noOv_ok) 8 (s' := ?sn5) ?hn5 ?kn5; (case hn5 => (simp -implicitDefEqProofs (disch := first | (simp only [ne_eq, Nat.reduceEqDiff, not_false_eq_true, Nat.reduceLT]; done) | assumption | (simp only [s_push_next, s_put_next, Nat.beq_refl]; done) | ((try simp only [s_push_next, s_put_next]) <;> omega) | exact s_one_map _ | exact s_one_slice _ _ _ _ _ | (refine (id ?_ : plainDraw _ = true); kernel_rfl) | fail) only [sxL, s_castN, s_cells_one, noOv, callFn, kindOf, kindC, kindB, unA, boxA, loadPtr, nilCheckA, fst1, ofValue, ofScalar, len, intBin, ibin, boolO, guardA, cCond, condV, cRet, cExit, cSkip, resOut, resultA, extractA, tupleO, Nat.reduceEqDiff, Nat.reduceAdd, Nat.reduceSub, Nat.reduceLT, Nat.reduceBEq, reduceCtorEq, Nat.reduceMod, Nat.reduceLeDiff, Int.reduceLT, Int.reduceAdd, Int.reduceEq, Int.reduceToNat, s_draw] <;> rfl)); (try (change Gets _ _ _ _ _ _; repeat refine Gets.seq ?_))
    refine Gets.ret Tryz.tabOk ?_
    rw [valG_f g hk]
    refine fin_pure2 rfl ?_ (Grows.push _ _) hn ⟨trivial, trivial, trivial⟩
    simp (disch := decide) only [sxL, Tryz.f11, resultA]
  · rw [chk_t hk] at q1
    have hp := ok_parts hk
    have h : Rg a d := ⟨hp.1, hp.2.1⟩
    have hw : awrap .i64 (g a d * f) = g a d * f := wrap_mul (hg a d h) (by omega)
    have q2 := hf a b c d e f _ h hn1
    refine Gets.last Tryz.tabOk (ov := ptO noOv 9 [szV a b c d e f] (H.push (szB 25 a b c d e f)) [(.int .i64 0, H.push (szB 25 a b c d e f))]) (ptO_ok noOv_ok q1) 8 (s' := ?sn6) ?hn6 ?kn6; (case hn6 => (simp -implicitDefEqProofs (disch := first | (simp only [ne_eq, Nat.reduceEqDiff, not_false_eq_true, Nat.reduceLT]; done) | assumption | (simp only [s_push_next, s_put_next, Nat.beq_refl]; done) | ((try simp only [s_push_next, s_put_next]) <;> omega) | exact s_one_map _ | exact s_one_slice _ _ _ _ _ | (refine (id ?_ : plainDraw _ = true); kernel_rfl) | fail) only [sxL, s_castN, s_cells_one, noOv, callFn, kindOf, kindC, kindB, unA, boxA, loadPtr, nilCheckA, fst1, ofValue, ofScalar, len, intBin, ibin, boolO, guardA, cCond, condV, cRet, cExit, cSkip, resOut, resultA, extractA, tupleO, Nat.reduceEqDiff, Nat.reduceAdd, Nat.reduceSub, Nat.reduceLT, Nat.reduceBEq, reduceCtorEq, Nat.reduceMod, Nat.reduceLeDiff, Int.reduceLT, Int.reduceAdd, Int.reduceEq, Int.reduceToNat, s_draw, s_varTrue ia25 sz25, cells6] <;> rfl)); (try (change Gets _ _ _ _ _ _; repeat refine Gets.seq ?_))
    refine Gets.last Tryz.tabOk (ov := noOv) (noOv_ok) 8 (s' := ?sn7) ?hn7 ?kn7; (case hn7 => (simp -implicitDefEqProofs (disch := first | (simp only [ne_eq, Nat.reduceEqDiff, not_false_eq_true, Nat.reduceLT]; done) | assumption | (simp only [s_push_next, s_put_next, Nat.beq_refl]; done) | ((try simp only [s_push_next, s_put_next]) <;> omega) | exact s_one_map _ | exact s_one_slice _ _ _ _ _ | (refine (id ?_ : plainDraw _ = true); kernel_rfl) | fail) only [sxL, s_castN, s_cells_one, noOv, callFn, kindOf, kindC, kindB, unA, boxA, loadPtr, nilCheckA, fst1, ofValue, ofScalar, len, intBin, ibin, boolO, guardA, cCond, condV, cRet, cExit, cSkip, resOut, resultA, extractA, tupleO, Nat.reduceEqDiff, Nat.reduceAdd, Nat.reduceSub, Nat.reduceLT, Nat.reduceBEq, reduceCtorEq, Nat.reduceMod, Nat.reduceLeDiff, Int.reduceLT, Int.reduceAdd, Int.reduceEq, Int.reduceToNat, s_draw] <;> rfl)); (try (change Gets _ _ _ _ _ _; repeat refine Gets.seq ?_))
    refine Gets.condF (by simp (disch := decide) only [sxL]) (Gets.skip Tryz.tabOk ?_)
    change Gets _ _ _ _ _ _
    repeat refine Gets.seq ?_
    refine Gets.drawP Tryz.tabOk (ov := ptO noOv fn [szV a b c d e f] (H.push (szB 25 a b c d e f)) [(.int .i64 (g a d), H.push (szB 25 a b c d e f))]) (ptO_ok noOv_ok q2) 8 (s' := ?sn1) [0, 1, 3, 4, 2, 5, 6, 7] (by kernel_rfl) ?hn1 ?kn1; (case hn1 => (simp -implicitDefEqProofs (disch := first | (simp only [ne_eq, Nat.reduceEqDiff, not_false_eq_true, Nat.reduceLT]; done) | assumption | (simp only [s_push_next, s_put_next, Nat.beq_refl]; done) | ((try simp only [s_push_next, s_put_next]) <;> omega) | exact s_one_map _ | exact s_one_slice _ _ _ _ _ | (refine (id ?_ : plainDraw _ = true); kernel_rfl) | fail) only [sxL, s_castN, s_cells_one, noOv, callFn, kindOf, kindC, kindB, unA, boxA, loadPtr, nilCheckA, fst1, ofValue, ofScalar, len, intBin, ibin, boolO, guardA, cCond, condV, cRet, cExit, cSkip, resOut, resultA, extractA, tupleO, Nat.reduceEqDiff, Nat.reduceAdd, Nat.reduceSub, Nat.reduceLT, Nat.reduceBEq, reduceCtorEq, Nat.reduceMod, Nat.reduceLeDiff, Int.reduceLT, Int.reduceAdd, Int.reduceEq, Int.reduceToNat, pick_nil, pick_cons, pick_some, h_nil, h_ops, h_opsG, h_G_true, h_G_false, h_K_pure, h_K_read, h_K_eff, h_N, h_N0, h_E, h_E0, cells6, fa25_5, s_varTrue ia25 sz25, s_varFalse ia3, hw] <;> rfl)); (try (change Gets _ _ _ _ _ _; repeat refine Gets.seq ?_))
    refine Gets.ret Tryz.tabOk ?_
    rw [valG_t g hk]
    refine fin_pure2 rfl ?_ (Grows.push _ _) hn ⟨trivial, trivial, trivial⟩
    simp (disch := decide) only [sxL, Tryz.f11, resultA]
theorem top_elect (a b c d e f : Int) (H : Heap) (hn : Neat H) : CallTo Tryz.prog Tryz.tab 5 [szV a b c d e f] H [(valG electG a b c d e f, H)] := by
  refine cut_pure (H' := H.push (szB 25 a b c d e f)) (callTo_run Tryz.tabOk (ptO_ok noOv_ok (events_to g_elect elected_to a b c d e f (H.push (szB 25 a b c d e f)) (hn.push _))) (n := 3) ?_) (Grows.push _ _) hn (valG_lt _ _ _ _ _ _ _ _)
  rw [s_callO, s_callB, get5]
  unfold szV szB valG
  simp -implicitDefEqProofs (disch := first | (simp only [ne_eq, Nat.reduceEqDiff, not_false_eq_true, Nat.reduceLT]; done) | assumption | (simp only [s_push_next, s_put_next, Nat.beq_refl]; done) | ((try simp only [s_push_next, s_put_next]) <;> omega) | exact s_one_map _ | exact s_one_slice _ _ _ _ _ | (refine (id ?_ : plainDraw _ = true); kernel_rfl) | fail) only [sxL, s_castN, s_cells_one, noOv, callFn, kindOf, kindC, kindB, unA, boxA, loadPtr, nilCheckA, fst1, ofValue, ofScalar, len, intBin, ibin, boolO, guardA, cCond, condV, cRet, cExit, cSkip, resOut, resultA, extractA, tupleO, Nat.reduceEqDiff, Nat.reduceAdd, Nat.reduceSub, Nat.reduceLT, Nat.reduceBEq, reduceCtorEq, Nat.reduceMod, Nat.reduceLeDiff, Int.reduceLT, Int.reduceAdd, Int.reduceEq, Int.reduceToNat, Tryz.f5, noOv, s_varTrue ia25 sz25, s_varFalse ia3, cells6]
theorem top_comm (a b c d e f : Int) (H : Heap) (hn : Neat H) : CallTo Tryz.prog Tryz.tab 6 [szV a b c d e f] H [(valG commG a b c d e f, H)] := by
  refine cut_pure (H' := H.push (szB 25 a b c d e f)) (callTo_run Tryz.tabOk (ptO_ok noOv_ok (events_to g_comm comm_to a b c d e f (H.push (szB 25 a b c d e f)) (hn.push _))) (n := 3) ?_) (Grows.push _ _) hn (valG_lt _ _ _ _ _ _ _ _)
  rw [s_callO, s_callB, get6]
  unfold szV szB valG
  simp -implicitDefEqProofs (disch := first | (simp only [ne_eq, Nat.reduceEqDiff, not_false_eq_true, Nat.reduceLT]; done) | assumption | (simp only [s_push_next, s_put_next, Nat.beq_refl]; done) | ((try simp only [s_push_next, s_put_next]) <;> omega) | exact s_one_map _ | exact s_one_slice _ _ _ _ _ | (refine (id ?_ : plainDraw _ = true); kernel_rfl) | fail) only [sxL, s_castN, s_cells_one, noOv, callFn, kindOf, kindC, kindB, unA, boxA, loadPtr, nilCheckA, fst1, ofValue, ofScalar, len, intBin, ibin, boolO, guardA, cCond, condV, cRet, cExit, cSkip, resOut, resultA, extractA, tupleO, Nat.reduceEqDiff, Nat.reduceAdd, Nat.reduceSub, Nat.reduceLT, Nat.reduceBEq, reduceCtorEq, Nat.reduceMod, Nat.reduceLeDiff, Int.reduceLT, Int.reduceAdd, Int.reduceEq, Int.reduceToNat, Tryz.f6, noOv, s_varTrue ia25 sz25, s_varFalse ia3, cells6]
theorem top_itm (a b c d e f : Int) (H : Heap) (hn : Neat H) : CallTo Tryz.prog Tryz.tab 7 [szV a b c d e f] H [(valG itmG a b c d e f, H)] := by
  refine cut_pure (H' := H.push (szB 25 a b c d e f)) (callTo_run Tryz.tabOk (ptO_ok noOv_ok (events_to g_itm itm_to a b c d e f (H.push (szB 25 a b c d e f)) (hn.push _))) (n := 3) ?_) (Grows.push _ _) hn (valG_lt _ _ _ _ _ _ _ _)
  rw [s_callO, s_callB, get7]
  unfold szV szB valG
  simp -implicitDefEqProofs (disch := first | (simp only [ne_eq, Nat.reduceEqDiff, not_false_eq_true, Nat.reduceLT]; done) | assumption | (simp only [s_push_next, s_put_next, Nat.beq_refl]; done) | ((try simp only [s_push_next, s_put_next]) <;> omega) | exact s_one_map _ | exact s_one_slice _ _ _ _ _ | (refine (id ?_ : plainDraw _ = true); kernel_rfl) | fail) only [sxL, s_castN, s_cells_one, noOv, callFn, kindOf, kindC, kindB, unA, boxA, loadPtr, nilCheckA, fst1, ofValue, ofScalar, len, intBin, ibin, boolO, guardA, cCond, condV, cRet, cExit, cSkip, resOut, resultA, extractA, tupleO, Nat.reduceEqDiff, Nat.reduceAdd, Nat.reduceSub, Nat.reduceLT, Nat.reduceBEq, reduceCtorEq, Nat.reduceMod, Nat.reduceLeDiff, Int.reduceLT, Int.reduceAdd, Int.reduceEq, Int.reduceToNat, Tryz.f7, noOv, s_varTrue ia25 sz25, s_varFalse ia3, cells6]
theorem top_bnd (a b c d e f : Int) (H : Heap) (hn : Neat H) : CallTo Tryz.prog Tryz.tab 8 [szV a b c d e f] H [(valG bndG a b c d e f, H)] := by
  refine cut_pure (H' := H.push (szB 25 a b c d e f)) (callTo_run Tryz.tabOk (ptO_ok noOv_ok (events_to g_bnd bnd_to a b c d e f (H.push (szB 25 a b c d e f)) (hn.push _))) (n := 3) ?_) (Grows.push _ _) hn (valG_lt _ _ _ _ _ _ _ _)
  rw [s_callO, s_callB, get8]
  unfold szV szB valG
  simp -implicitDefEqProofs (disch := first | (simp only [ne_eq, Nat.reduceEqDiff, not_false_eq_true, Nat.reduceLT]; done) | assumption | (simp only [s_push_next, s_put_next, Nat.beq_refl]; done) | ((try simp only [s_push_next, s_put_next]) <;> omega) | exact s_one_map _ | exact s_one_slice _ _ _ _ _ | (refine (id ?_ : plainDraw _ = true); kernel_rfl) | fail) only [sxL, s_castN, s_cells_one, noOv, callFn, kindOf, kindC, kindB, unA, boxA, loadPtr, nilCheckA, fst1, ofValue, ofScalar, len, intBin, ibin, boolO, guardA, cCond, condV, cRet, cExit, cSkip, resOut, resultA, extractA, tupleO, Nat.reduceEqDiff, Nat.reduceAdd, Nat.reduceSub, Nat.reduceLT, Nat.reduceBEq, reduceCtorEq, Nat.reduceMod, Nat.reduceLeDiff, Int.reduceLT, Int.reduceAdd, Int.reduceEq, Int.reduceToNat, Tryz.f8, noOv, s_varTrue ia25 sz25, s_varFalse ia3, cells6]
end Go.Proofs

namespace Go.Proofs
open Go.Sx
set_option maxRecDepth 100000
/-- six numbers -/
abbrev arV (a b c d e f : Int) : AV := .agg [.int .u16 a, .int .u16 b, .int .u16 c, .int .u16 d, .int .u16 e, .int .u16 f]
abbrev arB (a b c d e f : Int) : ABlk := .cells 23 true [.int .u16 a, .int .u16 b, .int .u16 c, .int .u16 d, .int .u16 e, .int .u16 f]
theorem ix23_0 (b o : Nat) : indexAddrA Tryz.tab 23 (.ptr b o) (.int .i64 0) = some (.ptr b (o + 0)) := by kernel_rfl
theorem ix23_1 (b o : Nat) : indexAddrA Tryz.tab 23 (.ptr b o) (.int .i64 1) = some (.ptr b (o + 1)) := by kernel_rfl
theorem ix23_2 (b o : Nat) : indexAddrA Tryz.tab 23 (.ptr b o) (.int .i64 2) = some (.ptr b (o + 2)) := by kernel_rfl
theorem ix23_3 (b o : Nat) : indexAddrA Tryz.tab 23 (.ptr b o) (.int .i64 3) = some (.ptr b (o + 3)) := by kernel_rfl
theorem ix23_4 (b o : Nat) : indexAddrA Tryz.tab 23 (.ptr b o) (.int .i64 4) = some (.ptr b (o + 4)) := by kernel_rfl
theorem ix23_5 (b o : Nat) : indexAddrA Tryz.tab 23 (.ptr b o) (.int .i64 5) = some (.ptr b (o + 5)) := by kernel_rfl
theorem conv22 (n : Int) (H : Heap) : convertA Tryz.tab H 22 3 (.int .u16 n) = some (.int .i64 (awrap .i64 n), H) := by kernel_rfl
theorem zero25 : Tryz.tab.zero 25 = some (.agg [.int .i64 0, .int .i64 0, .int .i64 0, .int .i64 0, .int .i64 0, .int .i64 0]) := by kernel_rfl
theorem build25 (a b c d e f : Int) : buildA Tryz.tab 25 [(0, .int .i64 a), (1, .int .i64 b), (2, .int .i64 c), (3, .int .i64 d), (4, .int .i64 e), (5, .int .i64 f)] = some (szV a b c d e f) := by kernel_rfl
/-- a number of 16 bits -/
abbrev U (x : Int) : Prop := 0 ≤ x ∧ x ≤ 65535
theorem size_to (a b c d e f : Int) (ha : U a) (hb : U b) (hc : U c) (hd : U d) (he : U e) (hf : U f) (H : Heap) (hn : Neat H) :
    CallTo Tryz.prog Tryz.tab 4 [arV a b c d e f] H [(szV (1 + a % 7) (2 + b % 7) (c % 65) (1 + d % 8) (e % 513) (1 + f), H)] := by
  have hst : storePtr Tryz.tab ((H.push (arB a b c d e f)).push (szB 25 0 0 0 0 0 0)) 25 (.ptr (H.next + 1) 0) (szV (1 + a % 7) (2 + b % 7) (c % 65) (1 + d % 8) (e % 513) (1 + f)) =
      some (putBlk ((H.push (arB a b c d e f)).push (szB 25 0 0 0 0 0 0)) (H.next + 1) (some (szB 25 (1 + a % 7) (2 + b % 7) (c % 65) (1 + d % 8) (e % 513) (1 + f)))) := store_full (s_push_same _ _) sz25 rfl rfl (by simp)
  have hg1 : Grows H (putBlk ((H.push (arB a b c d e f)).push (szB 25 0 0 0 0 0 0)) (H.next + 1) (some (szB 25 (1 + a % 7) (2 + b % 7) (c % 65) (1 + d % 8) (e % 513) (1 + f)))) :=
    ⟨by rw [s_put_next]; show H.next ≤ H.next + 1 + 1; omega, fun x hx => by rw [s_put_other _ _ _ (by omega), s_push_other _ _ (by rw [s_push_next]; omega), s_push_other _ _ (by omega)]⟩
  refine cut_pure (callTo_run Tryz.tabOk (ov := noOv) noOv_ok (n := 3) ?_) hg1 hn ⟨trivial, trivial, trivial, trivial, trivial, trivial, trivial⟩
  rw [s_callO, s_callB, get4]
  have r0 : remO .u16 a 7 = some (.int .u16 (a % 7)) := s_rem _ ha.1 (by omega)
  have r1 : remO .u16 b 7 = some (.int .u16 (b % 7)) := s_rem _ hb.1 (by omega)
  have r2 : remO .u16 c 65 = some (.int .u16 (c % 65)) := s_rem _ hc.1 (by omega)
  have r3 : remO .u16 d 8 = some (.int .u16 (d % 8)) := s_rem _ hd.1 (by omega)
  have r4 : remO .u16 e 513 = some (.int .u16 (e % 513)) := s_rem _ he.1 (by omega)
  have w0 : awrap .i64 (a % 7) = a % 7 := s_wrap (by omega) (by omega)
  have w1 : awrap .i64 (b % 7) = b % 7 := s_wrap (by omega) (by omega)
  have w2 : awrap .i64 (c % 65) = c % 65 := s_wrap (by omega) (by omega)
  have w3 : awrap .i64 (d % 8) = d % 8 := s_wrap (by omega) (by omega)
  have w4 : awrap .i64 (e % 513) = e % 513 := s_wrap (by omega) (by omega)
  have w5 : awrap .i64 f = f := s_wrap (by omega) (by omega)
  have v0 : awrap .i64 (1 + a % 7) = 1 + a % 7 := s_wrap (by omega) (by omega)
  have v1 : awrap .i64 (2 + b % 7) = 2 + b % 7 := s_wrap (by omega) (by omega)
  have v3 : awrap .i64 (1 + d % 8) = 1 + d % 8 := s_wrap (by omega) (by omega)
  have v5 : awrap .i64 (1 + f) = 1 + f := s_wrap (by omega) (by omega)
  have c6 : ∀ t (a b c d e f : Int), Sx.cellsIn (some (.cells t true [.int .i64 a, .int .i64 b, .int .i64 c, .int .i64 d, .int .i64 e, .int .i64 f])) 0 6 = some [.int .i64 a, .int .i64 b, .int .i64 c, .int .i64 d, .int .i64 e, .int .i64 f] := cells6
  unfold arV arB szV szB at *
  simp -implicitDefEqProofs (disch := first | (simp only [ne_eq, Nat.reduceEqDiff, not_false_eq_true, Nat.reduceLT]; done) | assumption | (simp only [s_push_next, s_put_next, Nat.beq_refl]; done) | ((try simp only [s_push_next, s_put_next]) <;> omega) | exact s_one_map _ | exact s_one_slice _ _ _ _ _ | (refine (id ?_ : plainDraw _ = true); kernel_rfl) | fail) only [sxL, s_castN, s_cells_one, noOv, callFn, kindOf, kindC, kindB, unA, boxA, loadPtr, nilCheckA, fst1, ofValue, ofScalar, len, intBin, ibin, boolO, guardA, cCond, condV, cRet, cExit, cSkip, resOut, resultA, extractA, tupleO, Nat.reduceEqDiff, Nat.reduceAdd, Nat.reduceSub, Nat.reduceLT, Nat.reduceBEq, reduceCtorEq, Nat.reduceMod, Nat.reduceLeDiff, Int.reduceLT, Int.reduceAdd, Int.reduceEq, Int.reduceToNat, Tryz.f4, noOv, s_varTrue ia23 sz23, s_varTrue ia25 sz25, s_varFalse ia22, ix23_0, ix23_1, ix23_2, ix23_3, ix23_4, ix23_5, z_conv, conv22, r0, r1, r2, r3, r4, w0, w1, w2, w3, w4, w5, v0, v1, v3, v5, build25, zero25, hst, c6, resCell]
open Classical in
/-- the law's own size of six numbers -/
noncomputable def ovSize (args : List AV) (H : Heap) : Option (List VH) := match args with
  | [.agg [.int .u16 a, .int .u16 b, .int .u16 c, .int .u16 d, .int .u16 e, .int .u16 f]] =>
    if (U a ∧ U b ∧ U c ∧ U d ∧ U e ∧ U f) ∧ Neat H then some [(szV (1 + a % 7) (2 + b % 7) (c % 65) (1 + d % 8) (e % 513) (1 + f), H)] else none
  | _ => none
theorem ovSize_eq {a b c d e f : Int} (h : U a ∧ U b ∧ U c ∧ U d ∧ U e ∧ U f) (H : Heap) (hn : Neat H) :
    ovSize [arV a b c d e f] H = some [(szV (1 + a % 7) (2 + b % 7) (c % 65) (1 + d % 8) (e % 513) (1 + f), H)] := if_pos ⟨h, hn⟩
theorem ovSize_ok (args : List AV) (H : Heap) (outs : List VH) (h : ovSize args H = some outs) : CallTo Tryz.prog Tryz.tab 4 args H outs := by
  unfold ovSize at h
  split at h
  · split at h
    · rename_i hh
      obtain ⟨⟨ha, hb, hc, hd, he, hf⟩, hn⟩ := hh
      simp only [Option.some.injEq] at h; subst h
      exact size_to _ _ _ _ _ _ ha hb hc hd he hf H hn
    · simp at h
  · simp at h
noncomputable def ovS : Ov := addOv noOv 4 ovSize
theorem ovS_ok : OvOk Tryz.prog Tryz.tab ovS := addOv_ok noOv_ok ovSize_ok
end Go.Proofs

namespace Go.Sx
theorem z_opIndex (G : Tab) (t : TypeId) (x i : Operand) (tm : T AV) (H : Heap) : opN (.index t x i) G tm H = withH H (bindO (aev G tm x) fun v => bindO (aev G tm i) fun j => indexA G t v j) := rfl
end Go.Sx
namespace Go.Proofs
open Go.Sx
set_option maxRecDepth 100000
/-! The plain law: greater sizes have no smaller bounds. -/
def sel (i : Nat) (x y w : Int) : Int := match i with | 0 => x | 1 => y | _ => w
noncomputable def gk (k : Nat) : Int → Int → Int := match k with | 0 => electG | 1 => commG | 2 => itmG | _ => bndG
theorem gk_small (k : Nat) : Small (gk k) := by
  match k with
  | 0 => exact g_elect
  | 1 => exact g_comm
  | 2 => exact g_itm
  | _ + 3 => exact g_bnd
theorem gk_pos (k : Nat) (a d : Int) (h : Rg a d) : 1 ≤ gk k a d := by
  have h2 := two_d a d h
  match k with
  | 0 => show 1 ≤ electG a d; unfold electG longN; omega
  | 1 => show 1 ≤ commG a d; unfold commG; omega
  | 2 => show 1 ≤ itmG a d; unfold itmG; omega
  | _ + 3 => show 1 ≤ bndG a d; unfold bndG longN; omega
theorem gk_mono (k : Nat) {a d a' d' : Int} (h : Rg a d) (ha : a ≤ a') (hd : d ≤ d') : gk k a d ≤ gk k a' d' := by
  have h2 : 2 * d * (4 * a + 6) ≤ 2 * d' * (4 * a' + 6) := Int.mul_le_mul (by omega) (by omega) (by omega) (by omega)
  match k with
  | 0 => show electG a d ≤ electG a' d'; unfold electG longN; omega
  | 1 => show commG a d ≤ commG a' d'; unfold commG; omega
  | 2 => show itmG a d ≤ itmG a' d'; unfold itmG; omega
  | _ + 3 => show bndG a d ≤ bndG a' d'; unfold bndG longN; omega
theorem val_ge (k : Nat) {a d f : Int} (h : Rg a d) (hf : 1 ≤ f) : f ≤ gk k a d * f := by
  have := Int.mul_le_mul_of_nonneg_right (gk_pos k a d h) (show 0 ≤ f by omega)
  omega
theorem val_mono (k : Nat) {a d f a' d' f' : Int} (h : Rg a d) (ha : a ≤ a') (hd : d ≤ d') (hf : 1 ≤ f) (hff : f ≤ f') : gk k a d * f ≤ gk k a' d' * f' :=
  Int.mul_le_mul (gk_mono k h ha hd) hff (by omega) (by have := gk_pos k a d h; have := gk_mono k h ha hd; omega)
theorem val_sum {a d f : Int} (h : Rg a d) (hf : 1 ≤ f) : gk 0 a d * f + gk 1 a d * f ≤ gk 3 a d * f := by
  have h2 := two_d a d h
  have h3 : 1 ≤ d ∨ d = 0 := by omega
  have e : gk 0 a d + gk 1 a d ≤ gk 3 a d := by
    show electG a d + commG a d ≤ bndG a d
    unfold electG commG bndG longN
    omega
  have := Int.mul_le_mul_of_nonneg_right e (show 0 ≤ f by omega)
  rwa [Int.add_mul] at this
theorem val_le (k : Nat) {a d f : Int} (h : Rg a d) (hf : 1 ≤ f ∧ f ≤ 1000000) : 0 ≤ gk k a d * f ∧ gk k a d * f ≤ 100000 * 1000000 :=
  ⟨Int.mul_nonneg (by have := gk_small k a d h; omega) (by omega), Int.mul_le_mul (gk_small k a d h).2 hf.2 (by omega) (by omega)⟩
noncomputable def vals (V : Nat → Nat → Int) (m : Nat) : List AV := (List.range 12).map fun j => .int .i64 (if j < m then V (j / 4) (j % 4) else 0)
theorem vals_len (V : Nat → Nat → Int) (m : Nat) : (vals V m).length = 12 := by simp [vals]
theorem vals_get (V : Nat → Nat → Int) (m j : Nat) (h : j < 12) : (vals V m)[j]? = some (.int .i64 (if j < m then V (j / 4) (j % 4) else 0)) := by
  unfold vals
  rw [List.getElem?_map, List.getElem?_range h]; rfl
theorem vals_set (V : Nat → Nat → Int) (m : Nat) (h : m < 12) : (vals V m).set m (.int .i64 (V (m / 4) (m % 4))) = vals V (m + 1) := by
  apply List.ext_getElem?
  intro j
  by_cases hj : j < 12
  · rw [List.getElem?_set, vals_len, vals_get V (m + 1) j hj, vals_get V m j hj]
    by_cases e : m = j
    · subst e
      rw [if_pos rfl, if_pos h, if_pos (Nat.lt_succ_self _)]
    · rw [if_neg e]
      by_cases h2 : j < m
      · rw [if_pos h2, if_pos (by omega)]
      · rw [if_neg h2, if_neg (by omega)]
  · rw [List.getElem?_eq_none (by rw [List.length_set, vals_len]; omega), List.getElem?_eq_none (by rw [vals_len]; omega)]
theorem vals_cell {h : Heap} {n : Nat} {V : Nat → Nat → Int} {m : Nat} (hb : h.blks.get n = some (.cells 28 true (vals V m))) {j : Nat} (hj : j < 12) : cellIn (h.blks.get n) j = some (.int .i64 (if j < m then V (j / 4) (j % 4) else 0)) := by
  rw [hb, s_cellIn]; exact vals_get V m j hj
theorem vals_one (V : Nat → Nat → Int) (m : Nat) : allOne (vals V m) = true := by
  have : ∀ l : List Nat, allOne (l.map fun j => AV.int .i64 (if j < m then V (j / 4) (j % 4) else 0)) = true := by
    intro l
    induction l with
    | nil => rfl
    | cons a l ih => exact ih
  exact this _
theorem vals_zero (V : Nat → Nat → Int) : vals V 0 = [.int .i64 0, .int .i64 0, .int .i64 0, .int .i64 0, .int .i64 0, .int .i64 0, .int .i64 0, .int .i64 0, .int .i64 0, .int .i64 0, .int .i64 0, .int .i64 0] := rfl
/-- the four bounds, by their numbers -/
theorem top_k (k : Nat) (hk : k < 4) (a b c d e f : Int) (h : okS a b c d e f = true) (H : Heap) (hn : Neat H) : CallTo Tryz.prog Tryz.tab (5 + k) [szV a b c d e f] H [(.tuple [.int .i64 (gk k a d * f), .int .i64 0], H)] := by
  rw [← valG_t _ h]
  match k, hk with
  | 0, _ => exact top_elect a b c d e f H hn
  | 1, _ => exact top_comm a b c d e f H hn
  | 2, _ => exact top_itm a b c d e f H hn
  | 3, _ => exact top_bnd a b c d e f H hn
theorem ix29 (i : Nat) (hi : i < 3) (x0 x1 x2 x3 x4 x5 y0 y1 y2 y3 y4 y5 w0 w1 w2 w3 w4 w5 : Int) :
    indexA Tryz.tab 29 (.agg [.int .i64 x0, .int .i64 x1, .int .i64 x2, .int .i64 x3, .int .i64 x4, .int .i64 x5, .int .i64 y0, .int .i64 y1, .int .i64 y2, .int .i64 y3, .int .i64 y4, .int .i64 y5, .int .i64 w0, .int .i64 w1, .int .i64 w2, .int .i64 w3, .int .i64 w4, .int .i64 w5]) (.int .i64 (i : Int)) =
      some (szV (sel i x0 y0 w0) (sel i x1 y1 w1) (sel i x2 y2 w2) (sel i x3 y3 w3) (sel i x4 y4 w4) (sel i x5 y5 w5)) := by
  match i, hi with
  | 0, _ => (show _ = _; kernel_rfl)
  | 1, _ => (show _ = _; kernel_rfl)
  | 2, _ => (show _ = _; kernel_rfl)
theorem build29 (x0 x1 x2 x3 x4 x5 y0 y1 y2 y3 y4 y5 w0 w1 w2 w3 w4 w5 : Int) : buildA Tryz.tab 29 [(0, szV x0 x1 x2 x3 x4 x5), (1, szV y0 y1 y2 y3 y4 y5), (2, szV w0 w1 w2 w3 w4 w5)] =
    some (.agg [.int .i64 x0, .int .i64 x1, .int .i64 x2, .int .i64 x3, .int .i64 x4, .int .i64 x5, .int .i64 y0, .int .i64 y1, .int .i64 y2, .int .i64 y3, .int .i64 y4, .int .i64 y5, .int .i64 w0, .int .i64 w1, .int .i64 w2, .int .i64 w3, .int .i64 w4, .int .i64 w5]) := by kernel_rfl
theorem zero28 : Tryz.tab.zero 28 = some (.agg [.int .i64 0, .int .i64 0, .int .i64 0, .int .i64 0, .int .i64 0, .int .i64 0, .int .i64 0, .int .i64 0, .int .i64 0, .int .i64 0, .int .i64 0, .int .i64 0]) := by kernel_rfl
abbrev fns4 : List AV := [.func (.func 5) [] [], .func (.func 6) [] [], .func (.func 7) [] [], .func (.func 8) [] []]
theorem el31 : Go.Sx.elemOf Tryz.tab 31 = some 30 := by kernel_rfl
theorem zero30 : Tryz.tab.zero 30 = some .nilFunc := by kernel_rfl
theorem fill31 : fillA (fun i => some (i * 1, 1)) [(0, .func (.func 5) [] []), (1, .func (.func 6) [] []), (2, .func (.func 7) [] []), (3, .func (.func 8) [] [])] (repeatL (AV.cells .nilFunc) 4) = some fns4 := by kernel_rfl
theorem bs31 (H : Heap) : buildSliceA Tryz.tab H 31 4 [(0, .func (.func 5) [] []), (1, .func (.func 6) [] []), (2, .func (.func 7) [] []), (3, .func (.func 8) [] [])] = some (.slice H.next 0 4 false 4, H.push (.cells 30 true fns4)) := by
  unfold buildSliceA
  rw [el31, s_bindO, sz30, s_bindO, zero30, s_bindO]
  rw [show Nat.ble (4 * 1) 10000 = true from rfl, cond_true, show Nat.beq (len (AV.cells .nilFunc)) 1 = true by kernel_rfl, cond_true, fill31, s_bindO]
  unfold newSlice
  rw [s_newRowA]
  rfl
theorem len31 (H : Heap) (b : Nat) : lenA Tryz.tab H 31 (.slice b 0 4 false 4) = some (.int .i64 4) := by kernel_rfl
theorem fns4_at (k : Nat) (hk : k < 4) : fns4[k]? = some (.func (.func (5 + k)) [] []) := by
  match k, hk with
  | 0, _ => rfl
  | 1, _ => rfl
  | 2, _ => rfl
  | 3, _ => rfl
theorem ix31 (b k : Nat) (hk : k < 4) : indexAddrA Tryz.tab 31 (.slice b 0 4 false 4) (.int .i64 (k : Int)) = some (.ptr b k) := by
  match k, hk with
  | 0, _ => (show _ = _; kernel_rfl)
  | 1, _ => (show _ = _; kernel_rfl)
  | 2, _ => (show _ = _; kernel_rfl)
  | 3, _ => (show _ = _; kernel_rfl)
theorem ix28 (b i : Nat) (hi : i < 3) : indexAddrA Tryz.tab 28 (.ptr b 0) (.int .i64 (i : Int)) = some (.ptr b (4 * i)) := by
  match i, hi with
  | 0, _ => (show _ = _; kernel_rfl)
  | 1, _ => (show _ = _; kernel_rfl)
  | 2, _ => (show _ = _; kernel_rfl)
theorem ix27 (b o k : Nat) (hk : k < 4) : indexAddrA Tryz.tab 27 (.ptr b o) (.int .i64 (k : Int)) = some (.ptr b (o + k)) := by
  match k, hk with
  | 0, _ => (show _ = _; kernel_rfl)
  | 1, _ => (show _ = _; kernel_rfl)
  | 2, _ => (show _ = _; kernel_rfl)
  | 3, _ => (show _ = _; kernel_rfl)
end Go.Proofs

namespace Go.Proofs
open Go.Sx
/-- the one table that the examples read -/
def crcFours : List Int := [0, 498536548, 997073096, 651767980, 1994146192, 1802195444, 1303535960, 1342533948, 3988292384, 4027552580, 3604390888, 3412177804, 2607071920, 2262029012, 2685067896, 3183342108]
noncomputable def gH0 : Heap := ⟨10, T.e.set 9 (some (.big 841 16 (crcFours.map fun x => .int .u32 x)))⟩
end Go.Proofs

namespace Go.Proofs
open Go.Sx
set_option maxRecDepth 100000
theorem gr_push {H h : Heap} (g : Grows H h) (o : ABlk) : Grows H (h.push o) := g.trans (Grows.push _ _)
theorem gr_put {H h : Heap} (g : Grows H h) {b : Nat} (hb : H.next ≤ b) (o : Option ABlk) : Grows H (putBlk h b o) :=
  ⟨by rw [s_put_next]; exact g.next, fun x hx => by rw [s_put_other _ _ _ (by omega)]; exact g.get x hx⟩
abbrev Has (H h : Heap) (p : Nat) (o : ABlk) : Prop := h.blks.get p = some o ∧ H.next ≤ p ∧ p < h.next
theorem cellsU (a b c d e f : Int) : Sx.cellsIn (some (.cells 23 true [.int .u16 a, .int .u16 b, .int .u16 c, .int .u16 d, .int .u16 e, .int .u16 f])) 0 6 =
    some [.int .u16 a, .int .u16 b, .int .u16 c, .int .u16 d, .int .u16 e, .int .u16 f] := by rw [s_cellsIn]; rfl
theorem put_sz {h : Heap} {b : Nat} (hb : h.blks.get b = some (szB 25 0 0 0 0 0 0)) (s0 s1 s2 s3 s4 s5 : Int) :
    storePtr Tryz.tab h 25 (.ptr b 0) (szV s0 s1 s2 s3 s4 s5) = some (putBlk h b (some (szB 25 s0 s1 s2 s3 s4 s5))) := store_full hb sz25 rfl rfl (by simp)
theorem put_0 {h : Heap} {b : Nat} {s0 s1 s2 s3 s4 s5 : Int} (hb : h.blks.get b = some (szB 25 s0 s1 s2 s3 s4 s5)) (x : Int) :
    storePtr Tryz.tab h 3 (.ptr b 0) (.int .i64 x) = some (putBlk h b (some (szB 25 x s1 s2 s3 s4 s5))) := store_one hb sz3 (by simp) rfl
theorem put_1 {h : Heap} {b : Nat} {s0 s1 s2 s3 s4 s5 : Int} (hb : h.blks.get b = some (szB 25 s0 s1 s2 s3 s4 s5)) (x : Int) :
    storePtr Tryz.tab h 3 (.ptr b 1) (.int .i64 x) = some (putBlk h b (some (szB 25 s0 x s2 s3 s4 s5))) := store_one hb sz3 (by simp) rfl
theorem put_2 {h : Heap} {b : Nat} {s0 s1 s2 s3 s4 s5 : Int} (hb : h.blks.get b = some (szB 25 s0 s1 s2 s3 s4 s5)) (x : Int) :
    storePtr Tryz.tab h 3 (.ptr b 2) (.int .i64 x) = some (putBlk h b (some (szB 25 s0 s1 x s3 s4 s5))) := store_one hb sz3 (by simp) rfl
theorem put_3 {h : Heap} {b : Nat} {s0 s1 s2 s3 s4 s5 : Int} (hb : h.blks.get b = some (szB 25 s0 s1 s2 s3 s4 s5)) (x : Int) :
    storePtr Tryz.tab h 3 (.ptr b 3) (.int .i64 x) = some (putBlk h b (some (szB 25 s0 s1 s2 x s4 s5))) := store_one hb sz3 (by simp) rfl
theorem put_4 {h : Heap} {b : Nat} {s0 s1 s2 s3 s4 s5 : Int} (hb : h.blks.get b = some (szB 25 s0 s1 s2 s3 s4 s5)) (x : Int) :
    storePtr Tryz.tab h 3 (.ptr b 4) (.int .i64 x) = some (putBlk h b (some (szB 25 s0 s1 s2 s3 x s5))) := store_one hb sz3 (by simp) rfl
theorem put_5 {h : Heap} {b : Nat} {s0 s1 s2 s3 s4 s5 : Int} (hb : h.blks.get b = some (szB 25 s0 s1 s2 s3 s4 s5)) (x : Int) :
    storePtr Tryz.tab h 3 (.ptr b 5) (.int .i64 x) = some (putBlk h b (some (szB 25 s0 s1 s2 s3 s4 x))) := store_one hb sz3 (by simp) rfl
theorem Has.push {H h : Heap} {p : Nat} {o : ABlk} (hp : Has H h p o) (o' : ABlk) : Has H (h.push o') p o := ⟨by rw [s_push_other _ _ (by have := hp.2.2; omega)]; exact hp.1, hp.2.1, Nat.lt_succ_of_lt hp.2.2⟩
theorem Has.put {H h : Heap} {p : Nat} {o : ABlk} (hp : Has H h p o) {b : Nat} (hb : p ≠ b) (o' : Option ABlk) : Has H (putBlk h b o') p o := ⟨by rw [s_put_other _ _ _ hb]; exact hp.1, hp.2.1, by rw [s_put_next]; exact hp.2.2⟩
theorem Has.same {H h : Heap} {b : Nat} (h1 : H.next ≤ b) (h2 : b < h.next) (o : ABlk) : Has H (putBlk h b (some o)) b o := ⟨s_put_same _ _ _, h1, by rw [s_put_next]; exact h2⟩
theorem Has.top {H h : Heap} (g : Grows H h) (o : ABlk) : Has H (h.push o) h.next o := ⟨s_push_same _ _, g.next, Nat.lt_succ_self _⟩
/-- where the one table stands that the examples read -/
def GlobAt (H : Heap) : Prop := H.blks.get 9 = some (.big 841 16 (crcFours.map fun x => .int .u32 x))
theorem GlobAt.grow {H H' : Heap} (h : GlobAt H) (hN : Neat H) (hg : Grows H H') : GlobAt H' := by unfold GlobAt; rw [hg.get 9 (hN 9 _ h)]; exact h
theorem fg_front (hW : ∀ h, GlobAt h → CallTo Tryz.prog Tryz.tab 10 [] h [(.bool true, h)]) (a0 a1 a2 a3 a4 a5 b0 b1 b2 b3 b4 b5 s0 s1 s2 s3 s4 s5 t0 t1 t2 t3 t4 t5 : Int) (H : Heap) (hN : Neat H) (hG : GlobAt H)
    (kx : okS s0 s1 s2 s3 s4 s5 = true) (ky : okS (max s0 t0) s1 s2 (max s3 t3) s4 (max s5 t5) = true) (kw : okS s0 t1 t2 s3 t4 s5 = true)
    (q1 : ∀ h, Neat h → ovSize [arV a0 a1 a2 a3 a4 a5] h = some [(szV s0 s1 s2 s3 s4 s5, h)])
    (q2 : ∀ h, Neat h → ovSize [arV b0 b1 b2 b3 b4 b5] h = some [(szV t0 t1 t2 t3 t4 t5, h)]) :
    CallTo Tryz.prog Tryz.tab 3 [arV a0 a1 a2 a3 a4 a5, arV b0 b1 b2 b3 b4 b5] H [(.bool true, H)] := by
  refine callTo_of Tryz.tabOk Tryz.func3 rfl rfl ?_
  show Gets Tryz.prog Tryz.tab ⟨none, 132⟩ _ _ _
  repeat refine Gets.seq ?_
  refine Gets.midH (I := fun tm h => Neat h ∧ Grows H h ∧ ∃ p q, p ≠ q ∧ tm.get 2 = some (.ptr p 0) ∧ tm.get 3 = some (.ptr q 0) ∧ Has H h p (arB a0 a1 a2 a3 a4 a5) ∧ Has H h q (arB b0 b1 b2 b3 b4 b5)) ?_ ?_
  · refine Gets.last Tryz.tabOk (ov := noOv) (noOv_ok) 8 (s' := ?sn4) ?hn4 ?kn4; (case hn4 => (simp -implicitDefEqProofs (disch := first | (simp only [ne_eq, Nat.reduceEqDiff, not_false_eq_true, Nat.reduceLT]; done) | assumption | (simp only [s_push_next, s_put_next, Nat.beq_refl]; done) | ((try simp only [s_push_next, s_put_next]) <;> omega) | exact s_one_map _ | exact s_one_slice _ _ _ _ _ | (refine (id ?_ : plainDraw _ = true); kernel_rfl) | fail) only [sxL, s_castN, s_cells_one, noOv, callFn, kindOf, kindC, kindB, unA, boxA, loadPtr, nilCheckA, fst1, ofValue, ofScalar, len, intBin, ibin, boolO, guardA, cCond, condV, cRet, cExit, cSkip, resOut, resultA, extractA, tupleO, Nat.reduceEqDiff, Nat.reduceAdd, Nat.reduceSub, Nat.reduceLT, Nat.reduceBEq, reduceCtorEq, Nat.reduceMod, Nat.reduceLeDiff, Int.reduceLT, Int.reduceAdd, Int.reduceEq, Int.reduceToNat, s_draw, s_varTrue ia23 sz23] <;> rfl)); (try (change Gets _ _ _ _ _ _; repeat refine Gets.seq ?_))
    exact ⟨rfl, _, _, rfl, (hN.push _).push _, gr_push (Grows.push _ _) _, H.next, H.next + 1, by omega, by simp (disch := decide) only [sxL], by simp (disch := decide) only [sxL], (Has.top (.refl _) _).push _, Has.top (Grows.push _ _) _⟩
  rintro tm h ⟨n1, g1, p, q, hpq, i2, i3, P, R⟩
  change Gets _ _ _ _ _ _
  repeat refine Gets.seq ?_
  refine Gets.last Tryz.tabOk (ov := noOv) (noOv_ok) 8 (s' := ?sn5) ?hn5 ?kn5; (case hn5 => (simp -implicitDefEqProofs (disch := first | (simp only [ne_eq, Nat.reduceEqDiff, not_false_eq_true, Nat.reduceLT]; done) | assumption | (simp only [s_push_next, s_put_next, Nat.beq_refl]; done) | ((try simp only [s_push_next, s_put_next]) <;> omega) | exact s_one_map _ | exact s_one_slice _ _ _ _ _ | (refine (id ?_ : plainDraw _ = true); kernel_rfl) | fail) only [sxL, s_castN, s_cells_one, noOv, callFn, kindOf, kindC, kindB, unA, boxA, loadPtr, nilCheckA, fst1, ofValue, ofScalar, len, intBin, ibin, boolO, guardA, cCond, condV, cRet, cExit, cSkip, resOut, resultA, extractA, tupleO, Nat.reduceEqDiff, Nat.reduceAdd, Nat.reduceSub, Nat.reduceLT, Nat.reduceBEq, reduceCtorEq, Nat.reduceMod, Nat.reduceLeDiff, Int.reduceLT, Int.reduceAdd, Int.reduceEq, Int.reduceToNat, s_draw] <;> rfl)); (try (change Gets _ _ _ _ _ _; repeat refine Gets.seq ?_))
  refine Gets.midH (I := fun tm h => Neat h ∧ Grows H h ∧ ∃ p q, p ≠ q ∧ tm.get 6 = some (.ptr p 0) ∧ tm.get 7 = some (.ptr q 0) ∧ Has H h p (szB 25 s0 s1 s2 s3 s4 s5) ∧ Has H h q (szB 25 t0 t1 t2 t3 t4 t5)) ?_ ?_
  · have n3 : Neat ((h.push (szB 25 0 0 0 0 0 0)).push (szB 25 0 0 0 0 0 0)) := (n1.push _).push _
    have c1 : Sx.cellsIn (h.blks.get p) 0 6 = some [.int .u16 a0, .int .u16 a1, .int .u16 a2, .int .u16 a3, .int .u16 a4, .int .u16 a5] := by rw [P.1]; exact cellsU ..
    have c2 : Sx.cellsIn (h.blks.get q) 0 6 = some [.int .u16 b0, .int .u16 b1, .int .u16 b2, .int .u16 b3, .int .u16 b4, .int .u16 b5] := by rw [R.1]; exact cellsU ..
    have hs1 := put_sz (h := (h.push (szB 25 0 0 0 0 0 0)).push (szB 25 0 0 0 0 0 0)) (b := h.next) (by rw [s_push_other _ _ (by rw [s_push_next]; omega), s_push_same]) s0 s1 s2 s3 s4 s5
    have hs2 := put_sz (h := putBlk ((h.push (szB 25 0 0 0 0 0 0)).push (szB 25 0 0 0 0 0 0)) h.next (some (szB 25 s0 s1 s2 s3 s4 s5))) (b := h.next + 1) (by rw [s_put_other _ _ _ (by omega)]; exact s_push_same _ _) t0 t1 t2 t3 t4 t5
    refine Gets.drawK Tryz.tabOk (ov := ovS) (ovS_ok) 8 (s' := ?sn1) [.rd 0, .rd 1, .rd 3, .rd 4, .rd 6, .rd 7, .sm 2, .sm 5, .lk 8 [], .lk 9 []] (by kernel_rfl) (n1) ?hn1 ?kn1; (case hn1 => (simp -implicitDefEqProofs (disch := first | (simp only [ne_eq, Nat.reduceEqDiff, not_false_eq_true, Nat.reduceLT]; done) | assumption | (simp only [s_push_next, s_put_next, Nat.beq_refl]; done) | ((try simp only [s_push_next, s_put_next]) <;> omega) | exact s_one_map _ | exact s_one_slice _ _ _ _ _ | (refine (id ?_ : plainDraw _ = true); kernel_rfl) | fail) only [sxL, s_castN, s_cells_one, noOv, callFn, kindOf, kindC, kindB, unA, boxA, loadPtr, nilCheckA, fst1, ofValue, ofScalar, len, intBin, ibin, boolO, guardA, cCond, condV, cRet, cExit, cSkip, resOut, resultA, extractA, tupleO, Nat.reduceEqDiff, Nat.reduceAdd, Nat.reduceSub, Nat.reduceLT, Nat.reduceBEq, reduceCtorEq, Nat.reduceMod, Nat.reduceLeDiff, Int.reduceLT, Int.reduceAdd, Int.reduceEq, Int.reduceToNat, k_nil, k_rd, k_sm, k_lk, k_rdO, k_rdOG, k_rdGt, k_rdGf, k_smO, k_smOG, k_smGt, k_smGf, k_lkO, k_lkOG, k_lkGt, k_lkGf, k_rdN, k_rdN0, k_sk, k_sk0, k_smE, k_smE0, k_lkE, k_lkE0, k_lkX, k_keepP, k_keepR, k_keepA, k_look, k_look0, k_each0, k_each, and_self, and_true, true_and, i2, i3, c1, c2, s_varTrue ia23 sz23, s_varTrue ia25 sz25, zero25, hs1, hs2, ovS, q1 _ n3, q2 _ n3] <;> rfl)); (try (change Gets _ _ _ _ _ _; repeat refine Gets.seq ?_))
    have e0 : h.next + 1 = (h.push (szB 25 0 0 0 0 0 0)).next := rfl
    exact ⟨rfl, _, _, rfl, (n3.put (by show h.next < h.next + 1 + 1; omega) _).put (by rw [s_put_next]; show h.next + 1 < h.next + 1 + 1; omega) _, gr_put (gr_put (gr_push (gr_push g1 _) _) g1.next _) (by have := g1.next; omega) _, h.next, h.next + 1, by omega, by simp (disch := decide) only [sxL], by simp (disch := decide) only [sxL],
      (Has.same g1.next (by show h.next < h.next + 1 + 1; omega) _).put (by omega) _, Has.same (by have := g1.next; omega) (by rw [s_put_next]; show h.next + 1 < h.next + 1 + 1; omega) _⟩
  rintro tm h ⟨n1, g1, p, q, hpq, i6, i7, P, R⟩
  change Gets _ _ _ _ _ _
  repeat refine Gets.seq ?_
  refine Gets.midH (I := fun tm h => Neat h ∧ Grows H h ∧ ∃ p q r, p ≠ q ∧ p ≠ r ∧ q ≠ r ∧ tm.get 6 = some (.ptr p 0) ∧ tm.get 7 = some (.ptr q 0) ∧ tm.get 8 = some (.ptr r 0) ∧ Has H h p (szB 25 s0 s1 s2 s3 s4 s5) ∧ Has H h q (szB 25 t0 t1 t2 t3 t4 t5) ∧ Has H h r (szB 25 s0 s1 s2 s3 s4 s5)) ?_ ?_
  · have c1 : Sx.cellsIn (h.blks.get p) 0 6 = some [.int .i64 s0, .int .i64 s1, .int .i64 s2, .int .i64 s3, .int .i64 s4, .int .i64 s5] := by rw [P.1]; exact cells6 ..
    have hs1 := put_sz (h := h.push (szB 25 0 0 0 0 0 0)) (b := h.next) (s_push_same _ _) s0 s1 s2 s3 s4 s5
    refine Gets.last Tryz.tabOk (ov := noOv) (noOv_ok) 8 (s' := ?sn6) ?hn6 ?kn6; (case hn6 => (simp -implicitDefEqProofs (disch := first | (simp only [ne_eq, Nat.reduceEqDiff, not_false_eq_true, Nat.reduceLT]; done) | assumption | (simp only [s_push_next, s_put_next, Nat.beq_refl]; done) | ((try simp only [s_push_next, s_put_next]) <;> omega) | exact s_one_map _ | exact s_one_slice _ _ _ _ _ | (refine (id ?_ : plainDraw _ = true); kernel_rfl) | fail) only [sxL, s_castN, s_cells_one, noOv, callFn, kindOf, kindC, kindB, unA, boxA, loadPtr, nilCheckA, fst1, ofValue, ofScalar, len, intBin, ibin, boolO, guardA, cCond, condV, cRet, cExit, cSkip, resOut, resultA, extractA, tupleO, Nat.reduceEqDiff, Nat.reduceAdd, Nat.reduceSub, Nat.reduceLT, Nat.reduceBEq, reduceCtorEq, Nat.reduceMod, Nat.reduceLeDiff, Int.reduceLT, Int.reduceAdd, Int.reduceEq, Int.reduceToNat, s_draw, i6, c1, s_varTrue ia25 sz25, zero25, hs1] <;> rfl)); (try (change Gets _ _ _ _ _ _; repeat refine Gets.seq ?_))
    have hp := P.2.2
    have hq := R.2.2
    exact ⟨rfl, _, _, rfl, (n1.push _).put (by show h.next < h.next + 1; omega) _, gr_put (gr_push g1 _) g1.next _, p, q, h.next, hpq, by omega, by omega, by simp (disch := decide) only [sxL, i6], by simp (disch := decide) only [sxL, i7], by simp (disch := decide) only [sxL], (P.push _).put (by omega) _, (R.push _).put (by omega) _,
      Has.same g1.next (by show h.next < h.next + 1; omega) _⟩
  rintro tm h ⟨n1, g1, p, q, r, hpq, hpr, hqr, i6, i7, i8, P, R, S⟩
  change Gets _ _ _ _ _ _
  repeat refine Gets.seq ?_
  refine Gets.midH (I := fun tm h => Neat h ∧ Grows H h ∧ ∃ p q r, p ≠ q ∧ p ≠ r ∧ q ≠ r ∧ tm.get 6 = some (.ptr p 0) ∧ tm.get 7 = some (.ptr q 0) ∧ tm.get 8 = some (.ptr r 0) ∧ Has H h p (szB 25 s0 s1 s2 s3 s4 s5) ∧ Has H h q (szB 25 t0 t1 t2 t3 t4 t5) ∧
      Has H h r (szB 25 (max s0 t0) s1 s2 (max s3 t3) s4 (max s5 t5))) ?_ ?_
  · have p0 : cellIn (h.blks.get p) 0 = some (.int .i64 s0) := by rw [P.1]; rfl
    have p3 : cellIn (h.blks.get p) 3 = some (.int .i64 s3) := by rw [P.1]; rfl
    have p5 : cellIn (h.blks.get p) 5 = some (.int .i64 s5) := by rw [P.1]; rfl
    have q0 : cellIn (h.blks.get q) 0 = some (.int .i64 t0) := by rw [R.1]; rfl
    have q3 : cellIn (h.blks.get q) 3 = some (.int .i64 t3) := by rw [R.1]; rfl
    have q5 : cellIn (h.blks.get q) 5 = some (.int .i64 t5) := by rw [R.1]; rfl
    have hs1 := put_0 S.1 (max s0 t0)
    have S1 := Has.same (h := h) S.2.1 S.2.2 (szB 25 (max s0 t0) s1 s2 s3 s4 s5)
    have hs2 := put_3 S1.1 (max s3 t3)
    have S2 := Has.same S1.2.1 S1.2.2 (szB 25 (max s0 t0) s1 s2 (max s3 t3) s4 s5)
    have hs3 := put_5 S2.1 (max s5 t5)
    have S3 := Has.same S2.2.1 S2.2.2 (szB 25 (max s0 t0) s1 s2 (max s3 t3) s4 (max s5 t5))
    refine Gets.drawK Tryz.tabOk (ov := noOv) (noOv_ok) 8 (s' := ?sn2) [.rd 0, .rd 1, .rd 2, .rd 3, .rd 4, .rd 5, .rd 6, .rd 7, .rd 8, .rd 9, .rd 10, .rd 11, .rd 12, .rd 13, .rd 14, .rd 15, .lk 16 [5,6,7,8,9,10,11,12,13,14], .rd 17, .lk 18 [10,11,12,13,14], .rd 19, .lk 20 []] (by kernel_rfl) (n1) ?hn2 ?kn2; (case hn2 => (simp -implicitDefEqProofs (disch := first | (simp only [ne_eq, Nat.reduceEqDiff, not_false_eq_true, Nat.reduceLT]; done) | assumption | (simp only [s_push_next, s_put_next, Nat.beq_refl]; done) | ((try simp only [s_push_next, s_put_next]) <;> omega) | exact s_one_map _ | exact s_one_slice _ _ _ _ _ | (refine (id ?_ : plainDraw _ = true); kernel_rfl) | fail) only [sxL, s_castN, s_cells_one, noOv, callFn, kindOf, kindC, kindB, unA, boxA, loadPtr, nilCheckA, fst1, ofValue, ofScalar, len, intBin, ibin, boolO, guardA, cCond, condV, cRet, cExit, cSkip, resOut, resultA, extractA, tupleO, Nat.reduceEqDiff, Nat.reduceAdd, Nat.reduceSub, Nat.reduceLT, Nat.reduceBEq, reduceCtorEq, Nat.reduceMod, Nat.reduceLeDiff, Int.reduceLT, Int.reduceAdd, Int.reduceEq, Int.reduceToNat, k_nil, k_rd, k_sm, k_lk, k_rdO, k_rdOG, k_rdGt, k_rdGf, k_smO, k_smOG, k_smGt, k_smGf, k_lkO, k_lkOG, k_lkGt, k_lkGf, k_rdN, k_rdN0, k_sk, k_sk0, k_smE, k_smE0, k_lkE, k_lkE0, k_lkX, k_keepP, k_keepR, k_keepA, k_look, k_look0, k_each0, k_each, and_self, and_true, true_and, i6, i7, i8, p0, p3, p5, q0, q3, q5, fa25_0, fa25_3, fa25_5, s_varFalse ia3, z_max, s_max2, hs1, hs2, hs3] <;> rfl)); (try (change Gets _ _ _ _ _ _; repeat refine Gets.seq ?_))
    exact ⟨rfl, _, _, rfl, ((n1.put S.2.2 _).put S1.2.2 _).put S2.2.2 _, gr_put (gr_put (gr_put g1 S.2.1 _) S.2.1 _) S.2.1 _, p, q, r, hpq, hpr, hqr, by simp (disch := decide) only [sxL, i6], by simp (disch := decide) only [sxL, i7], by simp (disch := decide) only [sxL, i8], ((P.put hpr _).put hpr _).put hpr _, ((R.put hqr _).put hqr _).put hqr _, S3⟩
  rintro tm h ⟨n1, g1, p, q, r, hpq, hpr, hqr, i6, i7, i8, P, R, S⟩
  change Gets _ _ _ _ _ _
  repeat refine Gets.seq ?_
  refine Gets.midH (I := fun tm h => Neat h ∧ Grows H h ∧ ∃ p q r w, p ≠ w ∧ q ≠ w ∧ r ≠ w ∧ tm.get 6 = some (.ptr p 0) ∧ tm.get 7 = some (.ptr q 0) ∧ tm.get 8 = some (.ptr r 0) ∧ tm.get 9 = some (.ptr w 0) ∧ Has H h p (szB 25 s0 s1 s2 s3 s4 s5) ∧ Has H h q (szB 25 t0 t1 t2 t3 t4 t5) ∧
      Has H h r (szB 25 (max s0 t0) s1 s2 (max s3 t3) s4 (max s5 t5)) ∧ Has H h w (szB 25 s0 s1 s2 s3 s4 s5)) ?_ ?_
  · have c1 : Sx.cellsIn (h.blks.get p) 0 6 = some [.int .i64 s0, .int .i64 s1, .int .i64 s2, .int .i64 s3, .int .i64 s4, .int .i64 s5] := by rw [P.1]; exact cells6 ..
    have hs1 := put_sz (h := h.push (szB 25 0 0 0 0 0 0)) (b := h.next) (s_push_same _ _) s0 s1 s2 s3 s4 s5
    refine Gets.last Tryz.tabOk (ov := noOv) (noOv_ok) 8 (s' := ?sn7) ?hn7 ?kn7; (case hn7 => (simp -implicitDefEqProofs (disch := first | (simp only [ne_eq, Nat.reduceEqDiff, not_false_eq_true, Nat.reduceLT]; done) | assumption | (simp only [s_push_next, s_put_next, Nat.beq_refl]; done) | ((try simp only [s_push_next, s_put_next]) <;> omega) | exact s_one_map _ | exact s_one_slice _ _ _ _ _ | (refine (id ?_ : plainDraw _ = true); kernel_rfl) | fail) only [sxL, s_castN, s_cells_one, noOv, callFn, kindOf, kindC, kindB, unA, boxA, loadPtr, nilCheckA, fst1, ofValue, ofScalar, len, intBin, ibin, boolO, guardA, cCond, condV, cRet, cExit, cSkip, resOut, resultA, extractA, tupleO, Nat.reduceEqDiff, Nat.reduceAdd, Nat.reduceSub, Nat.reduceLT, Nat.reduceBEq, reduceCtorEq, Nat.reduceMod, Nat.reduceLeDiff, Int.reduceLT, Int.reduceAdd, Int.reduceEq, Int.reduceToNat, s_draw, i6, c1, s_varTrue ia25 sz25, zero25, hs1] <;> rfl)); (try (change Gets _ _ _ _ _ _; repeat refine Gets.seq ?_))
    have hp := P.2.2
    have hq := R.2.2
    have hr := S.2.2
    exact ⟨rfl, _, _, rfl, (n1.push _).put (by show h.next < h.next + 1; omega) _, gr_put (gr_push g1 _) g1.next _, p, q, r, h.next, by omega, by omega, by omega, by simp (disch := decide) only [sxL, i6], by simp (disch := decide) only [sxL, i7], by simp (disch := decide) only [sxL, i8], by simp (disch := decide) only [sxL], (P.push _).put (by omega) _, (R.push _).put (by omega) _, (S.push _).put (by omega) _,
      Has.same g1.next (by show h.next < h.next + 1; omega) _⟩
  rintro tm h ⟨n1, g1, p, q, r, w, hpw, hqw, hrw, i6, i7, i8, i9, P, R, S, W⟩
  change Gets _ _ _ _ _ _
  repeat refine Gets.seq ?_
  refine Gets.midH (I := fun tm h => Neat h ∧ Grows H h ∧ ∃ p r w, tm.get 6 = some (.ptr p 0) ∧ tm.get 8 = some (.ptr r 0) ∧ tm.get 9 = some (.ptr w 0) ∧ Has H h p (szB 25 s0 s1 s2 s3 s4 s5) ∧
      Has H h r (szB 25 (max s0 t0) s1 s2 (max s3 t3) s4 (max s5 t5)) ∧ Has H h w (szB 25 s0 t1 t2 s3 t4 s5)) ?_ ?_
  · have q1 : cellIn (h.blks.get q) 1 = some (.int .i64 t1) := by rw [R.1]; rfl
    have q2 : cellIn (h.blks.get q) 2 = some (.int .i64 t2) := by rw [R.1]; rfl
    have q4 : cellIn (h.blks.get q) 4 = some (.int .i64 t4) := by rw [R.1]; rfl
    have hs1 := put_1 W.1 t1
    have W1 := Has.same (h := h) W.2.1 W.2.2 (szB 25 s0 t1 s2 s3 s4 s5)
    have hs2 := put_2 W1.1 t2
    have W2 := Has.same W1.2.1 W1.2.2 (szB 25 s0 t1 t2 s3 s4 s5)
    have hs3 := put_4 W2.1 t4
    have W3 := Has.same W2.2.1 W2.2.2 (szB 25 s0 t1 t2 s3 t4 s5)
    refine Gets.drawK Tryz.tabOk (ov := noOv) (noOv_ok) 8 (s' := ?sn3) [.rd 0, .rd 1, .rd 2, .rd 3, .rd 4, .rd 5, .rd 6, .lk 7 [2,3,4,5], .rd 8, .lk 9 [4,5], .rd 10, .lk 11 []] (by kernel_rfl) (n1) ?hn3 ?kn3; (case hn3 => (simp -implicitDefEqProofs (disch := first | (simp only [ne_eq, Nat.reduceEqDiff, not_false_eq_true, Nat.reduceLT]; done) | assumption | (simp only [s_push_next, s_put_next, Nat.beq_refl]; done) | ((try simp only [s_push_next, s_put_next]) <;> omega) | exact s_one_map _ | exact s_one_slice _ _ _ _ _ | (refine (id ?_ : plainDraw _ = true); kernel_rfl) | fail) only [sxL, s_castN, s_cells_one, noOv, callFn, kindOf, kindC, kindB, unA, boxA, loadPtr, nilCheckA, fst1, ofValue, ofScalar, len, intBin, ibin, boolO, guardA, cCond, condV, cRet, cExit, cSkip, resOut, resultA, extractA, tupleO, Nat.reduceEqDiff, Nat.reduceAdd, Nat.reduceSub, Nat.reduceLT, Nat.reduceBEq, reduceCtorEq, Nat.reduceMod, Nat.reduceLeDiff, Int.reduceLT, Int.reduceAdd, Int.reduceEq, Int.reduceToNat, k_nil, k_rd, k_sm, k_lk, k_rdO, k_rdOG, k_rdGt, k_rdGf, k_smO, k_smOG, k_smGt, k_smGf, k_lkO, k_lkOG, k_lkGt, k_lkGf, k_rdN, k_rdN0, k_sk, k_sk0, k_smE, k_smE0, k_lkE, k_lkE0, k_lkX, k_keepP, k_keepR, k_keepA, k_look, k_look0, k_each0, k_each, and_self, and_true, true_and, i7, i9, q1, q2, q4, fa25_1, fa25_2, fa25_4, s_varFalse ia3, hs1, hs2, hs3] <;> rfl)); (try (change Gets _ _ _ _ _ _; repeat refine Gets.seq ?_))
    exact ⟨rfl, _, _, rfl, ((n1.put W.2.2 _).put W1.2.2 _).put W2.2.2 _, gr_put (gr_put (gr_put g1 W.2.1 _) W.2.1 _) W.2.1 _, p, r, w, by simp (disch := decide) only [sxL, i6], by simp (disch := decide) only [sxL, i8], by simp (disch := decide) only [sxL, i9], ((P.put hpw _).put hpw _).put hpw _, ((S.put hrw _).put hrw _).put hrw _, W3⟩
  rintro tm h ⟨n1, g1, p, r, w, i6, i8, i9, P, S, W⟩
  change Gets _ _ _ _ _ _
  repeat refine Gets.seq ?_
  clear q1 q2
  have hmono : ∀ k, gk k s0 s3 * s5 ≤ gk k (max s0 t0) (max s3 t3) * max s5 t5 := fun k => by
    have hp := ok_parts kx
    exact val_mono k ⟨hp.1, hp.2.1⟩ (Int.le_max_left _ _) (Int.le_max_left _ _) hp.2.2.1 (Int.le_max_left _ _)
  generalize max s0 t0 = m0 at *
  generalize max s3 t3 = m3 at *
  generalize max s5 t5 = m5 at *
  refine Gets.midH (I := fun tm h => Neat h ∧ Grows H h ∧ ∃ p r w n, tm.get 6 = some (.ptr p 0) ∧ tm.get 8 = some (.ptr r 0) ∧ tm.get 9 = some (.ptr w 0) ∧ tm.get 10 = some (.ptr n 0) ∧ Has H h p (szB 25 s0 s1 s2 s3 s4 s5) ∧
      Has H h r (szB 25 m0 s1 s2 m3 s4 m5) ∧ Has H h w (szB 25 s0 t1 t2 s3 t4 s5) ∧ Has H h n (.cells 28 true (vals (fun i k => gk k (sel i s0 m0 s0) (sel i s3 m3 s3) * sel i s5 m5 s5) 0))) ?_ ?_
  · refine Gets.last Tryz.tabOk (ov := noOv) (noOv_ok) 8 (s' := ?sn8) ?hn8 ?kn8; (case hn8 => (simp -implicitDefEqProofs (disch := first | (simp only [ne_eq, Nat.reduceEqDiff, not_false_eq_true, Nat.reduceLT]; done) | assumption | (simp only [s_push_next, s_put_next, Nat.beq_refl]; done) | ((try simp only [s_push_next, s_put_next]) <;> omega) | exact s_one_map _ | exact s_one_slice _ _ _ _ _ | (refine (id ?_ : plainDraw _ = true); kernel_rfl) | fail) only [sxL, s_castN, s_cells_one, noOv, callFn, kindOf, kindC, kindB, unA, boxA, loadPtr, nilCheckA, fst1, ofValue, ofScalar, len, intBin, ibin, boolO, guardA, cCond, condV, cRet, cExit, cSkip, resOut, resultA, extractA, tupleO, Nat.reduceEqDiff, Nat.reduceAdd, Nat.reduceSub, Nat.reduceLT, Nat.reduceBEq, reduceCtorEq, Nat.reduceMod, Nat.reduceLeDiff, Int.reduceLT, Int.reduceAdd, Int.reduceEq, Int.reduceToNat, s_draw, zero28] <;> rfl)); (try (change Gets _ _ _ _ _ _; repeat refine Gets.seq ?_))
    exact ⟨rfl, _, _, rfl, n1.push _, gr_push g1 _, p, r, w, h.next, by simp (disch := decide) only [sxL, i6], by simp (disch := decide) only [sxL, i8], by simp (disch := decide) only [sxL, i9], by simp (disch := decide) only [sxL], P.push _, S.push _, W.push _, Has.top g1 _⟩
  rintro tm h ⟨n1, g1, p, r, w, n, i6, i8, i9, i10, P, S, W, V⟩
  change Gets _ _ _ _ _ _
  repeat refine Gets.seq ?_
  have cP : Sx.cellsIn (h.blks.get p) 0 6 = some [.int .i64 s0, .int .i64 s1, .int .i64 s2, .int .i64 s3, .int .i64 s4, .int .i64 s5] := by rw [P.1]; exact cells6 ..
  have cS : Sx.cellsIn (h.blks.get r) 0 6 = some [.int .i64 m0, .int .i64 s1, .int .i64 s2, .int .i64 m3, .int .i64 s4, .int .i64 m5] := by rw [S.1]; exact cells6 ..
  have cW : Sx.cellsIn (h.blks.get w) 0 6 = some [.int .i64 s0, .int .i64 t1, .int .i64 t2, .int .i64 s3, .int .i64 t4, .int .i64 s5] := by rw [W.1]; exact cells6 ..
  refine Gets.last Tryz.tabOk (ov := noOv) (noOv_ok) 8 (s' := ?sn9) ?hn9 ?kn9; (case hn9 => (simp -implicitDefEqProofs (disch := first | (simp only [ne_eq, Nat.reduceEqDiff, not_false_eq_true, Nat.reduceLT]; done) | assumption | (simp only [s_push_next, s_put_next, Nat.beq_refl]; done) | ((try simp only [s_push_next, s_put_next]) <;> omega) | exact s_one_map _ | exact s_one_slice _ _ _ _ _ | (refine (id ?_ : plainDraw _ = true); kernel_rfl) | fail) only [sxL, s_castN, s_cells_one, noOv, callFn, kindOf, kindC, kindB, unA, boxA, loadPtr, nilCheckA, fst1, ofValue, ofScalar, len, intBin, ibin, boolO, guardA, cCond, condV, cRet, cExit, cSkip, resOut, resultA, extractA, tupleO, Nat.reduceEqDiff, Nat.reduceAdd, Nat.reduceSub, Nat.reduceLT, Nat.reduceBEq, reduceCtorEq, Nat.reduceMod, Nat.reduceLeDiff, Int.reduceLT, Int.reduceAdd, Int.reduceEq, Int.reduceToNat, s_draw, i6, i8, i9, cP, cS, cW, s_varTrue ia25 sz25, build29] <;> rfl)); (try (change Gets _ _ _ _ _ _; repeat refine Gets.seq ?_))
  refine Gets.uptoH 3 (fun i tm h => Neat h ∧ Grows H h ∧ tm.get 10 = some (.ptr n 0) ∧ tm.get 56 = some (.agg [.int .i64 s0, .int .i64 s1, .int .i64 s2, .int .i64 s3, .int .i64 s4, .int .i64 s5, .int .i64 m0, .int .i64 s1, .int .i64 s2, .int .i64 m3, .int .i64 s4, .int .i64 m5, .int .i64 s0, .int .i64 t1, .int .i64 t2, .int .i64 s3, .int .i64 t4, .int .i64 s5]) ∧ tm.get 57 = some (.int .i64 (i : Int)) ∧ Has H h n (.cells 28 true (vals (fun i k => gk k (sel i s0 m0 s0) (sel i s3 m3 s3) * sel i s5 m5 s5) (4 * i))))
    ⟨n1, g1, by simp (disch := decide) only [sxL, i10], by simp (disch := decide) only [sxL], by simp (disch := decide) only [sxL], V⟩ ?_
  rintro i tm h hi ⟨n1, g1, i10, i56, i57, V⟩
  repeat refine Gets.seq ?_
  by_cases hlt : (i : Int) < 3
  · have hi3 : i < 3 := by omega
    refine Gets.last Tryz.tabOk (ov := noOv) (noOv_ok) 8 (s' := ?sn10) ?hn10 ?kn10; (case hn10 => (simp -implicitDefEqProofs (disch := first | (simp only [ne_eq, Nat.reduceEqDiff, not_false_eq_true, Nat.reduceLT]; done) | assumption | (simp only [s_push_next, s_put_next, Nat.beq_refl]; done) | ((try simp only [s_push_next, s_put_next]) <;> omega) | exact s_one_map _ | exact s_one_slice _ _ _ _ _ | (refine (id ?_ : plainDraw _ = true); kernel_rfl) | fail) only [sxL, s_castN, s_cells_one, noOv, callFn, kindOf, kindC, kindB, unA, boxA, loadPtr, nilCheckA, fst1, ofValue, ofScalar, len, intBin, ibin, boolO, guardA, cCond, condV, cRet, cExit, cSkip, resOut, resultA, extractA, tupleO, Nat.reduceEqDiff, Nat.reduceAdd, Nat.reduceSub, Nat.reduceLT, Nat.reduceBEq, reduceCtorEq, Nat.reduceMod, Nat.reduceLeDiff, Int.reduceLT, Int.reduceAdd, Int.reduceEq, Int.reduceToNat, s_draw, i57, hlt] <;> rfl)); (try (change Gets _ _ _ _ _ _; repeat refine Gets.seq ?_))
    refine Gets.condT (by simp (disch := decide) only [sxL]) (Gets.skip Tryz.tabOk ?_)
    change Gets _ _ _ _ _ _
    refine Gets.seq (Gets.blk ?_)
    repeat refine Gets.seq ?_
    have hix := ix29 i hi3 s0 s1 s2 s3 s4 s5 m0 s1 s2 m3 s4 m5 s0 t1 t2 s3 t4 s5
    have hok : okS (sel i s0 m0 s0) (sel i s1 s1 t1) (sel i s2 s2 t2) (sel i s3 m3 s3) (sel i s4 s4 t4) (sel i s5 m5 s5) = true := by
      match i, hi3 with
      | 0, _ => exact kx
      | 1, _ => exact ky
      | 2, _ => exact kw
    generalize hz1 : sel i s1 s1 t1 = z1 at hix hok
    generalize hz2 : sel i s2 s2 t2 = z2 at hix hok
    generalize hz4 : sel i s4 s4 t4 = z4 at hix hok
    have hs1 := put_sz (h := h.push (szB 25 0 0 0 0 0 0)) (b := h.next) (s_push_same _ _) (sel i s0 m0 s0) z1 z2 (sel i s3 m3 s3) z4 (sel i s5 m5 s5)
    refine Gets.midH (I := fun tm h => Neat h ∧ Grows H h ∧ ∃ x, tm.get 10 = some (.ptr n 0) ∧ tm.get 56 = some (.agg [.int .i64 s0, .int .i64 s1, .int .i64 s2, .int .i64 s3, .int .i64 s4, .int .i64 s5, .int .i64 m0, .int .i64 s1, .int .i64 s2, .int .i64 m3, .int .i64 s4, .int .i64 m5, .int .i64 s0, .int .i64 t1, .int .i64 t2, .int .i64 s3, .int .i64 t4, .int .i64 s5]) ∧ tm.get 57 = some (.int .i64 (i : Int)) ∧ tm.get 11 = some (.int .i64 (i : Int)) ∧ tm.get 12 = some (.ptr x 0) ∧ x ≠ n ∧
        Has H h n (.cells 28 true (vals (fun i k => gk k (sel i s0 m0 s0) (sel i s3 m3 s3) * sel i s5 m5 s5) (4 * i))) ∧ Has H h x (szB 25 (sel i s0 m0 s0) z1 z2 (sel i s3 m3 s3) z4 (sel i s5 m5 s5))) ?_ ?_
    · refine Gets.last Tryz.tabOk (ov := noOv) (noOv_ok) 8 (s' := ?sn11) ?hn11 ?kn11; (case hn11 => (simp -implicitDefEqProofs (disch := first | (simp only [ne_eq, Nat.reduceEqDiff, not_false_eq_true, Nat.reduceLT]; done) | assumption | (simp only [s_push_next, s_put_next, Nat.beq_refl]; done) | ((try simp only [s_push_next, s_put_next]) <;> omega) | exact s_one_map _ | exact s_one_slice _ _ _ _ _ | (refine (id ?_ : plainDraw _ = true); kernel_rfl) | fail) only [sxL, s_castN, s_cells_one, noOv, callFn, kindOf, kindC, kindB, unA, boxA, loadPtr, nilCheckA, fst1, ofValue, ofScalar, len, intBin, ibin, boolO, guardA, cCond, condV, cRet, cExit, cSkip, resOut, resultA, extractA, tupleO, Nat.reduceEqDiff, Nat.reduceAdd, Nat.reduceSub, Nat.reduceLT, Nat.reduceBEq, reduceCtorEq, Nat.reduceMod, Nat.reduceLeDiff, Int.reduceLT, Int.reduceAdd, Int.reduceEq, Int.reduceToNat, s_draw, i56, i57, z_opIndex, hix, s_varTrue ia25 sz25, zero25, hs1] <;> rfl)); (try (change Gets _ _ _ _ _ _; repeat refine Gets.seq ?_))
      have hn := V.2.2
      exact ⟨rfl, _, _, rfl, (n1.push _).put (by show h.next < h.next + 1; omega) _, gr_put (gr_push g1 _) g1.next _, h.next, by simp (disch := decide) only [sxL, i10], by simp (disch := decide) only [sxL, i56], by simp (disch := decide) only [sxL, i57], by simp (disch := decide) only [sxL], by simp (disch := decide) only [sxL], by omega, (V.push _).put (by omega) _, Has.same g1.next (by show h.next < h.next + 1; omega) _⟩
    rintro tm h ⟨n1, g1, x, i10, i56, i57, i11, i12, hxn, V, X⟩
    change Gets _ _ _ _ _ _
    repeat refine Gets.seq ?_
    refine Gets.last Tryz.tabOk (ov := noOv) (noOv_ok) 8 (s' := ?sn12) ?hn12 ?kn12; (case hn12 => (simp -implicitDefEqProofs (disch := first | (simp only [ne_eq, Nat.reduceEqDiff, not_false_eq_true, Nat.reduceLT]; done) | assumption | (simp only [s_push_next, s_put_next, Nat.beq_refl]; done) | ((try simp only [s_push_next, s_put_next]) <;> omega) | exact s_one_map _ | exact s_one_slice _ _ _ _ _ | (refine (id ?_ : plainDraw _ = true); kernel_rfl) | fail) only [sxL, s_castN, s_cells_one, noOv, callFn, kindOf, kindC, kindB, unA, boxA, loadPtr, nilCheckA, fst1, ofValue, ofScalar, len, intBin, ibin, boolO, guardA, cCond, condV, cRet, cExit, cSkip, resOut, resultA, extractA, tupleO, Nat.reduceEqDiff, Nat.reduceAdd, Nat.reduceSub, Nat.reduceLT, Nat.reduceBEq, reduceCtorEq, Nat.reduceMod, Nat.reduceLeDiff, Int.reduceLT, Int.reduceAdd, Int.reduceEq, Int.reduceToNat, s_draw, bs31, len31] <;> rfl)); (try (change Gets _ _ _ _ _ _; repeat refine Gets.seq ?_))
    refine Gets.uptoH 4 (fun k tm h' => Neat h' ∧ Grows H h' ∧ tm.get 10 = some (.ptr n 0) ∧ tm.get 56 = some (.agg [.int .i64 s0, .int .i64 s1, .int .i64 s2, .int .i64 s3, .int .i64 s4, .int .i64 s5, .int .i64 m0, .int .i64 s1, .int .i64 s2, .int .i64 m3, .int .i64 s4, .int .i64 m5, .int .i64 s0, .int .i64 t1, .int .i64 t2, .int .i64 s3, .int .i64 t4, .int .i64 s5]) ∧ tm.get 57 = some (.int .i64 (i : Int)) ∧ tm.get 11 = some (.int .i64 (i : Int)) ∧ tm.get 12 = some (.ptr x 0) ∧ tm.get 61 = some (.slice h.next 0 4 false 4) ∧ tm.get 62 = some (.int .i64 4) ∧ tm.get 63 = some (.int .i64 (k : Int)) ∧
        Has H h' n (.cells 28 true (vals (fun i k => gk k (sel i s0 m0 s0) (sel i s3 m3 s3) * sel i s5 m5 s5) (4 * i + k))) ∧ Has H h' x (szB 25 (sel i s0 m0 s0) z1 z2 (sel i s3 m3 s3) z4 (sel i s5 m5 s5)) ∧ Has H h' h.next (.cells 30 true fns4))
      ⟨n1.push _, gr_push g1 _, by simp (disch := decide) only [sxL, i10], by simp (disch := decide) only [sxL, i56], by simp (disch := decide) only [sxL, i57], by simp (disch := decide) only [sxL, i11], by simp (disch := decide) only [sxL, i12], by simp (disch := decide) only [sxL], by simp (disch := decide) only [sxL], by simp (disch := decide) only [sxL], V.push _, X.push _, Has.top g1 _⟩ ?_
    have hne : n ≠ h.next := by have := V.2.2; omega
    generalize h.next = b at hne
    clear V X n1 g1 i10 i56 i57 i11 i12
    rintro k tm h hk ⟨n1, g1, i10, i56, i57, i11, i12, i61, i62, i63, V, X, Bf⟩
    repeat refine Gets.seq ?_
    by_cases hlk : (k : Int) < 4
    · have hk4 : k < 4 := by omega
      have hf := fns4_at k hk4
      have hc : cellIn (h.blks.get b) k = some (.func (.func (5 + k)) [] []) := by rw [Bf.1, s_cellIn]; exact hf
      have cX : Sx.cellsIn (h.blks.get x) 0 6 = some [.int .i64 (sel i s0 m0 s0), .int .i64 z1, .int .i64 z2, .int .i64 (sel i s3 m3 s3), .int .i64 z4, .int .i64 (sel i s5 m5 s5)] := by rw [X.1]; exact cells6 ..
      have cX5 : cellIn (h.blks.get x) 5 = some (.int .i64 (sel i s5 m5 s5)) := by rw [X.1]; rfl
      have q1 := top_k k hk4 _ _ _ _ _ _ hok h n1
      have q2 := chk_pure (sel i s0 m0 s0) z1 z2 (sel i s3 m3 s3) z4 (sel i s5 m5 s5) h n1
      rw [chk_t hok] at q2
      have hp := ok_parts hok
      have hge : ¬ gk k (sel i s0 m0 s0) (sel i s3 m3 s3) * sel i s5 m5 s5 < sel i s5 m5 s5 := by have := val_ge k (a := sel i s0 m0 s0) (d := sel i s3 m3 s3) (f := sel i s5 m5 s5) ⟨hp.1, hp.2.1⟩ hp.2.2.1; omega
      have hst := store_one (G := Tryz.tab) (t := 2) (off := 4 * i + k) (v := .int .i64 (gk k (sel i s0 m0 s0) (sel i s3 m3 s3) * sel i s5 m5 s5)) V.1 sz2 (by rw [vals_len]; omega) rfl
      have hset := vals_set (fun i k => gk k (sel i s0 m0 s0) (sel i s3 m3 s3) * sel i s5 m5 s5) (4 * i + k) (by omega)
      rw [show (4 * i + k) / 4 = i by omega, show (4 * i + k) % 4 = k by omega] at hset
      rw [hset] at hst
      have hwk : awrap .i64 ((k : Int) + 1) = (k : Int) + 1 := s_wrap (by omega) (by omega)
      refine Gets.last Tryz.tabOk (ov := noOv) (noOv_ok) 8 (s' := ?sn13) ?hn13 ?kn13; (case hn13 => (simp -implicitDefEqProofs (disch := first | (simp only [ne_eq, Nat.reduceEqDiff, not_false_eq_true, Nat.reduceLT]; done) | assumption | (simp only [s_push_next, s_put_next, Nat.beq_refl]; done) | ((try simp only [s_push_next, s_put_next]) <;> omega) | exact s_one_map _ | exact s_one_slice _ _ _ _ _ | (refine (id ?_ : plainDraw _ = true); kernel_rfl) | fail) only [sxL, s_castN, s_cells_one, noOv, callFn, kindOf, kindC, kindB, unA, boxA, loadPtr, nilCheckA, fst1, ofValue, ofScalar, len, intBin, ibin, boolO, guardA, cCond, condV, cRet, cExit, cSkip, resOut, resultA, extractA, tupleO, Nat.reduceEqDiff, Nat.reduceAdd, Nat.reduceSub, Nat.reduceLT, Nat.reduceBEq, reduceCtorEq, Nat.reduceMod, Nat.reduceLeDiff, Int.reduceLT, Int.reduceAdd, Int.reduceEq, Int.reduceToNat, s_draw, i62, i63, hlk] <;> rfl)); (try (change Gets _ _ _ _ _ _; repeat refine Gets.seq ?_))
      refine Gets.condT (by simp (disch := decide) only [sxL]) (Gets.skip Tryz.tabOk ?_)
      change Gets _ _ _ _ _ _
      refine Gets.seq (Gets.blk ?_)
      repeat refine Gets.seq ?_
      refine Gets.last Tryz.tabOk (ov := noOv) (noOv_ok) 8 (s' := ?sn14) ?hn14 ?kn14; (case hn14 => (simp -implicitDefEqProofs (disch := first | (simp only [ne_eq, Nat.reduceEqDiff, not_false_eq_true, Nat.reduceLT]; done) | assumption | (simp only [s_push_next, s_put_next, Nat.beq_refl]; done) | ((try simp only [s_push_next, s_put_next]) <;> omega) | exact s_one_map _ | exact s_one_slice _ _ _ _ _ | (refine (id ?_ : plainDraw _ = true); kernel_rfl) | fail) only [sxL, s_castN, s_cells_one, noOv, callFn, kindOf, kindC, kindB, unA, boxA, loadPtr, nilCheckA, fst1, ofValue, ofScalar, len, intBin, ibin, boolO, guardA, cCond, condV, cRet, cExit, cSkip, resOut, resultA, extractA, tupleO, Nat.reduceEqDiff, Nat.reduceAdd, Nat.reduceSub, Nat.reduceLT, Nat.reduceBEq, reduceCtorEq, Nat.reduceMod, Nat.reduceLeDiff, Int.reduceLT, Int.reduceAdd, Int.reduceEq, Int.reduceToNat, s_draw, i61, i63, ix31 b k hk4, s_varFalse ia30, hc] <;> rfl)); (try (change Gets _ _ _ _ _ _; repeat refine Gets.seq ?_))
      refine Gets.last Tryz.tabOk (ov := ptO noOv (5 + k) [szV (sel i s0 m0 s0) z1 z2 (sel i s3 m3 s3) z4 (sel i s5 m5 s5)] h [(.tuple [.int .i64 (gk k (sel i s0 m0 s0) (sel i s3 m3 s3) * sel i s5 m5 s5), .int .i64 0], h)]) (ptO_ok noOv_ok q1) 8 (s' := ?sn15) ?hn15 ?kn15; (case hn15 => (simp -implicitDefEqProofs (disch := first | (simp only [ne_eq, Nat.reduceEqDiff, not_false_eq_true, Nat.reduceLT]; done) | assumption | (simp only [s_push_next, s_put_next, Nat.beq_refl]; done) | ((try simp only [s_push_next, s_put_next]) <;> omega) | exact s_one_map _ | exact s_one_slice _ _ _ _ _ | (refine (id ?_ : plainDraw _ = true); kernel_rfl) | fail) only [sxL, s_castN, s_cells_one, noOv, callFn, kindOf, kindC, kindB, unA, boxA, loadPtr, nilCheckA, fst1, ofValue, ofScalar, len, intBin, ibin, boolO, guardA, cCond, condV, cRet, cExit, cSkip, resOut, resultA, extractA, tupleO, Nat.reduceEqDiff, Nat.reduceAdd, Nat.reduceSub, Nat.reduceLT, Nat.reduceBEq, reduceCtorEq, Nat.reduceMod, Nat.reduceLeDiff, Int.reduceLT, Int.reduceAdd, Int.reduceEq, Int.reduceToNat, s_draw, i12, cX, s_varTrue ia25 sz25] <;> rfl)); (try (change Gets _ _ _ _ _ _; repeat refine Gets.seq ?_))
      refine Gets.last Tryz.tabOk (ov := ptO noOv 9 [szV (sel i s0 m0 s0) z1 z2 (sel i s3 m3 s3) z4 (sel i s5 m5 s5)] h [(.int .i64 0, h)]) (ptO_ok noOv_ok q2) 8 (s' := ?sn16) ?hn16 ?kn16; (case hn16 => (simp -implicitDefEqProofs (disch := first | (simp only [ne_eq, Nat.reduceEqDiff, not_false_eq_true, Nat.reduceLT]; done) | assumption | (simp only [s_push_next, s_put_next, Nat.beq_refl]; done) | ((try simp only [s_push_next, s_put_next]) <;> omega) | exact s_one_map _ | exact s_one_slice _ _ _ _ _ | (refine (id ?_ : plainDraw _ = true); kernel_rfl) | fail) only [sxL, s_castN, s_cells_one, noOv, callFn, kindOf, kindC, kindB, unA, boxA, loadPtr, nilCheckA, fst1, ofValue, ofScalar, len, intBin, ibin, boolO, guardA, cCond, condV, cRet, cExit, cSkip, resOut, resultA, extractA, tupleO, Nat.reduceEqDiff, Nat.reduceAdd, Nat.reduceSub, Nat.reduceLT, Nat.reduceBEq, reduceCtorEq, Nat.reduceMod, Nat.reduceLeDiff, Int.reduceLT, Int.reduceAdd, Int.reduceEq, Int.reduceToNat, s_draw, i12, cX, cX5, fa25_5, s_varFalse ia3, s_varTrue ia25 sz25, hge] <;> rfl)); (try (change Gets _ _ _ _ _ _; repeat refine Gets.seq ?_))
      refine Gets.condF (by simp (disch := decide) only [sxL]) (Gets.skip Tryz.tabOk ?_)
      change Gets _ _ _ _ _ _
      refine Gets.last Tryz.tabOk (ov := noOv) (noOv_ok) 8 (s' := ?sn17) ?hn17 ?kn17; (case hn17 => (simp -implicitDefEqProofs (disch := first | (simp only [ne_eq, Nat.reduceEqDiff, not_false_eq_true, Nat.reduceLT]; done) | assumption | (simp only [s_push_next, s_put_next, Nat.beq_refl]; done) | ((try simp only [s_push_next, s_put_next]) <;> omega) | exact s_one_map _ | exact s_one_slice _ _ _ _ _ | (refine (id ?_ : plainDraw _ = true); kernel_rfl) | fail) only [sxL, s_castN, s_cells_one, noOv, callFn, kindOf, kindC, kindB, unA, boxA, loadPtr, nilCheckA, fst1, ofValue, ofScalar, len, intBin, ibin, boolO, guardA, cCond, condV, cRet, cExit, cSkip, resOut, resultA, extractA, tupleO, Nat.reduceEqDiff, Nat.reduceAdd, Nat.reduceSub, Nat.reduceLT, Nat.reduceBEq, reduceCtorEq, Nat.reduceMod, Nat.reduceLeDiff, Int.reduceLT, Int.reduceAdd, Int.reduceEq, Int.reduceToNat, s_draw, i10, i11, ix28 n i hi3, ix27 n (4 * i) k hk4, hst] <;> rfl)); (try (change Gets _ _ _ _ _ _; repeat refine Gets.seq ?_))
      refine Gets.last Tryz.tabOk (ov := noOv) (noOv_ok) 8 (s' := ?sn18) ?hn18 ?kn18; (case hn18 => (simp -implicitDefEqProofs (disch := first | (simp only [ne_eq, Nat.reduceEqDiff, not_false_eq_true, Nat.reduceLT]; done) | assumption | (simp only [s_push_next, s_put_next, Nat.beq_refl]; done) | ((try simp only [s_push_next, s_put_next]) <;> omega) | exact s_one_map _ | exact s_one_slice _ _ _ _ _ | (refine (id ?_ : plainDraw _ = true); kernel_rfl) | fail) only [sxL, s_castN, s_cells_one, noOv, callFn, kindOf, kindC, kindB, unA, boxA, loadPtr, nilCheckA, fst1, ofValue, ofScalar, len, intBin, ibin, boolO, guardA, cCond, condV, cRet, cExit, cSkip, resOut, resultA, extractA, tupleO, Nat.reduceEqDiff, Nat.reduceAdd, Nat.reduceSub, Nat.reduceLT, Nat.reduceBEq, reduceCtorEq, Nat.reduceMod, Nat.reduceLeDiff, Int.reduceLT, Int.reduceAdd, Int.reduceEq, Int.reduceToNat, s_draw, i63, hwk] <;> rfl)); (try (change Gets _ _ _ _ _ _; repeat refine Gets.seq ?_))
      refine ⟨_, _, rfl, by omega, n1.put V.2.2 _, gr_put g1 V.2.1 _, by simp (disch := decide) only [sxL, i10], by simp (disch := decide) only [sxL, i56], by simp (disch := decide) only [sxL, i57], by simp (disch := decide) only [sxL, i11], by simp (disch := decide) only [sxL, i12], by simp (disch := decide) only [sxL, i61], by simp (disch := decide) only [sxL, i62], by simp (disch := decide) only [sxL, s_castS], ?_, X.put hxn _, Bf.put (Ne.symm hne) _⟩
      rw [show 4 * i + (k + 1) = 4 * i + k + 1 by omega]
      exact Has.same V.2.1 V.2.2 _
    · have hk4 : k = 4 := by omega
      subst hk4
      refine Gets.last Tryz.tabOk (ov := noOv) (noOv_ok) 8 (s' := ?sn19) ?hn19 ?kn19; (case hn19 => (simp -implicitDefEqProofs (disch := first | (simp only [ne_eq, Nat.reduceEqDiff, not_false_eq_true, Nat.reduceLT]; done) | assumption | (simp only [s_push_next, s_put_next, Nat.beq_refl]; done) | ((try simp only [s_push_next, s_put_next]) <;> omega) | exact s_one_map _ | exact s_one_slice _ _ _ _ _ | (refine (id ?_ : plainDraw _ = true); kernel_rfl) | fail) only [sxL, s_castN, s_cells_one, noOv, callFn, kindOf, kindC, kindB, unA, boxA, loadPtr, nilCheckA, fst1, ofValue, ofScalar, len, intBin, ibin, boolO, guardA, cCond, condV, cRet, cExit, cSkip, resOut, resultA, extractA, tupleO, Nat.reduceEqDiff, Nat.reduceAdd, Nat.reduceSub, Nat.reduceLT, Nat.reduceBEq, reduceCtorEq, Nat.reduceMod, Nat.reduceLeDiff, Int.reduceLT, Int.reduceAdd, Int.reduceEq, Int.reduceToNat, s_draw, i62, i63, hlk] <;> rfl)); (try (change Gets _ _ _ _ _ _; repeat refine Gets.seq ?_))
      refine Gets.condF (by simp (disch := decide) only [sxL]) (Gets.exit Tryz.tabOk ?_)
      refine inBlk_exit ?_
      change Gets _ _ _ _ _ _
      have hwi : awrap .i64 ((i : Int) + 1) = (i : Int) + 1 := s_wrap (by omega) (by omega)
      refine Gets.last Tryz.tabOk (ov := noOv) (noOv_ok) 8 (s' := ?sn20) ?hn20 ?kn20; (case hn20 => (simp -implicitDefEqProofs (disch := first | (simp only [ne_eq, Nat.reduceEqDiff, not_false_eq_true, Nat.reduceLT]; done) | assumption | (simp only [s_push_next, s_put_next, Nat.beq_refl]; done) | ((try simp only [s_push_next, s_put_next]) <;> omega) | exact s_one_map _ | exact s_one_slice _ _ _ _ _ | (refine (id ?_ : plainDraw _ = true); kernel_rfl) | fail) only [sxL, s_castN, s_cells_one, noOv, callFn, kindOf, kindC, kindB, unA, boxA, loadPtr, nilCheckA, fst1, ofValue, ofScalar, len, intBin, ibin, boolO, guardA, cCond, condV, cRet, cExit, cSkip, resOut, resultA, extractA, tupleO, Nat.reduceEqDiff, Nat.reduceAdd, Nat.reduceSub, Nat.reduceLT, Nat.reduceBEq, reduceCtorEq, Nat.reduceMod, Nat.reduceLeDiff, Int.reduceLT, Int.reduceAdd, Int.reduceEq, Int.reduceToNat, s_draw, i57, hwi] <;> rfl)); (try (change Gets _ _ _ _ _ _; repeat refine Gets.seq ?_))
      refine ⟨_, _, rfl, by omega, n1, g1, by simp (disch := decide) only [sxL, i10], by simp (disch := decide) only [sxL, i56], by simp (disch := decide) only [sxL, s_castS], ?_⟩
      rw [show 4 * (i + 1) = 4 * i + 4 by omega]; exact V
  · have hi3 : i = 3 := by omega
    subst hi3
    refine Gets.last Tryz.tabOk (ov := noOv) (noOv_ok) 8 (s' := ?sn21) ?hn21 ?kn21; (case hn21 => (simp -implicitDefEqProofs (disch := first | (simp only [ne_eq, Nat.reduceEqDiff, not_false_eq_true, Nat.reduceLT]; done) | assumption | (simp only [s_push_next, s_put_next, Nat.beq_refl]; done) | ((try simp only [s_push_next, s_put_next]) <;> omega) | exact s_one_map _ | exact s_one_slice _ _ _ _ _ | (refine (id ?_ : plainDraw _ = true); kernel_rfl) | fail) only [sxL, s_castN, s_cells_one, noOv, callFn, kindOf, kindC, kindB, unA, boxA, loadPtr, nilCheckA, fst1, ofValue, ofScalar, len, intBin, ibin, boolO, guardA, cCond, condV, cRet, cExit, cSkip, resOut, resultA, extractA, tupleO, Nat.reduceEqDiff, Nat.reduceAdd, Nat.reduceSub, Nat.reduceLT, Nat.reduceBEq, reduceCtorEq, Nat.reduceMod, Nat.reduceLeDiff, Int.reduceLT, Int.reduceAdd, Int.reduceEq, Int.reduceToNat, s_draw, i57, hlt] <;> rfl)); (try (change Gets _ _ _ _ _ _; repeat refine Gets.seq ?_))
    refine Gets.condF (by simp (disch := decide) only [sxL]) (Gets.exit Tryz.tabOk ?_)
    refine inBlk_exit ?_
    change Gets _ _ _ _ _ _
    repeat refine Gets.seq ?_
    have hpx := ok_parts kx
    have hpy := ok_parts ky
    have c : ∀ i k, i < 3 → k < 4 → cellIn (h.blks.get n) (4 * i + k) = some (.int .i64 (gk k (sel i s0 m0 s0) (sel i s3 m3 s3) * sel i s5 m5 s5)) := fun i k h1 h2 => by
      rw [vals_cell V.1 (by omega), if_pos (by omega), show (4 * i + k) / 4 = i by omega, show (4 * i + k) % 4 = k by omega]
    refine Gets.last Tryz.tabOk (ov := noOv) (noOv_ok) 8 (s' := ?sn22) ?hn22 ?kn22; (case hn22 => (simp -implicitDefEqProofs (disch := first | (simp only [ne_eq, Nat.reduceEqDiff, not_false_eq_true, Nat.reduceLT]; done) | assumption | (simp only [s_push_next, s_put_next, Nat.beq_refl]; done) | ((try simp only [s_push_next, s_put_next]) <;> omega) | exact s_one_map _ | exact s_one_slice _ _ _ _ _ | (refine (id ?_ : plainDraw _ = true); kernel_rfl) | fail) only [sxL, s_castN, s_cells_one, noOv, callFn, kindOf, kindC, kindB, unA, boxA, loadPtr, nilCheckA, fst1, ofValue, ofScalar, len, intBin, ibin, boolO, guardA, cCond, condV, cRet, cExit, cSkip, resOut, resultA, extractA, tupleO, Nat.reduceEqDiff, Nat.reduceAdd, Nat.reduceSub, Nat.reduceLT, Nat.reduceBEq, reduceCtorEq, Nat.reduceMod, Nat.reduceLeDiff, Int.reduceLT, Int.reduceAdd, Int.reduceEq, Int.reduceToNat, s_draw] <;> rfl)); (try (change Gets _ _ _ _ _ _; repeat refine Gets.seq ?_))
    refine Gets.upto 4 (fun k tm => tm.get 10 = some (.ptr n 0) ∧ tm.get 94 = some (.int .i64 (k : Int))) ⟨by simp (disch := decide) only [sxL, i10], by simp (disch := decide) only [sxL]⟩ ?_
    clear i10 i56 i57
    rintro k tm hk ⟨i10, i94⟩
    repeat refine Gets.seq ?_
    by_cases hlk : (k : Int) < 4
    · have hk4 : k < 4 := by omega
      have v0 : cellIn (h.blks.get n) (4 * 0 + k) = some (.int .i64 (gk k s0 s3 * s5)) := c 0 k (by omega) hk4
      have v1 : cellIn (h.blks.get n) (4 * 1 + k) = some (.int .i64 (gk k m0 m3 * m5)) := c 1 k (by omega) hk4
      have v2 : cellIn (h.blks.get n) (4 * 2 + k) = some (.int .i64 (gk k s0 s3 * s5)) := c 2 k (by omega) hk4
      have hno : ¬ gk k m0 m3 * m5 < gk k s0 s3 * s5 := by have := hmono k; omega
      have hwk : awrap .i64 ((k : Int) + 1) = (k : Int) + 1 := s_wrap (by omega) (by omega)
      have j0 : indexAddrA Tryz.tab 28 (.ptr n 0) (.int .i64 0) = some (.ptr n (4 * 0)) := ix28 n 0 (by omega)
      have j1 : indexAddrA Tryz.tab 28 (.ptr n 0) (.int .i64 1) = some (.ptr n (4 * 1)) := ix28 n 1 (by omega)
      have j2 : indexAddrA Tryz.tab 28 (.ptr n 0) (.int .i64 2) = some (.ptr n (4 * 2)) := ix28 n 2 (by omega)
      refine Gets.last Tryz.tabOk (ov := noOv) (noOv_ok) 8 (s' := ?sn23) ?hn23 ?kn23; (case hn23 => (simp -implicitDefEqProofs (disch := first | (simp only [ne_eq, Nat.reduceEqDiff, not_false_eq_true, Nat.reduceLT]; done) | assumption | (simp only [s_push_next, s_put_next, Nat.beq_refl]; done) | ((try simp only [s_push_next, s_put_next]) <;> omega) | exact s_one_map _ | exact s_one_slice _ _ _ _ _ | (refine (id ?_ : plainDraw _ = true); kernel_rfl) | fail) only [sxL, s_castN, s_cells_one, noOv, callFn, kindOf, kindC, kindB, unA, boxA, loadPtr, nilCheckA, fst1, ofValue, ofScalar, len, intBin, ibin, boolO, guardA, cCond, condV, cRet, cExit, cSkip, resOut, resultA, extractA, tupleO, Nat.reduceEqDiff, Nat.reduceAdd, Nat.reduceSub, Nat.reduceLT, Nat.reduceBEq, reduceCtorEq, Nat.reduceMod, Nat.reduceLeDiff, Int.reduceLT, Int.reduceAdd, Int.reduceEq, Int.reduceToNat, s_draw, i94, hlk] <;> rfl)); (try (change Gets _ _ _ _ _ _; repeat refine Gets.seq ?_))
      refine Gets.condT (by simp (disch := decide) only [sxL]) (Gets.skip Tryz.tabOk ?_)
      change Gets _ _ _ _ _ _
      refine Gets.seq (Gets.blk ?_)
      repeat refine Gets.seq ?_
      refine Gets.last Tryz.tabOk (ov := noOv) (noOv_ok) 8 (s' := ?sn24) ?hn24 ?kn24; (case hn24 => (simp -implicitDefEqProofs (disch := first | (simp only [ne_eq, Nat.reduceEqDiff, not_false_eq_true, Nat.reduceLT]; done) | assumption | (simp only [s_push_next, s_put_next, Nat.beq_refl]; done) | ((try simp only [s_push_next, s_put_next]) <;> omega) | exact s_one_map _ | exact s_one_slice _ _ _ _ _ | (refine (id ?_ : plainDraw _ = true); kernel_rfl) | fail) only [sxL, s_castN, s_cells_one, noOv, callFn, kindOf, kindC, kindB, unA, boxA, loadPtr, nilCheckA, fst1, ofValue, ofScalar, len, intBin, ibin, boolO, guardA, cCond, condV, cRet, cExit, cSkip, resOut, resultA, extractA, tupleO, Nat.reduceEqDiff, Nat.reduceAdd, Nat.reduceSub, Nat.reduceLT, Nat.reduceBEq, reduceCtorEq, Nat.reduceMod, Nat.reduceLeDiff, Int.reduceLT, Int.reduceAdd, Int.reduceEq, Int.reduceToNat, s_draw, i94] <;> rfl)); (try (change Gets _ _ _ _ _ _; repeat refine Gets.seq ?_))
      refine Gets.last Tryz.tabOk (ov := noOv) (noOv_ok) 8 (s' := ?sn25) ?hn25 ?kn25; (case hn25 => (simp -implicitDefEqProofs (disch := first | (simp only [ne_eq, Nat.reduceEqDiff, not_false_eq_true, Nat.reduceLT]; done) | assumption | (simp only [s_push_next, s_put_next, Nat.beq_refl]; done) | ((try simp only [s_push_next, s_put_next]) <;> omega) | exact s_one_map _ | exact s_one_slice _ _ _ _ _ | (refine (id ?_ : plainDraw _ = true); kernel_rfl) | fail) only [sxL, s_castN, s_cells_one, noOv, callFn, kindOf, kindC, kindB, unA, boxA, loadPtr, nilCheckA, fst1, ofValue, ofScalar, len, intBin, ibin, boolO, guardA, cCond, condV, cRet, cExit, cSkip, resOut, resultA, extractA, tupleO, Nat.reduceEqDiff, Nat.reduceAdd, Nat.reduceSub, Nat.reduceLT, Nat.reduceBEq, reduceCtorEq, Nat.reduceMod, Nat.reduceLeDiff, Int.reduceLT, Int.reduceAdd, Int.reduceEq, Int.reduceToNat, s_draw, i10, j0, j1, j2, ix27 n (4 * 0) k hk4, ix27 n (4 * 1) k hk4, ix27 n (4 * 2) k hk4, s_varFalse ia2, v0, v1, v2, hno] <;> rfl)); (try (change Gets _ _ _ _ _ _; repeat refine Gets.seq ?_))
      refine Gets.condF (by simp (disch := decide) only [sxL]) (Gets.skip Tryz.tabOk ?_)
      change Gets _ _ _ _ _ _
      refine Gets.last Tryz.tabOk (ov := noOv) (noOv_ok) 8 (s' := ?sn26) ?hn26 ?kn26; (case hn26 => (simp -implicitDefEqProofs (disch := first | (simp only [ne_eq, Nat.reduceEqDiff, not_false_eq_true, Nat.reduceLT]; done) | assumption | (simp only [s_push_next, s_put_next, Nat.beq_refl]; done) | ((try simp only [s_push_next, s_put_next]) <;> omega) | exact s_one_map _ | exact s_one_slice _ _ _ _ _ | (refine (id ?_ : plainDraw _ = true); kernel_rfl) | fail) only [sxL, s_castN, s_cells_one, noOv, callFn, kindOf, kindC, kindB, unA, boxA, loadPtr, nilCheckA, fst1, ofValue, ofScalar, len, intBin, ibin, boolO, guardA, cCond, condV, cRet, cExit, cSkip, resOut, resultA, extractA, tupleO, Nat.reduceEqDiff, Nat.reduceAdd, Nat.reduceSub, Nat.reduceLT, Nat.reduceBEq, reduceCtorEq, Nat.reduceMod, Nat.reduceLeDiff, Int.reduceLT, Int.reduceAdd, Int.reduceEq, Int.reduceToNat, s_draw, i94, hwk] <;> rfl)); (try (change Gets _ _ _ _ _ _; repeat refine Gets.seq ?_))
      refine ⟨_, rfl, by omega, by simp (disch := decide) only [sxL, i10], by simp (disch := decide) only [sxL, s_castS]⟩
    · refine Gets.last Tryz.tabOk (ov := noOv) (noOv_ok) 8 (s' := ?sn27) ?hn27 ?kn27; (case hn27 => (simp -implicitDefEqProofs (disch := first | (simp only [ne_eq, Nat.reduceEqDiff, not_false_eq_true, Nat.reduceLT]; done) | assumption | (simp only [s_push_next, s_put_next, Nat.beq_refl]; done) | ((try simp only [s_push_next, s_put_next]) <;> omega) | exact s_one_map _ | exact s_one_slice _ _ _ _ _ | (refine (id ?_ : plainDraw _ = true); kernel_rfl) | fail) only [sxL, s_castN, s_cells_one, noOv, callFn, kindOf, kindC, kindB, unA, boxA, loadPtr, nilCheckA, fst1, ofValue, ofScalar, len, intBin, ibin, boolO, guardA, cCond, condV, cRet, cExit, cSkip, resOut, resultA, extractA, tupleO, Nat.reduceEqDiff, Nat.reduceAdd, Nat.reduceSub, Nat.reduceLT, Nat.reduceBEq, reduceCtorEq, Nat.reduceMod, Nat.reduceLeDiff, Int.reduceLT, Int.reduceAdd, Int.reduceEq, Int.reduceToNat, s_draw, i94, hlk] <;> rfl)); (try (change Gets _ _ _ _ _ _; repeat refine Gets.seq ?_))
      refine Gets.condF (by simp (disch := decide) only [sxL]) (Gets.exit Tryz.tabOk ?_)
      refine inBlk_exit ?_
      change Gets _ _ _ _ _ _
      repeat refine Gets.seq ?_
      have v3 : cellIn (h.blks.get n) (4 * 0 + 3) = some (.int .i64 (gk 3 s0 s3 * s5)) := c 0 3 (by omega) (by omega)
      have v0 : cellIn (h.blks.get n) (4 * 0 + 0) = some (.int .i64 (gk 0 s0 s3 * s5)) := c 0 0 (by omega) (by omega)
      have v1 : cellIn (h.blks.get n) (4 * 0 + 1) = some (.int .i64 (gk 1 s0 s3 * s5)) := c 0 1 (by omega) (by omega)
      have l0 := val_le 0 (a := s0) (d := s3) (f := s5) ⟨hpx.1, hpx.2.1⟩ hpx.2.2
      have l1 := val_le 1 (a := s0) (d := s3) (f := s5) ⟨hpx.1, hpx.2.1⟩ hpx.2.2
      have hsum := val_sum (a := s0) (d := s3) (f := s5) ⟨hpx.1, hpx.2.1⟩ hpx.2.2.1
      have hw : awrap .i64 (gk 0 s0 s3 * s5 + gk 1 s0 s3 * s5) = gk 0 s0 s3 * s5 + gk 1 s0 s3 * s5 := s_wrap (by omega) (by omega)
      have hno : ¬ gk 3 s0 s3 * s5 < gk 0 s0 s3 * s5 + gk 1 s0 s3 * s5 := by omega
      have j0 : indexAddrA Tryz.tab 28 (.ptr n 0) (.int .i64 0) = some (.ptr n (4 * 0)) := ix28 n 0 (by omega)
      have e0 : indexAddrA Tryz.tab 27 (.ptr n (4 * 0)) (.int .i64 0) = some (.ptr n (4 * 0 + 0)) := ix27 n (4 * 0) 0 (by omega)
      have e1 : indexAddrA Tryz.tab 27 (.ptr n (4 * 0)) (.int .i64 1) = some (.ptr n (4 * 0 + 1)) := ix27 n (4 * 0) 1 (by omega)
      have e3 : indexAddrA Tryz.tab 27 (.ptr n (4 * 0)) (.int .i64 3) = some (.ptr n (4 * 0 + 3)) := ix27 n (4 * 0) 3 (by omega)
      have hw10 := hW h (hG.grow hN g1)
      generalize 4 * 0 = zz at *
      rw [Nat.add_zero] at v0 e0
      refine Gets.last Tryz.tabOk (ov := ptO noOv 10 [] h [(.bool true, h)]) (ptO_ok noOv_ok hw10) 8 (s' := ?sn28) ?hn28 ?kn28; (case hn28 => (simp -implicitDefEqProofs (disch := first | (simp only [ne_eq, Nat.reduceEqDiff, not_false_eq_true, Nat.reduceLT]; done) | assumption | (simp only [s_push_next, s_put_next, Nat.beq_refl]; done) | ((try simp only [s_push_next, s_put_next]) <;> omega) | exact s_one_map _ | exact s_one_slice _ _ _ _ _ | (refine (id ?_ : plainDraw _ = true); kernel_rfl) | fail) only [sxL, s_castN, s_cells_one, noOv, callFn, kindOf, kindC, kindB, unA, boxA, loadPtr, nilCheckA, fst1, ofValue, ofScalar, len, intBin, ibin, boolO, guardA, cCond, condV, cRet, cExit, cSkip, resOut, resultA, extractA, tupleO, Nat.reduceEqDiff, Nat.reduceAdd, Nat.reduceSub, Nat.reduceLT, Nat.reduceBEq, reduceCtorEq, Nat.reduceMod, Nat.reduceLeDiff, Int.reduceLT, Int.reduceAdd, Int.reduceEq, Int.reduceToNat, s_draw, i10, j0, e0, e1, e3, s_varFalse ia2, v0, v1, v3, hw, hno] <;> rfl)); (try (change Gets _ _ _ _ _ _; repeat refine Gets.seq ?_))
      refine Gets.ret Tryz.tabOk ?_
      exact fin_pure rfl (by simp (disch := decide) only [sxL, Tryz.f3, resultA]) g1 hN trivial
end Go.Proofs

namespace Go.Proofs
open Go.Sx
set_option maxRecDepth 100000
theorem ok_mk {a b c d e f : Int} (h0 : 1 ≤ a ∧ a ≤ 7) (h1 : 2 ≤ b ∧ b ≤ 8) (h2 : 0 ≤ c ∧ c ≤ 64) (h3 : 1 ≤ d ∧ d ≤ 8) (h4 : 0 ≤ e ∧ e ≤ 512) (h5 : 1 ≤ f ∧ f ≤ 1000000) : okS a b c d e f = true := by
  unfold okS stepsOk inN
  rw [decide_eq_true h3, decide_eq_true h0, decide_eq_true h1, decide_eq_true h2, decide_eq_true h4, decide_eq_true h5]
  rfl
theorem max_in {x y lo hi : Int} (hx : lo ≤ x ∧ x ≤ hi) (hy : lo ≤ y ∧ y ≤ hi) : lo ≤ max x y ∧ max x y ≤ hi := by
  rcases Int.le_total x y with h | h
  · rw [Int.max_eq_right h]; exact hy
  · rw [Int.max_eq_left h]; exact hx
theorem fg_run (hW : ∀ h, GlobAt h → CallTo Tryz.prog Tryz.tab 10 [] h [(.bool true, h)]) {a0 a1 a2 a3 a4 a5 b0 b1 b2 b3 b4 b5 : Int} (ha : U a0 ∧ U a1 ∧ U a2 ∧ U a3 ∧ U a4 ∧ U a5) (hb : U b0 ∧ U b1 ∧ U b2 ∧ U b3 ∧ U b4 ∧ U b5)
    (H : Heap) (hN : Neat H) (hG : GlobAt H) : CallTo Tryz.prog Tryz.tab 3 [arV a0 a1 a2 a3 a4 a5, arV b0 b1 b2 b3 b4 b5] H [(.bool true, H)] := by
  have x0 : 1 ≤ 1 + a0 % 7 ∧ 1 + a0 % 7 ≤ 7 := by omega
  have x1 : 2 ≤ 2 + a1 % 7 ∧ 2 + a1 % 7 ≤ 8 := by omega
  have x2 : 0 ≤ a2 % 65 ∧ a2 % 65 ≤ 64 := by omega
  have x3 : 1 ≤ 1 + a3 % 8 ∧ 1 + a3 % 8 ≤ 8 := by omega
  have x4 : 0 ≤ a4 % 513 ∧ a4 % 513 ≤ 512 := by omega
  have x5 : 1 ≤ 1 + a5 ∧ 1 + a5 ≤ 1000000 := by have := ha.2.2.2.2.2; unfold U at this; omega
  have y0 : 1 ≤ 1 + b0 % 7 ∧ 1 + b0 % 7 ≤ 7 := by omega
  have y1 : 2 ≤ 2 + b1 % 7 ∧ 2 + b1 % 7 ≤ 8 := by omega
  have y2 : 0 ≤ b2 % 65 ∧ b2 % 65 ≤ 64 := by omega
  have y3 : 1 ≤ 1 + b3 % 8 ∧ 1 + b3 % 8 ≤ 8 := by omega
  have y4 : 0 ≤ b4 % 513 ∧ b4 % 513 ≤ 512 := by omega
  have y5 : 1 ≤ 1 + b5 ∧ 1 + b5 ≤ 1000000 := by have := hb.2.2.2.2.2; unfold U at this; omega
  exact fg_front hW a0 a1 a2 a3 a4 a5 b0 b1 b2 b3 b4 b5 _ _ _ _ _ _ _ _ _ _ _ _ H hN hG (ok_mk x0 x1 x2 x3 x4 x5) (ok_mk (max_in x0 y0) x1 x2 (max_in x3 y3) x4 (max_in x5 y5)) (ok_mk x0 y1 y2 x3 y4 x5)
    (fun h hn => ovSize_eq ha h hn) (fun h hn => ovSize_eq hb h hn)
end Go.Proofs
