/-
  Check, Longest and the parts of a bound, walked.
-/
import Derived.Test.YthkfnldaeihmiaaGreatDoorSxH
import Derived.Test.YthkfnldaeihmiaaGreatDoorSxTab
set_option linter.unusedSimpArgs false
set_option linter.unusedVariables false
namespace Go.Proofs
open Go.Sx
set_option maxRecDepth 100000
theorem get3 : Tryz.tab.funcs.get 3 = some Tryz.f3 := by kernel_rfl
theorem ia23 : Tryz.tab.isAgg 23 = some true := by kernel_rfl
theorem sz23 : Tryz.tab.size 23 = some 6 := by kernel_rfl
theorem ia25 : Tryz.tab.isAgg 25 = some true := by kernel_rfl
theorem sz25 : Tryz.tab.size 25 = some 6 := by kernel_rfl
theorem fa25_0 (b o : Nat) : fieldAddrA Tryz.tab 25 0 (.ptr b o) = some (.ptr b (o + 0)) := by kernel_rfl
theorem ia3 : Tryz.tab.isAgg 3 = some false := by kernel_rfl
theorem sz3 : Tryz.tab.size 3 = some 1 := by kernel_rfl
theorem fa25_3 (b o : Nat) : fieldAddrA Tryz.tab 25 3 (.ptr b o) = some (.ptr b (o + 3)) := by kernel_rfl
theorem fa25_5 (b o : Nat) : fieldAddrA Tryz.tab 25 5 (.ptr b o) = some (.ptr b (o + 5)) := by kernel_rfl
theorem fa25_1 (b o : Nat) : fieldAddrA Tryz.tab 25 1 (.ptr b o) = some (.ptr b (o + 1)) := by kernel_rfl
theorem fa25_2 (b o : Nat) : fieldAddrA Tryz.tab 25 2 (.ptr b o) = some (.ptr b (o + 2)) := by kernel_rfl
theorem fa25_4 (b o : Nat) : fieldAddrA Tryz.tab 25 4 (.ptr b o) = some (.ptr b (o + 4)) := by kernel_rfl
theorem ud31 : Tryz.tab.und 31 = some (.slice 30) := by kernel_rfl
theorem ia30 : Tryz.tab.isAgg 30 = some false := by kernel_rfl
theorem sz30 : Tryz.tab.size 30 = some 1 := by kernel_rfl
theorem ia2 : Tryz.tab.isAgg 2 = some false := by kernel_rfl
theorem sz2 : Tryz.tab.size 2 = some 1 := by kernel_rfl
theorem get4 : Tryz.tab.funcs.get 4 = some Tryz.f4 := by kernel_rfl
theorem ia22 : Tryz.tab.isAgg 22 = some false := by kernel_rfl
theorem sz22 : Tryz.tab.size 22 = some 1 := by kernel_rfl
theorem get5 : Tryz.tab.funcs.get 5 = some Tryz.f5 := by kernel_rfl
theorem get6 : Tryz.tab.funcs.get 6 = some Tryz.f6 := by kernel_rfl
theorem get7 : Tryz.tab.funcs.get 7 = some Tryz.f7 := by kernel_rfl
theorem get8 : Tryz.tab.funcs.get 8 = some Tryz.f8 := by kernel_rfl
theorem get9 : Tryz.tab.funcs.get 9 = some Tryz.f9 := by kernel_rfl
theorem get10 : Tryz.tab.funcs.get 10 = some Tryz.f10 := by kernel_rfl
theorem get11 : Tryz.tab.funcs.get 11 = some Tryz.f11 := by kernel_rfl
theorem get12 : Tryz.tab.funcs.get 12 = some Tryz.f12 := by kernel_rfl
theorem get13 : Tryz.tab.funcs.get 13 = some Tryz.f13 := by kernel_rfl
theorem get14 : Tryz.tab.funcs.get 14 = some Tryz.f14 := by kernel_rfl
theorem get15 : Tryz.tab.funcs.get 15 = some Tryz.f15 := by kernel_rfl
theorem get16 : Tryz.tab.funcs.get 16 = some Tryz.f16 := by kernel_rfl
theorem get17 : Tryz.tab.funcs.get 17 = some Tryz.f17 := by kernel_rfl
theorem get21 : Tryz.tab.funcs.get 21 = some Tryz.f21 := by kernel_rfl
theorem get42 : Tryz.tab.funcs.get 42 = some Tryz.f42 := by kernel_rfl
end Go.Proofs

namespace Go.Proofs
open Go.Sx
set_option maxRecDepth 100000
noncomputable def ov0 : Ov := fun _ _ _ => none
theorem ov0_ok : OvOk Tryz.prog Tryz.tab ov0 := fun _ _ _ _ h => by simp [ov0] at h
def inN (x lo hi : Int) : Bool := decide (lo ≤ x ∧ x ≤ hi)
theorem in_run (n : Nat) (x lo hi : Int) (H : Heap) : (fnsO Tryz.tab ov0 (n+2)).call 17 [.int .i64 x, .int .i64 lo, .int .i64 hi] H = some [(.bool (inN x lo hi), H)] := by
  rw [s_callO, s_callB, get17]
  unfold inN
  by_cases h1 : x < lo <;> by_cases h2 : hi < x
  all_goals (first | (have h3 : ¬ (lo ≤ x ∧ x ≤ hi) := by omega) | (have h3 : lo ≤ x ∧ x ≤ hi := by omega))
  all_goals simp -implicitDefEqProofs (disch := first | (simp only [ne_eq, Nat.reduceEqDiff, not_false_eq_true, Nat.reduceLT]; done) | assumption | (simp only [s_push_next, s_put_next, Nat.beq_refl]; done) | ((try simp only [s_push_next, s_put_next]) <;> omega) | exact s_one_map _ | exact s_one_slice _ _ _ _ _ | (refine (id ?_ : plainDraw _ = true); kernel_rfl) | fail) only [sxL, s_castN, s_cells_one, noOv, callFn, kindOf, kindC, kindB, unA, boxA, loadPtr, nilCheckA, fst1, ofValue, ofScalar, len, intBin, ibin, boolO, guardA, cCond, condV, cRet, cExit, cSkip, resOut, resultA, extractA, tupleO, Nat.reduceEqDiff, Nat.reduceAdd, Nat.reduceSub, Nat.reduceLT, Nat.reduceBEq, reduceCtorEq, Nat.reduceMod, Nat.reduceLeDiff, Int.reduceLT, Int.reduceAdd, Int.reduceEq, Int.reduceToNat, Tryz.f17, h1, h2, h3, ov0, and_self]
noncomputable def ovIn (args : List AV) (H : Heap) : Option (List VH) :=
  match args with
  | [.int .i64 x, .int .i64 lo, .int .i64 hi] => some [(.bool (inN x lo hi), H)]
  | _ => none
theorem ovIn_ok (args : List AV) (H : Heap) (outs : List VH) (h : ovIn args H = some outs) : CallTo Tryz.prog Tryz.tab 17 args H outs := by
  unfold ovIn at h
  split at h
  · simp only [Option.some.injEq] at h; subst h
    exact callTo_run Tryz.tabOk ov0_ok (in_run 0 _ _ _ H)
  · simp at h
noncomputable def ov1 : Ov := addOv ov0 17 ovIn
theorem ov1_ok : OvOk Tryz.prog Tryz.tab ov1 := addOv_ok ov0_ok ovIn_ok
end Go.Proofs

namespace Go.Proofs
open Go.Sx
set_option maxRecDepth 100000
theorem ovIn_eq (x lo hi : Int) (H : Heap) : ovIn [.int .i64 x, .int .i64 lo, .int .i64 hi] H = some [(.bool (inN x lo hi), H)] := rfl
/-- a size -/
abbrev szV (a b c d e f : Int) : AV := .agg [.int .i64 a, .int .i64 b, .int .i64 c, .int .i64 d, .int .i64 e, .int .i64 f]
abbrev szB (t : Nat) (a b c d e f : Int) : ABlk := .cells t true [.int .i64 a, .int .i64 b, .int .i64 c, .int .i64 d, .int .i64 e, .int .i64 f]
def stepsOk (c d : Int) : Bool := inN d 1 8 || (decide (d = 0) && decide (c = 0))
def okS (a b c d e f : Int) : Bool := stepsOk c d && (inN a 1 7 && (inN b 2 8 && (inN c 0 64 && (inN e 0 512 && inN f 1 1000000))))
def chkN (a b c d e f : Int) : Int := if okS a b c d e f then 0 else 2
theorem s_isBool_un (w : Bool) : isBool w (some undefA) = false := by cases w <;> rfl
theorem check_run (n : Nat) (a b c d e f : Int) (H : Heap) : (fnsO Tryz.tab ov1 (n+3)).call 9 [szV a b c d e f] H = some [(.int .i64 (chkN a b c d e f), H.push (szB 25 a b c d e f))] := by
  rw [s_callO, s_callB, get9]
  unfold szV szB chkN okS stepsOk
  cases h1 : inN d 1 8
  · by_cases h7 : d = 0
    · subst h7
      by_cases h8 : c = 0
      · subst h8
        cases h2 : inN a 1 7
        · simp -implicitDefEqProofs (disch := first | (simp only [ne_eq, Nat.reduceEqDiff, not_false_eq_true, Nat.reduceLT]; done) | assumption | (simp only [s_push_next, s_put_next, Nat.beq_refl]; done) | ((try simp only [s_push_next, s_put_next]) <;> omega) | exact s_one_map _ | exact s_one_slice _ _ _ _ _ | (refine (id ?_ : plainDraw _ = true); kernel_rfl) | fail) only [sxL, s_castN, s_cells_one, noOv, callFn, kindOf, kindC, kindB, unA, boxA, loadPtr, nilCheckA, fst1, ofValue, ofScalar, len, intBin, ibin, boolO, guardA, cCond, condV, cRet, cExit, cSkip, resOut, resultA, extractA, tupleO, Nat.reduceEqDiff, Nat.reduceAdd, Nat.reduceSub, Nat.reduceLT, Nat.reduceBEq, reduceCtorEq, Nat.reduceMod, Nat.reduceLeDiff, Int.reduceLT, Int.reduceAdd, Int.reduceEq, Int.reduceToNat, Tryz.f9, h1, h2, ov0, ov1, fa25_0, fa25_1, fa25_2, fa25_3, fa25_4, fa25_5, s_varFalse ia3, ovIn_eq, s_isBool_un, Bool.or_true, Bool.or_false, Bool.true_or, Bool.false_or]
        · skip
          cases h3 : inN b 2 8
          · simp -implicitDefEqProofs (disch := first | (simp only [ne_eq, Nat.reduceEqDiff, not_false_eq_true, Nat.reduceLT]; done) | assumption | (simp only [s_push_next, s_put_next, Nat.beq_refl]; done) | ((try simp only [s_push_next, s_put_next]) <;> omega) | exact s_one_map _ | exact s_one_slice _ _ _ _ _ | (refine (id ?_ : plainDraw _ = true); kernel_rfl) | fail) only [sxL, s_castN, s_cells_one, noOv, callFn, kindOf, kindC, kindB, unA, boxA, loadPtr, nilCheckA, fst1, ofValue, ofScalar, len, intBin, ibin, boolO, guardA, cCond, condV, cRet, cExit, cSkip, resOut, resultA, extractA, tupleO, Nat.reduceEqDiff, Nat.reduceAdd, Nat.reduceSub, Nat.reduceLT, Nat.reduceBEq, reduceCtorEq, Nat.reduceMod, Nat.reduceLeDiff, Int.reduceLT, Int.reduceAdd, Int.reduceEq, Int.reduceToNat, Tryz.f9, h1, h2, h3, ov0, ov1, fa25_0, fa25_1, fa25_2, fa25_3, fa25_4, fa25_5, s_varFalse ia3, ovIn_eq, s_isBool_un, Bool.or_true, Bool.or_false, Bool.true_or, Bool.false_or]
          · skip
            cases h4 : inN 0 0 64
            · simp -implicitDefEqProofs (disch := first | (simp only [ne_eq, Nat.reduceEqDiff, not_false_eq_true, Nat.reduceLT]; done) | assumption | (simp only [s_push_next, s_put_next, Nat.beq_refl]; done) | ((try simp only [s_push_next, s_put_next]) <;> omega) | exact s_one_map _ | exact s_one_slice _ _ _ _ _ | (refine (id ?_ : plainDraw _ = true); kernel_rfl) | fail) only [sxL, s_castN, s_cells_one, noOv, callFn, kindOf, kindC, kindB, unA, boxA, loadPtr, nilCheckA, fst1, ofValue, ofScalar, len, intBin, ibin, boolO, guardA, cCond, condV, cRet, cExit, cSkip, resOut, resultA, extractA, tupleO, Nat.reduceEqDiff, Nat.reduceAdd, Nat.reduceSub, Nat.reduceLT, Nat.reduceBEq, reduceCtorEq, Nat.reduceMod, Nat.reduceLeDiff, Int.reduceLT, Int.reduceAdd, Int.reduceEq, Int.reduceToNat, Tryz.f9, h1, h2, h3, h4, ov0, ov1, fa25_0, fa25_1, fa25_2, fa25_3, fa25_4, fa25_5, s_varFalse ia3, ovIn_eq, s_isBool_un, Bool.or_true, Bool.or_false, Bool.true_or, Bool.false_or]
            · skip
              cases h5 : inN e 0 512
              · simp -implicitDefEqProofs (disch := first | (simp only [ne_eq, Nat.reduceEqDiff, not_false_eq_true, Nat.reduceLT]; done) | assumption | (simp only [s_push_next, s_put_next, Nat.beq_refl]; done) | ((try simp only [s_push_next, s_put_next]) <;> omega) | exact s_one_map _ | exact s_one_slice _ _ _ _ _ | (refine (id ?_ : plainDraw _ = true); kernel_rfl) | fail) only [sxL, s_castN, s_cells_one, noOv, callFn, kindOf, kindC, kindB, unA, boxA, loadPtr, nilCheckA, fst1, ofValue, ofScalar, len, intBin, ibin, boolO, guardA, cCond, condV, cRet, cExit, cSkip, resOut, resultA, extractA, tupleO, Nat.reduceEqDiff, Nat.reduceAdd, Nat.reduceSub, Nat.reduceLT, Nat.reduceBEq, reduceCtorEq, Nat.reduceMod, Nat.reduceLeDiff, Int.reduceLT, Int.reduceAdd, Int.reduceEq, Int.reduceToNat, Tryz.f9, h1, h2, h3, h4, h5, ov0, ov1, fa25_0, fa25_1, fa25_2, fa25_3, fa25_4, fa25_5, s_varFalse ia3, ovIn_eq, s_isBool_un, Bool.or_true, Bool.or_false, Bool.true_or, Bool.false_or]
              · skip
                cases h6 : inN f 1 1000000
                · simp -implicitDefEqProofs (disch := first | (simp only [ne_eq, Nat.reduceEqDiff, not_false_eq_true, Nat.reduceLT]; done) | assumption | (simp only [s_push_next, s_put_next, Nat.beq_refl]; done) | ((try simp only [s_push_next, s_put_next]) <;> omega) | exact s_one_map _ | exact s_one_slice _ _ _ _ _ | (refine (id ?_ : plainDraw _ = true); kernel_rfl) | fail) only [sxL, s_castN, s_cells_one, noOv, callFn, kindOf, kindC, kindB, unA, boxA, loadPtr, nilCheckA, fst1, ofValue, ofScalar, len, intBin, ibin, boolO, guardA, cCond, condV, cRet, cExit, cSkip, resOut, resultA, extractA, tupleO, Nat.reduceEqDiff, Nat.reduceAdd, Nat.reduceSub, Nat.reduceLT, Nat.reduceBEq, reduceCtorEq, Nat.reduceMod, Nat.reduceLeDiff, Int.reduceLT, Int.reduceAdd, Int.reduceEq, Int.reduceToNat, Tryz.f9, h1, h2, h3, h4, h5, h6, ov0, ov1, fa25_0, fa25_1, fa25_2, fa25_3, fa25_4, fa25_5, s_varFalse ia3, ovIn_eq, s_isBool_un, Bool.or_true, Bool.or_false, Bool.true_or, Bool.false_or]
                · simp -implicitDefEqProofs (disch := first | (simp only [ne_eq, Nat.reduceEqDiff, not_false_eq_true, Nat.reduceLT]; done) | assumption | (simp only [s_push_next, s_put_next, Nat.beq_refl]; done) | ((try simp only [s_push_next, s_put_next]) <;> omega) | exact s_one_map _ | exact s_one_slice _ _ _ _ _ | (refine (id ?_ : plainDraw _ = true); kernel_rfl) | fail) only [sxL, s_castN, s_cells_one, noOv, callFn, kindOf, kindC, kindB, unA, boxA, loadPtr, nilCheckA, fst1, ofValue, ofScalar, len, intBin, ibin, boolO, guardA, cCond, condV, cRet, cExit, cSkip, resOut, resultA, extractA, tupleO, Nat.reduceEqDiff, Nat.reduceAdd, Nat.reduceSub, Nat.reduceLT, Nat.reduceBEq, reduceCtorEq, Nat.reduceMod, Nat.reduceLeDiff, Int.reduceLT, Int.reduceAdd, Int.reduceEq, Int.reduceToNat, Tryz.f9, h1, h2, h3, h4, h5, h6, ov0, ov1, fa25_0, fa25_1, fa25_2, fa25_3, fa25_4, fa25_5, s_varFalse ia3, ovIn_eq, s_isBool_un, Bool.or_true, Bool.or_false, Bool.true_or, Bool.false_or]
      · simp -implicitDefEqProofs (disch := first | (simp only [ne_eq, Nat.reduceEqDiff, not_false_eq_true, Nat.reduceLT]; done) | assumption | (simp only [s_push_next, s_put_next, Nat.beq_refl]; done) | ((try simp only [s_push_next, s_put_next]) <;> omega) | exact s_one_map _ | exact s_one_slice _ _ _ _ _ | (refine (id ?_ : plainDraw _ = true); kernel_rfl) | fail) only [sxL, s_castN, s_cells_one, noOv, callFn, kindOf, kindC, kindB, unA, boxA, loadPtr, nilCheckA, fst1, ofValue, ofScalar, len, intBin, ibin, boolO, guardA, cCond, condV, cRet, cExit, cSkip, resOut, resultA, extractA, tupleO, Nat.reduceEqDiff, Nat.reduceAdd, Nat.reduceSub, Nat.reduceLT, Nat.reduceBEq, reduceCtorEq, Nat.reduceMod, Nat.reduceLeDiff, Int.reduceLT, Int.reduceAdd, Int.reduceEq, Int.reduceToNat, Tryz.f9, h1, h8, ov0, ov1, fa25_0, fa25_1, fa25_2, fa25_3, fa25_4, fa25_5, s_varFalse ia3, ovIn_eq, s_isBool_un, Bool.or_true, Bool.or_false, Bool.true_or, Bool.false_or]
    · simp -implicitDefEqProofs (disch := first | (simp only [ne_eq, Nat.reduceEqDiff, not_false_eq_true, Nat.reduceLT]; done) | assumption | (simp only [s_push_next, s_put_next, Nat.beq_refl]; done) | ((try simp only [s_push_next, s_put_next]) <;> omega) | exact s_one_map _ | exact s_one_slice _ _ _ _ _ | (refine (id ?_ : plainDraw _ = true); kernel_rfl) | fail) only [sxL, s_castN, s_cells_one, noOv, callFn, kindOf, kindC, kindB, unA, boxA, loadPtr, nilCheckA, fst1, ofValue, ofScalar, len, intBin, ibin, boolO, guardA, cCond, condV, cRet, cExit, cSkip, resOut, resultA, extractA, tupleO, Nat.reduceEqDiff, Nat.reduceAdd, Nat.reduceSub, Nat.reduceLT, Nat.reduceBEq, reduceCtorEq, Nat.reduceMod, Nat.reduceLeDiff, Int.reduceLT, Int.reduceAdd, Int.reduceEq, Int.reduceToNat, Tryz.f9, h1, h7, ov0, ov1, fa25_0, fa25_1, fa25_2, fa25_3, fa25_4, fa25_5, s_varFalse ia3, ovIn_eq, s_isBool_un, Bool.or_true, Bool.or_false, Bool.true_or, Bool.false_or]
  · skip
    cases h2 : inN a 1 7
    · simp -implicitDefEqProofs (disch := first | (simp only [ne_eq, Nat.reduceEqDiff, not_false_eq_true, Nat.reduceLT]; done) | assumption | (simp only [s_push_next, s_put_next, Nat.beq_refl]; done) | ((try simp only [s_push_next, s_put_next]) <;> omega) | exact s_one_map _ | exact s_one_slice _ _ _ _ _ | (refine (id ?_ : plainDraw _ = true); kernel_rfl) | fail) only [sxL, s_castN, s_cells_one, noOv, callFn, kindOf, kindC, kindB, unA, boxA, loadPtr, nilCheckA, fst1, ofValue, ofScalar, len, intBin, ibin, boolO, guardA, cCond, condV, cRet, cExit, cSkip, resOut, resultA, extractA, tupleO, Nat.reduceEqDiff, Nat.reduceAdd, Nat.reduceSub, Nat.reduceLT, Nat.reduceBEq, reduceCtorEq, Nat.reduceMod, Nat.reduceLeDiff, Int.reduceLT, Int.reduceAdd, Int.reduceEq, Int.reduceToNat, Tryz.f9, h1, h2, ov0, ov1, fa25_0, fa25_1, fa25_2, fa25_3, fa25_4, fa25_5, s_varFalse ia3, ovIn_eq, s_isBool_un, Bool.or_true, Bool.or_false, Bool.true_or, Bool.false_or]
    · skip
      cases h3 : inN b 2 8
      · simp -implicitDefEqProofs (disch := first | (simp only [ne_eq, Nat.reduceEqDiff, not_false_eq_true, Nat.reduceLT]; done) | assumption | (simp only [s_push_next, s_put_next, Nat.beq_refl]; done) | ((try simp only [s_push_next, s_put_next]) <;> omega) | exact s_one_map _ | exact s_one_slice _ _ _ _ _ | (refine (id ?_ : plainDraw _ = true); kernel_rfl) | fail) only [sxL, s_castN, s_cells_one, noOv, callFn, kindOf, kindC, kindB, unA, boxA, loadPtr, nilCheckA, fst1, ofValue, ofScalar, len, intBin, ibin, boolO, guardA, cCond, condV, cRet, cExit, cSkip, resOut, resultA, extractA, tupleO, Nat.reduceEqDiff, Nat.reduceAdd, Nat.reduceSub, Nat.reduceLT, Nat.reduceBEq, reduceCtorEq, Nat.reduceMod, Nat.reduceLeDiff, Int.reduceLT, Int.reduceAdd, Int.reduceEq, Int.reduceToNat, Tryz.f9, h1, h2, h3, ov0, ov1, fa25_0, fa25_1, fa25_2, fa25_3, fa25_4, fa25_5, s_varFalse ia3, ovIn_eq, s_isBool_un, Bool.or_true, Bool.or_false, Bool.true_or, Bool.false_or]
      · skip
        cases h4 : inN c 0 64
        · simp -implicitDefEqProofs (disch := first | (simp only [ne_eq, Nat.reduceEqDiff, not_false_eq_true, Nat.reduceLT]; done) | assumption | (simp only [s_push_next, s_put_next, Nat.beq_refl]; done) | ((try simp only [s_push_next, s_put_next]) <;> omega) | exact s_one_map _ | exact s_one_slice _ _ _ _ _ | (refine (id ?_ : plainDraw _ = true); kernel_rfl) | fail) only [sxL, s_castN, s_cells_one, noOv, callFn, kindOf, kindC, kindB, unA, boxA, loadPtr, nilCheckA, fst1, ofValue, ofScalar, len, intBin, ibin, boolO, guardA, cCond, condV, cRet, cExit, cSkip, resOut, resultA, extractA, tupleO, Nat.reduceEqDiff, Nat.reduceAdd, Nat.reduceSub, Nat.reduceLT, Nat.reduceBEq, reduceCtorEq, Nat.reduceMod, Nat.reduceLeDiff, Int.reduceLT, Int.reduceAdd, Int.reduceEq, Int.reduceToNat, Tryz.f9, h1, h2, h3, h4, ov0, ov1, fa25_0, fa25_1, fa25_2, fa25_3, fa25_4, fa25_5, s_varFalse ia3, ovIn_eq, s_isBool_un, Bool.or_true, Bool.or_false, Bool.true_or, Bool.false_or]
        · skip
          cases h5 : inN e 0 512
          · simp -implicitDefEqProofs (disch := first | (simp only [ne_eq, Nat.reduceEqDiff, not_false_eq_true, Nat.reduceLT]; done) | assumption | (simp only [s_push_next, s_put_next, Nat.beq_refl]; done) | ((try simp only [s_push_next, s_put_next]) <;> omega) | exact s_one_map _ | exact s_one_slice _ _ _ _ _ | (refine (id ?_ : plainDraw _ = true); kernel_rfl) | fail) only [sxL, s_castN, s_cells_one, noOv, callFn, kindOf, kindC, kindB, unA, boxA, loadPtr, nilCheckA, fst1, ofValue, ofScalar, len, intBin, ibin, boolO, guardA, cCond, condV, cRet, cExit, cSkip, resOut, resultA, extractA, tupleO, Nat.reduceEqDiff, Nat.reduceAdd, Nat.reduceSub, Nat.reduceLT, Nat.reduceBEq, reduceCtorEq, Nat.reduceMod, Nat.reduceLeDiff, Int.reduceLT, Int.reduceAdd, Int.reduceEq, Int.reduceToNat, Tryz.f9, h1, h2, h3, h4, h5, ov0, ov1, fa25_0, fa25_1, fa25_2, fa25_3, fa25_4, fa25_5, s_varFalse ia3, ovIn_eq, s_isBool_un, Bool.or_true, Bool.or_false, Bool.true_or, Bool.false_or]
          · skip
            cases h6 : inN f 1 1000000
            · simp -implicitDefEqProofs (disch := first | (simp only [ne_eq, Nat.reduceEqDiff, not_false_eq_true, Nat.reduceLT]; done) | assumption | (simp only [s_push_next, s_put_next, Nat.beq_refl]; done) | ((try simp only [s_push_next, s_put_next]) <;> omega) | exact s_one_map _ | exact s_one_slice _ _ _ _ _ | (refine (id ?_ : plainDraw _ = true); kernel_rfl) | fail) only [sxL, s_castN, s_cells_one, noOv, callFn, kindOf, kindC, kindB, unA, boxA, loadPtr, nilCheckA, fst1, ofValue, ofScalar, len, intBin, ibin, boolO, guardA, cCond, condV, cRet, cExit, cSkip, resOut, resultA, extractA, tupleO, Nat.reduceEqDiff, Nat.reduceAdd, Nat.reduceSub, Nat.reduceLT, Nat.reduceBEq, reduceCtorEq, Nat.reduceMod, Nat.reduceLeDiff, Int.reduceLT, Int.reduceAdd, Int.reduceEq, Int.reduceToNat, Tryz.f9, h1, h2, h3, h4, h5, h6, ov0, ov1, fa25_0, fa25_1, fa25_2, fa25_3, fa25_4, fa25_5, s_varFalse ia3, ovIn_eq, s_isBool_un, Bool.or_true, Bool.or_false, Bool.true_or, Bool.false_or]
            · simp -implicitDefEqProofs (disch := first | (simp only [ne_eq, Nat.reduceEqDiff, not_false_eq_true, Nat.reduceLT]; done) | assumption | (simp only [s_push_next, s_put_next, Nat.beq_refl]; done) | ((try simp only [s_push_next, s_put_next]) <;> omega) | exact s_one_map _ | exact s_one_slice _ _ _ _ _ | (refine (id ?_ : plainDraw _ = true); kernel_rfl) | fail) only [sxL, s_castN, s_cells_one, noOv, callFn, kindOf, kindC, kindB, unA, boxA, loadPtr, nilCheckA, fst1, ofValue, ofScalar, len, intBin, ibin, boolO, guardA, cCond, condV, cRet, cExit, cSkip, resOut, resultA, extractA, tupleO, Nat.reduceEqDiff, Nat.reduceAdd, Nat.reduceSub, Nat.reduceLT, Nat.reduceBEq, reduceCtorEq, Nat.reduceMod, Nat.reduceLeDiff, Int.reduceLT, Int.reduceAdd, Int.reduceEq, Int.reduceToNat, Tryz.f9, h1, h2, h3, h4, h5, h6, ov0, ov1, fa25_0, fa25_1, fa25_2, fa25_3, fa25_4, fa25_5, s_varFalse ia3, ovIn_eq, s_isBool_un, Bool.or_true, Bool.or_false, Bool.true_or, Bool.false_or]
end Go.Proofs

namespace Go.Proofs
open Go.Sx
set_option maxRecDepth 100000
noncomputable def ovChk (t : Nat) (args : List AV) (H : Heap) : Option (List VH) :=
  match args with
  | [.agg [.int .i64 a, .int .i64 b, .int .i64 c, .int .i64 d, .int .i64 e, .int .i64 f]] => some [(.int .i64 (chkN a b c d e f), H.push (szB t a b c d e f))]
  | _ => none
theorem ovChk_eq (t : Nat) (a b c d e f : Int) (H : Heap) : ovChk t [.agg [.int .i64 a, .int .i64 b, .int .i64 c, .int .i64 d, .int .i64 e, .int .i64 f]] H = some [(.int .i64 (chkN a b c d e f), H.push (szB t a b c d e f))] := rfl
theorem ovChk_ok (args : List AV) (H : Heap) (outs : List VH) (h : ovChk 25 args H = some outs) : CallTo Tryz.prog Tryz.tab 9 args H outs := by
  unfold ovChk at h
  split at h
  · simp only [Option.some.injEq] at h; subst h
    exact callTo_run Tryz.tabOk ov1_ok (check_run 0 _ _ _ _ _ _ H)
  · simp at h
/-- how long the longest wait is: of the program and of the document, at each number of nodes that is allowed -/
noncomputable def longN (x : Int) : Int := 6 + 4 * (x - 1)
noncomputable def ovLong (args : List AV) (H : Heap) : Option (List VH) :=
  match args with
  | [.int .i64 x] => if 1 ≤ x ∧ x ≤ 7 then some [(.tuple [.int .i64 (longN x), .int .i64 0], H)] else none
  | _ => none
theorem ovLong_eq (x : Int) (H : Heap) (h : 1 ≤ x ∧ x ≤ 7) : ovLong [.int .i64 x] H = some [(.tuple [.int .i64 (longN x), .int .i64 0], H)] := if_pos h
theorem seven {p : Int → Prop} (h1 : p 1) (h2 : p 2) (h3 : p 3) (h4 : p 4) (h5 : p 5) (h6 : p 6) (h7 : p 7) (x : Int) (h : 1 ≤ x ∧ x ≤ 7) : p x := by
  have : x = 1 ∨ x = 2 ∨ x = 3 ∨ x = 4 ∨ x = 5 ∨ x = 6 ∨ x = 7 := by omega
  rcases this with rfl | rfl | rfl | rfl | rfl | rfl | rfl <;> assumption
theorem long_run (H : Heap) : ∀ x : Int, 1 ≤ x ∧ x ≤ 7 → (fnsO Tryz.tab ov0 40).call 21 [.int .i64 x] H = some [(.tuple [.int .i64 (longN x), .int .i64 0], H)] :=
  seven (by kernel_rfl) (by kernel_rfl) (by kernel_rfl) (by kernel_rfl) (by kernel_rfl) (by kernel_rfl) (by kernel_rfl)
theorem ovLong_ok (args : List AV) (H : Heap) (outs : List VH) (h : ovLong args H = some outs) : CallTo Tryz.prog Tryz.tab 21 args H outs := by
  unfold ovLong at h
  split at h
  · split at h
    · simp only [Option.some.injEq] at h; subst h
      exact callTo_run Tryz.tabOk ov0_ok (long_run H _ (by assumption))
    · simp at h
  · simp at h
noncomputable def ov2 : Ov := addOv (addOv ov0 9 (ovChk 25)) 21 ovLong
theorem ov2_ok : OvOk Tryz.prog Tryz.tab ov2 := addOv_ok (addOv_ok ov0_ok ovChk_ok) ovLong_ok
end Go.Proofs

namespace Go.Proofs
open Go.Sx
set_option maxRecDepth 100000
theorem wrap_mul {x y : Int} (h1 : 0 ≤ x ∧ x ≤ 100000) (h2 : 0 ≤ y ∧ y ≤ 1000000) : awrap .i64 (x * y) = x * y := by
  have a1 : 0 ≤ x * y := Int.mul_nonneg h1.1 h2.1
  have a2 : x * y ≤ 100000 * 1000000 := Int.mul_le_mul h1.2 h2.2 h2.1 (by omega)
  exact s_wrap (by omega) (by omega)
theorem ok_parts {a b c d e f : Int} (h : okS a b c d e f = true) : (1 ≤ a ∧ a ≤ 7) ∧ (0 ≤ d ∧ d ≤ 8) ∧ (1 ≤ f ∧ f ≤ 1000000) := by
  simp only [okS, stepsOk, inN, Bool.and_eq_true, Bool.or_eq_true, decide_eq_true_eq] at h
  omega
theorem elected_run (n : Nat) (a b c d e f : Int) (h : 1 ≤ a ∧ a ≤ 7) (H : Heap) : (fnsO Tryz.tab ov2 (n+3)).call 12 [szV a b c d e f] H = some [(.int .i64 (longN a + 3), H.push (szB 25 a b c d e f))] := by
  rw [s_callO, s_callB, get12]
  unfold szV szB
  have hw : awrap .i64 (longN a + 3) = longN a + 3 := s_wrap (by unfold longN; omega) (by unfold longN; omega)
  simp -implicitDefEqProofs (disch := first | (simp only [ne_eq, Nat.reduceEqDiff, not_false_eq_true, Nat.reduceLT]; done) | assumption | (simp only [s_push_next, s_put_next, Nat.beq_refl]; done) | ((try simp only [s_push_next, s_put_next]) <;> omega) | exact s_one_map _ | exact s_one_slice _ _ _ _ _ | (refine (id ?_ : plainDraw _ = true); kernel_rfl) | fail) only [sxL, s_castN, s_cells_one, noOv, callFn, kindOf, kindC, kindB, unA, boxA, loadPtr, nilCheckA, fst1, ofValue, ofScalar, len, intBin, ibin, boolO, guardA, cCond, condV, cRet, cExit, cSkip, resOut, resultA, extractA, tupleO, Nat.reduceEqDiff, Nat.reduceAdd, Nat.reduceSub, Nat.reduceLT, Nat.reduceBEq, reduceCtorEq, Nat.reduceMod, Nat.reduceLeDiff, Int.reduceLT, Int.reduceAdd, Int.reduceEq, Int.reduceToNat, Tryz.f12, h, ov0, ov2, fa25_0, s_varFalse ia3, ovLong_eq a _ h, hw]
theorem item_run (n : Nat) (a b c d e f : Int) (h : 1 ≤ a ∧ a ≤ 7) (H : Heap) : (fnsO Tryz.tab ov2 (n+3)).call 15 [szV a b c d e f] H = some [(.int .i64 (4 * a + 6), H.push (szB 25 a b c d e f))] := by
  rw [s_callO, s_callB, get15]
  unfold szV szB
  have hw : awrap .i64 (4 * a) = 4 * a := s_wrap (by omega) (by omega)
  have hw2 : awrap .i64 (4 * a + 6) = 4 * a + 6 := s_wrap (by omega) (by omega)
  simp -implicitDefEqProofs (disch := first | (simp only [ne_eq, Nat.reduceEqDiff, not_false_eq_true, Nat.reduceLT]; done) | assumption | (simp only [s_push_next, s_put_next, Nat.beq_refl]; done) | ((try simp only [s_push_next, s_put_next]) <;> omega) | exact s_one_map _ | exact s_one_slice _ _ _ _ _ | (refine (id ?_ : plainDraw _ = true); kernel_rfl) | fail) only [sxL, s_castN, s_cells_one, noOv, callFn, kindOf, kindC, kindB, unA, boxA, loadPtr, nilCheckA, fst1, ofValue, ofScalar, len, intBin, ibin, boolO, guardA, cCond, condV, cRet, cExit, cSkip, resOut, resultA, extractA, tupleO, Nat.reduceEqDiff, Nat.reduceAdd, Nat.reduceSub, Nat.reduceLT, Nat.reduceBEq, reduceCtorEq, Nat.reduceMod, Nat.reduceLeDiff, Int.reduceLT, Int.reduceAdd, Int.reduceEq, Int.reduceToNat, Tryz.f15, h, ov0, ov2, fa25_0, s_varFalse ia3, hw, hw2]
end Go.Proofs

namespace Go.Proofs
open Go.Sx
set_option maxRecDepth 100000
theorem cells6 (t : Nat) (a b c d e f : Int) : Sx.cellsIn (some (.cells t true [.int .i64 a, .int .i64 b, .int .i64 c, .int .i64 d, .int .i64 e, .int .i64 f])) 0 6 =
    some [.int .i64 a, .int .i64 b, .int .i64 c, .int .i64 d, .int .i64 e, .int .i64 f] := by rw [s_cellsIn]; rfl
/-- a function of a size that gives a number where the nodes are from 1 to 7, and puts the size away k times -/
noncomputable def ovSz (g : Int → Int → Int) (k : Nat) (args : List AV) (H : Heap) : Option (List VH) :=
  match args with
  | [.agg [.int .i64 a, .int .i64 b, .int .i64 c, .int .i64 d, .int .i64 e, .int .i64 f]] =>
    if (1 ≤ a ∧ a ≤ 7) ∧ (0 ≤ d ∧ d ≤ 8) then some [(.int .i64 (g a d), Nat.rec H (fun _ H => H.push (szB 25 a b c d e f)) k)] else none
  | _ => none
theorem ovSz_eq (g : Int → Int → Int) (k : Nat) (a b c d e f : Int) (H : Heap) (h : (1 ≤ a ∧ a ≤ 7) ∧ (0 ≤ d ∧ d ≤ 8)) :
    ovSz g k [.agg [.int .i64 a, .int .i64 b, .int .i64 c, .int .i64 d, .int .i64 e, .int .i64 f]] H = some [(.int .i64 (g a d), Nat.rec H (fun _ H => H.push (szB 25 a b c d e f)) k)] := if_pos h
theorem ovSz_ok {ov : Ov} (ho : OvOk Tryz.prog Tryz.tab ov) {g : Int → Int → Int} {k fn n : Nat}
    (hr : ∀ a b c d e f H, (1 ≤ a ∧ a ≤ 7) ∧ (0 ≤ d ∧ d ≤ 8) → (fnsO Tryz.tab ov (n+3)).call fn [szV a b c d e f] H = some [(.int .i64 (g a d), Nat.rec H (fun _ H => H.push (szB 25 a b c d e f)) k)])
    (args : List AV) (H : Heap) (outs : List VH) (h : ovSz g k args H = some outs) : CallTo Tryz.prog Tryz.tab fn args H outs := by
  unfold ovSz at h
  split at h
  · split at h
    · simp only [Option.some.injEq] at h; subst h
      exact callTo_run Tryz.tabOk ho (hr _ _ _ _ _ _ H (by assumption))
    · simp at h
  · simp at h
noncomputable def electG (a _d : Int) : Int := longN a + 3
noncomputable def itemG (a _d : Int) : Int := 4 * a + 6
noncomputable def ov3 : Ov := addOv (addOv ov2 12 (ovSz electG 1)) 15 (ovSz itemG 1)
theorem ov3_ok : OvOk Tryz.prog Tryz.tab ov3 :=
  addOv_ok (addOv_ok ov2_ok (ovSz_ok (n := 0) ov2_ok fun a b c d e f H h => elected_run 0 a b c d e f h.1 H)) (ovSz_ok (n := 0) ov2_ok fun a b c d e f H h => item_run 0 a b c d e f h.1 H)
noncomputable def commG (_a _d : Int) : Int := 1035
noncomputable def itmG (a _d : Int) : Int := 1032 + (4 * a + 6)
noncomputable def bndG (a d : Int) : Int := longN a + 3 + 1032 + 4 + 2 * d * (4 * a + 6)
theorem comm_run (n : Nat) (a b c d e f : Int) (H : Heap) : (fnsO Tryz.tab ov3 (n+3)).call 13 [szV a b c d e f] H = some [(.int .i64 (commG a d), H.push (szB 25 a b c d e f))] := by
  rw [s_callO, s_callB, get13]
  unfold szV szB commG
  simp -implicitDefEqProofs (disch := first | (simp only [ne_eq, Nat.reduceEqDiff, not_false_eq_true, Nat.reduceLT]; done) | assumption | (simp only [s_push_next, s_put_next, Nat.beq_refl]; done) | ((try simp only [s_push_next, s_put_next]) <;> omega) | exact s_one_map _ | exact s_one_slice _ _ _ _ _ | (refine (id ?_ : plainDraw _ = true); kernel_rfl) | fail) only [sxL, s_castN, s_cells_one, noOv, callFn, kindOf, kindC, kindB, unA, boxA, loadPtr, nilCheckA, fst1, ofValue, ofScalar, len, intBin, ibin, boolO, guardA, cCond, condV, cRet, cExit, cSkip, resOut, resultA, extractA, tupleO, Nat.reduceEqDiff, Nat.reduceAdd, Nat.reduceSub, Nat.reduceLT, Nat.reduceBEq, reduceCtorEq, Nat.reduceMod, Nat.reduceLeDiff, Int.reduceLT, Int.reduceAdd, Int.reduceEq, Int.reduceToNat, Tryz.f13, ov0, ov2, ov3]
theorem itm_run (n : Nat) (a b c d e f : Int) (h : (1 ≤ a ∧ a ≤ 7) ∧ (0 ≤ d ∧ d ≤ 8)) (H : Heap) :
    (fnsO Tryz.tab ov3 (n+3)).call 14 [szV a b c d e f] H = some [(.int .i64 (itmG a d), (H.push (szB 25 a b c d e f)).push (szB 25 a b c d e f))] := by
  rw [s_callO, s_callB, get14]
  unfold szV szB itmG
  have hw : awrap .i64 (1032 + (4 * a + 6)) = 1032 + (4 * a + 6) := s_wrap (by omega) (by omega)
  simp -implicitDefEqProofs (disch := first | (simp only [ne_eq, Nat.reduceEqDiff, not_false_eq_true, Nat.reduceLT]; done) | assumption | (simp only [s_push_next, s_put_next, Nat.beq_refl]; done) | ((try simp only [s_push_next, s_put_next]) <;> omega) | exact s_one_map _ | exact s_one_slice _ _ _ _ _ | (refine (id ?_ : plainDraw _ = true); kernel_rfl) | fail) only [sxL, s_castN, s_cells_one, noOv, callFn, kindOf, kindC, kindB, unA, boxA, loadPtr, nilCheckA, fst1, ofValue, ofScalar, len, intBin, ibin, boolO, guardA, cCond, condV, cRet, cExit, cSkip, resOut, resultA, extractA, tupleO, Nat.reduceEqDiff, Nat.reduceAdd, Nat.reduceSub, Nat.reduceLT, Nat.reduceBEq, reduceCtorEq, Nat.reduceMod, Nat.reduceLeDiff, Int.reduceLT, Int.reduceAdd, Int.reduceEq, Int.reduceToNat, Tryz.f14, h, ov0, ov2, ov3, s_varTrue ia25 sz25, cells6, ovSz_eq itemG 1 a b c d e f _ h, itemG, hw]
  rfl
end Go.Proofs
