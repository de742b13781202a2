/-
  Check, Longest, Elect and Commit, walked.
-/
import Derived.Test.YtlmfonchlniloaaGreatDoorSxH
import Derived.Test.YtlmfonchlniloaaGreatDoorSxTab
set_option linter.unusedSimpArgs false
set_option linter.unusedVariables false
namespace Go.Proofs
open Go.Sx
set_option maxRecDepth 100000
theorem get3 : Tryz.tab.funcs.get 3 = some Tryz.f3 := by kernel_rfl
theorem ia24 : Tryz.tab.isAgg 24 = some true := by kernel_rfl
theorem sz24 : Tryz.tab.size 24 = some 6 := by kernel_rfl
theorem fa24_0 (b o : Nat) : fieldAddrA Tryz.tab 24 0 (.ptr b o) = some (.ptr b (o + 0)) := by kernel_rfl
theorem ia3 : Tryz.tab.isAgg 3 = some false := by kernel_rfl
theorem sz3 : Tryz.tab.size 3 = some 1 := by kernel_rfl
theorem fa24_1 (b o : Nat) : fieldAddrA Tryz.tab 24 1 (.ptr b o) = some (.ptr b (o + 1)) := by kernel_rfl
theorem fa24_2 (b o : Nat) : fieldAddrA Tryz.tab 24 2 (.ptr b o) = some (.ptr b (o + 2)) := by kernel_rfl
theorem fa24_3 (b o : Nat) : fieldAddrA Tryz.tab 24 3 (.ptr b o) = some (.ptr b (o + 3)) := by kernel_rfl
theorem fa24_4 (b o : Nat) : fieldAddrA Tryz.tab 24 4 (.ptr b o) = some (.ptr b (o + 4)) := by kernel_rfl
theorem fa24_5 (b o : Nat) : fieldAddrA Tryz.tab 24 5 (.ptr b o) = some (.ptr b (o + 5)) := by kernel_rfl
theorem ud26 : Tryz.tab.und 26 = some (.slice 25) := by kernel_rfl
theorem ia25 : Tryz.tab.isAgg 25 = some false := by kernel_rfl
theorem sz25 : Tryz.tab.size 25 = some 1 := by kernel_rfl
theorem ud38 : Tryz.tab.und 38 = some (.slice 3) := by kernel_rfl
theorem ud43 : Tryz.tab.und 43 = some (.slice 120) := by kernel_rfl
theorem ia120 : Tryz.tab.isAgg 120 = some true := by kernel_rfl
theorem sz120 : Tryz.tab.size 120 = some 10 := by kernel_rfl
theorem ud55 : Tryz.tab.und 55 = some (.slice 29) := by kernel_rfl
theorem ia29 : Tryz.tab.isAgg 29 = some false := by kernel_rfl
theorem sz29 : Tryz.tab.size 29 = some 1 := by kernel_rfl
theorem get4 : Tryz.tab.funcs.get 4 = some Tryz.f4 := by kernel_rfl
theorem get5 : Tryz.tab.funcs.get 5 = some Tryz.f5 := by kernel_rfl
theorem get6 : Tryz.tab.funcs.get 6 = some Tryz.f6 := by kernel_rfl
theorem get7 : Tryz.tab.funcs.get 7 = some Tryz.f7 := by kernel_rfl
theorem get10 : Tryz.tab.funcs.get 10 = some Tryz.f10 := by kernel_rfl
theorem get11 : Tryz.tab.funcs.get 11 = some Tryz.f11 := by kernel_rfl
theorem ia80 : Tryz.tab.isAgg 80 = some true := by kernel_rfl
theorem sz80 : Tryz.tab.size 80 = some 56 := by kernel_rfl
theorem get12 : Tryz.tab.funcs.get 12 = some Tryz.f12 := by kernel_rfl
theorem ud89 : Tryz.tab.und 89 = some (.slice 102) := by kernel_rfl
theorem ia102 : Tryz.tab.isAgg 102 = some true := by kernel_rfl
theorem sz102 : Tryz.tab.size 102 = some 24 := by kernel_rfl
theorem ud106 : Tryz.tab.und 106 = some (.slice 117) := by kernel_rfl
theorem ia117 : Tryz.tab.isAgg 117 = some true := by kernel_rfl
theorem sz117 : Tryz.tab.size 117 = some 11 := by kernel_rfl
theorem fa117_1 (b o : Nat) : fieldAddrA Tryz.tab 117 1 (.ptr b o) = some (.ptr b (o + 1)) := by kernel_rfl
theorem ia115 : Tryz.tab.isAgg 115 = some true := by kernel_rfl
theorem sz115 : Tryz.tab.size 115 = some 10 := by kernel_rfl
theorem fa115_0 (b o : Nat) : fieldAddrA Tryz.tab 115 0 (.ptr b o) = some (.ptr b (o + 0)) := by kernel_rfl
theorem fa98_3 (b o : Nat) : fieldAddrA Tryz.tab 98 3 (.ptr b o) = some (.ptr b (o + 3)) := by kernel_rfl
theorem ia96 : Tryz.tab.isAgg 96 = some false := by kernel_rfl
theorem sz96 : Tryz.tab.size 96 = some 1 := by kernel_rfl
theorem ud96 : Tryz.tab.und 96 = some (.slice 262) := by kernel_rfl
theorem ia262 : Tryz.tab.isAgg 262 = some true := by kernel_rfl
theorem sz262 : Tryz.tab.size 262 = some 2 := by kernel_rfl
theorem get14 : Tryz.tab.funcs.get 14 = some Tryz.f14 := by kernel_rfl
theorem get15 : Tryz.tab.funcs.get 15 = some Tryz.f15 := by kernel_rfl
theorem get16 : Tryz.tab.funcs.get 16 = some Tryz.f16 := by kernel_rfl
theorem get17 : Tryz.tab.funcs.get 17 = some Tryz.f17 := by kernel_rfl
theorem get18 : Tryz.tab.funcs.get 18 = some Tryz.f18 := by kernel_rfl
theorem get19 : Tryz.tab.funcs.get 19 = some Tryz.f19 := by kernel_rfl
theorem get28 : Tryz.tab.funcs.get 28 = some Tryz.f28 := by kernel_rfl
theorem get41 : Tryz.tab.funcs.get 41 = some Tryz.f41 := by kernel_rfl
theorem get90 : Tryz.tab.funcs.get 90 = some Tryz.f90 := by kernel_rfl
end Go.Proofs

namespace Go.Proofs
open Go.Sx
set_option maxRecDepth 100000
noncomputable def ov0 : Ov := fun _ _ _ => none
theorem ov0_ok : OvOk Tryz.prog Tryz.tab ov0 := fun _ _ _ _ h => by simp [ov0] at h
def inN (x lo hi : Int) : Bool := decide (lo ≤ x ∧ x ≤ hi)
theorem in_run (n : Nat) (x lo hi : Int) (H : Heap) : (fnsO Tryz.tab ov0 (n+2)).call 28 [.int .i64 x, .int .i64 lo, .int .i64 hi] H = some [(.bool (inN x lo hi), H)] := by
  rw [s_callO, s_callB, get28]
  unfold inN
  by_cases h1 : x < lo <;> by_cases h2 : hi < x
  all_goals (first | (have h3 : ¬ (lo ≤ x ∧ x ≤ hi) := by omega) | (have h3 : lo ≤ x ∧ x ≤ hi := by omega))
  all_goals simp -implicitDefEqProofs (disch := first | (simp only [ne_eq, Nat.reduceEqDiff, not_false_eq_true, Nat.reduceLT]; done) | assumption | (simp only [s_push_next, s_put_next, Nat.beq_refl]; done) | ((try simp only [s_push_next, s_put_next]) <;> omega) | exact s_one_map _ | exact s_one_slice _ _ _ _ _ | (refine (id ?_ : plainDraw _ = true); kernel_rfl) | fail) only [sxL, s_castN, s_cells_one, noOv, callFn, kindOf, kindC, kindB, unA, boxA, loadPtr, nilCheckA, fst1, ofValue, ofScalar, len, intBin, ibin, boolO, guardA, cCond, condV, cRet, cExit, cSkip, resOut, resultA, extractA, tupleO, Nat.reduceEqDiff, Nat.reduceAdd, Nat.reduceSub, Nat.reduceLT, Nat.reduceBEq, reduceCtorEq, Nat.reduceMod, Nat.reduceLeDiff, Int.reduceLT, Int.reduceAdd, Int.reduceEq, Int.reduceToNat, Tryz.f28, h1, h2, h3, ov0, and_self]
noncomputable def ovIn (args : List AV) (H : Heap) : Option (List VH) :=
  match args with
  | [.int .i64 x, .int .i64 lo, .int .i64 hi] => some [(.bool (inN x lo hi), H)]
  | _ => none
theorem ovIn_ok (args : List AV) (H : Heap) (outs : List VH) (h : ovIn args H = some outs) : CallTo Tryz.prog Tryz.tab 28 args H outs := by
  unfold ovIn at h
  split at h
  · simp only [Option.some.injEq] at h; subst h
    exact callTo_run Tryz.tabOk ov0_ok (in_run 0 _ _ _ H)
  · simp at h
noncomputable def ov1 : Ov := addOv ov0 28 ovIn
theorem ov1_ok : OvOk Tryz.prog Tryz.tab ov1 := addOv_ok ov0_ok ovIn_ok
end Go.Proofs

namespace Go.Proofs
open Go.Sx
set_option maxRecDepth 100000
theorem ovIn_eq (x lo hi : Int) (H : Heap) : ovIn [.int .i64 x, .int .i64 lo, .int .i64 hi] H = some [(.bool (inN x lo hi), H)] := rfl
/-- a size -/
abbrev szV (a b c d e f : Int) : AV := .agg [.int .i64 a, .int .i64 b, .int .i64 c, .int .i64 d, .int .i64 e, .int .i64 f]
abbrev szB (t : Nat) (a b c d e f : Int) : ABlk := .cells t true [.int .i64 a, .int .i64 b, .int .i64 c, .int .i64 d, .int .i64 e, .int .i64 f]
def stepsOk (c d : Int) : Bool := inN d 1 8 || (decide (d = 0) && decide (c = 0))
def okS (a b c d e f : Int) : Bool := stepsOk c d && (inN a 1 7 && (inN b 2 8 && (inN c 0 64 && (inN e 0 512 && inN f 1 1000000))))
def chkN (a b c d e f : Int) : Int := if okS a b c d e f then 0 else 2
theorem s_isBool_un (w : Bool) : isBool w (some undefA) = false := by cases w <;> rfl
theorem check_run (n : Nat) (a b c d e f : Int) (H : Heap) : (fnsO Tryz.tab ov1 (n+3)).call 10 [szV a b c d e f] H = some [(.int .i64 (chkN a b c d e f), H.push (szB 24 a b c d e f))] := by
  rw [s_callO, s_callB, get10]
  unfold szV szB chkN okS stepsOk
  cases h1 : inN d 1 8
  · by_cases h7 : d = 0
    · subst h7
      by_cases h8 : c = 0
      · subst h8
        cases h2 : inN a 1 7
        · simp -implicitDefEqProofs (disch := first | (simp only [ne_eq, Nat.reduceEqDiff, not_false_eq_true, Nat.reduceLT]; done) | assumption | (simp only [s_push_next, s_put_next, Nat.beq_refl]; done) | ((try simp only [s_push_next, s_put_next]) <;> omega) | exact s_one_map _ | exact s_one_slice _ _ _ _ _ | (refine (id ?_ : plainDraw _ = true); kernel_rfl) | fail) only [sxL, s_castN, s_cells_one, noOv, callFn, kindOf, kindC, kindB, unA, boxA, loadPtr, nilCheckA, fst1, ofValue, ofScalar, len, intBin, ibin, boolO, guardA, cCond, condV, cRet, cExit, cSkip, resOut, resultA, extractA, tupleO, Nat.reduceEqDiff, Nat.reduceAdd, Nat.reduceSub, Nat.reduceLT, Nat.reduceBEq, reduceCtorEq, Nat.reduceMod, Nat.reduceLeDiff, Int.reduceLT, Int.reduceAdd, Int.reduceEq, Int.reduceToNat, Tryz.f10, h1, h2, ov0, ov1, fa24_0, fa24_1, fa24_2, fa24_3, fa24_4, fa24_5, s_varFalse ia3, ovIn_eq, s_isBool_un, Bool.or_true, Bool.or_false, Bool.true_or, Bool.false_or]
        · skip
          cases h3 : inN b 2 8
          · simp -implicitDefEqProofs (disch := first | (simp only [ne_eq, Nat.reduceEqDiff, not_false_eq_true, Nat.reduceLT]; done) | assumption | (simp only [s_push_next, s_put_next, Nat.beq_refl]; done) | ((try simp only [s_push_next, s_put_next]) <;> omega) | exact s_one_map _ | exact s_one_slice _ _ _ _ _ | (refine (id ?_ : plainDraw _ = true); kernel_rfl) | fail) only [sxL, s_castN, s_cells_one, noOv, callFn, kindOf, kindC, kindB, unA, boxA, loadPtr, nilCheckA, fst1, ofValue, ofScalar, len, intBin, ibin, boolO, guardA, cCond, condV, cRet, cExit, cSkip, resOut, resultA, extractA, tupleO, Nat.reduceEqDiff, Nat.reduceAdd, Nat.reduceSub, Nat.reduceLT, Nat.reduceBEq, reduceCtorEq, Nat.reduceMod, Nat.reduceLeDiff, Int.reduceLT, Int.reduceAdd, Int.reduceEq, Int.reduceToNat, Tryz.f10, h1, h2, h3, ov0, ov1, fa24_0, fa24_1, fa24_2, fa24_3, fa24_4, fa24_5, s_varFalse ia3, ovIn_eq, s_isBool_un, Bool.or_true, Bool.or_false, Bool.true_or, Bool.false_or]
          · skip
            cases h4 : inN 0 0 64
            · simp -implicitDefEqProofs (disch := first | (simp only [ne_eq, Nat.reduceEqDiff, not_false_eq_true, Nat.reduceLT]; done) | assumption | (simp only [s_push_next, s_put_next, Nat.beq_refl]; done) | ((try simp only [s_push_next, s_put_next]) <;> omega) | exact s_one_map _ | exact s_one_slice _ _ _ _ _ | (refine (id ?_ : plainDraw _ = true); kernel_rfl) | fail) only [sxL, s_castN, s_cells_one, noOv, callFn, kindOf, kindC, kindB, unA, boxA, loadPtr, nilCheckA, fst1, ofValue, ofScalar, len, intBin, ibin, boolO, guardA, cCond, condV, cRet, cExit, cSkip, resOut, resultA, extractA, tupleO, Nat.reduceEqDiff, Nat.reduceAdd, Nat.reduceSub, Nat.reduceLT, Nat.reduceBEq, reduceCtorEq, Nat.reduceMod, Nat.reduceLeDiff, Int.reduceLT, Int.reduceAdd, Int.reduceEq, Int.reduceToNat, Tryz.f10, h1, h2, h3, h4, ov0, ov1, fa24_0, fa24_1, fa24_2, fa24_3, fa24_4, fa24_5, s_varFalse ia3, ovIn_eq, s_isBool_un, Bool.or_true, Bool.or_false, Bool.true_or, Bool.false_or]
            · skip
              cases h5 : inN e 0 512
              · simp -implicitDefEqProofs (disch := first | (simp only [ne_eq, Nat.reduceEqDiff, not_false_eq_true, Nat.reduceLT]; done) | assumption | (simp only [s_push_next, s_put_next, Nat.beq_refl]; done) | ((try simp only [s_push_next, s_put_next]) <;> omega) | exact s_one_map _ | exact s_one_slice _ _ _ _ _ | (refine (id ?_ : plainDraw _ = true); kernel_rfl) | fail) only [sxL, s_castN, s_cells_one, noOv, callFn, kindOf, kindC, kindB, unA, boxA, loadPtr, nilCheckA, fst1, ofValue, ofScalar, len, intBin, ibin, boolO, guardA, cCond, condV, cRet, cExit, cSkip, resOut, resultA, extractA, tupleO, Nat.reduceEqDiff, Nat.reduceAdd, Nat.reduceSub, Nat.reduceLT, Nat.reduceBEq, reduceCtorEq, Nat.reduceMod, Nat.reduceLeDiff, Int.reduceLT, Int.reduceAdd, Int.reduceEq, Int.reduceToNat, Tryz.f10, h1, h2, h3, h4, h5, ov0, ov1, fa24_0, fa24_1, fa24_2, fa24_3, fa24_4, fa24_5, s_varFalse ia3, ovIn_eq, s_isBool_un, Bool.or_true, Bool.or_false, Bool.true_or, Bool.false_or]
              · skip
                cases h6 : inN f 1 1000000
                · simp -implicitDefEqProofs (disch := first | (simp only [ne_eq, Nat.reduceEqDiff, not_false_eq_true, Nat.reduceLT]; done) | assumption | (simp only [s_push_next, s_put_next, Nat.beq_refl]; done) | ((try simp only [s_push_next, s_put_next]) <;> omega) | exact s_one_map _ | exact s_one_slice _ _ _ _ _ | (refine (id ?_ : plainDraw _ = true); kernel_rfl) | fail) only [sxL, s_castN, s_cells_one, noOv, callFn, kindOf, kindC, kindB, unA, boxA, loadPtr, nilCheckA, fst1, ofValue, ofScalar, len, intBin, ibin, boolO, guardA, cCond, condV, cRet, cExit, cSkip, resOut, resultA, extractA, tupleO, Nat.reduceEqDiff, Nat.reduceAdd, Nat.reduceSub, Nat.reduceLT, Nat.reduceBEq, reduceCtorEq, Nat.reduceMod, Nat.reduceLeDiff, Int.reduceLT, Int.reduceAdd, Int.reduceEq, Int.reduceToNat, Tryz.f10, h1, h2, h3, h4, h5, h6, ov0, ov1, fa24_0, fa24_1, fa24_2, fa24_3, fa24_4, fa24_5, s_varFalse ia3, ovIn_eq, s_isBool_un, Bool.or_true, Bool.or_false, Bool.true_or, Bool.false_or]
                · simp -implicitDefEqProofs (disch := first | (simp only [ne_eq, Nat.reduceEqDiff, not_false_eq_true, Nat.reduceLT]; done) | assumption | (simp only [s_push_next, s_put_next, Nat.beq_refl]; done) | ((try simp only [s_push_next, s_put_next]) <;> omega) | exact s_one_map _ | exact s_one_slice _ _ _ _ _ | (refine (id ?_ : plainDraw _ = true); kernel_rfl) | fail) only [sxL, s_castN, s_cells_one, noOv, callFn, kindOf, kindC, kindB, unA, boxA, loadPtr, nilCheckA, fst1, ofValue, ofScalar, len, intBin, ibin, boolO, guardA, cCond, condV, cRet, cExit, cSkip, resOut, resultA, extractA, tupleO, Nat.reduceEqDiff, Nat.reduceAdd, Nat.reduceSub, Nat.reduceLT, Nat.reduceBEq, reduceCtorEq, Nat.reduceMod, Nat.reduceLeDiff, Int.reduceLT, Int.reduceAdd, Int.reduceEq, Int.reduceToNat, Tryz.f10, h1, h2, h3, h4, h5, h6, ov0, ov1, fa24_0, fa24_1, fa24_2, fa24_3, fa24_4, fa24_5, s_varFalse ia3, ovIn_eq, s_isBool_un, Bool.or_true, Bool.or_false, Bool.true_or, Bool.false_or]
      · simp -implicitDefEqProofs (disch := first | (simp only [ne_eq, Nat.reduceEqDiff, not_false_eq_true, Nat.reduceLT]; done) | assumption | (simp only [s_push_next, s_put_next, Nat.beq_refl]; done) | ((try simp only [s_push_next, s_put_next]) <;> omega) | exact s_one_map _ | exact s_one_slice _ _ _ _ _ | (refine (id ?_ : plainDraw _ = true); kernel_rfl) | fail) only [sxL, s_castN, s_cells_one, noOv, callFn, kindOf, kindC, kindB, unA, boxA, loadPtr, nilCheckA, fst1, ofValue, ofScalar, len, intBin, ibin, boolO, guardA, cCond, condV, cRet, cExit, cSkip, resOut, resultA, extractA, tupleO, Nat.reduceEqDiff, Nat.reduceAdd, Nat.reduceSub, Nat.reduceLT, Nat.reduceBEq, reduceCtorEq, Nat.reduceMod, Nat.reduceLeDiff, Int.reduceLT, Int.reduceAdd, Int.reduceEq, Int.reduceToNat, Tryz.f10, h1, h8, ov0, ov1, fa24_0, fa24_1, fa24_2, fa24_3, fa24_4, fa24_5, s_varFalse ia3, ovIn_eq, s_isBool_un, Bool.or_true, Bool.or_false, Bool.true_or, Bool.false_or]
    · simp -implicitDefEqProofs (disch := first | (simp only [ne_eq, Nat.reduceEqDiff, not_false_eq_true, Nat.reduceLT]; done) | assumption | (simp only [s_push_next, s_put_next, Nat.beq_refl]; done) | ((try simp only [s_push_next, s_put_next]) <;> omega) | exact s_one_map _ | exact s_one_slice _ _ _ _ _ | (refine (id ?_ : plainDraw _ = true); kernel_rfl) | fail) only [sxL, s_castN, s_cells_one, noOv, callFn, kindOf, kindC, kindB, unA, boxA, loadPtr, nilCheckA, fst1, ofValue, ofScalar, len, intBin, ibin, boolO, guardA, cCond, condV, cRet, cExit, cSkip, resOut, resultA, extractA, tupleO, Nat.reduceEqDiff, Nat.reduceAdd, Nat.reduceSub, Nat.reduceLT, Nat.reduceBEq, reduceCtorEq, Nat.reduceMod, Nat.reduceLeDiff, Int.reduceLT, Int.reduceAdd, Int.reduceEq, Int.reduceToNat, Tryz.f10, h1, h7, ov0, ov1, fa24_0, fa24_1, fa24_2, fa24_3, fa24_4, fa24_5, s_varFalse ia3, ovIn_eq, s_isBool_un, Bool.or_true, Bool.or_false, Bool.true_or, Bool.false_or]
  · skip
    cases h2 : inN a 1 7
    · simp -implicitDefEqProofs (disch := first | (simp only [ne_eq, Nat.reduceEqDiff, not_false_eq_true, Nat.reduceLT]; done) | assumption | (simp only [s_push_next, s_put_next, Nat.beq_refl]; done) | ((try simp only [s_push_next, s_put_next]) <;> omega) | exact s_one_map _ | exact s_one_slice _ _ _ _ _ | (refine (id ?_ : plainDraw _ = true); kernel_rfl) | fail) only [sxL, s_castN, s_cells_one, noOv, callFn, kindOf, kindC, kindB, unA, boxA, loadPtr, nilCheckA, fst1, ofValue, ofScalar, len, intBin, ibin, boolO, guardA, cCond, condV, cRet, cExit, cSkip, resOut, resultA, extractA, tupleO, Nat.reduceEqDiff, Nat.reduceAdd, Nat.reduceSub, Nat.reduceLT, Nat.reduceBEq, reduceCtorEq, Nat.reduceMod, Nat.reduceLeDiff, Int.reduceLT, Int.reduceAdd, Int.reduceEq, Int.reduceToNat, Tryz.f10, h1, h2, ov0, ov1, fa24_0, fa24_1, fa24_2, fa24_3, fa24_4, fa24_5, s_varFalse ia3, ovIn_eq, s_isBool_un, Bool.or_true, Bool.or_false, Bool.true_or, Bool.false_or]
    · skip
      cases h3 : inN b 2 8
      · simp -implicitDefEqProofs (disch := first | (simp only [ne_eq, Nat.reduceEqDiff, not_false_eq_true, Nat.reduceLT]; done) | assumption | (simp only [s_push_next, s_put_next, Nat.beq_refl]; done) | ((try simp only [s_push_next, s_put_next]) <;> omega) | exact s_one_map _ | exact s_one_slice _ _ _ _ _ | (refine (id ?_ : plainDraw _ = true); kernel_rfl) | fail) only [sxL, s_castN, s_cells_one, noOv, callFn, kindOf, kindC, kindB, unA, boxA, loadPtr, nilCheckA, fst1, ofValue, ofScalar, len, intBin, ibin, boolO, guardA, cCond, condV, cRet, cExit, cSkip, resOut, resultA, extractA, tupleO, Nat.reduceEqDiff, Nat.reduceAdd, Nat.reduceSub, Nat.reduceLT, Nat.reduceBEq, reduceCtorEq, Nat.reduceMod, Nat.reduceLeDiff, Int.reduceLT, Int.reduceAdd, Int.reduceEq, Int.reduceToNat, Tryz.f10, h1, h2, h3, ov0, ov1, fa24_0, fa24_1, fa24_2, fa24_3, fa24_4, fa24_5, s_varFalse ia3, ovIn_eq, s_isBool_un, Bool.or_true, Bool.or_false, Bool.true_or, Bool.false_or]
      · skip
        cases h4 : inN c 0 64
        · simp -implicitDefEqProofs (disch := first | (simp only [ne_eq, Nat.reduceEqDiff, not_false_eq_true, Nat.reduceLT]; done) | assumption | (simp only [s_push_next, s_put_next, Nat.beq_refl]; done) | ((try simp only [s_push_next, s_put_next]) <;> omega) | exact s_one_map _ | exact s_one_slice _ _ _ _ _ | (refine (id ?_ : plainDraw _ = true); kernel_rfl) | fail) only [sxL, s_castN, s_cells_one, noOv, callFn, kindOf, kindC, kindB, unA, boxA, loadPtr, nilCheckA, fst1, ofValue, ofScalar, len, intBin, ibin, boolO, guardA, cCond, condV, cRet, cExit, cSkip, resOut, resultA, extractA, tupleO, Nat.reduceEqDiff, Nat.reduceAdd, Nat.reduceSub, Nat.reduceLT, Nat.reduceBEq, reduceCtorEq, Nat.reduceMod, Nat.reduceLeDiff, Int.reduceLT, Int.reduceAdd, Int.reduceEq, Int.reduceToNat, Tryz.f10, h1, h2, h3, h4, ov0, ov1, fa24_0, fa24_1, fa24_2, fa24_3, fa24_4, fa24_5, s_varFalse ia3, ovIn_eq, s_isBool_un, Bool.or_true, Bool.or_false, Bool.true_or, Bool.false_or]
        · skip
          cases h5 : inN e 0 512
          · simp -implicitDefEqProofs (disch := first | (simp only [ne_eq, Nat.reduceEqDiff, not_false_eq_true, Nat.reduceLT]; done) | assumption | (simp only [s_push_next, s_put_next, Nat.beq_refl]; done) | ((try simp only [s_push_next, s_put_next]) <;> omega) | exact s_one_map _ | exact s_one_slice _ _ _ _ _ | (refine (id ?_ : plainDraw _ = true); kernel_rfl) | fail) only [sxL, s_castN, s_cells_one, noOv, callFn, kindOf, kindC, kindB, unA, boxA, loadPtr, nilCheckA, fst1, ofValue, ofScalar, len, intBin, ibin, boolO, guardA, cCond, condV, cRet, cExit, cSkip, resOut, resultA, extractA, tupleO, Nat.reduceEqDiff, Nat.reduceAdd, Nat.reduceSub, Nat.reduceLT, Nat.reduceBEq, reduceCtorEq, Nat.reduceMod, Nat.reduceLeDiff, Int.reduceLT, Int.reduceAdd, Int.reduceEq, Int.reduceToNat, Tryz.f10, h1, h2, h3, h4, h5, ov0, ov1, fa24_0, fa24_1, fa24_2, fa24_3, fa24_4, fa24_5, s_varFalse ia3, ovIn_eq, s_isBool_un, Bool.or_true, Bool.or_false, Bool.true_or, Bool.false_or]
          · skip
            cases h6 : inN f 1 1000000
            · simp -implicitDefEqProofs (disch := first | (simp only [ne_eq, Nat.reduceEqDiff, not_false_eq_true, Nat.reduceLT]; done) | assumption | (simp only [s_push_next, s_put_next, Nat.beq_refl]; done) | ((try simp only [s_push_next, s_put_next]) <;> omega) | exact s_one_map _ | exact s_one_slice _ _ _ _ _ | (refine (id ?_ : plainDraw _ = true); kernel_rfl) | fail) only [sxL, s_castN, s_cells_one, noOv, callFn, kindOf, kindC, kindB, unA, boxA, loadPtr, nilCheckA, fst1, ofValue, ofScalar, len, intBin, ibin, boolO, guardA, cCond, condV, cRet, cExit, cSkip, resOut, resultA, extractA, tupleO, Nat.reduceEqDiff, Nat.reduceAdd, Nat.reduceSub, Nat.reduceLT, Nat.reduceBEq, reduceCtorEq, Nat.reduceMod, Nat.reduceLeDiff, Int.reduceLT, Int.reduceAdd, Int.reduceEq, Int.reduceToNat, Tryz.f10, h1, h2, h3, h4, h5, h6, ov0, ov1, fa24_0, fa24_1, fa24_2, fa24_3, fa24_4, fa24_5, s_varFalse ia3, ovIn_eq, s_isBool_un, Bool.or_true, Bool.or_false, Bool.true_or, Bool.false_or]
            · simp -implicitDefEqProofs (disch := first | (simp only [ne_eq, Nat.reduceEqDiff, not_false_eq_true, Nat.reduceLT]; done) | assumption | (simp only [s_push_next, s_put_next, Nat.beq_refl]; done) | ((try simp only [s_push_next, s_put_next]) <;> omega) | exact s_one_map _ | exact s_one_slice _ _ _ _ _ | (refine (id ?_ : plainDraw _ = true); kernel_rfl) | fail) only [sxL, s_castN, s_cells_one, noOv, callFn, kindOf, kindC, kindB, unA, boxA, loadPtr, nilCheckA, fst1, ofValue, ofScalar, len, intBin, ibin, boolO, guardA, cCond, condV, cRet, cExit, cSkip, resOut, resultA, extractA, tupleO, Nat.reduceEqDiff, Nat.reduceAdd, Nat.reduceSub, Nat.reduceLT, Nat.reduceBEq, reduceCtorEq, Nat.reduceMod, Nat.reduceLeDiff, Int.reduceLT, Int.reduceAdd, Int.reduceEq, Int.reduceToNat, Tryz.f10, h1, h2, h3, h4, h5, h6, ov0, ov1, fa24_0, fa24_1, fa24_2, fa24_3, fa24_4, fa24_5, s_varFalse ia3, ovIn_eq, s_isBool_un, Bool.or_true, Bool.or_false, Bool.true_or, Bool.false_or]
end Go.Proofs

namespace Go.Proofs
open Go.Sx
set_option maxRecDepth 100000
noncomputable def ovChk (t : Nat) (args : List AV) (H : Heap) : Option (List VH) :=
  match args with
  | [.agg [.int .i64 a, .int .i64 b, .int .i64 c, .int .i64 d, .int .i64 e, .int .i64 f]] => some [(.int .i64 (chkN a b c d e f), H.push (szB t a b c d e f))]
  | _ => none
theorem ovChk_eq (t : Nat) (a b c d e f : Int) (H : Heap) : ovChk t [.agg [.int .i64 a, .int .i64 b, .int .i64 c, .int .i64 d, .int .i64 e, .int .i64 f]] H = some [(.int .i64 (chkN a b c d e f), H.push (szB t a b c d e f))] := rfl
theorem ovChk_ok (args : List AV) (H : Heap) (outs : List VH) (h : ovChk 24 args H = some outs) : CallTo Tryz.prog Tryz.tab 10 args H outs := by
  unfold ovChk at h
  split at h
  · simp only [Option.some.injEq] at h; subst h
    exact callTo_run Tryz.tabOk ov1_ok (check_run 0 _ _ _ _ _ _ H)
  · simp at h
/-- how long the longest wait is: of the program and of the document, at each number of nodes that is allowed -/
noncomputable def longN (x : Int) : Int := 6 + 4 * (x - 1)
noncomputable def ovLong (args : List AV) (H : Heap) : Option (List VH) :=
  match args with
  | [.int .i64 x] => if 1 ≤ x ∧ x ≤ 7 then some [(.tuple [.int .i64 (longN x), .int .i64 0], H)] else none
  | _ => none
theorem ovLong_eq (x : Int) (H : Heap) (h : 1 ≤ x ∧ x ≤ 7) : ovLong [.int .i64 x] H = some [(.tuple [.int .i64 (longN x), .int .i64 0], H)] := if_pos h
theorem seven {p : Int → Prop} (h1 : p 1) (h2 : p 2) (h3 : p 3) (h4 : p 4) (h5 : p 5) (h6 : p 6) (h7 : p 7) (x : Int) (h : 1 ≤ x ∧ x ≤ 7) : p x := by
  have : x = 1 ∨ x = 2 ∨ x = 3 ∨ x = 4 ∨ x = 5 ∨ x = 6 ∨ x = 7 := by omega
  rcases this with rfl | rfl | rfl | rfl | rfl | rfl | rfl <;> assumption
theorem long_run (H : Heap) : ∀ x : Int, 1 ≤ x ∧ x ≤ 7 → (fnsO Tryz.tab ov0 40).call 41 [.int .i64 x] H = some [(.tuple [.int .i64 (longN x), .int .i64 0], H)] :=
  seven (by kernel_rfl) (by kernel_rfl) (by kernel_rfl) (by kernel_rfl) (by kernel_rfl) (by kernel_rfl) (by kernel_rfl)
theorem ovLong_ok (args : List AV) (H : Heap) (outs : List VH) (h : ovLong args H = some outs) : CallTo Tryz.prog Tryz.tab 41 args H outs := by
  unfold ovLong at h
  split at h
  · split at h
    · simp only [Option.some.injEq] at h; subst h
      exact callTo_run Tryz.tabOk ov0_ok (long_run H _ (by assumption))
    · simp at h
  · simp at h
noncomputable def ov2 : Ov := addOv (addOv ov0 10 (ovChk 24)) 41 ovLong
theorem ov2_ok : OvOk Tryz.prog Tryz.tab ov2 := addOv_ok (addOv_ok ov0_ok ovChk_ok) ovLong_ok
end Go.Proofs

namespace Go.Proofs
open Go.Sx
set_option maxRecDepth 100000
theorem wrap_mul {x y : Int} (h1 : 0 ≤ x ∧ x ≤ 100000) (h2 : 0 ≤ y ∧ y ≤ 1000000) : awrap .i64 (x * y) = x * y := by
  have a1 : 0 ≤ x * y := Int.mul_nonneg h1.1 h2.1
  have a2 : x * y ≤ 100000 * 1000000 := Int.mul_le_mul h1.2 h2.2 h2.1 (by omega)
  exact s_wrap (by omega) (by omega)
theorem ok_parts {a b c d e f : Int} (h : okS a b c d e f = true) : (1 ≤ a ∧ a ≤ 7) ∧ (0 ≤ d ∧ d ≤ 8) ∧ (1 ≤ f ∧ f ≤ 1000000) := by
  simp only [okS, stepsOk, inN, Bool.and_eq_true, Bool.or_eq_true, decide_eq_true_eq] at h
  omega
theorem elected_run (n : Nat) (a b c d e f : Int) (h : 1 ≤ a ∧ a ≤ 7) (H : Heap) : (fnsO Tryz.tab ov2 (n+3)).call 15 [szV a b c d e f] H = some [(.int .i64 (longN a + 3), H.push (szB 24 a b c d e f))] := by
  rw [s_callO, s_callB, get15]
  unfold szV szB
  have hw : awrap .i64 (longN a + 3) = longN a + 3 := s_wrap (by unfold longN; omega) (by unfold longN; omega)
  simp -implicitDefEqProofs (disch := first | (simp only [ne_eq, Nat.reduceEqDiff, not_false_eq_true, Nat.reduceLT]; done) | assumption | (simp only [s_push_next, s_put_next, Nat.beq_refl]; done) | ((try simp only [s_push_next, s_put_next]) <;> omega) | exact s_one_map _ | exact s_one_slice _ _ _ _ _ | (refine (id ?_ : plainDraw _ = true); kernel_rfl) | fail) only [sxL, s_castN, s_cells_one, noOv, callFn, kindOf, kindC, kindB, unA, boxA, loadPtr, nilCheckA, fst1, ofValue, ofScalar, len, intBin, ibin, boolO, guardA, cCond, condV, cRet, cExit, cSkip, resOut, resultA, extractA, tupleO, Nat.reduceEqDiff, Nat.reduceAdd, Nat.reduceSub, Nat.reduceLT, Nat.reduceBEq, reduceCtorEq, Nat.reduceMod, Nat.reduceLeDiff, Int.reduceLT, Int.reduceAdd, Int.reduceEq, Int.reduceToNat, Tryz.f15, h, ov0, ov2, fa24_0, s_varFalse ia3, ovLong_eq a _ h, hw]
theorem item_run (n : Nat) (a b c d e f : Int) (h : 1 ≤ a ∧ a ≤ 7) (H : Heap) : (fnsO Tryz.tab ov2 (n+3)).call 18 [szV a b c d e f] H = some [(.int .i64 (4 * a + 6), H.push (szB 24 a b c d e f))] := by
  rw [s_callO, s_callB, get18]
  unfold szV szB
  have hw : awrap .i64 (4 * a) = 4 * a := s_wrap (by omega) (by omega)
  have hw2 : awrap .i64 (4 * a + 6) = 4 * a + 6 := s_wrap (by omega) (by omega)
  simp -implicitDefEqProofs (disch := first | (simp only [ne_eq, Nat.reduceEqDiff, not_false_eq_true, Nat.reduceLT]; done) | assumption | (simp only [s_push_next, s_put_next, Nat.beq_refl]; done) | ((try simp only [s_push_next, s_put_next]) <;> omega) | exact s_one_map _ | exact s_one_slice _ _ _ _ _ | (refine (id ?_ : plainDraw _ = true); kernel_rfl) | fail) only [sxL, s_castN, s_cells_one, noOv, callFn, kindOf, kindC, kindB, unA, boxA, loadPtr, nilCheckA, fst1, ofValue, ofScalar, len, intBin, ibin, boolO, guardA, cCond, condV, cRet, cExit, cSkip, resOut, resultA, extractA, tupleO, Nat.reduceEqDiff, Nat.reduceAdd, Nat.reduceSub, Nat.reduceLT, Nat.reduceBEq, reduceCtorEq, Nat.reduceMod, Nat.reduceLeDiff, Int.reduceLT, Int.reduceAdd, Int.reduceEq, Int.reduceToNat, Tryz.f18, h, ov0, ov2, fa24_0, s_varFalse ia3, hw, hw2]
end Go.Proofs

namespace Go.Proofs
open Go.Sx
set_option maxRecDepth 100000
theorem cells6 (t : Nat) (a b c d e f : Int) : Sx.cellsIn (some (.cells t true [.int .i64 a, .int .i64 b, .int .i64 c, .int .i64 d, .int .i64 e, .int .i64 f])) 0 6 =
    some [.int .i64 a, .int .i64 b, .int .i64 c, .int .i64 d, .int .i64 e, .int .i64 f] := by rw [s_cellsIn]; rfl
/-- a function of a size that gives a number where the nodes are from 1 to 7, and puts the size away k times -/
noncomputable def ovSz (g : Int → Int → Int) (k : Nat) (args : List AV) (H : Heap) : Option (List VH) :=
  match args with
  | [.agg [.int .i64 a, .int .i64 b, .int .i64 c, .int .i64 d, .int .i64 e, .int .i64 f]] =>
    if (1 ≤ a ∧ a ≤ 7) ∧ (0 ≤ d ∧ d ≤ 8) then some [(.int .i64 (g a d), Nat.rec H (fun _ H => H.push (szB 24 a b c d e f)) k)] else none
  | _ => none
theorem ovSz_eq (g : Int → Int → Int) (k : Nat) (a b c d e f : Int) (H : Heap) (h : (1 ≤ a ∧ a ≤ 7) ∧ (0 ≤ d ∧ d ≤ 8)) :
    ovSz g k [.agg [.int .i64 a, .int .i64 b, .int .i64 c, .int .i64 d, .int .i64 e, .int .i64 f]] H = some [(.int .i64 (g a d), Nat.rec H (fun _ H => H.push (szB 24 a b c d e f)) k)] := if_pos h
theorem ovSz_ok {ov : Ov} (ho : OvOk Tryz.prog Tryz.tab ov) {g : Int → Int → Int} {k fn n : Nat}
    (hr : ∀ a b c d e f H, (1 ≤ a ∧ a ≤ 7) ∧ (0 ≤ d ∧ d ≤ 8) → (fnsO Tryz.tab ov (n+3)).call fn [szV a b c d e f] H = some [(.int .i64 (g a d), Nat.rec H (fun _ H => H.push (szB 24 a b c d e f)) k)])
    (args : List AV) (H : Heap) (outs : List VH) (h : ovSz g k args H = some outs) : CallTo Tryz.prog Tryz.tab fn args H outs := by
  unfold ovSz at h
  split at h
  · split at h
    · simp only [Option.some.injEq] at h; subst h
      exact callTo_run Tryz.tabOk ho (hr _ _ _ _ _ _ H (by assumption))
    · simp at h
  · simp at h
noncomputable def electG (a _d : Int) : Int := longN a + 3
noncomputable def itemG (a _d : Int) : Int := 4 * a + 6
noncomputable def ov3 : Ov := addOv (addOv ov2 15 (ovSz electG 1)) 18 (ovSz itemG 1)
theorem ov3_ok : OvOk Tryz.prog Tryz.tab ov3 :=
  addOv_ok (addOv_ok ov2_ok (ovSz_ok (n := 0) ov2_ok fun a b c d e f H h => elected_run 0 a b c d e f h.1 H)) (ovSz_ok (n := 0) ov2_ok fun a b c d e f H h => item_run 0 a b c d e f h.1 H)
noncomputable def commG (_a _d : Int) : Int := 1035
noncomputable def itmG (a _d : Int) : Int := 1032 + (4 * a + 6)
noncomputable def bndG (a d : Int) : Int := longN a + 3 + 1032 + 4 + 2 * d * (4 * a + 6)
theorem comm_run (n : Nat) (a b c d e f : Int) (H : Heap) : (fnsO Tryz.tab ov3 (n+3)).call 16 [szV a b c d e f] H = some [(.int .i64 (commG a d), H.push (szB 24 a b c d e f))] := by
  rw [s_callO, s_callB, get16]
  unfold szV szB commG
  simp -implicitDefEqProofs (disch := first | (simp only [ne_eq, Nat.reduceEqDiff, not_false_eq_true, Nat.reduceLT]; done) | assumption | (simp only [s_push_next, s_put_next, Nat.beq_refl]; done) | ((try simp only [s_push_next, s_put_next]) <;> omega) | exact s_one_map _ | exact s_one_slice _ _ _ _ _ | (refine (id ?_ : plainDraw _ = true); kernel_rfl) | fail) only [sxL, s_castN, s_cells_one, noOv, callFn, kindOf, kindC, kindB, unA, boxA, loadPtr, nilCheckA, fst1, ofValue, ofScalar, len, intBin, ibin, boolO, guardA, cCond, condV, cRet, cExit, cSkip, resOut, resultA, extractA, tupleO, Nat.reduceEqDiff, Nat.reduceAdd, Nat.reduceSub, Nat.reduceLT, Nat.reduceBEq, reduceCtorEq, Nat.reduceMod, Nat.reduceLeDiff, Int.reduceLT, Int.reduceAdd, Int.reduceEq, Int.reduceToNat, Tryz.f16, ov0, ov2, ov3]
theorem itm_run (n : Nat) (a b c d e f : Int) (h : (1 ≤ a ∧ a ≤ 7) ∧ (0 ≤ d ∧ d ≤ 8)) (H : Heap) :
    (fnsO Tryz.tab ov3 (n+3)).call 17 [szV a b c d e f] H = some [(.int .i64 (itmG a d), (H.push (szB 24 a b c d e f)).push (szB 24 a b c d e f))] := by
  rw [s_callO, s_callB, get17]
  unfold szV szB itmG
  have hw : awrap .i64 (1032 + (4 * a + 6)) = 1032 + (4 * a + 6) := s_wrap (by omega) (by omega)
  simp -implicitDefEqProofs (disch := first | (simp only [ne_eq, Nat.reduceEqDiff, not_false_eq_true, Nat.reduceLT]; done) | assumption | (simp only [s_push_next, s_put_next, Nat.beq_refl]; done) | ((try simp only [s_push_next, s_put_next]) <;> omega) | exact s_one_map _ | exact s_one_slice _ _ _ _ _ | (refine (id ?_ : plainDraw _ = true); kernel_rfl) | fail) only [sxL, s_castN, s_cells_one, noOv, callFn, kindOf, kindC, kindB, unA, boxA, loadPtr, nilCheckA, fst1, ofValue, ofScalar, len, intBin, ibin, boolO, guardA, cCond, condV, cRet, cExit, cSkip, resOut, resultA, extractA, tupleO, Nat.reduceEqDiff, Nat.reduceAdd, Nat.reduceSub, Nat.reduceLT, Nat.reduceBEq, reduceCtorEq, Nat.reduceMod, Nat.reduceLeDiff, Int.reduceLT, Int.reduceAdd, Int.reduceEq, Int.reduceToNat, Tryz.f17, h, ov0, ov2, ov3, s_varTrue ia24 sz24, cells6, ovSz_eq itemG 1 a b c d e f _ h, itemG, hw]
  rfl
end Go.Proofs

namespace Go.Proofs
open Go.Sx
set_option maxRecDepth 100000
abbrev Rg (a d : Int) : Prop := (1 ≤ a ∧ a ≤ 7) ∧ (0 ≤ d ∧ d ≤ 8)
theorem cut_pure {fn : Nat} {args : List AV} {H H' : Heap} {v : AV} (h : CallTo Tryz.prog Tryz.tab fn args H [(v, H')]) (hg : Grows H H') (hn : Neat H) (hv : ltV H.next v) : CallTo Tryz.prog Tryz.tab fn args H [(v, H)] :=
  h.cut fun p hp => by rw [List.mem_singleton.1 hp]; exact ⟨_, List.mem_singleton.2 rfl, .pure hg.next hg.get hn hv⟩
/-- a function of a size that comes to a number and does nothing else -/
def SzTo (fn : Nat) (g : Int → Int → Int) : Prop := ∀ a b c d e f H, Rg a d → Neat H → CallTo Tryz.prog Tryz.tab fn [szV a b c d e f] H [(.int .i64 (g a d), H)]
theorem elected_to : SzTo 15 electG := fun a b c d e f H h hn => cut_pure (callTo_run Tryz.tabOk ov2_ok (elected_run 0 a b c d e f h.1 H)) (Grows.push _ _) hn trivial
theorem item_to : SzTo 18 itemG := fun a b c d e f H h hn => cut_pure (callTo_run Tryz.tabOk ov2_ok (item_run 0 a b c d e f h.1 H)) (Grows.push _ _) hn trivial
theorem comm_to : SzTo 16 commG := fun a b c d e f H _ hn => cut_pure (callTo_run Tryz.tabOk ov3_ok (comm_run 0 a b c d e f H)) (Grows.push _ _) hn trivial
theorem itm_to : SzTo 17 itmG := fun a b c d e f H h hn => cut_pure (callTo_run Tryz.tabOk ov3_ok (itm_run 0 a b c d e f h H)) ((Grows.push _ _).trans (Grows.push _ _)) hn trivial
theorem chk_pure (a b c d e f : Int) (H : Heap) (hn : Neat H) : CallTo Tryz.prog Tryz.tab 10 [szV a b c d e f] H [(.int .i64 (chkN a b c d e f), H)] :=
  cut_pure (callTo_run Tryz.tabOk ov1_ok (check_run 0 a b c d e f H)) (Grows.push _ _) hn trivial
theorem two_d (a d : Int) (h : Rg a d) : 0 ≤ 2 * d * (4 * a + 6) ∧ 2 * d * (4 * a + 6) ≤ 16 * 34 := ⟨Int.mul_nonneg (by omega) (by omega), Int.mul_le_mul (by omega) (by omega) (by omega) (by omega)⟩
theorem bnd_to : SzTo 19 bndG := by
  intro a b c d e f H h hn
  have hn1 : Neat (H.push (szB 24 a b c d e f)) := hn.push _
  have q1 := elected_to a b c d e f _ h hn1
  have q2 := item_to a b c d e f _ h hn1
  have e1 : electG a d = longN a + 3 := rfl
  have e2 : itemG a d = 4 * a + 6 := rfl
  have hl : longN a = 6 + 4 * (a - 1) := rfl
  have hmb := two_d a d h
  have hw0 : awrap .i64 (2 * d) = 2 * d := s_wrap (by omega) (by omega)
  have hw1 : awrap .i64 (electG a d + 1032) = longN a + 3 + 1032 := by rw [e1]; exact s_wrap (by omega) (by omega)
  have hw2 : awrap .i64 (longN a + 3 + 1032 + 4) = longN a + 3 + 1032 + 4 := s_wrap (by omega) (by omega)
  have hm : awrap .i64 (2 * d * itemG a d) = 2 * d * (4 * a + 6) := by rw [e2]; exact wrap_mul (by omega) (by omega)
  have hw3 : awrap .i64 (longN a + 3 + 1032 + 4 + 2 * d * (4 * a + 6)) = longN a + 3 + 1032 + 4 + 2 * d * (4 * a + 6) := s_wrap (by omega) (by omega)
  refine callTo_of Tryz.tabOk Tryz.func19 rfl rfl ?_
  show Gets Tryz.prog Tryz.tab ⟨none, 14⟩ _ _ _
  repeat refine Gets.seq ?_
  refine Gets.last Tryz.tabOk (ov := noOv) (noOv_ok) 8 (s' := ?sn2) ?hn2 ?kn2; (case hn2 => (simp -implicitDefEqProofs (disch := first | (simp only [ne_eq, Nat.reduceEqDiff, not_false_eq_true, Nat.reduceLT]; done) | assumption | (simp only [s_push_next, s_put_next, Nat.beq_refl]; done) | ((try simp only [s_push_next, s_put_next]) <;> omega) | exact s_one_map _ | exact s_one_slice _ _ _ _ _ | (refine (id ?_ : plainDraw _ = true); kernel_rfl) | fail) only [sxL, s_castN, s_cells_one, noOv, callFn, kindOf, kindC, kindB, unA, boxA, loadPtr, nilCheckA, fst1, ofValue, ofScalar, len, intBin, ibin, boolO, guardA, cCond, condV, cRet, cExit, cSkip, resOut, resultA, extractA, tupleO, Nat.reduceEqDiff, Nat.reduceAdd, Nat.reduceSub, Nat.reduceLT, Nat.reduceBEq, reduceCtorEq, Nat.reduceMod, Nat.reduceLeDiff, Int.reduceLT, Int.reduceAdd, Int.reduceEq, Int.reduceToNat, s_draw, s_varTrue ia24 sz24] <;> rfl)); (try (change Gets _ _ _ _ _ _; repeat refine Gets.seq ?_))
  refine Gets.drawP Tryz.tabOk (ov := ptO (ptO noOv 15 [szV a b c d e f] (H.push (szB 24 a b c d e f)) [(.int .i64 (electG a d), H.push (szB 24 a b c d e f))]) 18 [szV a b c d e f] (H.push (szB 24 a b c d e f)) [(.int .i64 (itemG a d), H.push (szB 24 a b c d e f))]) (ptO_ok (ptO_ok noOv_ok q1) q2) 8 (s' := ?sn1) [0, 4, 5, 6, 7, 1, 2, 3, 8, 9, 10, 11] (by kernel_rfl) ?hn1 ?kn1; (case hn1 => (simp -implicitDefEqProofs (disch := first | (simp only [ne_eq, Nat.reduceEqDiff, not_false_eq_true, Nat.reduceLT]; done) | assumption | (simp only [s_push_next, s_put_next, Nat.beq_refl]; done) | ((try simp only [s_push_next, s_put_next]) <;> omega) | exact s_one_map _ | exact s_one_slice _ _ _ _ _ | (refine (id ?_ : plainDraw _ = true); kernel_rfl) | fail) only [sxL, s_castN, s_cells_one, noOv, callFn, kindOf, kindC, kindB, unA, boxA, loadPtr, nilCheckA, fst1, ofValue, ofScalar, len, intBin, ibin, boolO, guardA, cCond, condV, cRet, cExit, cSkip, resOut, resultA, extractA, tupleO, Nat.reduceEqDiff, Nat.reduceAdd, Nat.reduceSub, Nat.reduceLT, Nat.reduceBEq, reduceCtorEq, Nat.reduceMod, Nat.reduceLeDiff, Int.reduceLT, Int.reduceAdd, Int.reduceEq, Int.reduceToNat, pick_nil, pick_cons, pick_some, h_nil, h_ops, h_opsG, h_G_true, h_G_false, h_K_pure, h_K_read, h_K_eff, h_N, h_N0, h_E, h_E0, cells6, fa24_3, s_varTrue ia24 sz24, s_varFalse ia3, hw0, hw1, hw2, hm, hw3] <;> rfl)); (try (change Gets _ _ _ _ _ _; repeat refine Gets.seq ?_))
  refine Gets.ret Tryz.tabOk ?_
  exact fin_pure rfl (by simp (disch := decide) only [sxL, Tryz.f19, resultA]; rfl) (Grows.push _ _) hn trivial
end Go.Proofs

namespace Go.Proofs
open Go.Sx
set_option maxRecDepth 100000
theorem chk_f {a b c d e f : Int} (h : okS a b c d e f = false) : chkN a b c d e f = 2 := by unfold chkN; rw [h]; rfl
theorem chk_t {a b c d e f : Int} (h : okS a b c d e f = true) : chkN a b c d e f = 0 := by unfold chkN; rw [h]; rfl
/-- what the four bounds come to -/
noncomputable def valG (g : Int → Int → Int) (a b c d e f : Int) : AV := .tuple [.int .i64 (if okS a b c d e f then g a d * f else 0), .int .i64 (chkN a b c d e f)]
theorem valG_t (g : Int → Int → Int) {a b c d e f : Int} (hk : okS a b c d e f = true) : valG g a b c d e f = .tuple [.int .i64 (g a d * f), .int .i64 0] := by unfold valG; rw [hk, chk_t hk]; rfl
theorem valG_f (g : Int → Int → Int) {a b c d e f : Int} (hk : okS a b c d e f = false) : valG g a b c d e f = .tuple [.int .i64 0, .int .i64 2] := by unfold valG; rw [hk, chk_f hk]; rfl
theorem valG_lt (n : Nat) (g : Int → Int → Int) (a b c d e f : Int) : ltV n (valG g a b c d e f) := ⟨trivial, trivial, trivial⟩
def Small (g : Int → Int → Int) : Prop := ∀ a d, Rg a d → 0 ≤ g a d ∧ g a d ≤ 100000
theorem g_elect : Small electG := by intro a d h; unfold electG longN; omega
theorem g_comm : Small commG := by intro a d h; unfold commG; omega
theorem g_itm : Small itmG := by intro a d h; unfold itmG; omega
theorem g_bnd : Small bndG := by
  intro a d h
  have := two_d a d h
  unfold bndG longN; omega
theorem events_to {g : Int → Int → Int} {fn : Nat} (hg : Small g) (hf : SzTo fn g) (a b c d e f : Int) (H : Heap) (hn : Neat H) :
    CallTo Tryz.prog Tryz.tab 14 [szV a b c d e f, .func (.func fn) [] []] H [(valG g a b c d e f, H)] := by
  have hn1 : Neat (H.push (szB 24 a b c d e f)) := hn.push _
  have q1 := chk_pure a b c d e f _ hn1
  refine callTo_of Tryz.tabOk Tryz.func14 rfl rfl ?_
  show Gets Tryz.prog Tryz.tab ⟨none, 18⟩ _ _ _
  repeat refine Gets.seq ?_
  refine Gets.last Tryz.tabOk (ov := noOv) (noOv_ok) 8 (s' := ?sn2) ?hn2 ?kn2; (case hn2 => (simp -implicitDefEqProofs (disch := first | (simp only [ne_eq, Nat.reduceEqDiff, not_false_eq_true, Nat.reduceLT]; done) | assumption | (simp only [s_push_next, s_put_next, Nat.beq_refl]; done) | ((try simp only [s_push_next, s_put_next]) <;> omega) | exact s_one_map _ | exact s_one_slice _ _ _ _ _ | (refine (id ?_ : plainDraw _ = true); kernel_rfl) | fail) only [sxL, s_castN, s_cells_one, noOv, callFn, kindOf, kindC, kindB, unA, boxA, loadPtr, nilCheckA, fst1, ofValue, ofScalar, len, intBin, ibin, boolO, guardA, cCond, condV, cRet, cExit, cSkip, resOut, resultA, extractA, tupleO, Nat.reduceEqDiff, Nat.reduceAdd, Nat.reduceSub, Nat.reduceLT, Nat.reduceBEq, reduceCtorEq, Nat.reduceMod, Nat.reduceLeDiff, Int.reduceLT, Int.reduceAdd, Int.reduceEq, Int.reduceToNat, s_draw, s_varTrue ia24 sz24] <;> rfl)); (try (change Gets _ _ _ _ _ _; repeat refine Gets.seq ?_))
  cases hk : okS a b c d e f
  · rw [chk_f hk] at q1
    refine Gets.last Tryz.tabOk (ov := ptO noOv 10 [szV a b c d e f] (H.push (szB 24 a b c d e f)) [(.int .i64 2, H.push (szB 24 a b c d e f))]) (ptO_ok noOv_ok q1) 8 (s' := ?sn3) ?hn3 ?kn3; (case hn3 => (simp -implicitDefEqProofs (disch := first | (simp only [ne_eq, Nat.reduceEqDiff, not_false_eq_true, Nat.reduceLT]; done) | assumption | (simp only [s_push_next, s_put_next, Nat.beq_refl]; done) | ((try simp only [s_push_next, s_put_next]) <;> omega) | exact s_one_map _ | exact s_one_slice _ _ _ _ _ | (refine (id ?_ : plainDraw _ = true); kernel_rfl) | fail) only [sxL, s_castN, s_cells_one, noOv, callFn, kindOf, kindC, kindB, unA, boxA, loadPtr, nilCheckA, fst1, ofValue, ofScalar, len, intBin, ibin, boolO, guardA, cCond, condV, cRet, cExit, cSkip, resOut, resultA, extractA, tupleO, Nat.reduceEqDiff, Nat.reduceAdd, Nat.reduceSub, Nat.reduceLT, Nat.reduceBEq, reduceCtorEq, Nat.reduceMod, Nat.reduceLeDiff, Int.reduceLT, Int.reduceAdd, Int.reduceEq, Int.reduceToNat, s_draw, s_varTrue ia24 sz24, cells6] <;> rfl)); (try (change Gets _ _ _ _ _ _; repeat refine Gets.seq ?_))
    refine Gets.last Tryz.tabOk (ov := noOv) (noOv_ok) 8 (s' := ?sn4) ?hn4 ?kn4; (case hn4 => (simp -implicitDefEqProofs (disch := first | (simp only [ne_eq, Nat.reduceEqDiff, not_false_eq_true, Nat.reduceLT]; done) | assumption | (simp only [s_push_next, s_put_next, Nat.beq_refl]; done) | ((try simp only [s_push_next, s_put_next]) <;> omega) | exact s_one_map _ | exact s_one_slice _ _ _ _ _ | (refine (id ?_ : plainDraw _ = true); kernel_rfl) | fail) only [sxL, s_castN, s_cells_one, noOv, callFn, kindOf, kindC, kindB, unA, boxA, loadPtr, nilCheckA, fst1, ofValue, ofScalar, len, intBin, ibin, boolO, guardA, cCond, condV, cRet, cExit, cSkip, resOut, resultA, extractA, tupleO, Nat.reduceEqDiff, Nat.reduceAdd, Nat.reduceSub, Nat.reduceLT, Nat.reduceBEq, reduceCtorEq, Nat.reduceMod, Nat.reduceLeDiff, Int.reduceLT, Int.reduceAdd, Int.reduceEq, Int.reduceToNat, s_draw] <;> rfl)); (try (change Gets _ _ _ _ _ _; repeat refine Gets.seq ?_))
    refine Gets.condT (by simp (disch := decide) only [sxL]) ?_
    repeat refine Gets.seq ?_
    refine Gets.last Tryz.tabOk (ov := noOv) (noOv_ok) 8 (s' := ?sn5) ?hn5 ?kn5; (case hn5 => (simp -implicitDefEqProofs (disch := first | (simp only [ne_eq, Nat.reduceEqDiff, not_false_eq_true, Nat.reduceLT]; done) | assumption | (simp only [s_push_next, s_put_next, Nat.beq_refl]; done) | ((try simp only [s_push_next, s_put_next]) <;> omega) | exact s_one_map _ | exact s_one_slice _ _ _ _ _ | (refine (id ?_ : plainDraw _ = true); kernel_rfl) | fail) only [sxL, s_castN, s_cells_one, noOv, callFn, kindOf, kindC, kindB, unA, boxA, loadPtr, nilCheckA, fst1, ofValue, ofScalar, len, intBin, ibin, boolO, guardA, cCond, condV, cRet, cExit, cSkip, resOut, resultA, extractA, tupleO, Nat.reduceEqDiff, Nat.reduceAdd, Nat.reduceSub, Nat.reduceLT, Nat.reduceBEq, reduceCtorEq, Nat.reduceMod, Nat.reduceLeDiff, Int.reduceLT, Int.reduceAdd, Int.reduceEq, Int.reduceToNat, s_draw] <;> rfl)); (try (change Gets _ _ _ _ _ _; repeat refine Gets.seq ?_))
    refine Gets.ret Tryz.tabOk ?_
    rw [valG_f g hk]
    refine fin_pure2 rfl ?_ (Grows.push _ _) hn ⟨trivial, trivial, trivial⟩
    simp (disch := decide) only [sxL, Tryz.f14, resultA]
  · rw [chk_t hk] at q1
    have hp := ok_parts hk
    have h : Rg a d := ⟨hp.1, hp.2.1⟩
    have hw : awrap .i64 (g a d * f) = g a d * f := wrap_mul (hg a d h) (by omega)
    have q2 := hf a b c d e f _ h hn1
    refine Gets.last Tryz.tabOk (ov := ptO noOv 10 [szV a b c d e f] (H.push (szB 24 a b c d e f)) [(.int .i64 0, H.push (szB 24 a b c d e f))]) (ptO_ok noOv_ok q1) 8 (s' := ?sn6) ?hn6 ?kn6; (case hn6 => (simp -implicitDefEqProofs (disch := first | (simp only [ne_eq, Nat.reduceEqDiff, not_false_eq_true, Nat.reduceLT]; done) | assumption | (simp only [s_push_next, s_put_next, Nat.beq_refl]; done) | ((try simp only [s_push_next, s_put_next]) <;> omega) | exact s_one_map _ | exact s_one_slice _ _ _ _ _ | (refine (id ?_ : plainDraw _ = true); kernel_rfl) | fail) only [sxL, s_castN, s_cells_one, noOv, callFn, kindOf, kindC, kindB, unA, boxA, loadPtr, nilCheckA, fst1, ofValue, ofScalar, len, intBin, ibin, boolO, guardA, cCond, condV, cRet, cExit, cSkip, resOut, resultA, extractA, tupleO, Nat.reduceEqDiff, Nat.reduceAdd, Nat.reduceSub, Nat.reduceLT, Nat.reduceBEq, reduceCtorEq, Nat.reduceMod, Nat.reduceLeDiff, Int.reduceLT, Int.reduceAdd, Int.reduceEq, Int.reduceToNat, s_draw, s_varTrue ia24 sz24, cells6] <;> rfl)); (try (change Gets _ _ _ _ _ _; repeat refine Gets.seq ?_))
    refine Gets.last Tryz.tabOk (ov := noOv) (noOv_ok) 8 (s' := ?sn7) ?hn7 ?kn7; (case hn7 => (simp -implicitDefEqProofs (disch := first | (simp only [ne_eq, Nat.reduceEqDiff, not_false_eq_true, Nat.reduceLT]; done) | assumption | (simp only [s_push_next, s_put_next, Nat.beq_refl]; done) | ((try simp only [s_push_next, s_put_next]) <;> omega) | exact s_one_map _ | exact s_one_slice _ _ _ _ _ | (refine (id ?_ : plainDraw _ = true); kernel_rfl) | fail) only [sxL, s_castN, s_cells_one, noOv, callFn, kindOf, kindC, kindB, unA, boxA, loadPtr, nilCheckA, fst1, ofValue, ofScalar, len, intBin, ibin, boolO, guardA, cCond, condV, cRet, cExit, cSkip, resOut, resultA, extractA, tupleO, Nat.reduceEqDiff, Nat.reduceAdd, Nat.reduceSub, Nat.reduceLT, Nat.reduceBEq, reduceCtorEq, Nat.reduceMod, Nat.reduceLeDiff, Int.reduceLT, Int.reduceAdd, Int.reduceEq, Int.reduceToNat, s_draw] <;> rfl)); (try (change Gets _ _ _ _ _ _; repeat refine Gets.seq ?_))
    refine Gets.condF (by simp (disch := decide) only [sxL]) (Gets.skip Tryz.tabOk ?_)
    change Gets _ _ _ _ _ _
    repeat refine Gets.seq ?_
    refine Gets.drawP Tryz.tabOk (ov := ptO noOv fn [szV a b c d e f] (H.push (szB 24 a b c d e f)) [(.int .i64 (g a d), H.push (szB 24 a b c d e f))]) (ptO_ok noOv_ok q2) 8 (s' := ?sn1) [0, 1, 3, 4, 2, 5, 6, 7] (by kernel_rfl) ?hn1 ?kn1; (case hn1 => (simp -implicitDefEqProofs (disch := first | (simp only [ne_eq, Nat.reduceEqDiff, not_false_eq_true, Nat.reduceLT]; done) | assumption | (simp only [s_push_next, s_put_next, Nat.beq_refl]; done) | ((try simp only [s_push_next, s_put_next]) <;> omega) | exact s_one_map _ | exact s_one_slice _ _ _ _ _ | (refine (id ?_ : plainDraw _ = true); kernel_rfl) | fail) only [sxL, s_castN, s_cells_one, noOv, callFn, kindOf, kindC, kindB, unA, boxA, loadPtr, nilCheckA, fst1, ofValue, ofScalar, len, intBin, ibin, boolO, guardA, cCond, condV, cRet, cExit, cSkip, resOut, resultA, extractA, tupleO, Nat.reduceEqDiff, Nat.reduceAdd, Nat.reduceSub, Nat.reduceLT, Nat.reduceBEq, reduceCtorEq, Nat.reduceMod, Nat.reduceLeDiff, Int.reduceLT, Int.reduceAdd, Int.reduceEq, Int.reduceToNat, pick_nil, pick_cons, pick_some, h_nil, h_ops, h_opsG, h_G_true, h_G_false, h_K_pure, h_K_read, h_K_eff, h_N, h_N0, h_E, h_E0, cells6, fa24_5, s_varTrue ia24 sz24, s_varFalse ia3, hw] <;> rfl)); (try (change Gets _ _ _ _ _ _; repeat refine Gets.seq ?_))
    refine Gets.ret Tryz.tabOk ?_
    rw [valG_t g hk]
    refine fin_pure2 rfl ?_ (Grows.push _ _) hn ⟨trivial, trivial, trivial⟩
    simp (disch := decide) only [sxL, Tryz.f14, resultA]
theorem top_elect (a b c d e f : Int) (H : Heap) (hn : Neat H) : CallTo Tryz.prog Tryz.tab 4 [szV a b c d e f] H [(valG electG a b c d e f, H)] := by
  refine cut_pure (H' := H.push (szB 24 a b c d e f)) (callTo_run Tryz.tabOk (ptO_ok noOv_ok (events_to g_elect elected_to a b c d e f (H.push (szB 24 a b c d e f)) (hn.push _))) (n := 3) ?_) (Grows.push _ _) hn (valG_lt _ _ _ _ _ _ _ _)
  rw [s_callO, s_callB, get4]
  unfold szV szB valG
  simp -implicitDefEqProofs (disch := first | (simp only [ne_eq, Nat.reduceEqDiff, not_false_eq_true, Nat.reduceLT]; done) | assumption | (simp only [s_push_next, s_put_next, Nat.beq_refl]; done) | ((try simp only [s_push_next, s_put_next]) <;> omega) | exact s_one_map _ | exact s_one_slice _ _ _ _ _ | (refine (id ?_ : plainDraw _ = true); kernel_rfl) | fail) only [sxL, s_castN, s_cells_one, noOv, callFn, kindOf, kindC, kindB, unA, boxA, loadPtr, nilCheckA, fst1, ofValue, ofScalar, len, intBin, ibin, boolO, guardA, cCond, condV, cRet, cExit, cSkip, resOut, resultA, extractA, tupleO, Nat.reduceEqDiff, Nat.reduceAdd, Nat.reduceSub, Nat.reduceLT, Nat.reduceBEq, reduceCtorEq, Nat.reduceMod, Nat.reduceLeDiff, Int.reduceLT, Int.reduceAdd, Int.reduceEq, Int.reduceToNat, Tryz.f4, noOv, s_varTrue ia24 sz24, s_varFalse ia3, cells6]
theorem top_comm (a b c d e f : Int) (H : Heap) (hn : Neat H) : CallTo Tryz.prog Tryz.tab 5 [szV a b c d e f] H [(valG commG a b c d e f, H)] := by
  refine cut_pure (H' := H.push (szB 24 a b c d e f)) (callTo_run Tryz.tabOk (ptO_ok noOv_ok (events_to g_comm comm_to a b c d e f (H.push (szB 24 a b c d e f)) (hn.push _))) (n := 3) ?_) (Grows.push _ _) hn (valG_lt _ _ _ _ _ _ _ _)
  rw [s_callO, s_callB, get5]
  unfold szV szB valG
  simp -implicitDefEqProofs (disch := first | (simp only [ne_eq, Nat.reduceEqDiff, not_false_eq_true, Nat.reduceLT]; done) | assumption | (simp only [s_push_next, s_put_next, Nat.beq_refl]; done) | ((try simp only [s_push_next, s_put_next]) <;> omega) | exact s_one_map _ | exact s_one_slice _ _ _ _ _ | (refine (id ?_ : plainDraw _ = true); kernel_rfl) | fail) only [sxL, s_castN, s_cells_one, noOv, callFn, kindOf, kindC, kindB, unA, boxA, loadPtr, nilCheckA, fst1, ofValue, ofScalar, len, intBin, ibin, boolO, guardA, cCond, condV, cRet, cExit, cSkip, resOut, resultA, extractA, tupleO, Nat.reduceEqDiff, Nat.reduceAdd, Nat.reduceSub, Nat.reduceLT, Nat.reduceBEq, reduceCtorEq, Nat.reduceMod, Nat.reduceLeDiff, Int.reduceLT, Int.reduceAdd, Int.reduceEq, Int.reduceToNat, Tryz.f5, noOv, s_varTrue ia24 sz24, s_varFalse ia3, cells6]
theorem top_itm (a b c d e f : Int) (H : Heap) (hn : Neat H) : CallTo Tryz.prog Tryz.tab 6 [szV a b c d e f] H [(valG itmG a b c d e f, H)] := by
  refine cut_pure (H' := H.push (szB 24 a b c d e f)) (callTo_run Tryz.tabOk (ptO_ok noOv_ok (events_to g_itm itm_to a b c d e f (H.push (szB 24 a b c d e f)) (hn.push _))) (n := 3) ?_) (Grows.push _ _) hn (valG_lt _ _ _ _ _ _ _ _)
  rw [s_callO, s_callB, get6]
  unfold szV szB valG
  simp -implicitDefEqProofs (disch := first | (simp only [ne_eq, Nat.reduceEqDiff, not_false_eq_true, Nat.reduceLT]; done) | assumption | (simp only [s_push_next, s_put_next, Nat.beq_refl]; done) | ((try simp only [s_push_next, s_put_next]) <;> omega) | exact s_one_map _ | exact s_one_slice _ _ _ _ _ | (refine (id ?_ : plainDraw _ = true); kernel_rfl) | fail) only [sxL, s_castN, s_cells_one, noOv, callFn, kindOf, kindC, kindB, unA, boxA, loadPtr, nilCheckA, fst1, ofValue, ofScalar, len, intBin, ibin, boolO, guardA, cCond, condV, cRet, cExit, cSkip, resOut, resultA, extractA, tupleO, Nat.reduceEqDiff, Nat.reduceAdd, Nat.reduceSub, Nat.reduceLT, Nat.reduceBEq, reduceCtorEq, Nat.reduceMod, Nat.reduceLeDiff, Int.reduceLT, Int.reduceAdd, Int.reduceEq, Int.reduceToNat, Tryz.f6, noOv, s_varTrue ia24 sz24, s_varFalse ia3, cells6]
theorem top_bnd (a b c d e f : Int) (H : Heap) (hn : Neat H) : CallTo Tryz.prog Tryz.tab 7 [szV a b c d e f] H [(valG bndG a b c d e f, H)] := by
  refine cut_pure (H' := H.push (szB 24 a b c d e f)) (callTo_run Tryz.tabOk (ptO_ok noOv_ok (events_to g_bnd bnd_to a b c d e f (H.push (szB 24 a b c d e f)) (hn.push _))) (n := 3) ?_) (Grows.push _ _) hn (valG_lt _ _ _ _ _ _ _ _)
  rw [s_callO, s_callB, get7]
  unfold szV szB valG
  simp -implicitDefEqProofs (disch := first | (simp only [ne_eq, Nat.reduceEqDiff, not_false_eq_true, Nat.reduceLT]; done) | assumption | (simp only [s_push_next, s_put_next, Nat.beq_refl]; done) | ((try simp only [s_push_next, s_put_next]) <;> omega) | exact s_one_map _ | exact s_one_slice _ _ _ _ _ | (refine (id ?_ : plainDraw _ = true); kernel_rfl) | fail) only [sxL, s_castN, s_cells_one, noOv, callFn, kindOf, kindC, kindB, unA, boxA, loadPtr, nilCheckA, fst1, ofValue, ofScalar, len, intBin, ibin, boolO, guardA, cCond, condV, cRet, cExit, cSkip, resOut, resultA, extractA, tupleO, Nat.reduceEqDiff, Nat.reduceAdd, Nat.reduceSub, Nat.reduceLT, Nat.reduceBEq, reduceCtorEq, Nat.reduceMod, Nat.reduceLeDiff, Int.reduceLT, Int.reduceAdd, Int.reduceEq, Int.reduceToNat, Tryz.f7, noOv, s_varTrue ia24 sz24, s_varFalse ia3, cells6]
end Go.Proofs
