/-
  Maps of numbers; Equal, Contains, CheckReply, walked; a record in memory.
-/
import Derived.Test.YtdadmlonndnppaaGreatDoorSxH
import Derived.Test.YtdadmlonndnppaaGreatDoorOrA
set_option linter.unusedSimpArgs false
set_option linter.unusedVariables false
namespace Go.Proofs
open Go.Sx
/-! Maps from numbers to numbers. -/
def ents : List (Int × Int) → Nat → List AEntry
  | [], _ => []
  | (k, v) :: m, i => ⟨.int .i64 k, .int .i64 v, i⟩ :: ents m (i + 1)
theorem ents_len : ∀ (m : List (Int × Int)) (i : Nat), (ents m i).length = m.length
  | [], _ => rfl
  | _ :: m, i => by simp only [ents, List.length_cons, ents_len m]
def mapB (m : List (Int × Int)) : ABlk := .map (ents m 0) m.length
theorem key3 (a b : Int) : keyEq Tryz.tab 3 (.int .i64 a) (.int .i64 b) = some (ibeq a b) := by
  have hu : Tryz.tab.und 3 = some (.int .i64) := by kernel_rfl
  have e : keyEq Tryz.tab 3 (.int .i64 a) (.int .i64 b) = bindO (Tryz.tab.und 3) (eqD Tryz.tab (eqA Tryz.tab 59) (.int .i64 a) (.int .i64 b)) := rfl
  rw [e, hu]
  show (if IntKind.i64 = IntKind.i64 then some (ibeq a b) else none) = _
  rw [if_pos rfl]
theorem kt78 (k : Int) : keyTypes Tryz.tab 78 (.int .i64 k) = some (3, 3) := by
  have hu : Tryz.tab.und 3 = some (.int .i64) := by kernel_rfl
  unfold keyTypes
  rw [ud78]
  show (bif keyOk Tryz.tab 20 3 (.int .i64 k) then some (3, 3) else none) = _
  have : keyOk Tryz.tab 20 3 (.int .i64 k) = true := by kernel_rfl
  rw [this]; rfl
theorem zero3 : Tryz.tab.zero 3 = some (.int .i64 0) := by kernel_rfl
/-- where an entry stands -/
def mAt : List (Int × Int) → Int → Option (Nat × Int)
  | [], _ => none
  | (a, b) :: m, k => if k = a then some (0, b) else (mAt m k).map fun p => (p.1 + 1, p.2)
theorem find78 : ∀ (m : List (Int × Int)) (k : Int) (i j : Nat), findA Tryz.tab 3 (.int .i64 k) (ents m i) j = some ((mAt m k).map fun p => (j + p.1, ⟨.int .i64 k, .int .i64 p.2, i + p.1⟩))
  | [], _, _, _ => rfl
  | (a, b) :: m, k, i, j => by
    show foundO j ⟨.int .i64 a, .int .i64 b, i⟩ (findA Tryz.tab 3 (.int .i64 k) (ents m (i + 1)) (j + 1)) (keyEq Tryz.tab 3 (.int .i64 k) (.int .i64 a)) = _
    rw [key3, s_ibeq, find78 m k (i + 1) (j + 1)]
    by_cases h : k = a
    · subst h; simp [mAt, foundO]
    · simp only [h, decide_false, foundO, mAt, if_false, Option.map_map]
      congr 2
      funext p
      simp only [Function.comp]
      congr 1
      · omega
      · congr 1; omega
theorem mAt_get (m : List (Int × Int)) (k : Int) : mGet m k = (mAt m k).map (·.2) := by
  induction m with
  | nil => rfl
  | cons p m ih =>
    obtain ⟨a, b⟩ := p
    by_cases h : k = a <;> simp [mGet, mAt, h, ih, Option.map_map]
    congr 1
theorem mAt_upd_none (m : List (Int × Int)) (k v : Int) (h : mAt m k = none) : mUpd m k v = m ++ [(k, v)] := by
  induction m with
  | nil => rfl
  | cons p m ih =>
    obtain ⟨a, b⟩ := p
    by_cases ha : k = a
    · simp [mAt, ha] at h
    · simp only [mAt, ha, if_false, Option.map_eq_none_iff] at h
      simp [mUpd, ha, ih h]
theorem mAt_upd_some (m : List (Int × Int)) (k v : Int) {i : Nat} {b : Int} (h : mAt m k = some (i, b)) : ∀ j, ents (mUpd m k v) j = setNth (ents m j) ⟨.int .i64 k, .int .i64 v, j + i⟩ i ∧ (mUpd m k v).length = m.length := by
  induction m generalizing i b with
  | nil => simp [mAt] at h
  | cons p m ih =>
    obtain ⟨a, b'⟩ := p
    intro j
    by_cases ha : k = a
    · subst ha
      simp only [mAt, if_true, Option.some.injEq, Prod.mk.injEq] at h
      obtain ⟨rfl, rfl⟩ := h
      simp only [mUpd, if_true]
      exact ⟨rfl, rfl⟩
    · simp only [mAt, ha, if_false, Option.map_eq_some_iff, Prod.mk.injEq] at h
      obtain ⟨⟨i', b''⟩, h1, h2, h3⟩ := h
      subst h2
      obtain ⟨e1, e2⟩ := ih h1 (j + 1)
      simp only [mUpd, ha, if_false, ents, List.length_cons, e2]
      refine ⟨?_, trivial⟩
      rw [e1]
      show _ = ⟨.int .i64 a, .int .i64 b', j⟩ :: setNth (ents m (j + 1)) _ (i' + 1 - 1)
      rw [Nat.add_sub_cancel, show j + (i' + 1) = j + 1 + i' by omega]
theorem ents_app (m n : List (Int × Int)) (i : Nat) : ents (m ++ n) i = ents m i ++ ents n (i + m.length) := by
  induction m generalizing i with
  | nil => simp [ents]
  | cons p m ih =>
    obtain ⟨a, b⟩ := p
    simp only [List.cons_append, ents, ih, List.length_cons]
    rw [show i + 1 + m.length = i + (m.length + 1) by omega]
theorem look78 {H : Heap} {r : Nat} {m : List (Int × Int)} (h : H.blks.get r = some (mapB m)) (k : Int) :
    lookupA Tryz.tab H 78 true (.map r) (.int .i64 k) = some (.tuple [.int .i64 ((mGet m k).getD 0), .bool (mGet m k).isSome]) := by
  unfold lookupA
  rw [kt78]
  show bindO (bindO (mapIn (H.blks.get r)) fun p => some p.1) (fun es => bindO (findA Tryz.tab 3 (.int .i64 k) es 0) (lookOut Tryz.tab 3 true)) = _
  rw [h]
  show bindO (findA Tryz.tab 3 (.int .i64 k) (ents m 0) 0) (lookOut Tryz.tab 3 true) = _
  rw [find78, mAt_get]
  cases hm : mAt m k with
  | none => show bindO (Tryz.tab.zero 3) (fun z => some (bif true then .tuple [z, .bool false] else z)) = _; rw [zero3]; rfl
  | some p => rfl
theorem look78f {H : Heap} {r : Nat} {m : List (Int × Int)} (h : H.blks.get r = some (mapB m)) (k : Int) :
    lookupA Tryz.tab H 78 false (.map r) (.int .i64 k) = some (.int .i64 ((mGet m k).getD 0)) := by
  unfold lookupA
  rw [kt78]
  show bindO (bindO (mapIn (H.blks.get r)) fun p => some p.1) (fun es => bindO (findA Tryz.tab 3 (.int .i64 k) es 0) (lookOut Tryz.tab 3 false)) = _
  rw [h]
  show bindO (findA Tryz.tab 3 (.int .i64 k) (ents m 0) 0) (lookOut Tryz.tab 3 false) = _
  rw [find78, mAt_get]
  cases hm : mAt m k with
  | none => show bindO (Tryz.tab.zero 3) (fun z => some (bif false then .tuple [z, .bool false] else z)) = _; rw [zero3]; rfl
  | some p => rfl
theorem forceE_eq {β : Type} (l : List AEntry) (c : List AEntry → β) : forceE l c = c l := by
  induction l generalizing c with
  | nil => rfl
  | cons e l ih =>
    show forceV e.key (fun k => forceV e.val fun v => forceN e.born fun n => forceE l fun l' => c (⟨k, v, n⟩ :: l')) = _
    rw [forceV_eq, forceV_eq, forceN_eq, ih]
theorem putMapK_eq {β : Type} (H : Heap) (r : Nat) (es : List AEntry) (clock : Nat) (c : Heap → β) : putMapK H r es clock c = c (putBlk H r (some (.map es clock))) := by
  unfold putMapK
  rw [forceE_eq, forceN_eq]
  unfold putBlkK putBlk
  rw [T.setK_eq, T.setK_eq]
theorem upd78 {H : Heap} {r : Nat} {m : List (Int × Int)} (h : H.blks.get r = some (mapB m)) (k v : Int) :
    mapUpdateA Tryz.tab H 78 (.map r) (.int .i64 k) (.int .i64 v) = some (putBlk H r (some (mapB (mUpd m k v)))) := by
  have e : mapUpdateA Tryz.tab H 78 (.map r) (.int .i64 k) (.int .i64 v) = bindO (keyTypes Tryz.tab 78 (.int .i64 k)) fun kt => bindO (mapIn (H.blks.get r)) fun p => bindO (findA Tryz.tab kt.1 (.int .i64 k) p.1 0) (mapPut H r p.1 p.2 (.int .i64 k) (.int .i64 v)) := rfl
  rw [e, kt78, h]
  show bindO (findA Tryz.tab 3 (.int .i64 k) (ents m 0) 0) (mapPut H r (ents m 0) m.length (.int .i64 k) (.int .i64 v)) = _
  rw [find78]
  cases hm : mAt m k with
  | none =>
    show putMapK H r (app (ents m 0) [⟨.int .i64 k, .int .i64 v, m.length⟩]) (m.length + 1) some = _
    rw [putMapK_eq, app_eq, mapB, mAt_upd_none m k v hm, ents_app]
    simp [ents]
  | some p =>
    obtain ⟨i, b⟩ := p
    show (bif AV.beq (.int .i64 k) (.int .i64 k) then (bif flatKey (.int .i64 k) then putMapK H r (setNth (ents m 0) ⟨.int .i64 k, .int .i64 v, 0 + i⟩ (0 + i)) m.length some else none) else none) = _
    rw [AV.beq_refl', cond_true, putMapK_eq, mapB]
    obtain ⟨e1, e2⟩ := mAt_upd_some m k v hm 0
    rw [e1, e2]
    simp only [Nat.zero_add]
    rfl
theorem len78 {H : Heap} {r : Nat} {m : List (Int × Int)} (h : H.blks.get r = some (mapB m)) : lenA Tryz.tab H 78 (.map r) = some (.int .i64 (m.length : Int)) := by
  unfold lenA
  rw [ud78]
  show bindO (bindO (mapIn (H.blks.get r)) fun p => some p.1) (fun es => some (natV (len es))) = _
  rw [h]
  show some (natV (len (ents m 0))) = _
  rw [len_eq, ents_len]; rfl
end Go.Proofs

namespace Go.Sx
theorem s_sbeq (s t : List UInt8) : sbeq s t = decide (s = t) := by rw [sbeq_eq]; by_cases h : s = t <;> simp [h]
theorem s_bbeq (s t : Bool) : bbeq s t = decide (s = t) := by rw [bbeq_eq]; cases s <;> cases t <;> rfl
end Go.Sx
namespace Go.Proofs
open Go.Sx
set_option maxRecDepth 100000
theorem eq35 (a b c a' b' c' : Int) : eqA Tryz.tab 60 35 (.agg [.int .i64 a, .int .i64 b, .int .i64 c]) (.agg [.int .i64 a', .int .i64 b', .int .i64 c']) = andO (some (ibeq a a')) (andO (some (ibeq b b')) (andO (some (ibeq c c')) (some true))) := by kernel_rfl
theorem eq37 (a b a' b' : List UInt8) : eqA Tryz.tab 60 37 (.agg [.str a, .str b]) (.agg [.str a', .str b']) = andO (some (sbeq a a')) (andO (some (sbeq b b')) (some true)) := by kernel_rfl
theorem eq42 (a b c d g a' b' c' d' g' : Int) (q q' : Bool) : eqA Tryz.tab 60 42 (.agg [.int .i64 a, .int .i64 b, .int .i64 c, .int .i64 d, .bool q, .int .i64 g]) (.agg [.int .i64 a', .int .i64 b', .int .i64 c', .int .i64 d', .bool q', .int .i64 g']) =
    andO (andO (some (ibeq a a')) (andO (some (ibeq b b')) (andO (some (ibeq c c')) (some true)))) (andO (some (ibeq d d')) (andO (some (bbeq q q')) (andO (some (ibeq g g')) (some true)))) := by kernel_rfl
theorem eq49 (a b a' b' : Int) (s s' : List UInt8) : eqA Tryz.tab 60 49 (.agg [.int .i64 a, .int .i64 b, .str s]) (.agg [.int .i64 a', .int .i64 b', .str s']) = andO (some (ibeq a a')) (andO (some (ibeq b b')) (andO (some (sbeq s s')) (some true))) := by kernel_rfl
def defZ (c : CmdV) (n : Nat) : Bool := decide (c.name = []) && (decide (c.retries = 0) && (decide (c.deadline = 0) && decide (n = 0)))
theorem defEq_run (c : CmdV) (ks : List (List UInt8)) (H : Heap) (hs : StepsAt H c.steps ks) (hN : Neat H) :
    CallTo Tryz.prog Tryz.tab 53 [.agg [.str c.name, .int .i64 c.retries, .int .i64 c.deadline, c.steps], .agg [.str [], .int .i64 0, .int .i64 0, .nilslice]] H [(.bool (defZ c ks.length), H)] := by
  have hone := hs.one
  have hlen := hs.len
  have hnil : ∀ H', lenA Tryz.tab H' 38 .nilslice = some (.int .i64 0) := fun H' => s_lenNil ud38 H'
  refine callTo_pure (v := .bool (defZ c ks.length)) (n := 8) Tryz.tabOk (ov := noOv) noOv_ok (H' := (H.push (.cells 40 true [.str c.name, .int .i64 c.retries, .int .i64 c.deadline, c.steps])).push (.cells 40 true [.str [], .int .i64 0, .int .i64 0, .nilslice])) ?_ ((Grows.push _ _).trans (.push _ _)) hN trivial
  have e : ∀ n : Nat, decide ((n : Int) = 0) = decide (n = 0) := fun n => by simp
  rw [s_callO, s_callB, get53]
  unfold defZ
  by_cases h1 : ¬ c.name = []
  · try simp only [Decidable.not_not] at h1
    simp -implicitDefEqProofs (disch := first | (simp only [ne_eq, Nat.reduceEqDiff, not_false_eq_true, Nat.reduceLT]; done) | assumption | (simp only [s_push_next, s_put_next, Nat.beq_refl]; done) | ((try simp only [s_push_next, s_put_next]) <;> omega) | exact s_one_map _ | exact s_one_slice _ _ _ _ _ | (refine (id ?_ : plainDraw _ = true); kernel_rfl) | fail) only [sxL, s_castN, s_cells_one, noOv, callFn, kindOf, kindC, kindB, unA, boxA, loadPtr, nilCheckA, fst1, ofValue, ofScalar, len, intBin, ibin, boolO, guardA, cCond, condV, cRet, cExit, cSkip, resOut, resultA, extractA, tupleO, Nat.reduceEqDiff, Nat.reduceAdd, Nat.reduceSub, Nat.reduceLT, Nat.reduceBEq, reduceCtorEq, Nat.reduceMod, Nat.reduceLeDiff, Int.reduceLT, Int.reduceAdd, Int.reduceEq, Int.reduceToNat, Tryz.f53, Tryz.f77, get77, fa40_0, fa40_1, fa40_2, fa40_3, s_varFalse ia9, s_varFalse ia3, s_varFalse ia38, hone, hlen, hnil, sbin, s_sbeq, e, h1]
  · by_cases h2 : ¬ c.retries = 0
    · try simp only [Decidable.not_not] at h1 h2
      simp -implicitDefEqProofs (disch := first | (simp only [ne_eq, Nat.reduceEqDiff, not_false_eq_true, Nat.reduceLT]; done) | assumption | (simp only [s_push_next, s_put_next, Nat.beq_refl]; done) | ((try simp only [s_push_next, s_put_next]) <;> omega) | exact s_one_map _ | exact s_one_slice _ _ _ _ _ | (refine (id ?_ : plainDraw _ = true); kernel_rfl) | fail) only [sxL, s_castN, s_cells_one, noOv, callFn, kindOf, kindC, kindB, unA, boxA, loadPtr, nilCheckA, fst1, ofValue, ofScalar, len, intBin, ibin, boolO, guardA, cCond, condV, cRet, cExit, cSkip, resOut, resultA, extractA, tupleO, Nat.reduceEqDiff, Nat.reduceAdd, Nat.reduceSub, Nat.reduceLT, Nat.reduceBEq, reduceCtorEq, Nat.reduceMod, Nat.reduceLeDiff, Int.reduceLT, Int.reduceAdd, Int.reduceEq, Int.reduceToNat, Tryz.f53, Tryz.f77, get77, fa40_0, fa40_1, fa40_2, fa40_3, s_varFalse ia9, s_varFalse ia3, s_varFalse ia38, hone, hlen, hnil, sbin, s_sbeq, e, h1, h2]
    · by_cases h3 : ¬ c.deadline = 0
      · try simp only [Decidable.not_not] at h1 h2 h3
        simp -implicitDefEqProofs (disch := first | (simp only [ne_eq, Nat.reduceEqDiff, not_false_eq_true, Nat.reduceLT]; done) | assumption | (simp only [s_push_next, s_put_next, Nat.beq_refl]; done) | ((try simp only [s_push_next, s_put_next]) <;> omega) | exact s_one_map _ | exact s_one_slice _ _ _ _ _ | (refine (id ?_ : plainDraw _ = true); kernel_rfl) | fail) only [sxL, s_castN, s_cells_one, noOv, callFn, kindOf, kindC, kindB, unA, boxA, loadPtr, nilCheckA, fst1, ofValue, ofScalar, len, intBin, ibin, boolO, guardA, cCond, condV, cRet, cExit, cSkip, resOut, resultA, extractA, tupleO, Nat.reduceEqDiff, Nat.reduceAdd, Nat.reduceSub, Nat.reduceLT, Nat.reduceBEq, reduceCtorEq, Nat.reduceMod, Nat.reduceLeDiff, Int.reduceLT, Int.reduceAdd, Int.reduceEq, Int.reduceToNat, Tryz.f53, Tryz.f77, get77, fa40_0, fa40_1, fa40_2, fa40_3, s_varFalse ia9, s_varFalse ia3, s_varFalse ia38, hone, hlen, hnil, sbin, s_sbeq, e, h1, h2, h3]
      · by_cases h4 : ¬ ks.length = 0
        · try simp only [Decidable.not_not] at h1 h2 h3 h4
          simp -implicitDefEqProofs (disch := first | (simp only [ne_eq, Nat.reduceEqDiff, not_false_eq_true, Nat.reduceLT]; done) | assumption | (simp only [s_push_next, s_put_next, Nat.beq_refl]; done) | ((try simp only [s_push_next, s_put_next]) <;> omega) | exact s_one_map _ | exact s_one_slice _ _ _ _ _ | (refine (id ?_ : plainDraw _ = true); kernel_rfl) | fail) only [sxL, s_castN, s_cells_one, noOv, callFn, kindOf, kindC, kindB, unA, boxA, loadPtr, nilCheckA, fst1, ofValue, ofScalar, len, intBin, ibin, boolO, guardA, cCond, condV, cRet, cExit, cSkip, resOut, resultA, extractA, tupleO, Nat.reduceEqDiff, Nat.reduceAdd, Nat.reduceSub, Nat.reduceLT, Nat.reduceBEq, reduceCtorEq, Nat.reduceMod, Nat.reduceLeDiff, Int.reduceLT, Int.reduceAdd, Int.reduceEq, Int.reduceToNat, Tryz.f53, Tryz.f77, get77, fa40_0, fa40_1, fa40_2, fa40_3, s_varFalse ia9, s_varFalse ia3, s_varFalse ia38, hone, hlen, hnil, sbin, s_sbeq, e, h1, h2, h3, h4]
        · try simp only [Decidable.not_not] at h1 h2 h3 h4
          simp -implicitDefEqProofs (disch := first | (simp only [ne_eq, Nat.reduceEqDiff, not_false_eq_true, Nat.reduceLT]; done) | assumption | (simp only [s_push_next, s_put_next, Nat.beq_refl]; done) | ((try simp only [s_push_next, s_put_next]) <;> omega) | exact s_one_map _ | exact s_one_slice _ _ _ _ _ | (refine (id ?_ : plainDraw _ = true); kernel_rfl) | fail) only [sxL, s_castN, s_cells_one, noOv, callFn, kindOf, kindC, kindB, unA, boxA, loadPtr, nilCheckA, fst1, ofValue, ofScalar, len, intBin, ibin, boolO, guardA, cCond, condV, cRet, cExit, cSkip, resOut, resultA, extractA, tupleO, Nat.reduceEqDiff, Nat.reduceAdd, Nat.reduceSub, Nat.reduceLT, Nat.reduceBEq, reduceCtorEq, Nat.reduceMod, Nat.reduceLeDiff, Int.reduceLT, Int.reduceAdd, Int.reduceEq, Int.reduceToNat, Tryz.f53, Tryz.f77, get77, fa40_0, fa40_1, fa40_2, fa40_3, s_varFalse ia9, s_varFalse ia3, s_varFalse ia38, hone, hlen, hnil, sbin, s_sbeq, e, h1, h2, h3, h4]

end Go.Proofs

namespace Go.Proofs
open Go.Sx
set_option maxRecDepth 100000
def effZ (c : CmdV) : Bool := decide (c.ef0 = 0) && (decide (c.ef1 = 0) && decide (c.ef2 = 0))
def rngZ (c : CmdV) : Bool := decide (c.rf = []) && decide (c.rt = [])
def itemZ (c : CmdV) : Bool := decide (c.ie0 = 0) && (decide (c.ie1 = 0) && decide (c.ie2 = 0)) && (decide (c.imove = 0) && (decide (c.iin = false) && decide (c.igroup = 0)))
def eqZ (c : CmdV) (n : Nat) : Bool := defZ c n && (effZ c && (rngZ c && (itemZ c && (decide (c.kind = 0) && (decide (c.call = 0) && (decide (c.saga = 0) && (decide (c.key = []) && (decide (c.delta = 0) && (decide (c.move = 0) &&
  (decide (c.group = 0) && (decide (c.res = 0) && decide (c.data = []))))))))))))
def zcells : List AV := [.int .i64 0, .int .i64 0, .int .i64 0, .int .i64 0, .int .i64 0, .int .i64 0, .str [], .int .i64 0, .int .i64 0, .str [], .str [], .int .i64 0, .str [], .int .i64 0, .int .i64 0, .nilslice, .int .i64 0, .int .i64 0, .int .i64 0, .int .i64 0, .bool false, .int .i64 0, .int .i64 0, .str []]
theorem two_boxes (C Z : List AV) (H : Heap) (hall : allOne C = true) (hallz : allOne Z = true) (p1 p2 p3 : String) (t1 t2 t3 : TypeId) (e1 e2 e3 : Array Edge) :
    codeB (.region 0 #[⟨some 2, .box 44 (.tmp 0), t1, p1, e1, none⟩, ⟨some 3, .box 44 (.tmp 1), t2, p2, e2, none⟩, ⟨some 4, .assign (.const (.bool false)), t3, p3, e3, none⟩] false) (fnsO Tryz.tab noOv 8) Tryz.tab ⟨none, 93⟩ ⟨argsTm [.agg C, .agg Z], H, []⟩ =
    some [(.normal, ⟨((((T.e.set 0 (some (.agg C))).set 1 (some (.agg Z))).set 2 (some (.ptr H.next 0))).set 3 (some (.ptr (H.next + 1) 0))).set 4 (some (.bool false)), (H.push (.cells 44 true C)).push (.cells 44 true Z), []⟩)] := by
  simp -implicitDefEqProofs (disch := first | (simp only [ne_eq, Nat.reduceEqDiff, not_false_eq_true, Nat.reduceLT]; done) | assumption | (simp only [s_push_next, s_put_next, Nat.beq_refl]; done) | ((try simp only [s_push_next, s_put_next]) <;> omega) | exact s_one_map _ | exact s_one_slice _ _ _ _ _ | (refine (id ?_ : plainDraw _ = true); kernel_rfl) | fail) only [sxL, s_castN, s_cells_one, noOv, callFn, kindOf, kindC, kindB, unA, boxA, loadPtr, nilCheckA, fst1, ofValue, ofScalar, len, intBin, ibin, boolO, guardA, cCond, condV, cRet, cExit, cSkip, resOut, resultA, extractA, tupleO, Nat.reduceEqDiff, Nat.reduceAdd, Nat.reduceSub, Nat.reduceLT, Nat.reduceBEq, reduceCtorEq, Nat.reduceMod, Nat.reduceLeDiff, Int.reduceLT, Int.reduceAdd, Int.reduceEq, Int.reduceToNat, hall, hallz]
theorem equal_run (c : CmdV) (ks : List (List UInt8)) (H : Heap) (hs : StepsAt H c.steps ks) (hN : Neat H) : CallTo Tryz.prog Tryz.tab 37 [.agg c.cells, .agg zcells] H [(.bool (eqZ c ks.length), H)] := by
  have hone := hs.one
  have hg : Grows H ((H.push (.cells 44 true c.cells)).push (.cells 44 true zcells)) := (Grows.push _ _).trans (.push _ _)
  have hN2 : Neat ((H.push (.cells 44 true c.cells)).push (.cells 44 true zcells)) := (hN.push _).push _
  have hc : c.cells = [.int .i64 c.kind, .int .i64 c.call, .int .i64 c.saga, .int .i64 c.ef0, .int .i64 c.ef1, .int .i64 c.ef2, .str c.key, .int .i64 c.delta, .int .i64 c.move, .str c.rf, .str c.rt, .int .i64 c.group,
   .str c.name, .int .i64 c.retries, .int .i64 c.deadline, c.steps, .int .i64 c.ie0, .int .i64 c.ie1, .int .i64 c.ie2, .int .i64 c.imove, .bool c.iin, .int .i64 c.igroup, .int .i64 c.res, .str c.data] := rfl
  have hz : zcells = [.int .i64 0, .int .i64 0, .int .i64 0, .int .i64 0, .int .i64 0, .int .i64 0, .str [], .int .i64 0, .int .i64 0, .str [], .str [], .int .i64 0, .str [], .int .i64 0, .int .i64 0, .nilslice, .int .i64 0, .int .i64 0, .int .i64 0, .int .i64 0, .bool false, .int .i64 0, .int .i64 0, .str []] := rfl
  have hall : allOne c.cells = true := by rw [hc]; simp (disch := decide) only [sxL, hone]
  have hallz : allOne zcells = true := by rw [hz]; simp (disch := decide) only [sxL]
  have hat1 : ((H.push (.cells 44 true c.cells)).push (.cells 44 true zcells)).blks.get H.next = some (.cells 44 true c.cells) := by simp -implicitDefEqProofs (disch := first | (simp only [ne_eq, Nat.reduceEqDiff, not_false_eq_true, Nat.reduceLT]; done) | assumption | (simp only [s_push_next, s_put_next, Nat.beq_refl]; done) | ((try simp only [s_push_next, s_put_next]) <;> omega) | exact s_one_map _ | exact s_one_slice _ _ _ _ _ | (refine (id ?_ : plainDraw _ = true); kernel_rfl) | fail) only [sxL, s_castN, s_cells_one, noOv, callFn, kindOf, kindC, kindB, unA, boxA, loadPtr, nilCheckA, fst1, ofValue, ofScalar, len, intBin, ibin, boolO, guardA, cCond, condV, cRet, cExit, cSkip, resOut, resultA, extractA, tupleO, Nat.reduceEqDiff, Nat.reduceAdd, Nat.reduceSub, Nat.reduceLT, Nat.reduceBEq, reduceCtorEq, Nat.reduceMod, Nat.reduceLeDiff, Int.reduceLT, Int.reduceAdd, Int.reduceEq, Int.reduceToNat]
  have hat2 : ((H.push (.cells 44 true c.cells)).push (.cells 44 true zcells)).blks.get (H.next + 1) = some (.cells 44 true zcells) := by simp -implicitDefEqProofs (disch := first | (simp only [ne_eq, Nat.reduceEqDiff, not_false_eq_true, Nat.reduceLT]; done) | assumption | (simp only [s_push_next, s_put_next, Nat.beq_refl]; done) | ((try simp only [s_push_next, s_put_next]) <;> omega) | exact s_one_map _ | exact s_one_slice _ _ _ _ _ | (refine (id ?_ : plainDraw _ = true); kernel_rfl) | fail) only [sxL, s_castN, s_cells_one, noOv, callFn, kindOf, kindC, kindB, unA, boxA, loadPtr, nilCheckA, fst1, ofValue, ofScalar, len, intBin, ibin, boolO, guardA, cCond, condV, cRet, cExit, cSkip, resOut, resultA, extractA, tupleO, Nat.reduceEqDiff, Nat.reduceAdd, Nat.reduceSub, Nat.reduceLT, Nat.reduceBEq, reduceCtorEq, Nat.reduceMod, Nat.reduceLeDiff, Int.reduceLT, Int.reduceAdd, Int.reduceEq, Int.reduceToNat]
  have hd := defEq_run c ks _ (hs.grow hN hg) hN2
  generalize hH2 : (H.push (.cells 44 true c.cells)).push (.cells 44 true zcells) = H2 at hg hN2 hat1 hat2 hd
  rw [hc] at hat1
  rw [hz] at hat2
  clear hc
  generalize c.cells = C at *
  clear hz
  generalize zcells = Z at *
  refine callTo_of Tryz.tabOk Tryz.func37 rfl rfl ?_
  show Gets Tryz.prog Tryz.tab ⟨none, 93⟩ _ _ _
  repeat refine Gets.seq ?_
  refine Gets.last Tryz.tabOk (ov := noOv) noOv_ok 8 (two_boxes _ _ H hall hallz _ _ _ _ _ _ _ _ _) ?_
  rw [hH2]
  change Gets _ _ _ _ _ _
  repeat refine Gets.seq ?_
  refine Gets.midA (H := H2) (I := fun tm => tm.get 2 = some (.ptr H.next 0) ∧ tm.get 3 = some (.ptr (H.next + 1) 0) ∧ tm.get 31 = some (.bool (!(defZ c ks.length && (effZ c && (rngZ c && itemZ c)))))) ?_ ?_
  · by_cases h1 : ¬ defZ c ks.length = true
    · try simp only [Decidable.not_not, Bool.not_eq_true] at h1
      try simp only [effZ, rngZ, itemZ] at h1
      refine Gets.last Tryz.tabOk (ov := ptO noOv 53 [.agg [.str c.name, .int .i64 c.retries, .int .i64 c.deadline, c.steps], .agg [.str [], .int .i64 0, .int .i64 0, .nilslice]] H2 [(.bool (defZ c ks.length), H2)]) (ptO_ok noOv_ok hd) 8 (s' := ?sn1) ?hn1 ?kn1; (case hn1 => (simp -implicitDefEqProofs (disch := first | (simp only [ne_eq, Nat.reduceEqDiff, not_false_eq_true, Nat.reduceLT]; done) | assumption | (simp only [s_push_next, s_put_next, Nat.beq_refl]; done) | ((try simp only [s_push_next, s_put_next]) <;> omega) | exact s_one_map _ | exact s_one_slice _ _ _ _ _ | (refine (id ?_ : plainDraw _ = true); kernel_rfl) | fail) only [sxL, s_castN, s_cells_one, noOv, callFn, kindOf, kindC, kindB, unA, boxA, loadPtr, nilCheckA, fst1, ofValue, ofScalar, len, intBin, ibin, boolO, guardA, cCond, condV, cRet, cExit, cSkip, resOut, resultA, extractA, tupleO, Nat.reduceEqDiff, Nat.reduceAdd, Nat.reduceSub, Nat.reduceLT, Nat.reduceBEq, reduceCtorEq, Nat.reduceMod, Nat.reduceLeDiff, Int.reduceLT, Int.reduceAdd, Int.reduceEq, Int.reduceToNat, s_draw, hat1, hat2, fa44_3, fa44_7, fa44_9, fa44_10, s_varTrue ia40 sz40, s_varTrue ia35 sz35, s_varTrue ia37 sz37, s_varTrue ia42 sz42, s_cellsIn, s_sbeq, s_bbeq, eqBin, yesO, notO, eq35, eq37, eq42, List.drop_succ_cons, List.drop_zero, List.take_succ_cons, List.take_zero, h1] <;> rfl)); (try (change Gets _ _ _ _ _ _; repeat refine Gets.seq ?_))
      refine ⟨rfl, _, rfl, ?_, ?_, ?_⟩
      · simp (disch := decide) only [sxL]
      · simp (disch := decide) only [sxL]
      · simp only [effZ, rngZ, itemZ, h1]
        simp (disch := decide) only [sxL, h1]
    · by_cases h2 : ¬ effZ c = true
      · try simp only [Decidable.not_not, Bool.not_eq_true] at h1 h2
        try simp only [effZ, rngZ, itemZ] at h1 h2
        refine Gets.last Tryz.tabOk (ov := ptO noOv 53 [.agg [.str c.name, .int .i64 c.retries, .int .i64 c.deadline, c.steps], .agg [.str [], .int .i64 0, .int .i64 0, .nilslice]] H2 [(.bool (defZ c ks.length), H2)]) (ptO_ok noOv_ok hd) 8 (s' := ?sn2) ?hn2 ?kn2; (case hn2 => (simp -implicitDefEqProofs (disch := first | (simp only [ne_eq, Nat.reduceEqDiff, not_false_eq_true, Nat.reduceLT]; done) | assumption | (simp only [s_push_next, s_put_next, Nat.beq_refl]; done) | ((try simp only [s_push_next, s_put_next]) <;> omega) | exact s_one_map _ | exact s_one_slice _ _ _ _ _ | (refine (id ?_ : plainDraw _ = true); kernel_rfl) | fail) only [sxL, s_castN, s_cells_one, noOv, callFn, kindOf, kindC, kindB, unA, boxA, loadPtr, nilCheckA, fst1, ofValue, ofScalar, len, intBin, ibin, boolO, guardA, cCond, condV, cRet, cExit, cSkip, resOut, resultA, extractA, tupleO, Nat.reduceEqDiff, Nat.reduceAdd, Nat.reduceSub, Nat.reduceLT, Nat.reduceBEq, reduceCtorEq, Nat.reduceMod, Nat.reduceLeDiff, Int.reduceLT, Int.reduceAdd, Int.reduceEq, Int.reduceToNat, s_draw, hat1, hat2, fa44_3, fa44_7, fa44_9, fa44_10, s_varTrue ia40 sz40, s_varTrue ia35 sz35, s_varTrue ia37 sz37, s_varTrue ia42 sz42, s_cellsIn, s_sbeq, s_bbeq, eqBin, yesO, notO, eq35, eq37, eq42, List.drop_succ_cons, List.drop_zero, List.take_succ_cons, List.take_zero, h1, h2] <;> rfl)); (try (change Gets _ _ _ _ _ _; repeat refine Gets.seq ?_))
        refine ⟨rfl, _, rfl, ?_, ?_, ?_⟩
        · simp (disch := decide) only [sxL]
        · simp (disch := decide) only [sxL]
        · simp only [effZ, rngZ, itemZ, h1, h2]
          simp (disch := decide) only [sxL, h1, h2]
      · by_cases h3 : ¬ rngZ c = true
        · try simp only [Decidable.not_not, Bool.not_eq_true] at h1 h2 h3
          try simp only [effZ, rngZ, itemZ] at h1 h2 h3
          refine Gets.last Tryz.tabOk (ov := ptO noOv 53 [.agg [.str c.name, .int .i64 c.retries, .int .i64 c.deadline, c.steps], .agg [.str [], .int .i64 0, .int .i64 0, .nilslice]] H2 [(.bool (defZ c ks.length), H2)]) (ptO_ok noOv_ok hd) 8 (s' := ?sn3) ?hn3 ?kn3; (case hn3 => (simp -implicitDefEqProofs (disch := first | (simp only [ne_eq, Nat.reduceEqDiff, not_false_eq_true, Nat.reduceLT]; done) | assumption | (simp only [s_push_next, s_put_next, Nat.beq_refl]; done) | ((try simp only [s_push_next, s_put_next]) <;> omega) | exact s_one_map _ | exact s_one_slice _ _ _ _ _ | (refine (id ?_ : plainDraw _ = true); kernel_rfl) | fail) only [sxL, s_castN, s_cells_one, noOv, callFn, kindOf, kindC, kindB, unA, boxA, loadPtr, nilCheckA, fst1, ofValue, ofScalar, len, intBin, ibin, boolO, guardA, cCond, condV, cRet, cExit, cSkip, resOut, resultA, extractA, tupleO, Nat.reduceEqDiff, Nat.reduceAdd, Nat.reduceSub, Nat.reduceLT, Nat.reduceBEq, reduceCtorEq, Nat.reduceMod, Nat.reduceLeDiff, Int.reduceLT, Int.reduceAdd, Int.reduceEq, Int.reduceToNat, s_draw, hat1, hat2, fa44_3, fa44_7, fa44_9, fa44_10, s_varTrue ia40 sz40, s_varTrue ia35 sz35, s_varTrue ia37 sz37, s_varTrue ia42 sz42, s_cellsIn, s_sbeq, s_bbeq, eqBin, yesO, notO, eq35, eq37, eq42, List.drop_succ_cons, List.drop_zero, List.take_succ_cons, List.take_zero, h1, h2, h3] <;> rfl)); (try (change Gets _ _ _ _ _ _; repeat refine Gets.seq ?_))
          refine ⟨rfl, _, rfl, ?_, ?_, ?_⟩
          · simp (disch := decide) only [sxL]
          · simp (disch := decide) only [sxL]
          · simp only [effZ, rngZ, itemZ, h1, h2, h3]
            simp (disch := decide) only [sxL, h1, h2, h3]
        · by_cases h4 : ¬ itemZ c = true
          · try simp only [Decidable.not_not, Bool.not_eq_true] at h1 h2 h3 h4
            try simp only [effZ, rngZ, itemZ] at h1 h2 h3 h4
            refine Gets.last Tryz.tabOk (ov := ptO noOv 53 [.agg [.str c.name, .int .i64 c.retries, .int .i64 c.deadline, c.steps], .agg [.str [], .int .i64 0, .int .i64 0, .nilslice]] H2 [(.bool (defZ c ks.length), H2)]) (ptO_ok noOv_ok hd) 8 (s' := ?sn4) ?hn4 ?kn4; (case hn4 => (simp -implicitDefEqProofs (disch := first | (simp only [ne_eq, Nat.reduceEqDiff, not_false_eq_true, Nat.reduceLT]; done) | assumption | (simp only [s_push_next, s_put_next, Nat.beq_refl]; done) | ((try simp only [s_push_next, s_put_next]) <;> omega) | exact s_one_map _ | exact s_one_slice _ _ _ _ _ | (refine (id ?_ : plainDraw _ = true); kernel_rfl) | fail) only [sxL, s_castN, s_cells_one, noOv, callFn, kindOf, kindC, kindB, unA, boxA, loadPtr, nilCheckA, fst1, ofValue, ofScalar, len, intBin, ibin, boolO, guardA, cCond, condV, cRet, cExit, cSkip, resOut, resultA, extractA, tupleO, Nat.reduceEqDiff, Nat.reduceAdd, Nat.reduceSub, Nat.reduceLT, Nat.reduceBEq, reduceCtorEq, Nat.reduceMod, Nat.reduceLeDiff, Int.reduceLT, Int.reduceAdd, Int.reduceEq, Int.reduceToNat, s_draw, hat1, hat2, fa44_3, fa44_7, fa44_9, fa44_10, s_varTrue ia40 sz40, s_varTrue ia35 sz35, s_varTrue ia37 sz37, s_varTrue ia42 sz42, s_cellsIn, s_sbeq, s_bbeq, eqBin, yesO, notO, eq35, eq37, eq42, List.drop_succ_cons, List.drop_zero, List.take_succ_cons, List.take_zero, h1, h2, h3, h4] <;> rfl)); (try (change Gets _ _ _ _ _ _; repeat refine Gets.seq ?_))
            refine ⟨rfl, _, rfl, ?_, ?_, ?_⟩
            · simp (disch := decide) only [sxL]
            · simp (disch := decide) only [sxL]
            · simp only [effZ, rngZ, itemZ, h1, h2, h3, h4]
              simp (disch := decide) only [sxL, h1, h2, h3, h4]
          · try simp only [Decidable.not_not, Bool.not_eq_true] at h1 h2 h3 h4
            try simp only [effZ, rngZ, itemZ] at h1 h2 h3 h4
            refine Gets.last Tryz.tabOk (ov := ptO noOv 53 [.agg [.str c.name, .int .i64 c.retries, .int .i64 c.deadline, c.steps], .agg [.str [], .int .i64 0, .int .i64 0, .nilslice]] H2 [(.bool (defZ c ks.length), H2)]) (ptO_ok noOv_ok hd) 8 (s' := ?sn5) ?hn5 ?kn5; (case hn5 => (simp -implicitDefEqProofs (disch := first | (simp only [ne_eq, Nat.reduceEqDiff, not_false_eq_true, Nat.reduceLT]; done) | assumption | (simp only [s_push_next, s_put_next, Nat.beq_refl]; done) | ((try simp only [s_push_next, s_put_next]) <;> omega) | exact s_one_map _ | exact s_one_slice _ _ _ _ _ | (refine (id ?_ : plainDraw _ = true); kernel_rfl) | fail) only [sxL, s_castN, s_cells_one, noOv, callFn, kindOf, kindC, kindB, unA, boxA, loadPtr, nilCheckA, fst1, ofValue, ofScalar, len, intBin, ibin, boolO, guardA, cCond, condV, cRet, cExit, cSkip, resOut, resultA, extractA, tupleO, Nat.reduceEqDiff, Nat.reduceAdd, Nat.reduceSub, Nat.reduceLT, Nat.reduceBEq, reduceCtorEq, Nat.reduceMod, Nat.reduceLeDiff, Int.reduceLT, Int.reduceAdd, Int.reduceEq, Int.reduceToNat, s_draw, hat1, hat2, fa44_3, fa44_7, fa44_9, fa44_10, s_varTrue ia40 sz40, s_varTrue ia35 sz35, s_varTrue ia37 sz37, s_varTrue ia42 sz42, s_cellsIn, s_sbeq, s_bbeq, eqBin, yesO, notO, eq35, eq37, eq42, List.drop_succ_cons, List.drop_zero, List.take_succ_cons, List.take_zero, h1, h2, h3, h4] <;> rfl)); (try (change Gets _ _ _ _ _ _; repeat refine Gets.seq ?_))
            refine ⟨rfl, _, rfl, ?_, ?_, ?_⟩
            · simp (disch := decide) only [sxL]
            · simp (disch := decide) only [sxL]
            · simp only [effZ, rngZ, itemZ, h1, h2, h3, h4]
              simp (disch := decide) only [sxL, h1, h2, h3, h4]
  rintro tm ⟨i2, i3, i31⟩
  change Gets _ _ _ _ _ _
  cases hB : defZ c ks.length && (effZ c && (rngZ c && itemZ c))
  · have : eqZ c ks.length = false := by
      unfold eqZ
      cases h1 : defZ c ks.length <;> cases h2 : effZ c <;> cases h3 : rngZ c <;> cases h4 : itemZ c <;> simp_all
    rw [this]
    refine Gets.condT (by simp (disch := decide) only [sxL, i31, hB]) (Gets.seq ?_)
    refine Gets.last Tryz.tabOk (ov := noOv) (noOv_ok) 8 (s' := ?sn6) ?hn6 ?kn6; (case hn6 => (simp -implicitDefEqProofs (disch := first | (simp only [ne_eq, Nat.reduceEqDiff, not_false_eq_true, Nat.reduceLT]; done) | assumption | (simp only [s_push_next, s_put_next, Nat.beq_refl]; done) | ((try simp only [s_push_next, s_put_next]) <;> omega) | exact s_one_map _ | exact s_one_slice _ _ _ _ _ | (refine (id ?_ : plainDraw _ = true); kernel_rfl) | fail) only [sxL, s_castN, s_cells_one, noOv, callFn, kindOf, kindC, kindB, unA, boxA, loadPtr, nilCheckA, fst1, ofValue, ofScalar, len, intBin, ibin, boolO, guardA, cCond, condV, cRet, cExit, cSkip, resOut, resultA, extractA, tupleO, Nat.reduceEqDiff, Nat.reduceAdd, Nat.reduceSub, Nat.reduceLT, Nat.reduceBEq, reduceCtorEq, Nat.reduceMod, Nat.reduceLeDiff, Int.reduceLT, Int.reduceAdd, Int.reduceEq, Int.reduceToNat, s_draw] <;> rfl)); (try (change Gets _ _ _ _ _ _; repeat refine Gets.seq ?_))
    refine Gets.ret Tryz.tabOk ?_
    exact fin_pure rfl (by simp (disch := decide) only [sxL, Tryz.f37, resultA]) hg hN trivial
  · refine Gets.condF (by simp (disch := decide) only [sxL, i31, hB]) (Gets.skip Tryz.tabOk ?_)
    change Gets _ _ _ _ _ _
    refine Gets.seq ?_
    have hE : eqZ c ks.length = (decide (c.kind = 0) && (decide (c.call = 0) && (decide (c.saga = 0) && (decide (c.key = []) && (decide (c.delta = 0) && (decide (c.move = 0) && (decide (c.group = 0) && (decide (c.res = 0) && decide (c.data = []))))))))) := by
      unfold eqZ
      cases h1 : defZ c ks.length <;> cases h2 : effZ c <;> cases h3 : rngZ c <;> cases h4 : itemZ c <;> simp_all
    rw [hE]
    refine Gets.midA (H := H2) (I := fun tm => tm.get 4 = some (.bool (decide (c.kind = 0) && (decide (c.call = 0) && (decide (c.saga = 0) && (decide (c.key = []) && (decide (c.delta = 0) && (decide (c.move = 0) && (decide (c.group = 0) && (decide (c.res = 0) && decide (c.data = [])))))))))))  ?_ ?_
    · by_cases h5 : ¬ c.kind = 0
      · try simp only [Decidable.not_not] at h5
        refine Gets.last Tryz.tabOk (ov := noOv) (noOv_ok) 8 (s' := ?sn7) ?hn7 ?kn7; (case hn7 => (simp -implicitDefEqProofs (disch := first | (simp only [ne_eq, Nat.reduceEqDiff, not_false_eq_true, Nat.reduceLT]; done) | assumption | (simp only [s_push_next, s_put_next, Nat.beq_refl]; done) | ((try simp only [s_push_next, s_put_next]) <;> omega) | exact s_one_map _ | exact s_one_slice _ _ _ _ _ | (refine (id ?_ : plainDraw _ = true); kernel_rfl) | fail) only [sxL, s_castN, s_cells_one, noOv, callFn, kindOf, kindC, kindB, unA, boxA, loadPtr, nilCheckA, fst1, ofValue, ofScalar, len, intBin, ibin, boolO, guardA, cCond, condV, cRet, cExit, cSkip, resOut, resultA, extractA, tupleO, Nat.reduceEqDiff, Nat.reduceAdd, Nat.reduceSub, Nat.reduceLT, Nat.reduceBEq, reduceCtorEq, Nat.reduceMod, Nat.reduceLeDiff, Int.reduceLT, Int.reduceAdd, Int.reduceEq, Int.reduceToNat, s_draw, i2, i3, hat1, hat2, fa44_0, fa44_1, fa44_2, fa44_4, fa44_5, fa44_6, fa44_8, fa44_11, fa44_12, s_varFalse ia9, s_varFalse ia3, s_varFalse ia2, s_varFalse ia28, sbin, s_sbeq, h5] <;> rfl)); (try (change Gets _ _ _ _ _ _; repeat refine Gets.seq ?_))
        refine ⟨rfl, _, rfl, ?_⟩
        simp (disch := decide) only [sxL, h5]
      · by_cases h6 : ¬ c.call = 0
        · try simp only [Decidable.not_not] at h5 h6
          refine Gets.last Tryz.tabOk (ov := noOv) (noOv_ok) 8 (s' := ?sn8) ?hn8 ?kn8; (case hn8 => (simp -implicitDefEqProofs (disch := first | (simp only [ne_eq, Nat.reduceEqDiff, not_false_eq_true, Nat.reduceLT]; done) | assumption | (simp only [s_push_next, s_put_next, Nat.beq_refl]; done) | ((try simp only [s_push_next, s_put_next]) <;> omega) | exact s_one_map _ | exact s_one_slice _ _ _ _ _ | (refine (id ?_ : plainDraw _ = true); kernel_rfl) | fail) only [sxL, s_castN, s_cells_one, noOv, callFn, kindOf, kindC, kindB, unA, boxA, loadPtr, nilCheckA, fst1, ofValue, ofScalar, len, intBin, ibin, boolO, guardA, cCond, condV, cRet, cExit, cSkip, resOut, resultA, extractA, tupleO, Nat.reduceEqDiff, Nat.reduceAdd, Nat.reduceSub, Nat.reduceLT, Nat.reduceBEq, reduceCtorEq, Nat.reduceMod, Nat.reduceLeDiff, Int.reduceLT, Int.reduceAdd, Int.reduceEq, Int.reduceToNat, s_draw, i2, i3, hat1, hat2, fa44_0, fa44_1, fa44_2, fa44_4, fa44_5, fa44_6, fa44_8, fa44_11, fa44_12, s_varFalse ia9, s_varFalse ia3, s_varFalse ia2, s_varFalse ia28, sbin, s_sbeq, h5, h6] <;> rfl)); (try (change Gets _ _ _ _ _ _; repeat refine Gets.seq ?_))
          refine ⟨rfl, _, rfl, ?_⟩
          simp (disch := decide) only [sxL, h5, h6]
        · by_cases h7 : ¬ c.saga = 0
          · try simp only [Decidable.not_not] at h5 h6 h7
            refine Gets.last Tryz.tabOk (ov := noOv) (noOv_ok) 8 (s' := ?sn9) ?hn9 ?kn9; (case hn9 => (simp -implicitDefEqProofs (disch := first | (simp only [ne_eq, Nat.reduceEqDiff, not_false_eq_true, Nat.reduceLT]; done) | assumption | (simp only [s_push_next, s_put_next, Nat.beq_refl]; done) | ((try simp only [s_push_next, s_put_next]) <;> omega) | exact s_one_map _ | exact s_one_slice _ _ _ _ _ | (refine (id ?_ : plainDraw _ = true); kernel_rfl) | fail) only [sxL, s_castN, s_cells_one, noOv, callFn, kindOf, kindC, kindB, unA, boxA, loadPtr, nilCheckA, fst1, ofValue, ofScalar, len, intBin, ibin, boolO, guardA, cCond, condV, cRet, cExit, cSkip, resOut, resultA, extractA, tupleO, Nat.reduceEqDiff, Nat.reduceAdd, Nat.reduceSub, Nat.reduceLT, Nat.reduceBEq, reduceCtorEq, Nat.reduceMod, Nat.reduceLeDiff, Int.reduceLT, Int.reduceAdd, Int.reduceEq, Int.reduceToNat, s_draw, i2, i3, hat1, hat2, fa44_0, fa44_1, fa44_2, fa44_4, fa44_5, fa44_6, fa44_8, fa44_11, fa44_12, s_varFalse ia9, s_varFalse ia3, s_varFalse ia2, s_varFalse ia28, sbin, s_sbeq, h5, h6, h7] <;> rfl)); (try (change Gets _ _ _ _ _ _; repeat refine Gets.seq ?_))
            refine ⟨rfl, _, rfl, ?_⟩
            simp (disch := decide) only [sxL, h5, h6, h7]
          · by_cases h8 : ¬ c.key = []
            · try simp only [Decidable.not_not] at h5 h6 h7 h8
              refine Gets.last Tryz.tabOk (ov := noOv) (noOv_ok) 8 (s' := ?sn10) ?hn10 ?kn10; (case hn10 => (simp -implicitDefEqProofs (disch := first | (simp only [ne_eq, Nat.reduceEqDiff, not_false_eq_true, Nat.reduceLT]; done) | assumption | (simp only [s_push_next, s_put_next, Nat.beq_refl]; done) | ((try simp only [s_push_next, s_put_next]) <;> omega) | exact s_one_map _ | exact s_one_slice _ _ _ _ _ | (refine (id ?_ : plainDraw _ = true); kernel_rfl) | fail) only [sxL, s_castN, s_cells_one, noOv, callFn, kindOf, kindC, kindB, unA, boxA, loadPtr, nilCheckA, fst1, ofValue, ofScalar, len, intBin, ibin, boolO, guardA, cCond, condV, cRet, cExit, cSkip, resOut, resultA, extractA, tupleO, Nat.reduceEqDiff, Nat.reduceAdd, Nat.reduceSub, Nat.reduceLT, Nat.reduceBEq, reduceCtorEq, Nat.reduceMod, Nat.reduceLeDiff, Int.reduceLT, Int.reduceAdd, Int.reduceEq, Int.reduceToNat, s_draw, i2, i3, hat1, hat2, fa44_0, fa44_1, fa44_2, fa44_4, fa44_5, fa44_6, fa44_8, fa44_11, fa44_12, s_varFalse ia9, s_varFalse ia3, s_varFalse ia2, s_varFalse ia28, sbin, s_sbeq, h5, h6, h7, h8] <;> rfl)); (try (change Gets _ _ _ _ _ _; repeat refine Gets.seq ?_))
              refine ⟨rfl, _, rfl, ?_⟩
              simp (disch := decide) only [sxL, h5, h6, h7, h8]
            · by_cases h9 : ¬ c.delta = 0
              · try simp only [Decidable.not_not] at h5 h6 h7 h8 h9
                refine Gets.last Tryz.tabOk (ov := noOv) (noOv_ok) 8 (s' := ?sn11) ?hn11 ?kn11; (case hn11 => (simp -implicitDefEqProofs (disch := first | (simp only [ne_eq, Nat.reduceEqDiff, not_false_eq_true, Nat.reduceLT]; done) | assumption | (simp only [s_push_next, s_put_next, Nat.beq_refl]; done) | ((try simp only [s_push_next, s_put_next]) <;> omega) | exact s_one_map _ | exact s_one_slice _ _ _ _ _ | (refine (id ?_ : plainDraw _ = true); kernel_rfl) | fail) only [sxL, s_castN, s_cells_one, noOv, callFn, kindOf, kindC, kindB, unA, boxA, loadPtr, nilCheckA, fst1, ofValue, ofScalar, len, intBin, ibin, boolO, guardA, cCond, condV, cRet, cExit, cSkip, resOut, resultA, extractA, tupleO, Nat.reduceEqDiff, Nat.reduceAdd, Nat.reduceSub, Nat.reduceLT, Nat.reduceBEq, reduceCtorEq, Nat.reduceMod, Nat.reduceLeDiff, Int.reduceLT, Int.reduceAdd, Int.reduceEq, Int.reduceToNat, s_draw, i2, i3, hat1, hat2, fa44_0, fa44_1, fa44_2, fa44_4, fa44_5, fa44_6, fa44_8, fa44_11, fa44_12, s_varFalse ia9, s_varFalse ia3, s_varFalse ia2, s_varFalse ia28, sbin, s_sbeq, h5, h6, h7, h8, h9] <;> rfl)); (try (change Gets _ _ _ _ _ _; repeat refine Gets.seq ?_))
                refine ⟨rfl, _, rfl, ?_⟩
                simp (disch := decide) only [sxL, h5, h6, h7, h8, h9]
              · by_cases h10 : ¬ c.move = 0
                · try simp only [Decidable.not_not] at h5 h6 h7 h8 h9 h10
                  refine Gets.last Tryz.tabOk (ov := noOv) (noOv_ok) 8 (s' := ?sn12) ?hn12 ?kn12; (case hn12 => (simp -implicitDefEqProofs (disch := first | (simp only [ne_eq, Nat.reduceEqDiff, not_false_eq_true, Nat.reduceLT]; done) | assumption | (simp only [s_push_next, s_put_next, Nat.beq_refl]; done) | ((try simp only [s_push_next, s_put_next]) <;> omega) | exact s_one_map _ | exact s_one_slice _ _ _ _ _ | (refine (id ?_ : plainDraw _ = true); kernel_rfl) | fail) only [sxL, s_castN, s_cells_one, noOv, callFn, kindOf, kindC, kindB, unA, boxA, loadPtr, nilCheckA, fst1, ofValue, ofScalar, len, intBin, ibin, boolO, guardA, cCond, condV, cRet, cExit, cSkip, resOut, resultA, extractA, tupleO, Nat.reduceEqDiff, Nat.reduceAdd, Nat.reduceSub, Nat.reduceLT, Nat.reduceBEq, reduceCtorEq, Nat.reduceMod, Nat.reduceLeDiff, Int.reduceLT, Int.reduceAdd, Int.reduceEq, Int.reduceToNat, s_draw, i2, i3, hat1, hat2, fa44_0, fa44_1, fa44_2, fa44_4, fa44_5, fa44_6, fa44_8, fa44_11, fa44_12, s_varFalse ia9, s_varFalse ia3, s_varFalse ia2, s_varFalse ia28, sbin, s_sbeq, h5, h6, h7, h8, h9, h10] <;> rfl)); (try (change Gets _ _ _ _ _ _; repeat refine Gets.seq ?_))
                  refine ⟨rfl, _, rfl, ?_⟩
                  simp (disch := decide) only [sxL, h5, h6, h7, h8, h9, h10]
                · by_cases h11 : ¬ c.group = 0
                  · try simp only [Decidable.not_not] at h5 h6 h7 h8 h9 h10 h11
                    refine Gets.last Tryz.tabOk (ov := noOv) (noOv_ok) 8 (s' := ?sn13) ?hn13 ?kn13; (case hn13 => (simp -implicitDefEqProofs (disch := first | (simp only [ne_eq, Nat.reduceEqDiff, not_false_eq_true, Nat.reduceLT]; done) | assumption | (simp only [s_push_next, s_put_next, Nat.beq_refl]; done) | ((try simp only [s_push_next, s_put_next]) <;> omega) | exact s_one_map _ | exact s_one_slice _ _ _ _ _ | (refine (id ?_ : plainDraw _ = true); kernel_rfl) | fail) only [sxL, s_castN, s_cells_one, noOv, callFn, kindOf, kindC, kindB, unA, boxA, loadPtr, nilCheckA, fst1, ofValue, ofScalar, len, intBin, ibin, boolO, guardA, cCond, condV, cRet, cExit, cSkip, resOut, resultA, extractA, tupleO, Nat.reduceEqDiff, Nat.reduceAdd, Nat.reduceSub, Nat.reduceLT, Nat.reduceBEq, reduceCtorEq, Nat.reduceMod, Nat.reduceLeDiff, Int.reduceLT, Int.reduceAdd, Int.reduceEq, Int.reduceToNat, s_draw, i2, i3, hat1, hat2, fa44_0, fa44_1, fa44_2, fa44_4, fa44_5, fa44_6, fa44_8, fa44_11, fa44_12, s_varFalse ia9, s_varFalse ia3, s_varFalse ia2, s_varFalse ia28, sbin, s_sbeq, h5, h6, h7, h8, h9, h10, h11] <;> rfl)); (try (change Gets _ _ _ _ _ _; repeat refine Gets.seq ?_))
                    refine ⟨rfl, _, rfl, ?_⟩
                    simp (disch := decide) only [sxL, h5, h6, h7, h8, h9, h10, h11]
                  · by_cases h12 : ¬ c.res = 0
                    · try simp only [Decidable.not_not] at h5 h6 h7 h8 h9 h10 h11 h12
                      refine Gets.last Tryz.tabOk (ov := noOv) (noOv_ok) 8 (s' := ?sn14) ?hn14 ?kn14; (case hn14 => (simp -implicitDefEqProofs (disch := first | (simp only [ne_eq, Nat.reduceEqDiff, not_false_eq_true, Nat.reduceLT]; done) | assumption | (simp only [s_push_next, s_put_next, Nat.beq_refl]; done) | ((try simp only [s_push_next, s_put_next]) <;> omega) | exact s_one_map _ | exact s_one_slice _ _ _ _ _ | (refine (id ?_ : plainDraw _ = true); kernel_rfl) | fail) only [sxL, s_castN, s_cells_one, noOv, callFn, kindOf, kindC, kindB, unA, boxA, loadPtr, nilCheckA, fst1, ofValue, ofScalar, len, intBin, ibin, boolO, guardA, cCond, condV, cRet, cExit, cSkip, resOut, resultA, extractA, tupleO, Nat.reduceEqDiff, Nat.reduceAdd, Nat.reduceSub, Nat.reduceLT, Nat.reduceBEq, reduceCtorEq, Nat.reduceMod, Nat.reduceLeDiff, Int.reduceLT, Int.reduceAdd, Int.reduceEq, Int.reduceToNat, s_draw, i2, i3, hat1, hat2, fa44_0, fa44_1, fa44_2, fa44_4, fa44_5, fa44_6, fa44_8, fa44_11, fa44_12, s_varFalse ia9, s_varFalse ia3, s_varFalse ia2, s_varFalse ia28, sbin, s_sbeq, h5, h6, h7, h8, h9, h10, h11, h12] <;> rfl)); (try (change Gets _ _ _ _ _ _; repeat refine Gets.seq ?_))
                      refine ⟨rfl, _, rfl, ?_⟩
                      simp (disch := decide) only [sxL, h5, h6, h7, h8, h9, h10, h11, h12]
                    · try simp only [Decidable.not_not] at h5 h6 h7 h8 h9 h10 h11 h12
                      refine Gets.last Tryz.tabOk (ov := noOv) (noOv_ok) 8 (s' := ?sn15) ?hn15 ?kn15; (case hn15 => (simp -implicitDefEqProofs (disch := first | (simp only [ne_eq, Nat.reduceEqDiff, not_false_eq_true, Nat.reduceLT]; done) | assumption | (simp only [s_push_next, s_put_next, Nat.beq_refl]; done) | ((try simp only [s_push_next, s_put_next]) <;> omega) | exact s_one_map _ | exact s_one_slice _ _ _ _ _ | (refine (id ?_ : plainDraw _ = true); kernel_rfl) | fail) only [sxL, s_castN, s_cells_one, noOv, callFn, kindOf, kindC, kindB, unA, boxA, loadPtr, nilCheckA, fst1, ofValue, ofScalar, len, intBin, ibin, boolO, guardA, cCond, condV, cRet, cExit, cSkip, resOut, resultA, extractA, tupleO, Nat.reduceEqDiff, Nat.reduceAdd, Nat.reduceSub, Nat.reduceLT, Nat.reduceBEq, reduceCtorEq, Nat.reduceMod, Nat.reduceLeDiff, Int.reduceLT, Int.reduceAdd, Int.reduceEq, Int.reduceToNat, s_draw, i2, i3, hat1, hat2, fa44_0, fa44_1, fa44_2, fa44_4, fa44_5, fa44_6, fa44_8, fa44_11, fa44_12, s_varFalse ia9, s_varFalse ia3, s_varFalse ia2, s_varFalse ia28, sbin, s_sbeq, h5, h6, h7, h8, h9, h10, h11, h12] <;> rfl)); (try (change Gets _ _ _ _ _ _; repeat refine Gets.seq ?_))
                      refine ⟨rfl, _, rfl, ?_⟩
                      simp (disch := decide) only [sxL, h5, h6, h7, h8, h9, h10, h11, h12]
    rintro tm j4
    change Gets _ _ _ _ _ _
    refine Gets.ret Tryz.tabOk ?_
    exact fin_pure rfl (by simp -implicitDefEqProofs (disch := first | (simp only [ne_eq, Nat.reduceEqDiff, not_false_eq_true, Nat.reduceLT]; done) | assumption | (simp only [s_push_next, s_put_next, Nat.beq_refl]; done) | ((try simp only [s_push_next, s_put_next]) <;> omega) | exact s_one_map _ | exact s_one_slice _ _ _ _ _ | (refine (id ?_ : plainDraw _ = true); kernel_rfl) | fail) only [sxL, s_castN, s_cells_one, noOv, callFn, kindOf, kindC, kindB, unA, boxA, loadPtr, nilCheckA, fst1, ofValue, ofScalar, len, intBin, ibin, boolO, guardA, cCond, condV, cRet, cExit, cSkip, resOut, resultA, extractA, tupleO, Nat.reduceEqDiff, Nat.reduceAdd, Nat.reduceSub, Nat.reduceLT, Nat.reduceBEq, reduceCtorEq, Nat.reduceMod, Nat.reduceLeDiff, Int.reduceLT, Int.reduceAdd, Int.reduceEq, Int.reduceToNat, Tryz.f37, j4]) hg hN trivial
end Go.Proofs

namespace Go.Proofs
open Go.Sx
set_option maxRecDepth 100000
theorem reply_run (e n : Int) (s : List UInt8) (H : Heap) (hN : Neat H) : CallTo Tryz.prog Tryz.tab 38 [.agg [.int .i64 e, .int .i64 n, .str s]] H [(.int .i64 (checkReply e n s), H)] :=
  callTo_pure Tryz.tabOk ov1_ok (checkReply_run 0 _ _ _ H) (.push _ _) hN trivial
/-- the globals that stand -/
def GlobAt (H : Heap) : Prop := H.blks.get 0 = some (.big 27 1 [.slice 9 0 5 false 5]) ∧ H.blks.get 9 = some (.big 3 5 [.int .i64 2, .int .i64 11, .int .i64 12, .int .i64 13, .int .i64 14])
theorem GlobAt.grow {H H' : Heap} (h : GlobAt H) (hN : Neat H) (hg : Grows H H') : GlobAt H' := ⟨by rw [hg.get 0 (hN 0 _ h.1)]; exact h.1, by rw [hg.get 9 (hN 9 _ h.2)]; exact h.2⟩
def callKindB (x : Int) : Bool := decide (x = 2) || (decide (x = 11) || (decide (x = 12) || (decide (x = 13) || decide (x = 14))))
theorem contains_run (x : Int) (H : Heap) (hG : GlobAt H) (hN : Neat H) : CallTo Tryz.prog Tryz.tab 39 [.slice 9 0 5 false 5, .int .i64 x] H [(.bool (callKindB x), H)] := by
  refine callTo_pure (n := 20) (v := .bool (callKindB x)) Tryz.tabOk (ov := noOv) noOv_ok (H' := H) ?_ (.refl _) hN trivial
  have hb := hG.2
  have w1 : awrap .i64 1 = 1 := rfl
  have w2 : awrap .i64 2 = 2 := rfl
  have w3 : awrap .i64 3 = 3 := rfl
  have w4 : awrap .i64 4 = 4 := rfl
  have w5 : awrap .i64 5 = 5 := rfl
  have g0 : (0 : Int) ≤ 0 ∧ (0 : Int) < 5 := by omega
  have g1 : (0 : Int) ≤ 1 ∧ (1 : Int) < 5 := by omega
  have g2 : (0 : Int) ≤ 2 ∧ (2 : Int) < 5 := by omega
  have g3 : (0 : Int) ≤ 3 ∧ (3 : Int) < 5 := by omega
  have g4 : (0 : Int) ≤ 4 ∧ (4 : Int) < 5 := by omega
  rw [s_callO, s_callB, get39]
  unfold callKindB
  by_cases h1 : x = 2
  · simp -implicitDefEqProofs (disch := first | (simp only [ne_eq, Nat.reduceEqDiff, not_false_eq_true, Nat.reduceLT]; done) | assumption | (simp only [s_push_next, s_put_next, Nat.beq_refl]; done) | ((try simp only [s_push_next, s_put_next]) <;> omega) | exact s_one_map _ | exact s_one_slice _ _ _ _ _ | (refine (id ?_ : plainDraw _ = true); kernel_rfl) | fail) only [sxL, s_castN, s_cells_one, noOv, callFn, kindOf, kindC, kindB, unA, boxA, loadPtr, nilCheckA, fst1, ofValue, ofScalar, len, intBin, ibin, boolO, guardA, cCond, condV, cRet, cExit, cSkip, resOut, resultA, extractA, tupleO, Nat.reduceEqDiff, Nat.reduceAdd, Nat.reduceSub, Nat.reduceLT, Nat.reduceBEq, reduceCtorEq, Nat.reduceMod, Nat.reduceLeDiff, Int.reduceLT, Int.reduceAdd, Int.reduceEq, Int.reduceToNat, Tryz.f39, Tryz.f55, get55, s_varFalse ia3, s_lenSlice ud27, s_indexSlice ud27 sz3, hb, w1, w2, w3, w4, w5, g0, g1, g2, g3, g4, and_self, Nat.mul_one, Int.toNat_zero, Int.toNat_one, h1]
  · by_cases h2 : x = 11
    · simp -implicitDefEqProofs (disch := first | (simp only [ne_eq, Nat.reduceEqDiff, not_false_eq_true, Nat.reduceLT]; done) | assumption | (simp only [s_push_next, s_put_next, Nat.beq_refl]; done) | ((try simp only [s_push_next, s_put_next]) <;> omega) | exact s_one_map _ | exact s_one_slice _ _ _ _ _ | (refine (id ?_ : plainDraw _ = true); kernel_rfl) | fail) only [sxL, s_castN, s_cells_one, noOv, callFn, kindOf, kindC, kindB, unA, boxA, loadPtr, nilCheckA, fst1, ofValue, ofScalar, len, intBin, ibin, boolO, guardA, cCond, condV, cRet, cExit, cSkip, resOut, resultA, extractA, tupleO, Nat.reduceEqDiff, Nat.reduceAdd, Nat.reduceSub, Nat.reduceLT, Nat.reduceBEq, reduceCtorEq, Nat.reduceMod, Nat.reduceLeDiff, Int.reduceLT, Int.reduceAdd, Int.reduceEq, Int.reduceToNat, Tryz.f39, Tryz.f55, get55, s_varFalse ia3, s_lenSlice ud27, s_indexSlice ud27 sz3, hb, w1, w2, w3, w4, w5, g0, g1, g2, g3, g4, and_self, Nat.mul_one, Int.toNat_zero, Int.toNat_one, h1, h2]
    · by_cases h3 : x = 12
      · simp -implicitDefEqProofs (disch := first | (simp only [ne_eq, Nat.reduceEqDiff, not_false_eq_true, Nat.reduceLT]; done) | assumption | (simp only [s_push_next, s_put_next, Nat.beq_refl]; done) | ((try simp only [s_push_next, s_put_next]) <;> omega) | exact s_one_map _ | exact s_one_slice _ _ _ _ _ | (refine (id ?_ : plainDraw _ = true); kernel_rfl) | fail) only [sxL, s_castN, s_cells_one, noOv, callFn, kindOf, kindC, kindB, unA, boxA, loadPtr, nilCheckA, fst1, ofValue, ofScalar, len, intBin, ibin, boolO, guardA, cCond, condV, cRet, cExit, cSkip, resOut, resultA, extractA, tupleO, Nat.reduceEqDiff, Nat.reduceAdd, Nat.reduceSub, Nat.reduceLT, Nat.reduceBEq, reduceCtorEq, Nat.reduceMod, Nat.reduceLeDiff, Int.reduceLT, Int.reduceAdd, Int.reduceEq, Int.reduceToNat, Tryz.f39, Tryz.f55, get55, s_varFalse ia3, s_lenSlice ud27, s_indexSlice ud27 sz3, hb, w1, w2, w3, w4, w5, g0, g1, g2, g3, g4, and_self, Nat.mul_one, Int.toNat_zero, Int.toNat_one, h1, h2, h3]
      · by_cases h4 : x = 13
        · simp -implicitDefEqProofs (disch := first | (simp only [ne_eq, Nat.reduceEqDiff, not_false_eq_true, Nat.reduceLT]; done) | assumption | (simp only [s_push_next, s_put_next, Nat.beq_refl]; done) | ((try simp only [s_push_next, s_put_next]) <;> omega) | exact s_one_map _ | exact s_one_slice _ _ _ _ _ | (refine (id ?_ : plainDraw _ = true); kernel_rfl) | fail) only [sxL, s_castN, s_cells_one, noOv, callFn, kindOf, kindC, kindB, unA, boxA, loadPtr, nilCheckA, fst1, ofValue, ofScalar, len, intBin, ibin, boolO, guardA, cCond, condV, cRet, cExit, cSkip, resOut, resultA, extractA, tupleO, Nat.reduceEqDiff, Nat.reduceAdd, Nat.reduceSub, Nat.reduceLT, Nat.reduceBEq, reduceCtorEq, Nat.reduceMod, Nat.reduceLeDiff, Int.reduceLT, Int.reduceAdd, Int.reduceEq, Int.reduceToNat, Tryz.f39, Tryz.f55, get55, s_varFalse ia3, s_lenSlice ud27, s_indexSlice ud27 sz3, hb, w1, w2, w3, w4, w5, g0, g1, g2, g3, g4, and_self, Nat.mul_one, Int.toNat_zero, Int.toNat_one, h1, h2, h3, h4]
        · by_cases h5 : x = 14
          · simp -implicitDefEqProofs (disch := first | (simp only [ne_eq, Nat.reduceEqDiff, not_false_eq_true, Nat.reduceLT]; done) | assumption | (simp only [s_push_next, s_put_next, Nat.beq_refl]; done) | ((try simp only [s_push_next, s_put_next]) <;> omega) | exact s_one_map _ | exact s_one_slice _ _ _ _ _ | (refine (id ?_ : plainDraw _ = true); kernel_rfl) | fail) only [sxL, s_castN, s_cells_one, noOv, callFn, kindOf, kindC, kindB, unA, boxA, loadPtr, nilCheckA, fst1, ofValue, ofScalar, len, intBin, ibin, boolO, guardA, cCond, condV, cRet, cExit, cSkip, resOut, resultA, extractA, tupleO, Nat.reduceEqDiff, Nat.reduceAdd, Nat.reduceSub, Nat.reduceLT, Nat.reduceBEq, reduceCtorEq, Nat.reduceMod, Nat.reduceLeDiff, Int.reduceLT, Int.reduceAdd, Int.reduceEq, Int.reduceToNat, Tryz.f39, Tryz.f55, get55, s_varFalse ia3, s_lenSlice ud27, s_indexSlice ud27 sz3, hb, w1, w2, w3, w4, w5, g0, g1, g2, g3, g4, and_self, Nat.mul_one, Int.toNat_zero, Int.toNat_one, h1, h2, h3, h4, h5]
          · simp -implicitDefEqProofs (disch := first | (simp only [ne_eq, Nat.reduceEqDiff, not_false_eq_true, Nat.reduceLT]; done) | assumption | (simp only [s_push_next, s_put_next, Nat.beq_refl]; done) | ((try simp only [s_push_next, s_put_next]) <;> omega) | exact s_one_map _ | exact s_one_slice _ _ _ _ _ | (refine (id ?_ : plainDraw _ = true); kernel_rfl) | fail) only [sxL, s_castN, s_cells_one, noOv, callFn, kindOf, kindC, kindB, unA, boxA, loadPtr, nilCheckA, fst1, ofValue, ofScalar, len, intBin, ibin, boolO, guardA, cCond, condV, cRet, cExit, cSkip, resOut, resultA, extractA, tupleO, Nat.reduceEqDiff, Nat.reduceAdd, Nat.reduceSub, Nat.reduceLT, Nat.reduceBEq, reduceCtorEq, Nat.reduceMod, Nat.reduceLeDiff, Int.reduceLT, Int.reduceAdd, Int.reduceEq, Int.reduceToNat, Tryz.f39, Tryz.f55, get55, s_varFalse ia3, s_lenSlice ud27, s_indexSlice ud27 sz3, hb, w1, w2, w3, w4, w5, g0, g1, g2, g3, g4, and_self, Nat.mul_one, Int.toNat_zero, Int.toNat_one, h1, h2, h3, h4, h5]
end Go.Proofs

namespace Go.Proofs
open Go.Sx
set_option maxRecDepth 100000
theorem build80 (a b : Nat) {v : AV} (h : oneCell v = true) : buildA Tryz.tab 80 [(0, v), (1, .map a), (2, .map b)] = some (.agg [v, .map a, .map b]) := by
  cases v
  case agg => simp [oneCell] at h
  case tuple => simp [oneCell] at h
  all_goals kernel_rfl
theorem build44 : buildA Tryz.tab 44 [] = some (.agg zcells) := by kernel_rfl
theorem build49 : buildA Tryz.tab 49 [] = some (.agg [.int .i64 0, .int .i64 0, .str []]) := by kernel_rfl
def zev : List AV := .int .i64 0 :: .bool false :: (zcells ++ [.int .i64 0, .int .i64 0, .str []])
theorem zero51 : Tryz.tab.zero 51 = some (.agg zev) := by kernel_rfl
theorem zev_one : allOne zev = true := by kernel_rfl
theorem zev_len : zev.length = 29 := rfl
theorem CmdV.one {c : CmdV} (h : oneCell c.steps = true) : allOne c.cells = true := by
  unfold CmdV.cells
  simp (disch := decide) only [sxL, h]
theorem EvV.one {e : EvV} (h : oneCell e.cmd.steps = true) : allOne e.cells = true := by
  unfold EvV.cells CmdV.cells
  simp only [List.cons_append, List.nil_append]
  simp (disch := decide) only [sxL, h]
def repZ (e : EvV) : Bool := decide (e.err = 0) && (decide (e.num = 0) && decide (e.data = []))
noncomputable def isRep (c r : List (Int × Int)) (e : EvV) : Bool := e.reply && ((mGet c e.call).isSome && (!(mGet r e.call).isSome && (eqZ e.cmd e.keys.length && decide (checkReply e.err e.num e.data = 0))))
def isCall (c : List (Int × Int)) (e : EvV) : Bool := !e.reply && (decide (e.call = (c.length : Int) + 1) && (decide (e.cmd.call = e.call) && (callKindB e.cmd.kind && repZ e)))
/-- what is read: the maps of calls and of replies; or where it is wrong -/
noncomputable def readGo : List EvV → Nat → List (Int × Int) → List (Int × Int) → (List (Int × Int) × List (Int × Int)) ⊕ Nat
  | [], _, c, r => .inl (c, r)
  | e :: l, i, c, r => if isRep c r e then readGo l (i + 1) c (mUpd r e.call i) else if isCall c e then readGo l (i + 1) (mUpd c e.call i) r else .inr i
theorem mUpd_len (m : List (Int × Int)) (k v : Int) : (mUpd m k v).length ≤ m.length + 1 := by
  induction m with
  | nil => simp [mUpd]
  | cons p m ih =>
    obtain ⟨a, b⟩ := p
    by_cases h : k = a <;> simp [mUpd, h]
    exact ih
/-- a record of a history -/
structure RecAt (H h : Heap) (v : AV) (c r : List (Int × Int)) : Prop where
  next : H.next + 3 ≤ h.next
  grows : Grows H h
  neat : Neat h
  call : h.blks.get H.next = some (mapB c)
  reply : h.blks.get (H.next + 1) = some (mapB r)
  rec_ : h.blks.get (H.next + 2) = some (.cells 80 true [v, .map H.next, .map (H.next + 1)])
theorem RecAt.push {H h : Heap} {v : AV} {c r : List (Int × Int)} (hr : RecAt H h v c r) (o : ABlk) : RecAt H (h.push o) v c r := by
  have := hr.next
  exact ⟨Nat.le_succ_of_le hr.next, hr.grows.trans (.push _ _), hr.neat.push _, by rw [s_push_other _ _ (by omega)]; exact hr.call, by rw [s_push_other _ _ (by omega)]; exact hr.reply, by rw [s_push_other _ _ (by omega)]; exact hr.rec_⟩
theorem RecAt.put {H h : Heap} {v : AV} {c r : List (Int × Int)} (hr : RecAt H h v c r) {b : Nat} (hb : H.next + 3 ≤ b) (hb' : b < h.next) (o : Option ABlk) : RecAt H (putBlk h b o) v c r :=
  ⟨by rw [s_put_next]; exact hr.next, ⟨by rw [s_put_next]; exact hr.grows.next, fun x hx => by rw [s_put_other _ _ _ (by omega)]; exact hr.grows.get x hx⟩, hr.neat.put hb' o, by rw [s_put_other _ _ _ (by omega)]; exact hr.call, by rw [s_put_other _ _ _ (by omega)]; exact hr.reply,
    by rw [s_put_other _ _ _ (by omega)]; exact hr.rec_⟩
theorem RecAt.putCall {H h : Heap} {v : AV} {c r : List (Int × Int)} (hr : RecAt H h v c r) (c' : List (Int × Int)) : RecAt H (putBlk h H.next (some (mapB c'))) v c' r := by
  have := hr.next
  exact ⟨by rw [s_put_next]; exact hr.next, ⟨by rw [s_put_next]; exact hr.grows.next, fun x hx => by rw [s_put_other _ _ _ (by omega)]; exact hr.grows.get x hx⟩, hr.neat.put (by omega) _, s_put_same _ _ _, by rw [s_put_other _ _ _ (by omega)]; exact hr.reply, by rw [s_put_other _ _ _ (by omega)]; exact hr.rec_⟩
theorem RecAt.putReply {H h : Heap} {v : AV} {c r : List (Int × Int)} (hr : RecAt H h v c r) (r' : List (Int × Int)) : RecAt H (putBlk h (H.next + 1) (some (mapB r'))) v c r' := by
  have := hr.next
  exact ⟨by rw [s_put_next]; exact hr.next, ⟨by rw [s_put_next]; exact hr.grows.next, fun x hx => by rw [s_put_other _ _ _ (by omega)]; exact hr.grows.get x hx⟩, hr.neat.put (by omega) _, by rw [s_put_other _ _ _ (by omega)]; exact hr.call, s_put_same _ _ _, by rw [s_put_other _ _ _ (by omega)]; exact hr.rec_⟩
end Go.Proofs
