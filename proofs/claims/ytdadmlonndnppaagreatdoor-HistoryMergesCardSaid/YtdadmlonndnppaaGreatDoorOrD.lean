/-
  before, many, the next command of a group (a range over a map in any order), walked.
-/
import Derived.Test.YtdadmlonndnppaaGreatDoorOrC
set_option linter.unusedSimpArgs false
set_option linter.unusedVariables false
namespace Go.Sx
section
variable {G : Tab}
theorem splice_one (v : AV) : ∀ (l : List AV) (i : Nat), i < l.length → spliceN [v] l i = some (l.set i v)
  | [], i, h => by simp at h
  | a :: l, 0, _ => rfl
  | a :: l, i + 1, h => by
    show (bif Nat.beq (i + 1) 0 then overN [v] (a :: l) else consO a (spliceN [v] l (i + 1 - 1))) = _
    rw [beq_false (Nat.succ_ne_zero i), cond_false, Nat.add_sub_cancel, splice_one v l i (by simpa using h)]; rfl
/-- one cell is written -/
theorem store_one {H : Heap} {t : TypeId} {b off : Nat} {e : TypeId} {x : Bool} {old : List AV} {v : AV} (hb : H.blks.get b = some (.cells e x old)) (hz : G.size t = some 1) (ho : off < old.length) (h1 : oneCell v = true) :
    storePtr G H t (.ptr b off) v = some (putBlk H b (some (.cells e x (old.set off v)))) := by
  have e1 : storePtr G H t (.ptr b off) v = bindO (G.size t) fun s => bif Nat.beq (len v.cells) s then storeCellsA H b off v.cells else none := rfl
  rw [e1, hz, s_cells_one h1]
  show storeIn H b off [v] (H.blks.get b) = _
  rw [hb]
  show (bif allOne [v] then putCells H b e x (spliceN [v] old off) else none) = _
  have : allOne [v] = true := by show (bif oneCell v then true else false) = true; rw [h1]; rfl
  rw [this, splice_one v old off ho, cond_true]
  show forceVs (old.set off v) (fun l => putBlkK H b (some (.cells e x l)) some) = _
  rw [forceVs_eq]
  unfold putBlkK putBlk
  rw [T.setK_eq, T.setK_eq]
end
end Go.Sx
namespace Go.Proofs
open Go.Sx
set_option maxRecDepth 100000
/-! Lists of numbers. -/
def intL (l : List Int) : List AV := l.map fun x => .int .i64 x
def natL (l : List Nat) : List AV := l.map fun (x : Nat) => .int .i64 (x : Int)
theorem intL_at {l : List Int} {i : Nat} {k : Int} (h : l[i]? = some k) : (intL l)[i]? = some (.int .i64 k) := by simp [intL, h]
theorem natL_at {l : List Nat} {i k : Nat} (h : l[i]? = some k) : (natL l)[i]? = some (.int .i64 (k : Int)) := by simp [natL, h]
theorem natL_len (l : List Nat) : (natL l).length = l.length := by simp [natL]
theorem intL_len (l : List Int) : (intL l).length = l.length := by simp [intL]
theorem natL_set (l : List Nat) (i k : Nat) : (natL l).set i (.int .i64 (k : Int)) = natL (l.set i k) := by simp [natL, List.map_set]
theorem natL_snoc (l : List Nat) (k : Nat) : natL l ++ [.int .i64 (k : Int)] = natL (l ++ [k]) := by simp [natL]
theorem intL_snoc (l : List Int) (k : Int) : intL l ++ [.int .i64 k] = intL (l ++ [k]) := by simp [intL]
theorem natL_one (l : List Nat) : allOne (natL l) = true := by
  induction l with
  | nil => rfl
  | cons a l ih => show (bif oneCell (.int .i64 (a : Int)) then allOne (natL l) else false) = true; rw [ih]; rfl
theorem intL_one (l : List Int) : allOne (intL l) = true := by
  induction l with
  | nil => rfl
  | cons a l ih => show (bif oneCell (.int .i64 a) then allOne (intL l) else false) = true; rw [ih]; rfl
theorem el27 : Sx.elemOf Tryz.tab 27 = some 3 := by kernel_rfl
theorem ty3 : Tryz.tab.types.get 3 = some Tryz.t3 := by kernel_rfl
theorem ty3s : Tryz.t3.size = 1 := by kernel_rfl
theorem ty3b : Nat.ble Tryz.t3.bytes 7 = false ∧ Nat.ble Tryz.t3.bytes 8 = true := by constructor <;> kernel_rfl
theorem repeat_zero (n : Nat) : repeatL [AV.int .i64 0] n = natL (List.replicate n 0) := by
  induction n with
  | zero => rfl
  | succ n ih =>
    show app [AV.int .i64 0] (repeatL [AV.int .i64 0] n) = _
    rw [app_eq, ih]; rfl
/-- numbers are made -/
theorem make27 (H : Heap) (n : Nat) (hn : n ≤ 500) : makeSliceA Tryz.tab H 27 (.int .i64 (n : Int)) (.int .i64 (n : Int)) = some (.slice H.next 0 n false n, H.push (.cells 3 true (natL (List.replicate n 0)))) := by
  show bindO (Sx.elemOf Tryz.tab 27) (fun e => bindO (Tryz.tab.types.get e) (makeSliceI Tryz.tab H e n n)) = _
  rw [el27]
  show bindO (Tryz.tab.types.get 3) (makeSliceI Tryz.tab H 3 n n) = _
  rw [ty3]
  show makeSliceI Tryz.tab H 3 n n Tryz.t3 = _
  unfold makeSliceI
  rw [zero3]
  show (bif Nat.ble n n then bif Nat.ble (n * (Tryz.t3.bytes + 1)) 1000000000 then bif Nat.beq (len [AV.int .i64 0]) Tryz.t3.size then bif Nat.ble (n * Tryz.t3.size) 1000 then newSlice H 3 n n (repeatL [AV.int .i64 0] n) else _ else none else none else none) = _
  have h8 := ble_le ty3b.2
  have b1 : Nat.ble n n = true := Nat.ble_eq_true_of_le (Nat.le_refl _)
  have b2 : Nat.ble (n * (Tryz.t3.bytes + 1)) 1000000000 = true := Nat.ble_eq_true_of_le (Nat.le_trans (Nat.mul_le_mul hn (Nat.succ_le_succ h8)) (by omega))
  have b3 : Nat.ble (n * 1) 1000 = true := Nat.ble_eq_true_of_le (by omega)
  rw [b1, b2, ty3s, b3, repeat_zero]
  show newSlice H 3 n n (natL (List.replicate n 0)) = _
  unfold newSlice
  rw [s_newRowA, natL_one]; rfl
theorem app27_nil {H : Heap} {b : Nat} {w : AV} (hb : H.blks.get b = some (.cells 3 true [w])) (hw : oneCell w = true) :
    appendA Tryz.tab H [27, 27] [.nilslice, .slice b 0 1 false 1] = some (.slice H.next 0 1 true 0, H.push (.cells 3 false [w])) := by
  show bindO (Sx.elemOf Tryz.tab 27) (fun e => bindO (Tryz.tab.und 27) fun u => bif intD u then none else bindO (Tryz.tab.types.get e) (appendI Tryz.tab H e .nilslice (.slice b 0 1 false 1))) = _
  rw [el27, ud27]
  show bindO (Tryz.tab.types.get 3) (appendI Tryz.tab H 3 .nilslice (.slice b 0 1 false 1)) = _
  rw [ty3]
  show bindO (Tryz.tab.zero 3) (fun zero => bif Nat.beq Tryz.t3.size 0 then none else bif srcOk (.slice b 0 1 false 1) Tryz.t3.size then bif Nat.beq (len zero.cells) Tryz.t3.size then bif Nat.ble Tryz.t3.bytes 100000 then
    bif Nat.ble (0 + 1) 1000000 then bindO (firstA H Tryz.t3.size 1 (.slice b 0 1 false 1)) (appendTo H 3 Tryz.t3.size 1 .nilslice) else none else none else none else none) = _
  have h8 : Nat.ble Tryz.t3.bytes 100000 = true := Nat.ble_eq_true_of_le (Nat.le_trans (ble_le ty3b.2) (by omega))
  rw [zero3, h8, ty3s]
  show bindO (firstA H 1 1 (.slice b 0 1 false 1)) (appendTo H 3 1 1 .nilslice) = _
  have hf : firstA H 1 1 (.slice b 0 1 false 1) = some [w] := by
    show loadCellsA H b 0 1 = _
    rw [s_loadC _ _ _ (by omega), hb]; rfl
  rw [hf]
  show growA H 3 1 [w] = _
  unfold growA
  rw [s_newRowA]
  have : allOne [w] = true := by show (bif oneCell w then true else false) = true; rw [hw]; rfl
  rw [this]; rfl
theorem app27 {H : Heap} {b d : Nat} {l : List AV} {w : AV} (hb : H.blks.get b = some (.cells 3 true [w])) (hd : H.blks.get d = some (.cells 3 false l)) (hw : oneCell w = true) (hl : allOne l = true) (h0 : 0 < l.length) (hn : l.length ≤ 1000) :
    appendA Tryz.tab H [27, 27] [.slice d 0 l.length true 0, .slice b 0 1 false 1] = some (.slice H.next 0 (l.length + 1) true 0, (putBlk H d none).push (.cells 3 false (l ++ [w]))) := by
  show bindO (Sx.elemOf Tryz.tab 27) (fun e => bindO (Tryz.tab.und 27) fun u => bif intD u then none else bindO (Tryz.tab.types.get e) (appendI Tryz.tab H e (.slice d 0 l.length true 0) (.slice b 0 1 false 1))) = _
  rw [el27, ud27]
  show bindO (Tryz.tab.types.get 3) (appendI Tryz.tab H 3 (.slice d 0 l.length true 0) (.slice b 0 1 false 1)) = _
  rw [ty3]
  show bindO (Tryz.tab.zero 3) (fun zero => bif Nat.beq Tryz.t3.size 0 then none else bif srcOk (.slice b 0 1 false 1) Tryz.t3.size then bif Nat.beq (len zero.cells) Tryz.t3.size then bif Nat.ble Tryz.t3.bytes 100000 then
    bif Nat.ble (l.length + 1) 1000000 then bindO (firstA H Tryz.t3.size 1 (.slice b 0 1 false 1)) (appendTo H 3 Tryz.t3.size 1 (.slice d 0 l.length true 0)) else none else none else none else none) = _
  have h8 : Nat.ble Tryz.t3.bytes 100000 = true := Nat.ble_eq_true_of_le (Nat.le_trans (ble_le ty3b.2) (by omega))
  have h9 : Nat.ble (l.length + 1) 1000000 = true := Nat.ble_eq_true_of_le (by omega)
  rw [zero3, h8, h9, ty3s]
  show bindO (firstA H 1 1 (.slice b 0 1 false 1)) (appendTo H 3 1 1 (.slice d 0 l.length true 0)) = _
  have hf : firstA H 1 1 (.slice b 0 1 false 1) = some [w] := by
    show loadCellsA H b 0 1 = _
    rw [s_loadC _ _ _ (by omega), hb]; rfl
  rw [hf]
  show bindO (knownIn 3 (H.blks.get d)) (fun kn => bif Nat.beq 0 (0 * 1) then
      bif Nat.ble (0 + (l.length + 1) * 1) kn then inPlace H d (0 + l.length * 1) [w] (.slice d 0 (l.length + 1) true 0)
      else bindO (loadCellsA H d 0 (l.length * 1)) fun old => putBlkK H d none fun H' => growA H' 3 (l.length + 1) (app old [w])
    else none) = _
  have hk : knownIn 3 (H.blks.get d) = some l.length := by
    rw [hd]
    show some (len l) = _
    rw [len_eq]
  rw [hk]
  show (bif Nat.ble (0 + (l.length + 1) * 1) l.length then _ else _) = _
  have hb' : Nat.ble (0 + (l.length + 1) * 1) l.length = false := by
    cases hh : Nat.ble (0 + (l.length + 1) * 1) l.length
    · rfl
    · have := ble_le hh; omega
  rw [hb', cond_false, Nat.mul_one]
  have hld : loadCellsA H d 0 l.length = some l := by
    rw [s_loadC _ _ _ (by omega), hd, s_cellsIn]
    simp
  rw [hld]
  show putBlkK H d none (fun H' => growA H' 3 (l.length + 1) (app l [w])) = _
  have e1 : putBlkK H d none (fun H' => growA H' 3 (l.length + 1) (app l [w])) = growA (putBlk H d none) 3 (l.length + 1) (app l [w]) := by
    unfold putBlkK putBlk
    rw [T.setK_eq, T.setK_eq]
  rw [e1, app_eq]
  unfold growA
  rw [s_newRowA]
  have hall : ∀ l : List AV, allOne l = true → allOne (l ++ [w]) = true := by
    intro l
    induction l with
    | nil => intro _; show (bif oneCell w then true else false) = true; rw [hw]; rfl
    | cons a l ih =>
      intro h
      have h : (bif oneCell a then allOne l else false) = true := h
      obtain ⟨h1, h2⟩ := band_true h
      show (bif oneCell a then allOne (l ++ [w]) else false) = true
      rw [h1, ih h2]; rfl
  rw [hall l hl, s_put_next]; rfl
/-! A record. -/
def RecP (H : Heap) (p : Nat) (c r : List (Int × Int)) : Prop := ∃ v x y, H.blks.get p = some (.cells 80 true [v, .map x, .map y]) ∧ H.blks.get x = some (mapB c) ∧ H.blks.get y = some (mapB r)
theorem RecP.grow {H H' : Heap} {p : Nat} {c r : List (Int × Int)} (h : RecP H p c r) (hN : Neat H) (hg : Grows H H') : RecP H' p c r := by
  obtain ⟨v, x, y, h1, h2, h3⟩ := h
  exact ⟨v, x, y, by rw [hg.get _ (hN _ _ h1)]; exact h1, by rw [hg.get _ (hN _ _ h2)]; exact h2, by rw [hg.get _ (hN _ _ h3)]; exact h3⟩
theorem before_run (c r : List (Int × Int)) (p : Nat) (a b : Int) (H : Heap) (hr : RecP H p c r) (hN : Neat H) : CallTo Tryz.prog Tryz.tab 30 [.ptr p 0, .int .i64 a, .int .i64 b] H [(.bool (bfB c r a b), H)] := by
  refine callTo_pure (n := 20) (v := .bool (bfB c r a b)) Tryz.tabOk (ov := noOv) noOv_ok (H' := H) ?_ (.refl _) hN trivial
  obtain ⟨v, x, y, h1, h2, h3⟩ := hr
  have r1 : cellIn (H.blks.get p) 1 = some (.map x) := by rw [h1]; rfl
  have r2 : cellIn (H.blks.get p) 2 = some (.map y) := by rw [h1]; rfl
  rw [s_callO, s_callB, get30]
  unfold bfB
  cases ha : mGet r a with
  | none => cases hb : mGet c b with
    | none => simp -implicitDefEqProofs (disch := first | (simp only [ne_eq, Nat.reduceEqDiff, not_false_eq_true, Nat.reduceLT]; done) | assumption | (simp only [s_push_next, s_put_next, Nat.beq_refl]; done) | ((try simp only [s_push_next, s_put_next]) <;> omega) | exact s_one_map _ | exact s_one_slice _ _ _ _ _ | (refine (id ?_ : plainDraw _ = true); kernel_rfl) | fail) only [sxL, s_castN, s_cells_one, noOv, callFn, kindOf, kindC, kindB, unA, boxA, loadPtr, nilCheckA, fst1, ofValue, ofScalar, len, intBin, ibin, boolO, guardA, cCond, condV, cRet, cExit, cSkip, resOut, resultA, extractA, tupleO, Nat.reduceEqDiff, Nat.reduceAdd, Nat.reduceSub, Nat.reduceLT, Nat.reduceBEq, reduceCtorEq, Nat.reduceMod, Nat.reduceLeDiff, Int.reduceLT, Int.reduceAdd, Int.reduceEq, Int.reduceToNat, Tryz.f30, fa80_1, fa80_2, s_varFalse ia78, r1, r2, look78 h2, look78 h3, ha, hb, Option.isSome_none, Option.getD_none]
    | some y => simp -implicitDefEqProofs (disch := first | (simp only [ne_eq, Nat.reduceEqDiff, not_false_eq_true, Nat.reduceLT]; done) | assumption | (simp only [s_push_next, s_put_next, Nat.beq_refl]; done) | ((try simp only [s_push_next, s_put_next]) <;> omega) | exact s_one_map _ | exact s_one_slice _ _ _ _ _ | (refine (id ?_ : plainDraw _ = true); kernel_rfl) | fail) only [sxL, s_castN, s_cells_one, noOv, callFn, kindOf, kindC, kindB, unA, boxA, loadPtr, nilCheckA, fst1, ofValue, ofScalar, len, intBin, ibin, boolO, guardA, cCond, condV, cRet, cExit, cSkip, resOut, resultA, extractA, tupleO, Nat.reduceEqDiff, Nat.reduceAdd, Nat.reduceSub, Nat.reduceLT, Nat.reduceBEq, reduceCtorEq, Nat.reduceMod, Nat.reduceLeDiff, Int.reduceLT, Int.reduceAdd, Int.reduceEq, Int.reduceToNat, Tryz.f30, fa80_1, fa80_2, s_varFalse ia78, r1, r2, look78 h2, look78 h3, ha, hb, Option.isSome_none, Option.isSome_some, Option.getD_some, Option.getD_none]
  | some x => cases hb : mGet c b with
    | none => simp -implicitDefEqProofs (disch := first | (simp only [ne_eq, Nat.reduceEqDiff, not_false_eq_true, Nat.reduceLT]; done) | assumption | (simp only [s_push_next, s_put_next, Nat.beq_refl]; done) | ((try simp only [s_push_next, s_put_next]) <;> omega) | exact s_one_map _ | exact s_one_slice _ _ _ _ _ | (refine (id ?_ : plainDraw _ = true); kernel_rfl) | fail) only [sxL, s_castN, s_cells_one, noOv, callFn, kindOf, kindC, kindB, unA, boxA, loadPtr, nilCheckA, fst1, ofValue, ofScalar, len, intBin, ibin, boolO, guardA, cCond, condV, cRet, cExit, cSkip, resOut, resultA, extractA, tupleO, Nat.reduceEqDiff, Nat.reduceAdd, Nat.reduceSub, Nat.reduceLT, Nat.reduceBEq, reduceCtorEq, Nat.reduceMod, Nat.reduceLeDiff, Int.reduceLT, Int.reduceAdd, Int.reduceEq, Int.reduceToNat, Tryz.f30, fa80_1, fa80_2, s_varFalse ia78, r1, r2, look78 h2, look78 h3, ha, hb, Option.isSome_none, Option.isSome_some, Option.getD_some, Option.getD_none]
    | some y => simp -implicitDefEqProofs (disch := first | (simp only [ne_eq, Nat.reduceEqDiff, not_false_eq_true, Nat.reduceLT]; done) | assumption | (simp only [s_push_next, s_put_next, Nat.beq_refl]; done) | ((try simp only [s_push_next, s_put_next]) <;> omega) | exact s_one_map _ | exact s_one_slice _ _ _ _ _ | (refine (id ?_ : plainDraw _ = true); kernel_rfl) | fail) only [sxL, s_castN, s_cells_one, noOv, callFn, kindOf, kindC, kindB, unA, boxA, loadPtr, nilCheckA, fst1, ofValue, ofScalar, len, intBin, ibin, boolO, guardA, cCond, condV, cRet, cExit, cSkip, resOut, resultA, extractA, tupleO, Nat.reduceEqDiff, Nat.reduceAdd, Nat.reduceSub, Nat.reduceLT, Nat.reduceBEq, reduceCtorEq, Nat.reduceMod, Nat.reduceLeDiff, Int.reduceLT, Int.reduceAdd, Int.reduceEq, Int.reduceToNat, Tryz.f30, fa80_1, fa80_2, s_varFalse ia78, r1, r2, look78 h2, look78 h3, ha, hb, Option.isSome_some, Option.getD_some]
/-! Too many? -/
theorem idx_run (l : List LogV) (v : AV) (H : Heap) (hv : LogsAt H v l) (hN : Neat H) (hm : l.length ≤ 1000) (hf : ∀ x ∈ l, x.l.length ≤ 40) : CallTo Tryz.prog Tryz.tab 56 [v, .func (.func 40) [] []] H [(.int .i64 (-1), H)] := by
  refine callTo_of Tryz.tabOk Tryz.func56 rfl rfl ?_
  show Gets Tryz.prog Tryz.tab ⟨none, 19⟩ _ _ _
  have hlen := hv.1.len ud22
  repeat refine Gets.seq ?_
  refine Gets.last Tryz.tabOk (ov := noOv) (noOv_ok) 8 (s' := ?sn1) ?hn1 ?kn1; (case hn1 => (simp -implicitDefEqProofs (disch := first | (simp only [ne_eq, Nat.reduceEqDiff, not_false_eq_true, Nat.reduceLT]; done) | assumption | (simp only [s_push_next, s_put_next, Nat.beq_refl]; done) | ((try simp only [s_push_next, s_put_next]) <;> omega) | exact s_one_map _ | exact s_one_slice _ _ _ _ _ | (refine (id ?_ : plainDraw _ = true); kernel_rfl) | fail) only [sxL, s_castN, s_cells_one, noOv, callFn, kindOf, kindC, kindB, unA, boxA, loadPtr, nilCheckA, fst1, ofValue, ofScalar, len, intBin, ibin, boolO, guardA, cCond, condV, cRet, cExit, cSkip, resOut, resultA, extractA, tupleO, Nat.reduceEqDiff, Nat.reduceAdd, Nat.reduceSub, Nat.reduceLT, Nat.reduceBEq, reduceCtorEq, Nat.reduceMod, Nat.reduceLeDiff, Int.reduceLT, Int.reduceAdd, Int.reduceEq, Int.reduceToNat, s_draw] <;> rfl)); (try (change Gets _ _ _ _ _ _; repeat refine Gets.seq ?_))
  refine Gets.last Tryz.tabOk (ov := noOv) (noOv_ok) 8 (s' := ?sn2) ?hn2 ?kn2; (case hn2 => (simp -implicitDefEqProofs (disch := first | (simp only [ne_eq, Nat.reduceEqDiff, not_false_eq_true, Nat.reduceLT]; done) | assumption | (simp only [s_push_next, s_put_next, Nat.beq_refl]; done) | ((try simp only [s_push_next, s_put_next]) <;> omega) | exact s_one_map _ | exact s_one_slice _ _ _ _ _ | (refine (id ?_ : plainDraw _ = true); kernel_rfl) | fail) only [sxL, s_castN, s_cells_one, noOv, callFn, kindOf, kindC, kindB, unA, boxA, loadPtr, nilCheckA, fst1, ofValue, ofScalar, len, intBin, ibin, boolO, guardA, cCond, condV, cRet, cExit, cSkip, resOut, resultA, extractA, tupleO, Nat.reduceEqDiff, Nat.reduceAdd, Nat.reduceSub, Nat.reduceLT, Nat.reduceBEq, reduceCtorEq, Nat.reduceMod, Nat.reduceLeDiff, Int.reduceLT, Int.reduceAdd, Int.reduceEq, Int.reduceToNat, s_draw, hlen] <;> rfl)); (try (change Gets _ _ _ _ _ _; repeat refine Gets.seq ?_))
  refine Gets.upto l.length (fun i tm => tm.get 0 = some v ∧ tm.get 1 = some (.func (.func 40) [] []) ∧ tm.get 7 = some (.int .i64 (l.length : Int)) ∧ tm.get 8 = some (.int .i64 (i : Int))) ⟨by simp (disch := decide) only [sxL], by simp (disch := decide) only [sxL], by simp (disch := decide) only [sxL], by simp (disch := decide) only [sxL]⟩ ?_
  rintro i tm hi ⟨i0, i1, i7, i8⟩
  repeat refine Gets.seq ?_
  by_cases hlt : (i : Int) < (l.length : Int)
  · obtain ⟨x, hki⟩ : ∃ k, l[i]? = some k := ⟨_, List.getElem?_eq_getElem (by omega)⟩
    obtain ⟨b, hx, hc1, _⟩ := hv.1.row ud22 sz33 LogV.len hki
    have hc : cellIn (H.blks.get b) (i * 1) = some x.v := hc1 0 (by omega)
    have hX := hv.2 x (List.mem_of_getElem? hki)
    have hlx := hX.1.len ud33
    have h40 := hf x (List.mem_of_getElem? hki)
    have hmany : ¬ 4096 < (x.l.length : Int) := by omega
    refine Gets.last Tryz.tabOk (ov := noOv) (noOv_ok) 8 (s' := ?sn3) ?hn3 ?kn3; (case hn3 => (simp -implicitDefEqProofs (disch := first | (simp only [ne_eq, Nat.reduceEqDiff, not_false_eq_true, Nat.reduceLT]; done) | assumption | (simp only [s_push_next, s_put_next, Nat.beq_refl]; done) | ((try simp only [s_push_next, s_put_next]) <;> omega) | exact s_one_map _ | exact s_one_slice _ _ _ _ _ | (refine (id ?_ : plainDraw _ = true); kernel_rfl) | fail) only [sxL, s_castN, s_cells_one, noOv, callFn, kindOf, kindC, kindB, unA, boxA, loadPtr, nilCheckA, fst1, ofValue, ofScalar, len, intBin, ibin, boolO, guardA, cCond, condV, cRet, cExit, cSkip, resOut, resultA, extractA, tupleO, Nat.reduceEqDiff, Nat.reduceAdd, Nat.reduceSub, Nat.reduceLT, Nat.reduceBEq, reduceCtorEq, Nat.reduceMod, Nat.reduceLeDiff, Int.reduceLT, Int.reduceAdd, Int.reduceEq, Int.reduceToNat, s_draw, i7, i8, hlt] <;> rfl)); (try (change Gets _ _ _ _ _ _; repeat refine Gets.seq ?_))
    refine Gets.condT (by simp (disch := decide) only [sxL]) (Gets.skip Tryz.tabOk ?_)
    change Gets _ _ _ _ _ _
    refine Gets.seq (Gets.blk ?_)
    repeat refine Gets.seq ?_
    refine Gets.last Tryz.tabOk (ov := noOv) (noOv_ok) 8 (s' := ?sn4) ?hn4 ?kn4; (case hn4 => (simp -implicitDefEqProofs (disch := first | (simp only [ne_eq, Nat.reduceEqDiff, not_false_eq_true, Nat.reduceLT]; done) | assumption | (simp only [s_push_next, s_put_next, Nat.beq_refl]; done) | ((try simp only [s_push_next, s_put_next]) <;> omega) | exact s_one_map _ | exact s_one_slice _ _ _ _ _ | (refine (id ?_ : plainDraw _ = true); kernel_rfl) | fail) only [sxL, s_castN, s_cells_one, noOv, callFn, kindOf, kindC, kindB, unA, boxA, loadPtr, nilCheckA, fst1, ofValue, ofScalar, len, intBin, ibin, boolO, guardA, cCond, condV, cRet, cExit, cSkip, resOut, resultA, extractA, tupleO, Nat.reduceEqDiff, Nat.reduceAdd, Nat.reduceSub, Nat.reduceLT, Nat.reduceBEq, reduceCtorEq, Nat.reduceMod, Nat.reduceLeDiff, Int.reduceLT, Int.reduceAdd, Int.reduceEq, Int.reduceToNat, s_draw, i8] <;> rfl)); (try (change Gets _ _ _ _ _ _; repeat refine Gets.seq ?_))
    refine Gets.last Tryz.tabOk (ov := noOv) (noOv_ok) 8 (s' := ?sn5) ?hn5 ?kn5; (case hn5 => (simp -implicitDefEqProofs (disch := first | (simp only [ne_eq, Nat.reduceEqDiff, not_false_eq_true, Nat.reduceLT]; done) | assumption | (simp only [s_push_next, s_put_next, Nat.beq_refl]; done) | ((try simp only [s_push_next, s_put_next]) <;> omega) | exact s_one_map _ | exact s_one_slice _ _ _ _ _ | (refine (id ?_ : plainDraw _ = true); kernel_rfl) | fail) only [sxL, s_castN, s_cells_one, noOv, callFn, kindOf, kindC, kindB, unA, boxA, loadPtr, nilCheckA, fst1, ofValue, ofScalar, len, intBin, ibin, boolO, guardA, cCond, condV, cRet, cExit, cSkip, resOut, resultA, extractA, tupleO, Nat.reduceEqDiff, Nat.reduceAdd, Nat.reduceSub, Nat.reduceLT, Nat.reduceBEq, reduceCtorEq, Nat.reduceMod, Nat.reduceLeDiff, Int.reduceLT, Int.reduceAdd, Int.reduceEq, Int.reduceToNat, s_draw, i0, i1, i8, hx, s_varFalse ia33, hc, get40, Tryz.f40, hlx, hmany] <;> rfl)); (try (change Gets _ _ _ _ _ _; repeat refine Gets.seq ?_))
    refine Gets.condF (by simp (disch := decide) only [sxL]) (Gets.skip Tryz.tabOk ?_)
    change Gets _ _ _ _ _ _
    have hw : awrap .i64 ((i : Int) + 1) = (i : Int) + 1 := s_wrap (by omega) (by omega)
    refine Gets.last Tryz.tabOk (ov := noOv) (noOv_ok) 8 (s' := ?sn6) ?hn6 ?kn6; (case hn6 => (simp -implicitDefEqProofs (disch := first | (simp only [ne_eq, Nat.reduceEqDiff, not_false_eq_true, Nat.reduceLT]; done) | assumption | (simp only [s_push_next, s_put_next, Nat.beq_refl]; done) | ((try simp only [s_push_next, s_put_next]) <;> omega) | exact s_one_map _ | exact s_one_slice _ _ _ _ _ | (refine (id ?_ : plainDraw _ = true); kernel_rfl) | fail) only [sxL, s_castN, s_cells_one, noOv, callFn, kindOf, kindC, kindB, unA, boxA, loadPtr, nilCheckA, fst1, ofValue, ofScalar, len, intBin, ibin, boolO, guardA, cCond, condV, cRet, cExit, cSkip, resOut, resultA, extractA, tupleO, Nat.reduceEqDiff, Nat.reduceAdd, Nat.reduceSub, Nat.reduceLT, Nat.reduceBEq, reduceCtorEq, Nat.reduceMod, Nat.reduceLeDiff, Int.reduceLT, Int.reduceAdd, Int.reduceEq, Int.reduceToNat, s_draw, i8, hw] <;> rfl)); (try (change Gets _ _ _ _ _ _; repeat refine Gets.seq ?_))
    refine ⟨_, rfl, by omega, ?_, ?_, ?_, ?_⟩
    · simp (disch := decide) only [sxL, i0]
    · simp (disch := decide) only [sxL, i1]
    · simp (disch := decide) only [sxL, i7]
    · simp (disch := decide) only [sxL, s_castS]
  · refine Gets.last Tryz.tabOk (ov := noOv) (noOv_ok) 8 (s' := ?sn7) ?hn7 ?kn7; (case hn7 => (simp -implicitDefEqProofs (disch := first | (simp only [ne_eq, Nat.reduceEqDiff, not_false_eq_true, Nat.reduceLT]; done) | assumption | (simp only [s_push_next, s_put_next, Nat.beq_refl]; done) | ((try simp only [s_push_next, s_put_next]) <;> omega) | exact s_one_map _ | exact s_one_slice _ _ _ _ _ | (refine (id ?_ : plainDraw _ = true); kernel_rfl) | fail) only [sxL, s_castN, s_cells_one, noOv, callFn, kindOf, kindC, kindB, unA, boxA, loadPtr, nilCheckA, fst1, ofValue, ofScalar, len, intBin, ibin, boolO, guardA, cCond, condV, cRet, cExit, cSkip, resOut, resultA, extractA, tupleO, Nat.reduceEqDiff, Nat.reduceAdd, Nat.reduceSub, Nat.reduceLT, Nat.reduceBEq, reduceCtorEq, Nat.reduceMod, Nat.reduceLeDiff, Int.reduceLT, Int.reduceAdd, Int.reduceEq, Int.reduceToNat, s_draw, i7, i8, hlt] <;> rfl)); (try (change Gets _ _ _ _ _ _; repeat refine Gets.seq ?_))
    refine Gets.condF (by simp (disch := decide) only [sxL]) (Gets.exit Tryz.tabOk ?_)
    refine inBlk_exit ?_
    change Gets _ _ _ _ _ _
    refine Gets.seq ?_
    refine Gets.last Tryz.tabOk (ov := noOv) (noOv_ok) 8 (s' := ?sn8) ?hn8 ?kn8; (case hn8 => (simp -implicitDefEqProofs (disch := first | (simp only [ne_eq, Nat.reduceEqDiff, not_false_eq_true, Nat.reduceLT]; done) | assumption | (simp only [s_push_next, s_put_next, Nat.beq_refl]; done) | ((try simp only [s_push_next, s_put_next]) <;> omega) | exact s_one_map _ | exact s_one_slice _ _ _ _ _ | (refine (id ?_ : plainDraw _ = true); kernel_rfl) | fail) only [sxL, s_castN, s_cells_one, noOv, callFn, kindOf, kindC, kindB, unA, boxA, loadPtr, nilCheckA, fst1, ofValue, ofScalar, len, intBin, ibin, boolO, guardA, cCond, condV, cRet, cExit, cSkip, resOut, resultA, extractA, tupleO, Nat.reduceEqDiff, Nat.reduceAdd, Nat.reduceSub, Nat.reduceLT, Nat.reduceBEq, reduceCtorEq, Nat.reduceMod, Nat.reduceLeDiff, Int.reduceLT, Int.reduceAdd, Int.reduceEq, Int.reduceToNat, s_draw] <;> rfl)); (try (change Gets _ _ _ _ _ _; repeat refine Gets.seq ?_))
    refine Gets.ret Tryz.tabOk ?_
    exact fin_pure rfl (by simp (disch := decide) only [sxL, Tryz.f56, resultA]) (.refl _) hN trivial
theorem many_run (l : List LogV) (v : AV) (H : Heap) (hv : LogsAt H v l) (hN : Neat H) (hm : l.length ≤ 1000) (hf : ∀ x ∈ l, x.l.length ≤ 40) : CallTo Tryz.prog Tryz.tab 24 [v] H [(.int .i64 (if 8 < (l.length : Int) then 12 else 0), H)] := by
  have hlen := hv.1.len ud22
  have hi := idx_run l v H hv hN hm hf
  refine callTo_pure (n := 20) (v := .int .i64 (if 8 < (l.length : Int) then 12 else 0)) Tryz.tabOk (ptO_ok noOv_ok hi) (H' := H) ?_ (.refl _) hN trivial
  rw [s_callO, s_ptNe _ (by decide), s_callB, get24]
  by_cases h8 : 8 < (l.length : Int)
  · simp -implicitDefEqProofs (disch := first | (simp only [ne_eq, Nat.reduceEqDiff, not_false_eq_true, Nat.reduceLT]; done) | assumption | (simp only [s_push_next, s_put_next, Nat.beq_refl]; done) | ((try simp only [s_push_next, s_put_next]) <;> omega) | exact s_one_map _ | exact s_one_slice _ _ _ _ _ | (refine (id ?_ : plainDraw _ = true); kernel_rfl) | fail) only [sxL, s_castN, s_cells_one, noOv, callFn, kindOf, kindC, kindB, unA, boxA, loadPtr, nilCheckA, fst1, ofValue, ofScalar, len, intBin, ibin, boolO, guardA, cCond, condV, cRet, cExit, cSkip, resOut, resultA, extractA, tupleO, Nat.reduceEqDiff, Nat.reduceAdd, Nat.reduceSub, Nat.reduceLT, Nat.reduceBEq, reduceCtorEq, Nat.reduceMod, Nat.reduceLeDiff, Int.reduceLT, Int.reduceAdd, Int.reduceEq, Int.reduceToNat, Tryz.f24, hlen, h8, if_true, noOv]
  · simp -implicitDefEqProofs (disch := first | (simp only [ne_eq, Nat.reduceEqDiff, not_false_eq_true, Nat.reduceLT]; done) | assumption | (simp only [s_push_next, s_put_next, Nat.beq_refl]; done) | ((try simp only [s_push_next, s_put_next]) <;> omega) | exact s_one_map _ | exact s_one_slice _ _ _ _ _ | (refine (id ?_ : plainDraw _ = true); kernel_rfl) | fail) only [sxL, s_castN, s_cells_one, noOv, callFn, kindOf, kindC, kindB, unA, boxA, loadPtr, nilCheckA, fst1, ofValue, ofScalar, len, intBin, ibin, boolO, guardA, cCond, condV, cRet, cExit, cSkip, resOut, resultA, extractA, tupleO, Nat.reduceEqDiff, Nat.reduceAdd, Nat.reduceSub, Nat.reduceLT, Nat.reduceBEq, reduceCtorEq, Nat.reduceMod, Nat.reduceLeDiff, Int.reduceLT, Int.reduceAdd, Int.reduceEq, Int.reduceToNat, Tryz.f24, Tryz.f41, get41, hlen, h8, if_false, noOv]
end Go.Proofs

namespace Go.Proofs
open Go.Sx
set_option maxRecDepth 100000
/-! A range over a map of numbers. -/
def IterAt (H h : Heap) (it lm n : Nat) (seen : List Nat) : Prop := Grows H h ∧ Neat h ∧ it < h.next ∧ H.next ≤ it ∧ h.blks.get it = some (.mapIter (some lm) n seen n)
theorem range78 {H : Heap} {r : Nat} {m : List (Int × Int)} (h : H.blks.get r = some (mapB m)) : rangeA Tryz.tab H 78 (.map r) = some (.ptr H.next 0, H.push (.mapIter (some r) m.length [] m.length)) := by
  unfold rangeA
  rw [ud78]
  show bindO (mapIn (H.blks.get r)) (fun p => newPtr H (.mapIter (some r) p.2 [] p.2)) = _
  rw [h]
  show newPtr H (.mapIter (some r) m.length [] m.length) = _
  unfold newPtr
  rw [newA_eq]
theorem ents_at : ∀ (m : List (Int × Int)) (i : Nat) (e : AEntry), e ∈ ents m i → ∃ j p, m[j]? = some p ∧ e = ⟨.int .i64 p.1, .int .i64 p.2, i + j⟩
  | [], _, e, h => by simp [ents] at h
  | (a, b) :: m, i, e, h => by
    rcases List.mem_cons.1 h with rfl | h
    · exact ⟨0, (a, b), rfl, rfl⟩
    · obtain ⟨j, p, h1, h2⟩ := ents_at m (i + 1) e h
      exact ⟨j + 1, p, h1, by rw [h2]; congr 1; omega⟩
theorem mem_ents : ∀ (m : List (Int × Int)) (i j : Nat) (p : Int × Int), m[j]? = some p → (⟨.int .i64 p.1, .int .i64 p.2, i + j⟩ : AEntry) ∈ ents m i
  | [], _, j, p, h => by simp at h
  | (a, b) :: m, i, 0, p, h => by
    simp only [List.getElem?_cons_zero, Option.some.injEq] at h; subst h
    exact List.mem_cons_self
  | (a, b) :: m, i, j + 1, p, h => by
    have := mem_ents m (i + 1) j p (by simpa using h)
    rw [show i + (j + 1) = i + 1 + j by omega]
    exact List.mem_cons_of_mem _ this
theorem hasNat_eq (n : Nat) (l : List Nat) : hasNat n l = decide (n ∈ l) := by
  induction l with
  | nil => rfl
  | cons a l ih =>
    show (bif Nat.beq a n then true else hasNat n l) = _
    rw [ih]
    by_cases h : a = n
    · subst h; rw [Sx.beq_true rfl]; simp
    · rw [Sx.beq_false h]
      have : ¬ n = a := fun e => h e.symm
      simp [this]
theorem leftOf_eq (seen : List Nat) (es : List AEntry) : leftOf seen es = es.filter fun e => !decide (e.born ∈ seen) := by
  induction es with
  | nil => rfl
  | cons e es ih =>
    show (bif hasNat e.born seen then leftOf seen es else e :: leftOf seen es) = _
    rw [ih, hasNat_eq]
    by_cases h : e.born ∈ seen <;> simp [h]
theorem oldOf_eq (n : Nat) (es : List AEntry) (h : ∀ e ∈ es, e.born < n) : oldOf n es = es := by
  induction es with
  | nil => rfl
  | cons e es ih =>
    show (bif Nat.blt e.born n then e :: oldOf n es else oldOf n es) = _
    have h1 : Nat.blt e.born n = true := by have := h e List.mem_cons_self; simpa [Nat.blt_eq] using this
    rw [h1, ih fun e he => h e (List.mem_cons_of_mem _ he)]; rfl
theorem newOf_eq (n : Nat) (es : List AEntry) (h : ∀ e ∈ es, e.born < n) : newOf n es = [] := by
  induction es with
  | nil => rfl
  | cons e es ih =>
    show (bif Nat.blt e.born n then newOf n es else e :: newOf n es) = _
    have h1 : Nat.blt e.born n = true := by have := h e List.mem_cons_self; simpa [Nat.blt_eq] using this
    rw [h1, ih fun e he => h e (List.mem_cons_of_mem _ he)]; rfl
theorem nextEach_mem {H : Heap} {it m since clock : Nat} {seen : List Nat} {q : VH} : ∀ {es : List AEntry}, q ∈ nextEach H it m since seen clock es → ∃ e ∈ es, q = (.tuple [.bool true, e.key, e.val], putBlk H it (some (.mapIter (some m) since (seen ++ [e.born]) clock)))
  | [], h => by simp [nextEach] at h
  | e :: es, h => by
    have e1 : nextEach H it m since seen clock (e :: es) = (.tuple [.bool true, e.key, e.val], putBlk H it (some (.mapIter (some m) since (app seen [e.born]) clock))) :: nextEach H it m since seen clock es := by
      show putBlkK H it _ (fun H' => _ :: nextEach H it m since seen clock es) = _
      unfold putBlkK putBlk
      rw [T.setK_eq, T.setK_eq]
    rw [e1, app_eq] at h
    rcases List.mem_cons.1 h with h | h
    · exact ⟨e, List.mem_cons_self, h⟩
    · obtain ⟨e', he, hq⟩ := nextEach_mem h
      exact ⟨e', List.mem_cons_of_mem _ he, hq⟩
theorem next78 {h : Heap} {it lm : Nat} {m : List (Int × Int)} {seen : List Nat} (hm : h.blks.get lm = some (mapB m)) (hi : h.blks.get it = some (.mapIter (some lm) m.length seen m.length)) (hs : ∀ j ∈ seen, j < m.length) :
    ∃ l, nextA h (.ptr it 0) false = some l ∧ ∀ q ∈ l, (q = (.tuple [.bool false], h) ∧ ∀ j, j < m.length → j ∈ seen) ∨
      ∃ j p, m[j]? = some p ∧ j ∉ seen ∧ q = (.tuple [.bool true, .int .i64 p.1, .int .i64 p.2], putBlk h it (some (.mapIter (some lm) m.length (seen ++ [j]) m.length))) := by
  have hborn : ∀ e ∈ ents m 0, e.born < m.length := fun e he => by
    obtain ⟨j, p, h1, h2⟩ := ents_at m 0 e he
    rw [h2]
    have := (List.getElem?_eq_some_iff.1 h1).1
    show 0 + j < _
    omega
  have hleft : ∀ e ∈ leftOf seen (ents m 0), e ∈ ents m 0 ∧ e.born ∉ seen := fun e he => by
    rw [leftOf_eq, List.mem_filter] at he
    exact ⟨he.1, by simpa using he.2⟩
  have e1 : nextA h (.ptr it 0) false = nextMap h it lm m.length seen m.length (ents m 0) m.length := by
    show nextIn h it false (h.blks.get it) = _
    rw [hi]
    show bindO (mapIn (h.blks.get lm)) (fun p => nextMap h it lm m.length seen m.length p.1 p.2) = _
    rw [hm]; rfl
  have hcond : (bif isNil seen then true else bif isNil (ents m 0) then true else someOld m.length (ents m 0)) = true := by
    cases m with
    | nil => cases isNil seen <;> rfl
    | cons p m =>
      obtain ⟨a, b⟩ := p
      have : someOld (m.length + 1) (ents ((a, b) :: m) 0) = true := by
        show (bif Nat.blt 0 (m.length + 1) then true else someOld (m.length + 1) (ents m 1)) = true
        rfl
      rw [List.length_cons, this]
      cases isNil seen <;> rfl
  rw [e1]
  unfold nextMap
  rw [hcond, cond_true, oldOf_eq _ _ fun e he => hborn e (hleft e he).1, newOf_eq _ _ fun e he => hborn e (hleft e he).1]
  cases hL : leftOf seen (ents m 0) with
  | nil =>
    refine ⟨_, rfl, fun q hq => .inl ?_⟩
    have hq : q = (overV, h) := by
      rcases List.mem_cons.1 hq with h | h
      · exact h
      · simp [nextEach] at h
    refine ⟨hq, fun j hj => ?_⟩
    have h1 := mem_ents m 0 j m[j] (List.getElem?_eq_getElem hj)
    by_cases hjs : j ∈ seen
    · exact hjs
    · have : (⟨.int .i64 m[j].1, .int .i64 m[j].2, 0 + j⟩ : AEntry) ∈ leftOf seen (ents m 0) := by
        rw [leftOf_eq, List.mem_filter]
        exact ⟨h1, by simp [hjs]⟩
      rw [hL] at this; simp at this
  | cons o os =>
    refine ⟨_, rfl, fun q hq => .inr ?_⟩
    rw [app_eq, List.append_nil] at hq
    obtain ⟨e, he, hq⟩ := nextEach_mem hq
    rw [← hL] at he
    obtain ⟨he1, he2⟩ := hleft e he
    obtain ⟨j, p, h1, h2⟩ := ents_at m 0 e he1
    subst h2
    simp only [Nat.zero_add] at he2 hq
    exact ⟨j, p, h1, he2, hq⟩
theorem born_at : ∀ (m : List (Int × Int)) (i j k : Nat) (p : Int × Int), m[j]? = some p → bornAt (i + j) (ents m i) k = some (k + j, ⟨.int .i64 p.1, .int .i64 p.2, i + j⟩)
  | [], _, j, _, p, h => by simp at h
  | (a, b) :: m, i, 0, k, p, h => by
    simp only [List.getElem?_cons_zero, Option.some.injEq] at h; subst h
    show (bif Nat.beq i (i + 0) then _ else _) = _
    rw [Sx.beq_true (by omega)]; rfl
  | (a, b) :: m, i, j + 1, k, p, h => by
    show (bif Nat.beq i (i + (j + 1)) then _ else bornAt (i + (j + 1)) (ents m (i + 1)) (k + 1)) = _
    rw [Sx.beq_false (by omega), cond_false, show i + (j + 1) = i + 1 + j by omega, born_at m (i + 1) j (k + 1) p (by simpa using h)]
    congr 2; omega
theorem lastOf_snoc (l : List Nat) (j : Nat) : lastOf (l ++ [j]) = some j := by
  induction l with
  | nil => rfl
  | cons a l ih =>
    show (match lastOf (l ++ [j]) with | none => some a | some b => some b) = _
    rw [ih]
theorem entry78 {h : Heap} {it lm : Nat} {m : List (Int × Int)} {seen : List Nat} {j : Nat} {p : Int × Int} (hm : h.blks.get lm = some (mapB m)) (hi : h.blks.get it = some (.mapIter (some lm) m.length (seen ++ [j]) m.length)) (hj : m[j]? = some p) :
    entryA h (.ptr it 0) = some (.tuple [.int .i64 p.1, .int .i64 p.2]) := by
  show entryIn h (h.blks.get it) = _
  rw [hi]
  show bindO (lastOf (seen ++ [j])) (fun stamp => bindO (mapIn (h.blks.get lm)) fun q => bif Nat.beq q.2 m.length then bindO (bornAt stamp q.1 0) fun q => some (AV.tuple [q.2.key, q.2.val]) else none) = _
  rw [lastOf_snoc, hm]
  show (bif Nat.beq m.length m.length then bindO (bornAt j (ents m 0) 0) fun q => some (AV.tuple [q.2.key, q.2.val]) else none) = _
  rw [Nat.beq_refl, cond_true]
  have := born_at m 0 j 0 p hj
  rw [Nat.zero_add] at this
  rw [this]; rfl
/-! The next command of a group. -/
def callsOf (x : LogV) : List Int := x.l.map fun c => c.cmd.call
def callsL (l : List LogV) : List (List Int) := l.map callsOf
structure MayAt (H : Heap) (pa pl pm ph : Nat) (v : AV) (l : List LogV) (at_ : List Nat) (left c r : List (Int × Int)) : Prop where
  a : ∃ ba, H.blks.get pa = some (.cells 27 true [.slice ba 0 at_.length false at_.length]) ∧ H.blks.get ba = some (.cells 3 true (natL at_))
  logs : H.blks.get pl = some (.cells 22 true [v])
  left : ∃ lm, H.blks.get pm = some (.cells 78 true [.map lm]) ∧ H.blks.get lm = some (mapB left)
  rec_ : ∃ rp, H.blks.get ph = some (.cells 69 true [.ptr rp 0]) ∧ RecP H rp c r
  rows : LogsAt H v l
  len : at_.length = l.length
theorem may_run (H : Heap) (pa pl pm ph : Nat) (v : AV) (l : List LogV) (at_ : List Nat) (left c r : List (Int × Int)) (hM : MayAt H pa pl pm ph v l at_ left c r) (hN : Neat H) {g i : Nat} {x : LogV} (hg : l[g]? = some x) (ha : at_[g]? = some i) (hi : i ≤ x.l.length)
    (hl : x.l.length ≤ 40) (hlen : l.length ≤ 1000) :
    CallTo Tryz.prog Tryz.tab 42 [.int .i64 (g : Int), .ptr pa 0, .ptr pl 0, .ptr pm 0, .ptr ph 0] H [(.bool (mayB (bfB c r) left (callsOf x) i), H)] := by
  obtain ⟨ba, a1, a2⟩ := hM.a
  obtain ⟨lm, m1, m2⟩ := hM.left
  obtain ⟨rp, p1, p2⟩ := hM.rec_
  have hv := hM.rows
  refine callTo_of Tryz.tabOk Tryz.func42 rfl rfl ?_
  show Gets Tryz.prog Tryz.tab ⟨none, 46⟩ _ _ _
  have hgl := (List.getElem?_eq_some_iff.1 hg).1
  have hal := (List.getElem?_eq_some_iff.1 ha).1
  have ca : cellIn (H.blks.get pa) 0 = some (.slice ba 0 at_.length false at_.length) := by rw [a1]; rfl
  have cl : cellIn (H.blks.get pl) 0 = some v := by rw [hM.logs]; rfl
  have cm : cellIn (H.blks.get pm) 0 = some (.map lm) := by rw [m1]; rfl
  have cai : cellIn (H.blks.get ba) g = some (.int .i64 (i : Int)) := by rw [a2, s_cellIn]; exact natL_at ha
  have ix : indexAddrA Tryz.tab 27 (.slice ba 0 at_.length false at_.length) (.int .i64 (g : Int)) = some (.ptr ba g) := by
    rw [s_indexSlice ud27 sz3, if_pos ⟨by omega, by omega⟩]; simp
  obtain ⟨b, hx, hc1, _⟩ := hv.1.row ud22 sz33 LogV.len hg
  have hc : cellIn (H.blks.get b) (g * 1) = some x.v := hc1 0 (by omega)
  have hX := hv.2 x (List.mem_of_getElem? hg)
  have hlx := hX.1.len ud33
  repeat refine Gets.seq ?_
  refine Gets.last Tryz.tabOk (ov := noOv) (noOv_ok) 8 (s' := ?sn1) ?hn1 ?kn1; (case hn1 => (simp -implicitDefEqProofs (disch := first | (simp only [ne_eq, Nat.reduceEqDiff, not_false_eq_true, Nat.reduceLT]; done) | assumption | (simp only [s_push_next, s_put_next, Nat.beq_refl]; done) | ((try simp only [s_push_next, s_put_next]) <;> omega) | exact s_one_map _ | exact s_one_slice _ _ _ _ _ | (refine (id ?_ : plainDraw _ = true); kernel_rfl) | fail) only [sxL, s_castN, s_cells_one, noOv, callFn, kindOf, kindC, kindB, unA, boxA, loadPtr, nilCheckA, fst1, ofValue, ofScalar, len, intBin, ibin, boolO, guardA, cCond, condV, cRet, cExit, cSkip, resOut, resultA, extractA, tupleO, Nat.reduceEqDiff, Nat.reduceAdd, Nat.reduceSub, Nat.reduceLT, Nat.reduceBEq, reduceCtorEq, Nat.reduceMod, Nat.reduceLeDiff, Int.reduceLT, Int.reduceAdd, Int.reduceEq, Int.reduceToNat, s_draw] <;> rfl)); (try (change Gets _ _ _ _ _ _; repeat refine Gets.seq ?_))
  by_cases heq : (i : Int) = (x.l.length : Int)
  · refine Gets.last Tryz.tabOk (ov := noOv) (noOv_ok) 8 (s' := ?sn2) ?hn2 ?kn2; (case hn2 => (simp -implicitDefEqProofs (disch := first | (simp only [ne_eq, Nat.reduceEqDiff, not_false_eq_true, Nat.reduceLT]; done) | assumption | (simp only [s_push_next, s_put_next, Nat.beq_refl]; done) | ((try simp only [s_push_next, s_put_next]) <;> omega) | exact s_one_map _ | exact s_one_slice _ _ _ _ _ | (refine (id ?_ : plainDraw _ = true); kernel_rfl) | fail) only [sxL, s_castN, s_cells_one, noOv, callFn, kindOf, kindC, kindB, unA, boxA, loadPtr, nilCheckA, fst1, ofValue, ofScalar, len, intBin, ibin, boolO, guardA, cCond, condV, cRet, cExit, cSkip, resOut, resultA, extractA, tupleO, Nat.reduceEqDiff, Nat.reduceAdd, Nat.reduceSub, Nat.reduceLT, Nat.reduceBEq, reduceCtorEq, Nat.reduceMod, Nat.reduceLeDiff, Int.reduceLT, Int.reduceAdd, Int.reduceEq, Int.reduceToNat, s_draw, ca, cl, cai, ix, hx, s_varFalse ia27, s_varFalse ia3, s_varFalse ia22, s_varFalse ia33, hc, hlx, heq] <;> rfl)); (try (change Gets _ _ _ _ _ _; repeat refine Gets.seq ?_))
    refine Gets.condT (by simp (disch := decide) only [sxL]) (Gets.seq ?_)
    refine Gets.last Tryz.tabOk (ov := noOv) (noOv_ok) 8 (s' := ?sn3) ?hn3 ?kn3; (case hn3 => (simp -implicitDefEqProofs (disch := first | (simp only [ne_eq, Nat.reduceEqDiff, not_false_eq_true, Nat.reduceLT]; done) | assumption | (simp only [s_push_next, s_put_next, Nat.beq_refl]; done) | ((try simp only [s_push_next, s_put_next]) <;> omega) | exact s_one_map _ | exact s_one_slice _ _ _ _ _ | (refine (id ?_ : plainDraw _ = true); kernel_rfl) | fail) only [sxL, s_castN, s_cells_one, noOv, callFn, kindOf, kindC, kindB, unA, boxA, loadPtr, nilCheckA, fst1, ofValue, ofScalar, len, intBin, ibin, boolO, guardA, cCond, condV, cRet, cExit, cSkip, resOut, resultA, extractA, tupleO, Nat.reduceEqDiff, Nat.reduceAdd, Nat.reduceSub, Nat.reduceLT, Nat.reduceBEq, reduceCtorEq, Nat.reduceMod, Nat.reduceLeDiff, Int.reduceLT, Int.reduceAdd, Int.reduceEq, Int.reduceToNat, s_draw] <;> rfl)); (try (change Gets _ _ _ _ _ _; repeat refine Gets.seq ?_))
    refine Gets.ret Tryz.tabOk ?_
    have : mayB (bfB c r) left (callsOf x) i = false := mayB_none (by rw [List.getElem?_eq_none]; simp [callsOf]; omega)
    rw [this]
    exact fin_pure rfl (by simp (disch := decide) only [sxL, Tryz.f42, resultA]) (.refl _) hN trivial
  refine Gets.last Tryz.tabOk (ov := noOv) (noOv_ok) 8 (s' := ?sn4) ?hn4 ?kn4; (case hn4 => (simp -implicitDefEqProofs (disch := first | (simp only [ne_eq, Nat.reduceEqDiff, not_false_eq_true, Nat.reduceLT]; done) | assumption | (simp only [s_push_next, s_put_next, Nat.beq_refl]; done) | ((try simp only [s_push_next, s_put_next]) <;> omega) | exact s_one_map _ | exact s_one_slice _ _ _ _ _ | (refine (id ?_ : plainDraw _ = true); kernel_rfl) | fail) only [sxL, s_castN, s_cells_one, noOv, callFn, kindOf, kindC, kindB, unA, boxA, loadPtr, nilCheckA, fst1, ofValue, ofScalar, len, intBin, ibin, boolO, guardA, cCond, condV, cRet, cExit, cSkip, resOut, resultA, extractA, tupleO, Nat.reduceEqDiff, Nat.reduceAdd, Nat.reduceSub, Nat.reduceLT, Nat.reduceBEq, reduceCtorEq, Nat.reduceMod, Nat.reduceLeDiff, Int.reduceLT, Int.reduceAdd, Int.reduceEq, Int.reduceToNat, s_draw, ca, cl, cai, ix, hx, s_varFalse ia27, s_varFalse ia3, s_varFalse ia22, s_varFalse ia33, hc, hlx, heq] <;> rfl)); (try (change Gets _ _ _ _ _ _; repeat refine Gets.seq ?_))
  refine Gets.condF (by simp (disch := decide) only [sxL]) (Gets.skip Tryz.tabOk ?_)
  change Gets _ _ _ _ _ _
  repeat refine Gets.seq ?_
  obtain ⟨cd, hcd⟩ : ∃ k, x.l[i]? = some k := ⟨_, List.getElem?_eq_getElem (by omega)⟩
  have hk : (callsOf x)[i]? = some cd.cmd.call := by simp [callsOf, hcd]
  rw [mayB_some hk]
  obtain ⟨b', hx', hcc1, _⟩ := hX.1.row ud33 sz44 CmdK.len hcd
  have hcc : cellIn (H.blks.get b') (i * 24 + 1) = some (.int .i64 cd.cmd.call) := hcc1 1 (by omega)
  refine Gets.last Tryz.tabOk (ov := noOv) (noOv_ok) 8 (s' := ?sn5) ?hn5 ?kn5; (case hn5 => (simp -implicitDefEqProofs (disch := first | (simp only [ne_eq, Nat.reduceEqDiff, not_false_eq_true, Nat.reduceLT]; done) | assumption | (simp only [s_push_next, s_put_next, Nat.beq_refl]; done) | ((try simp only [s_push_next, s_put_next]) <;> omega) | exact s_one_map _ | exact s_one_slice _ _ _ _ _ | (refine (id ?_ : plainDraw _ = true); kernel_rfl) | fail) only [sxL, s_castN, s_cells_one, noOv, callFn, kindOf, kindC, kindB, unA, boxA, loadPtr, nilCheckA, fst1, ofValue, ofScalar, len, intBin, ibin, boolO, guardA, cCond, condV, cRet, cExit, cSkip, resOut, resultA, extractA, tupleO, Nat.reduceEqDiff, Nat.reduceAdd, Nat.reduceSub, Nat.reduceLT, Nat.reduceBEq, reduceCtorEq, Nat.reduceMod, Nat.reduceLeDiff, Int.reduceLT, Int.reduceAdd, Int.reduceEq, Int.reduceToNat, s_draw, ca, cl, cai, ix, hx, s_varFalse ia27, s_varFalse ia3, s_varFalse ia22, s_varFalse ia33, hc, hx', fa44_1, hcc] <;> rfl)); (try (change Gets _ _ _ _ _ _; repeat refine Gets.seq ?_))
  refine Gets.last Tryz.tabOk (ov := noOv) (noOv_ok) 8 (s' := ?sn6) ?hn6 ?kn6; (case hn6 => (simp -implicitDefEqProofs (disch := first | (simp only [ne_eq, Nat.reduceEqDiff, not_false_eq_true, Nat.reduceLT]; done) | assumption | (simp only [s_push_next, s_put_next, Nat.beq_refl]; done) | ((try simp only [s_push_next, s_put_next]) <;> omega) | exact s_one_map _ | exact s_one_slice _ _ _ _ _ | (refine (id ?_ : plainDraw _ = true); kernel_rfl) | fail) only [sxL, s_castN, s_cells_one, noOv, callFn, kindOf, kindC, kindB, unA, boxA, loadPtr, nilCheckA, fst1, ofValue, ofScalar, len, intBin, ibin, boolO, guardA, cCond, condV, cRet, cExit, cSkip, resOut, resultA, extractA, tupleO, Nat.reduceEqDiff, Nat.reduceAdd, Nat.reduceSub, Nat.reduceLT, Nat.reduceBEq, reduceCtorEq, Nat.reduceMod, Nat.reduceLeDiff, Int.reduceLT, Int.reduceAdd, Int.reduceEq, Int.reduceToNat, s_draw, z_opRange, cm, s_varFalse ia78, range78 m2] <;> rfl)); (try (change Gets _ _ _ _ _ _; repeat refine Gets.seq ?_))
  generalize cd.cmd.call = k at *
  refine Gets.uptoH left.length (fun n tm h => ∃ seen, seen.length = n ∧ seen.Nodup ∧ (∀ j ∈ seen, j < left.length) ∧ (∀ j ∈ seen, ∀ p, left[j]? = some p → (decide (0 < p.2) && bfB c r p.1 k) = false) ∧ IterAt H h H.next lm left.length seen ∧
    tm.get 4 = some (.ptr ph 0) ∧ tm.get 7 = some (.int .i64 k) ∧ tm.get 32 = some (.ptr H.next 0)) ⟨[], rfl, .nil, fun j hj => by simp at hj, fun j hj => by simp at hj, ⟨.push _ _, hN.push _, Nat.lt_succ_self _, Nat.le_refl _, s_push_same _ _⟩, by simp (disch := decide) only [sxL], by simp (disch := decide) only [sxL], by simp (disch := decide) only [sxL]⟩ ?_
  rintro n tm h hn ⟨seen, q1, q2, q3, q4, hI, i4, i7, i32⟩
  obtain ⟨I1, I2, I3, I4, I5⟩ := hI
  have m2' : h.blks.get lm = some (mapB left) := by rw [I1.get _ (hN _ _ m2)]; exact m2
  obtain ⟨ol, hol, hin⟩ := next78 m2' I5 q3
  repeat refine Gets.seq ?_
  refine Gets.next Tryz.tabOk i32 (by decide) (by decide) hol fun q hq => ?_
  rcases hin q hq with ⟨rfl, hall⟩ | ⟨j, p, hj, hjs, rfl⟩
  · refine ⟨_, _, rfl, ?_⟩
    change Gets _ _ _ _ _ _
    repeat refine Gets.seq ?_
    refine Gets.condF (by simp (disch := decide) only [sxL]) (Gets.exit Tryz.tabOk ?_)
    refine inBlk_exit ?_
    change Gets _ _ _ _ _ _
    refine Gets.seq ?_
    refine Gets.last Tryz.tabOk (ov := noOv) (noOv_ok) 8 (s' := ?sn7) ?hn7 ?kn7; (case hn7 => (simp -implicitDefEqProofs (disch := first | (simp only [ne_eq, Nat.reduceEqDiff, not_false_eq_true, Nat.reduceLT]; done) | assumption | (simp only [s_push_next, s_put_next, Nat.beq_refl]; done) | ((try simp only [s_push_next, s_put_next]) <;> omega) | exact s_one_map _ | exact s_one_slice _ _ _ _ _ | (refine (id ?_ : plainDraw _ = true); kernel_rfl) | fail) only [sxL, s_castN, s_cells_one, noOv, callFn, kindOf, kindC, kindB, unA, boxA, loadPtr, nilCheckA, fst1, ofValue, ofScalar, len, intBin, ibin, boolO, guardA, cCond, condV, cRet, cExit, cSkip, resOut, resultA, extractA, tupleO, Nat.reduceEqDiff, Nat.reduceAdd, Nat.reduceSub, Nat.reduceLT, Nat.reduceBEq, reduceCtorEq, Nat.reduceMod, Nat.reduceLeDiff, Int.reduceLT, Int.reduceAdd, Int.reduceEq, Int.reduceToNat, s_draw] <;> rfl)); (try (change Gets _ _ _ _ _ _; repeat refine Gets.seq ?_))
    refine Gets.ret Tryz.tabOk ?_
    have : (left.all fun p => !(decide (0 < p.2) && bfB c r p.1 k)) = true := by
      rw [List.all_eq_true]
      intro p hp
      obtain ⟨j, hj, rfl⟩ := List.mem_iff_getElem.1 hp
      rw [q4 j (hall j hj) _ (List.getElem?_eq_getElem hj)]; rfl
    rw [this]
    exact fin_pure rfl (by simp (disch := decide) only [sxL, Tryz.f42, resultA]) I1 hN trivial
  · refine ⟨_, _, rfl, ?_⟩
    change Gets _ _ _ _ _ _
    repeat refine Gets.seq ?_
    refine Gets.condT (by simp (disch := decide) only [sxL]) (Gets.skip Tryz.tabOk ?_)
    change Gets _ _ _ _ _ _
    refine Gets.blk ?_
    repeat refine Gets.seq ?_
    have hat : (putBlk h H.next (some (.mapIter (some lm) left.length (seen ++ [j]) left.length))).blks.get H.next = some (.mapIter (some lm) left.length (seen ++ [j]) left.length) := s_put_same _ _ _
    have hg' : Grows H (putBlk h H.next (some (.mapIter (some lm) left.length (seen ++ [j]) left.length))) := ⟨by rw [s_put_next]; exact I1.next, fun y hy => by rw [s_put_other _ _ _ (by omega)]; exact I1.get y hy⟩
    have hN' : Neat (putBlk h H.next (some (.mapIter (some lm) left.length (seen ++ [j]) left.length))) := I2.put I3 _
    have hnx : H.next < (putBlk h H.next (some (.mapIter (some lm) left.length (seen ++ [j]) left.length))).next := by rw [s_put_next]; exact I3
    generalize putBlk h H.next (some (.mapIter (some lm) left.length (seen ++ [j]) left.length)) = h' at *
    have m3 : h'.blks.get lm = some (mapB left) := by rw [hg'.get _ (hN _ _ m2)]; exact m2
    have cp : cellIn (h'.blks.get ph) 0 = some (.ptr rp 0) := by rw [hg'.get _ (hN _ _ p1), p1]; rfl
    have hb := before_run c r rp p.1 k h' (p2.grow hN hg') hN'
    have hent := entry78 m3 hat hj
    have hjl := (List.getElem?_eq_some_iff.1 hj).1
    have hseen : (seen ++ [j]).Nodup := by
      rw [List.nodup_append]
      exact ⟨q2, by simp, fun a ha b hb => by simp only [List.mem_singleton] at hb; subst hb; exact fun e => hjs (e ▸ ha)⟩
    have hlt : n < left.length := by
      have := nodup_len left.length (seen ++ [j]) hseen fun y hy => by
        rcases List.mem_append.1 hy with hy | hy
        · exact q3 y hy
        · simp only [List.mem_singleton] at hy; subst hy; exact hjl
      simp only [List.length_append, List.length_singleton] at this
      omega
    refine Gets.last Tryz.tabOk (ov := noOv) (noOv_ok) 8 (s' := ?sn8) ?hn8 ?kn8; (case hn8 => (simp -implicitDefEqProofs (disch := first | (simp only [ne_eq, Nat.reduceEqDiff, not_false_eq_true, Nat.reduceLT]; done) | assumption | (simp only [s_push_next, s_put_next, Nat.beq_refl]; done) | ((try simp only [s_push_next, s_put_next]) <;> omega) | exact s_one_map _ | exact s_one_slice _ _ _ _ _ | (refine (id ?_ : plainDraw _ = true); kernel_rfl) | fail) only [sxL, s_castN, s_cells_one, noOv, callFn, kindOf, kindC, kindB, unA, boxA, loadPtr, nilCheckA, fst1, ofValue, ofScalar, len, intBin, ibin, boolO, guardA, cCond, condV, cRet, cExit, cSkip, resOut, resultA, extractA, tupleO, Nat.reduceEqDiff, Nat.reduceAdd, Nat.reduceSub, Nat.reduceLT, Nat.reduceBEq, reduceCtorEq, Nat.reduceMod, Nat.reduceLeDiff, Int.reduceLT, Int.reduceAdd, Int.reduceEq, Int.reduceToNat, s_draw, z_opEntry, i32, hent] <;> rfl)); (try (change Gets _ _ _ _ _ _; repeat refine Gets.seq ?_))
    by_cases hpos : 0 < p.2
    · refine Gets.last Tryz.tabOk (ov := ptO noOv 30 [.ptr rp 0, .int .i64 p.1, .int .i64 k] h' [(.bool (bfB c r p.1 k), h')]) (ptO_ok noOv_ok hb) 8 (s' := ?sn9) ?hn9 ?kn9; (case hn9 => (simp -implicitDefEqProofs (disch := first | (simp only [ne_eq, Nat.reduceEqDiff, not_false_eq_true, Nat.reduceLT]; done) | assumption | (simp only [s_push_next, s_put_next, Nat.beq_refl]; done) | ((try simp only [s_push_next, s_put_next]) <;> omega) | exact s_one_map _ | exact s_one_slice _ _ _ _ _ | (refine (id ?_ : plainDraw _ = true); kernel_rfl) | fail) only [sxL, s_castN, s_cells_one, noOv, callFn, kindOf, kindC, kindB, unA, boxA, loadPtr, nilCheckA, fst1, ofValue, ofScalar, len, intBin, ibin, boolO, guardA, cCond, condV, cRet, cExit, cSkip, resOut, resultA, extractA, tupleO, Nat.reduceEqDiff, Nat.reduceAdd, Nat.reduceSub, Nat.reduceLT, Nat.reduceBEq, reduceCtorEq, Nat.reduceMod, Nat.reduceLeDiff, Int.reduceLT, Int.reduceAdd, Int.reduceEq, Int.reduceToNat, s_draw, i4, i7, cp, ia69, s_varFalse ia69, hpos] <;> rfl)); (try (change Gets _ _ _ _ _ _; repeat refine Gets.seq ?_))
      cases hbf : bfB c r p.1 k
      · refine Gets.condF (by simp (disch := decide) only [sxL]) (Gets.skip Tryz.tabOk ?_)
        change ∃ _, _
        refine ⟨_, _, rfl, hlt, seen ++ [j], by simp [q1], hseen, fun y hy => ?_, fun y hy p' hp' => ?_, ⟨hg', hN', hnx, Nat.le_refl _, hat⟩, ?_, ?_, ?_⟩
        · rcases List.mem_append.1 hy with hy | hy
          · exact q3 y hy
          · simp only [List.mem_singleton] at hy; subst hy; exact hjl
        · rcases List.mem_append.1 hy with hy | hy
          · exact q4 y hy p' hp'
          · simp only [List.mem_singleton] at hy; subst hy
            rw [hj] at hp'; cases hp'; rw [hbf]; simp
        · simp (disch := decide) only [sxL, i4]
        · simp (disch := decide) only [sxL, i7]
        · simp (disch := decide) only [sxL, i32]
      · refine Gets.condT (by simp (disch := decide) only [sxL]) (Gets.seq ?_)
        refine Gets.last Tryz.tabOk (ov := noOv) (noOv_ok) 8 (s' := ?sn10) ?hn10 ?kn10; (case hn10 => (simp -implicitDefEqProofs (disch := first | (simp only [ne_eq, Nat.reduceEqDiff, not_false_eq_true, Nat.reduceLT]; done) | assumption | (simp only [s_push_next, s_put_next, Nat.beq_refl]; done) | ((try simp only [s_push_next, s_put_next]) <;> omega) | exact s_one_map _ | exact s_one_slice _ _ _ _ _ | (refine (id ?_ : plainDraw _ = true); kernel_rfl) | fail) only [sxL, s_castN, s_cells_one, noOv, callFn, kindOf, kindC, kindB, unA, boxA, loadPtr, nilCheckA, fst1, ofValue, ofScalar, len, intBin, ibin, boolO, guardA, cCond, condV, cRet, cExit, cSkip, resOut, resultA, extractA, tupleO, Nat.reduceEqDiff, Nat.reduceAdd, Nat.reduceSub, Nat.reduceLT, Nat.reduceBEq, reduceCtorEq, Nat.reduceMod, Nat.reduceLeDiff, Int.reduceLT, Int.reduceAdd, Int.reduceEq, Int.reduceToNat, s_draw] <;> rfl)); (try (change Gets _ _ _ _ _ _; repeat refine Gets.seq ?_))
        refine Gets.ret Tryz.tabOk ?_
        have : (left.all fun p => !(decide (0 < p.2) && bfB c r p.1 k)) = false := List.all_eq_false.2 ⟨p, List.mem_of_getElem? hj, by simp [hpos, hbf]⟩
        rw [this]
        exact fin_pure rfl (by simp (disch := decide) only [sxL, Tryz.f42, resultA]) hg' hN trivial
    · refine Gets.last Tryz.tabOk (ov := noOv) (noOv_ok) 8 (s' := ?sn11) ?hn11 ?kn11; (case hn11 => (simp -implicitDefEqProofs (disch := first | (simp only [ne_eq, Nat.reduceEqDiff, not_false_eq_true, Nat.reduceLT]; done) | assumption | (simp only [s_push_next, s_put_next, Nat.beq_refl]; done) | ((try simp only [s_push_next, s_put_next]) <;> omega) | exact s_one_map _ | exact s_one_slice _ _ _ _ _ | (refine (id ?_ : plainDraw _ = true); kernel_rfl) | fail) only [sxL, s_castN, s_cells_one, noOv, callFn, kindOf, kindC, kindB, unA, boxA, loadPtr, nilCheckA, fst1, ofValue, ofScalar, len, intBin, ibin, boolO, guardA, cCond, condV, cRet, cExit, cSkip, resOut, resultA, extractA, tupleO, Nat.reduceEqDiff, Nat.reduceAdd, Nat.reduceSub, Nat.reduceLT, Nat.reduceBEq, reduceCtorEq, Nat.reduceMod, Nat.reduceLeDiff, Int.reduceLT, Int.reduceAdd, Int.reduceEq, Int.reduceToNat, s_draw, i4, i7, hpos] <;> rfl)); (try (change Gets _ _ _ _ _ _; repeat refine Gets.seq ?_))
      refine Gets.condF (by simp (disch := decide) only [sxL]) (Gets.skip Tryz.tabOk ?_)
      change ∃ _, _
      refine ⟨_, _, rfl, hlt, seen ++ [j], by simp [q1], hseen, fun y hy => ?_, fun y hy p' hp' => ?_, ⟨hg', hN', hnx, Nat.le_refl _, hat⟩, ?_, ?_, ?_⟩
      · rcases List.mem_append.1 hy with hy | hy
        · exact q3 y hy
        · simp only [List.mem_singleton] at hy; subst hy; exact hjl
      · rcases List.mem_append.1 hy with hy | hy
        · exact q4 y hy p' hp'
        · simp only [List.mem_singleton] at hy; subst hy
          rw [hj] at hp'; cases hp'; simp [hpos]
      · simp (disch := decide) only [sxL, i4]
      · simp (disch := decide) only [sxL, i7]
      · simp (disch := decide) only [sxL, i32]
end Go.Proofs

namespace Go.Proofs
open Go.Sx
set_option maxRecDepth 100000
theorem zero44 : Tryz.tab.zero 44 = some (.agg zcells) := by kernel_rfl
theorem zc_one : allOne zcells = true := by kernel_rfl
theorem zc_len : zcells.length = 24 := rfl
theorem zero78 : Tryz.tab.zero 78 = some .nilmap := by kernel_rfl
theorem zero27 : Tryz.tab.zero 27 = some .nilslice := by kernel_rfl
theorem bs27 (H : Heap) (x : Int) : buildSliceA Tryz.tab H 27 1 [(0, .int .i64 x)] = some (.slice H.next 0 1 false 1, H.push (.cells 3 true [.int .i64 x])) := by
  show bindO (Sx.elemOf Tryz.tab 27) (fun e => bindO (Tryz.tab.size e) fun z => bindO (Tryz.tab.zero e) fun zero =>
    bif Nat.ble (1 * z) 10000 then
      bif Nat.beq (len zero.cells) z then bindO (fillA (fun i => some (i * z, z)) [(0, .int .i64 x)] (repeatL zero.cells 1)) (newSlice H e 1 1) else none
    else none) = _
  rw [el27]
  show bindO (Tryz.tab.size 3) (fun z => bindO (Tryz.tab.zero 3) fun zero =>
    bif Nat.ble (1 * z) 10000 then
      bif Nat.beq (len zero.cells) z then bindO (fillA (fun i => some (i * z, z)) [(0, .int .i64 x)] (repeatL zero.cells 1)) (newSlice H 3 1 1) else none
    else none) = _
  rw [sz3, zero3]
  show newSlice H 3 1 1 [.int .i64 x] = _
  unfold newSlice
  rw [s_newRowA]; rfl
/-! What is appended to, number by number. -/
def outV (d : Nat) (l : List AV) : AV := match l with
  | [] => .nilslice
  | _ :: _ => .slice d 0 l.length true 0
noncomputable def appH (h : Heap) (d : Nat) (l : List AV) (w : AV) : Heap := match l with
  | [] => h.push (.cells 3 false [w])
  | _ :: _ => (putBlk h d none).push (.cells 3 false (l ++ [w]))
theorem outV_snoc (d : Nat) (l : List AV) (w : AV) : outV d (l ++ [w]) = .slice d 0 (l.length + 1) true 0 := by
  cases l <;> simp [outV]
theorem app_out {h : Heap} {b d : Nat} {l : List AV} {w : AV} (hb : h.blks.get b = some (.cells 3 true [w])) (hd : l ≠ [] → h.blks.get d = some (.cells 3 false l)) (hw : oneCell w = true) (hl : allOne l = true) (hn : l.length ≤ 1000) :
    appendA Tryz.tab h [27, 27] [outV d l, .slice b 0 1 false 1] = some (outV h.next (l ++ [w]), appH h d l w) := by
  cases l with
  | nil => exact app27_nil hb hw
  | cons a l =>
    rw [outV_snoc]
    exact app27 hb (hd (by simp)) hw hl (by simp) hn
theorem appH_next (h : Heap) (d : Nat) (l : List AV) (w : AV) : (appH h d l w).next = h.next + 1 := by
  cases l
  · rfl
  · show (putBlk h d none).next + 1 = _; rw [s_put_next]
theorem appH_same (h : Heap) (d : Nat) (l : List AV) (w : AV) : (appH h d l w).blks.get h.next = some (.cells 3 false (l ++ [w])) := by
  cases l with
  | nil => exact s_push_same _ _
  | cons a l =>
    have : (putBlk h d none).next = h.next := s_put_next _ _ _
    have e := s_push_same (putBlk h d none) (.cells 3 false (a :: l ++ [w]))
    rw [this] at e; exact e
theorem appH_other (h : Heap) (d : Nat) (l : List AV) (w : AV) {x : Nat} (h1 : x ≠ h.next) (h2 : l ≠ [] → x ≠ d) : (appH h d l w).blks.get x = h.blks.get x := by
  cases l with
  | nil => exact s_push_other _ _ h1
  | cons a l =>
    show ((putBlk h d none).push _).blks.get x = _
    rw [s_push_other _ _ (by rw [s_put_next]; exact h1), s_put_other _ _ _ (h2 (by simp))]
theorem neat_kill {h : Heap} (hN : Neat h) (d : Nat) : Neat (putBlk h d none) := fun x o hx => by
  rw [Heap.get_put] at hx
  rw [Heap.next_put]
  split at hx
  · simp at hx
  · exact hN x o hx
theorem appH_neat {h : Heap} (hN : Neat h) (d : Nat) (l : List AV) (w : AV) : Neat (appH h d l w) := by
  cases l with
  | nil => exact hN.push _
  | cons a l => exact (neat_kill hN d).push _
theorem outV_len (d : Nat) (l : List AV) (H : Heap) : lenA Tryz.tab H 27 (outV d l) = some (.int .i64 (l.length : Int)) := by
  cases l with
  | nil => exact s_lenNil ud27 H
  | cons a l => exact s_lenSlice ud27 H ..
theorem outV_at (d : Nat) (l : List AV) {i : Nat} (hi : i < l.length) : indexAddrA Tryz.tab 27 (outV d l) (.int .i64 (i : Int)) = some (.ptr d i) := by
  cases l with
  | nil => simp at hi
  | cons a l =>
    show indexAddrA Tryz.tab 27 (.slice d 0 (a :: l).length true 0) (.int .i64 (i : Int)) = _
    rw [s_indexSlice ud27 sz3, if_pos ⟨by omega, by omega⟩]; simp
/-- one block more -/
noncomputable def oneMore (H : Heap) (d : Nat) (l : List AV) : Heap := ⟨d + 1, H.blks.set d (some (.cells 3 false l))⟩
theorem oneMore_get (H : Heap) (d : Nat) (l : List AV) (x : Nat) : (oneMore H d l).blks.get x = if x = d then some (.cells 3 false l) else H.blks.get x := T.get_set _ _ _ _
theorem oneMore_grows {H : Heap} {d : Nat} (hd : H.next ≤ d) (l : List AV) : Grows H (oneMore H d l) := ⟨by show H.next ≤ d + 1; omega, fun b hb => by rw [oneMore_get, if_neg (by omega)]⟩
theorem oneMore_neat {H : Heap} (hN : Neat H) {d : Nat} (hd : H.next ≤ d) (l : List AV) : Neat (oneMore H d l) := fun b o hb => by
  rw [oneMore_get] at hb
  show b < d + 1
  split at hb
  · omega
  · have := hN b o hb; omega
noncomputable def outH (H : Heap) (d : Nat) (l : List AV) : Heap := match l with
  | [] => H
  | _ :: _ => oneMore H d l
theorem ltL_ints (N : Nat) (l : List Nat) : ltL N (natL l) := by
  induction l with
  | nil => trivial
  | cons a l ih => exact ⟨trivial, ih⟩
theorem cut_out {H h : Heap} {d : Nat} {l : List Nat} {vs : List AV} (hN : Neat H) (hg : Grows H h) (h1 : l ≠ [] → H.next ≤ d ∧ d < h.next ∧ h.blks.get d = some (.cells 3 false (natL l))) (hv : ltL H.next vs) :
    Cut H (.tuple (outV d (natL l) :: vs), outH H d (natL l)) (.tuple (outV d (natL l) :: vs)) h := by
  cases l with
  | nil => exact .pure hg.next hg.get hN ⟨trivial, hv⟩
  | cons a l =>
    obtain ⟨e1, e2, e3⟩ := h1 (by simp)
    refine ⟨rfl, by show d + 1 ≤ _; omega, by show _ ≤ d + 1; omega, fun b o hb => ?_, ⟨Nat.lt_succ_self d, ?_⟩⟩
    · have hb' : (oneMore H d (natL (a :: l))).blks.get b = some o := hb
      rw [oneMore_get] at hb'
      split at hb'
      · rename_i e
        have eo := Option.some.inj hb'
        rw [e, ← eo]
        exact ⟨e3, .inr (ltL_ints _ _)⟩
      · exact ⟨by rw [hg.get b (hN b o hb')]; exact hb', .inl ⟨hN b o hb', hb'⟩⟩
    · have mono : ∀ (l : List AV), ltL H.next l → ltL (d + 1) l := by
        have hv' : ∀ v, ltV H.next v → ltV (d + 1) v := by
          intro v
          exact AV.rec (motive_1 := fun v => ltV H.next v → ltV (d + 1) v) (motive_2 := fun l => ltL H.next l → ltL (d + 1) l) (fun _ _ => trivial) (fun _ _ _ => trivial) (fun _ _ => trivial)
            (fun b _ h => by have h : b < H.next := h; show b < d + 1; omega) (fun _ => trivial) (fun b _ _ _ _ h => by have h : b < H.next := h; show b < d + 1; omega) (fun _ => trivial) (fun _ _ _ _ _ => trivial)
            (fun b h => by have h : b < H.next := h; show b < d + 1; omega) (fun _ => trivial) (fun _ _ _ hx hy h => ⟨hx h.1, hy h.2⟩) (fun b h => by have h : b < H.next := h; show b < d + 1; omega) (fun _ => trivial)
            (fun _ _ h h' => h h') (fun _ => trivial) (fun _ h h' => h h') (fun _ h h' => h h') (fun _ => trivial) (fun _ _ h1 h2 h => ⟨h1 h.1, h2 h.2⟩) v
        intro l
        induction l with
        | nil => intro _; trivial
        | cons a l ih => intro h; exact ⟨hv' a h.1, ih h.2⟩
      exact mono vs hv
/-! The commands are counted. -/
structure CntI (H h : Heap) (v : AV) (rp n : Nat) (left : List (Int × Int)) : Prop where
  next : h.next = H.next + 4 + n
  grows : Grows H h
  neat : Neat h
  ph : h.blks.get H.next = some (.cells 69 true [.ptr rp 0])
  pl : h.blks.get (H.next + 1) = some (.cells 22 true [v])
  lm : h.blks.get (H.next + 2) = some (mapB left)
  pm : h.blks.get (H.next + 3) = some (.cells 78 true [.map (H.next + 2)])
theorem CntI.push {H h : Heap} {v : AV} {rp n : Nat} {left : List (Int × Int)} (I : CntI H h v rp n left) (o : ABlk) : CntI H (h.push o) v rp (n + 1) left := by
  have := I.next
  exact ⟨by rw [s_push_next]; omega, I.grows.trans (.push _ _), I.neat.push _, by rw [s_push_other _ _ (by omega)]; exact I.ph, by rw [s_push_other _ _ (by omega)]; exact I.pl, by rw [s_push_other _ _ (by omega)]; exact I.lm,
    by rw [s_push_other _ _ (by omega)]; exact I.pm⟩
theorem CntI.put {H h : Heap} {v : AV} {rp n : Nat} {left : List (Int × Int)} (I : CntI H h v rp n left) {b : Nat} (h1 : H.next + 4 ≤ b) (h2 : b < h.next) (o : Option ABlk) : CntI H (putBlk h b o) v rp n left := by
  exact ⟨by rw [s_put_next]; exact I.next, ⟨by rw [s_put_next]; exact I.grows.next, fun x hx => by rw [s_put_other _ _ _ (by omega)]; exact I.grows.get x hx⟩, I.neat.put h2 o, by rw [s_put_other _ _ _ (by omega)]; exact I.ph,
    by rw [s_put_other _ _ _ (by omega)]; exact I.pl, by rw [s_put_other _ _ _ (by omega)]; exact I.lm, by rw [s_put_other _ _ _ (by omega)]; exact I.pm⟩
theorem CntI.putMap {H h : Heap} {v : AV} {rp n : Nat} {left : List (Int × Int)} (I : CntI H h v rp n left) (left' : List (Int × Int)) : CntI H (putBlk h (H.next + 2) (some (mapB left'))) v rp n left' := by
  have := I.next
  exact ⟨by rw [s_put_next]; exact I.next, ⟨by rw [s_put_next]; exact I.grows.next, fun x hx => by rw [s_put_other _ _ _ (by omega)]; exact I.grows.get x hx⟩, I.neat.put (by omega) _, by rw [s_put_other _ _ _ (by omega)]; exact I.ph,
    by rw [s_put_other _ _ _ (by omega)]; exact I.pl, s_put_same _ _ _, by rw [s_put_other _ _ _ (by omega)]; exact I.pm⟩
theorem CntI.start (H : Heap) (hN : Neat H) (v : AV) (rp : Nat) :
    CntI H (putBlk ((((H.push (.cells 69 true [.ptr rp 0])).push (.cells 22 true [v])).push (.map [] 0)).push (.cells 78 true [.nilmap])) (H.next + 3) (some (.cells 78 true [.map (H.next + 2)]))) v rp 0 [] := by
  have hN4 := (((hN.push (.cells 69 true [.ptr rp 0])).push (.cells 22 true [v])).push (.map [] 0)).push (.cells 78 true [.nilmap])
  refine ⟨by rw [s_put_next]; rfl, ⟨by rw [s_put_next]; show H.next ≤ H.next + 1 + 1 + 1 + 1; omega, fun x hx => ?_⟩, hN4.put (by show H.next + 3 < H.next + 1 + 1 + 1 + 1; omega) _, ?_, ?_, ?_, s_put_same _ _ _⟩
  · rw [s_put_other _ _ _ (by omega), s_push_other _ _ (by simp only [s_push_next]; omega), s_push_other _ _ (by simp only [s_push_next]; omega), s_push_other _ _ (by simp only [s_push_next]; omega), s_push_other _ _ (by omega)]
  · rw [s_put_other _ _ _ (by omega), s_push_other _ _ (by simp only [s_push_next]; omega), s_push_other _ _ (by simp only [s_push_next]; omega), s_push_other _ _ (by simp only [s_push_next]; omega)]; exact s_push_same _ _
  · rw [s_put_other _ _ _ (by omega), s_push_other _ _ (by simp only [s_push_next]; omega), s_push_other _ _ (by simp only [s_push_next]; omega)]; exact s_push_same (H.push _) _
  · rw [s_put_other _ _ _ (by omega), s_push_other _ _ (by simp only [s_push_next]; omega)]; exact s_push_same ((H.push _).push _) _
end Go.Proofs
