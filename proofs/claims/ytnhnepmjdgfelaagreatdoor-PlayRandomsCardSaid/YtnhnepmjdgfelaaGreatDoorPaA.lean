/-
  Names, counters, random numbers; what is asked of each key and counter.
-/
import Derived.Test.YtnhnepmjdgfelaaGreatDoorSxI
import Derived.Test.YtnhnepmjdgfelaaGreatDoorSxTab
import Derived.Test.YtnhnepmjdgfelaaGreatDoorSxH
set_option linter.unusedSimpArgs false
set_option linter.unusedVariables false
namespace Go.Proofs
open Go.Sx
set_option maxRecDepth 100000
theorem get3 : Tryz.tab.funcs.get 3 = some Tryz.f3 := by kernel_rfl
theorem fa25_2 (b o : Nat) : fieldAddrA Tryz.tab 25 2 (.ptr b o) = some (.ptr b (o + 2)) := by kernel_rfl
theorem ia22 : Tryz.tab.isAgg 22 = some false := by kernel_rfl
theorem sz22 : Tryz.tab.size 22 = some 1 := by kernel_rfl
theorem ud22 : Tryz.tab.und 22 = some (.slice 9) := by kernel_rfl
theorem ia9 : Tryz.tab.isAgg 9 = some false := by kernel_rfl
theorem sz9 : Tryz.tab.size 9 = some 1 := by kernel_rfl
theorem fa25_3 (b o : Nat) : fieldAddrA Tryz.tab 25 3 (.ptr b o) = some (.ptr b (o + 3)) := by kernel_rfl
theorem ia23 : Tryz.tab.isAgg 23 = some false := by kernel_rfl
theorem sz23 : Tryz.tab.size 23 = some 1 := by kernel_rfl
theorem ud23 : Tryz.tab.und 23 = some (.slice 79) := by kernel_rfl
theorem ia79 : Tryz.tab.isAgg 79 = some true := by kernel_rfl
theorem sz79 : Tryz.tab.size 79 = some 5 := by kernel_rfl
theorem ud9 : Tryz.tab.und 9 = some .string := by kernel_rfl
theorem ia25 : Tryz.tab.isAgg 25 = some true := by kernel_rfl
theorem sz25 : Tryz.tab.size 25 = some 4 := by kernel_rfl
theorem get5 : Tryz.tab.funcs.get 5 = some Tryz.f5 := by kernel_rfl
theorem ud64 : Tryz.tab.und 64 = some (.slice 69) := by kernel_rfl
theorem ia69 : Tryz.tab.isAgg 69 = some true := by kernel_rfl
theorem sz69 : Tryz.tab.size 69 = some 2 := by kernel_rfl
theorem fa69_0 (b o : Nat) : fieldAddrA Tryz.tab 69 0 (.ptr b o) = some (.ptr b (o + 0)) := by kernel_rfl
theorem ia3 : Tryz.tab.isAgg 3 = some false := by kernel_rfl
theorem sz3 : Tryz.tab.size 3 = some 1 := by kernel_rfl
theorem fa69_1 (b o : Nat) : fieldAddrA Tryz.tab 69 1 (.ptr b o) = some (.ptr b (o + 1)) := by kernel_rfl
theorem ia67 : Tryz.tab.isAgg 67 = some false := by kernel_rfl
theorem sz67 : Tryz.tab.size 67 = some 1 := by kernel_rfl
theorem ud28 : Tryz.tab.und 28 = some (.slice 43) := by kernel_rfl
theorem ia43 : Tryz.tab.isAgg 43 = some true := by kernel_rfl
theorem sz43 : Tryz.tab.size 43 = some 10 := by kernel_rfl
theorem get6 : Tryz.tab.funcs.get 6 = some Tryz.f6 := by kernel_rfl
theorem ia33 : Tryz.tab.isAgg 33 = some true := by kernel_rfl
theorem sz33 : Tryz.tab.size 33 = some 4 := by kernel_rfl
theorem fa33_2 (b o : Nat) : fieldAddrA Tryz.tab 33 2 (.ptr b o) = some (.ptr b (o + 2)) := by kernel_rfl
theorem get7 : Tryz.tab.funcs.get 7 = some Tryz.f7 := by kernel_rfl
theorem fa25_0 (b o : Nat) : fieldAddrA Tryz.tab 25 0 (.ptr b o) = some (.ptr b (o + 0)) := by kernel_rfl
theorem fa25_1 (b o : Nat) : fieldAddrA Tryz.tab 25 1 (.ptr b o) = some (.ptr b (o + 1)) := by kernel_rfl
theorem get8 : Tryz.tab.funcs.get 8 = some Tryz.f8 := by kernel_rfl
theorem get17 : Tryz.tab.funcs.get 17 = some Tryz.f17 := by kernel_rfl
theorem ud114 : Tryz.tab.und 114 = some (.map 9 4) := by kernel_rfl
theorem get18 : Tryz.tab.funcs.get 18 = some Tryz.f18 := by kernel_rfl
theorem ia105 : Tryz.tab.isAgg 105 = some false := by kernel_rfl
theorem sz105 : Tryz.tab.size 105 = some 1 := by kernel_rfl
theorem ia119 : Tryz.tab.isAgg 119 = some false := by kernel_rfl
theorem sz119 : Tryz.tab.size 119 = some 1 := by kernel_rfl
theorem get19 : Tryz.tab.funcs.get 19 = some Tryz.f19 := by kernel_rfl
theorem fa63_0 (b o : Nat) : fieldAddrA Tryz.tab 63 0 (.ptr b o) = some (.ptr b (o + 0)) := by kernel_rfl
theorem ia26 : Tryz.tab.isAgg 26 = some false := by kernel_rfl
theorem sz26 : Tryz.tab.size 26 = some 1 := by kernel_rfl
theorem get20 : Tryz.tab.funcs.get 20 = some Tryz.f20 := by kernel_rfl
theorem fa33_0 (b o : Nat) : fieldAddrA Tryz.tab 33 0 (.ptr b o) = some (.ptr b (o + 0)) := by kernel_rfl
theorem fa33_1 (b o : Nat) : fieldAddrA Tryz.tab 33 1 (.ptr b o) = some (.ptr b (o + 1)) := by kernel_rfl
theorem fa33_3 (b o : Nat) : fieldAddrA Tryz.tab 33 3 (.ptr b o) = some (.ptr b (o + 3)) := by kernel_rfl
theorem fa79_1 (b o : Nat) : fieldAddrA Tryz.tab 79 1 (.ptr b o) = some (.ptr b (o + 1)) := by kernel_rfl
theorem ia2 : Tryz.tab.isAgg 2 = some false := by kernel_rfl
theorem sz2 : Tryz.tab.size 2 = some 1 := by kernel_rfl
theorem fa79_2 (b o : Nat) : fieldAddrA Tryz.tab 79 2 (.ptr b o) = some (.ptr b (o + 2)) := by kernel_rfl
theorem get21 : Tryz.tab.funcs.get 21 = some Tryz.f21 := by kernel_rfl
theorem fa43_0 (b o : Nat) : fieldAddrA Tryz.tab 43 0 (.ptr b o) = some (.ptr b (o + 0)) := by kernel_rfl
theorem fa43_1 (b o : Nat) : fieldAddrA Tryz.tab 43 1 (.ptr b o) = some (.ptr b (o + 1)) := by kernel_rfl
theorem fa43_2 (b o : Nat) : fieldAddrA Tryz.tab 43 2 (.ptr b o) = some (.ptr b (o + 2)) := by kernel_rfl
theorem fa43_5 (b o : Nat) : fieldAddrA Tryz.tab 43 5 (.ptr b o) = some (.ptr b (o + 6)) := by kernel_rfl
theorem ia41 : Tryz.tab.isAgg 41 = some true := by kernel_rfl
theorem sz41 : Tryz.tab.size 41 = some 4 := by kernel_rfl
theorem fa43_3 (b o : Nat) : fieldAddrA Tryz.tab 43 3 (.ptr b o) = some (.ptr b (o + 3)) := by kernel_rfl
theorem fa43_4 (b o : Nat) : fieldAddrA Tryz.tab 43 4 (.ptr b o) = some (.ptr b (o + 4)) := by kernel_rfl
theorem fa38_0 (b o : Nat) : fieldAddrA Tryz.tab 38 0 (.ptr b o) = some (.ptr b (o + 0)) := by kernel_rfl
theorem fa38_1 (b o : Nat) : fieldAddrA Tryz.tab 38 1 (.ptr b o) = some (.ptr b (o + 1)) := by kernel_rfl
theorem get22 : Tryz.tab.funcs.get 22 = some Tryz.f22 := by kernel_rfl
theorem ia38 : Tryz.tab.isAgg 38 = some true := by kernel_rfl
theorem sz38 : Tryz.tab.size 38 = some 2 := by kernel_rfl
theorem get37 : Tryz.tab.funcs.get 37 = some Tryz.f37 := by kernel_rfl
theorem get38 : Tryz.tab.funcs.get 38 = some Tryz.f38 := by kernel_rfl
theorem get39 : Tryz.tab.funcs.get 39 = some Tryz.f39 := by kernel_rfl
theorem get40 : Tryz.tab.funcs.get 40 = some Tryz.f40 := by kernel_rfl
theorem get41 : Tryz.tab.funcs.get 41 = some Tryz.f41 := by kernel_rfl
theorem fa79_0 (b o : Nat) : fieldAddrA Tryz.tab 79 0 (.ptr b o) = some (.ptr b (o + 0)) := by kernel_rfl
theorem fa79_3 (b o : Nat) : fieldAddrA Tryz.tab 79 3 (.ptr b o) = some (.ptr b (o + 3)) := by kernel_rfl
theorem fa79_4 (b o : Nat) : fieldAddrA Tryz.tab 79 4 (.ptr b o) = some (.ptr b (o + 4)) := by kernel_rfl
theorem get42 : Tryz.tab.funcs.get 42 = some Tryz.f42 := by kernel_rfl
theorem get43 : Tryz.tab.funcs.get 43 = some Tryz.f43 := by kernel_rfl
theorem ia61 : Tryz.tab.isAgg 61 = some false := by kernel_rfl
theorem sz61 : Tryz.tab.size 61 = some 1 := by kernel_rfl
theorem get44 : Tryz.tab.funcs.get 44 = some Tryz.f44 := by kernel_rfl
theorem get45 : Tryz.tab.funcs.get 45 = some Tryz.f45 := by kernel_rfl
theorem get46 : Tryz.tab.funcs.get 46 = some Tryz.f46 := by kernel_rfl
theorem get47 : Tryz.tab.funcs.get 47 = some Tryz.f47 := by kernel_rfl
theorem get48 : Tryz.tab.funcs.get 48 = some Tryz.f48 := by kernel_rfl
theorem get49 : Tryz.tab.funcs.get 49 = some Tryz.f49 := by kernel_rfl
theorem get50 : Tryz.tab.funcs.get 50 = some Tryz.f50 := by kernel_rfl
theorem fa41_2 (b o : Nat) : fieldAddrA Tryz.tab 41 2 (.ptr b o) = some (.ptr b (o + 2)) := by kernel_rfl
theorem ud39 : Tryz.tab.und 39 = some (.slice 184) := by kernel_rfl
theorem ia184 : Tryz.tab.isAgg 184 = some true := by kernel_rfl
theorem sz184 : Tryz.tab.size 184 = some 2 := by kernel_rfl
theorem fa41_3 (b o : Nat) : fieldAddrA Tryz.tab 41 3 (.ptr b o) = some (.ptr b (o + 3)) := by kernel_rfl
theorem ia39 : Tryz.tab.isAgg 39 = some false := by kernel_rfl
theorem sz39 : Tryz.tab.size 39 = some 1 := by kernel_rfl
theorem get51 : Tryz.tab.funcs.get 51 = some Tryz.f51 := by kernel_rfl
theorem get52 : Tryz.tab.funcs.get 52 = some Tryz.f52 := by kernel_rfl
theorem get53 : Tryz.tab.funcs.get 53 = some Tryz.f53 := by kernel_rfl
theorem get54 : Tryz.tab.funcs.get 54 = some Tryz.f54 := by kernel_rfl
theorem get55 : Tryz.tab.funcs.get 55 = some Tryz.f55 := by kernel_rfl
theorem fa73_0 (b o : Nat) : fieldAddrA Tryz.tab 73 0 (.ptr b o) = some (.ptr b (o + 0)) := by kernel_rfl
theorem get56 : Tryz.tab.funcs.get 56 = some Tryz.f56 := by kernel_rfl
theorem fa41_1 (b o : Nat) : fieldAddrA Tryz.tab 41 1 (.ptr b o) = some (.ptr b (o + 1)) := by kernel_rfl
theorem get57 : Tryz.tab.funcs.get 57 = some Tryz.f57 := by kernel_rfl
theorem fa41_0 (b o : Nat) : fieldAddrA Tryz.tab 41 0 (.ptr b o) = some (.ptr b (o + 0)) := by kernel_rfl
theorem get62 : Tryz.tab.funcs.get 62 = some Tryz.f62 := by kernel_rfl
theorem get83 : Tryz.tab.funcs.get 83 = some Tryz.f83 := by kernel_rfl
theorem get84 : Tryz.tab.funcs.get 84 = some Tryz.f84 := by kernel_rfl
theorem ia261 : Tryz.tab.isAgg 261 = some true := by kernel_rfl
theorem sz261 : Tryz.tab.size 261 = some 256 := by kernel_rfl
theorem get85 : Tryz.tab.funcs.get 85 = some Tryz.f85 := by kernel_rfl
theorem get86 : Tryz.tab.funcs.get 86 = some Tryz.f86 := by kernel_rfl
theorem get87 : Tryz.tab.funcs.get 87 = some Tryz.f87 := by kernel_rfl
theorem get88 : Tryz.tab.funcs.get 88 = some Tryz.f88 := by kernel_rfl
theorem get141 : Tryz.tab.funcs.get 141 = some Tryz.f141 := by kernel_rfl
theorem ia4 : Tryz.tab.isAgg 4 = some false := by kernel_rfl
theorem sz4 : Tryz.tab.size 4 = some 1 := by kernel_rfl
theorem get142 : Tryz.tab.funcs.get 142 = some Tryz.f142 := by kernel_rfl
theorem get143 : Tryz.tab.funcs.get 143 = some Tryz.f143 := by kernel_rfl
theorem get146 : Tryz.tab.funcs.get 146 = some Tryz.f146 := by kernel_rfl
theorem get254 : Tryz.tab.funcs.get 254 = some Tryz.f254 := by kernel_rfl
theorem get258 : Tryz.tab.funcs.get 258 = some Tryz.f258 := by kernel_rfl
end Go.Proofs
namespace Go.Sx
section
variable {G : Tab} {F : Fns}
theorem z_opIndex (t : TypeId) (x i : Operand) (tm : T AV) (H : Heap) : opN (.index t x i) G tm H = withH H (bindO (aev G tm x) fun v => bindO (aev G tm i) fun j => indexA G t v j) := rfl
theorem z_opSlice (t : TypeId) (x : Operand) (lo hi mx : Option Operand) (tm : T AV) (H : Heap) : opN (.slice t x lo hi mx) G tm H = withH H (bindO (aev G tm x) fun v => bindO (opt1 G tm lo) fun a => bindO (opt1 G tm hi) fun b => bindO (opt1 G tm mx) fun c => sliceA G t v a b c) := rfl
theorem s_opt0 (tm : T AV) : opt1 G tm none = some none := rfl
theorem s_opt1 (tm : T AV) (o : Operand) : opt1 G tm (some o) = bindO (aev G tm o) fun v => some (some v) := rfl
theorem s_indexStr {t : TypeId} (hu : G.und t = some .string) (s : List UInt8) (k : IntKind) (i : Nat) {c : UInt8} (h : s[i]? = some c) : indexA G t (.str s) (.int k (i : Int)) = some (.int .u8 (c.toNat : Int)) := by
 unfold indexA
 rw [hu]
 show bindO (nth s i) (fun b => some (byteV b)) = _
 rw [nth_eq, h]; rfl
theorem s_sliceFrom {t : TypeId} (hu : G.und t = some .string) (s : List UInt8) (n : Nat) (h : n ≤ s.length) : sliceA G t (.str s) (some (.int .i64 (n : Int))) none none = some (.str (s.drop n)) := by
 unfold sliceA
 rw [show maxOk none none = true from rfl, cond_true, hu]
 show bindO (boundA none (len s) (len s)) (fun h => bindO (boundA (some (.int .i64 (n : Int))) 0 h) fun l => bindO (takeN (dropN s l) (h - l)) fun r => some (AV.str r)) = _
 rw [show boundA none (len s) (len s) = some (len s) from rfl, s_bindO]
 rw [show boundA (some (.int .i64 (n : Int))) 0 (len s) = bif Nat.ble n (len s) then some n else none from rfl, len_eq]
 have : Nat.ble n s.length = true := Nat.ble_eq_true_of_le h
 rw [this, cond_true, s_bindO, dropN_eq, takeN_eq, if_pos (by rw [List.length_drop]; omega), s_bindO]
 congr 2
 rw [List.take_of_length_le (by rw [List.length_drop]; omega)]
theorem s_sliceTo {t : TypeId} (hu : G.und t = some .string) (s : List UInt8) (n : Nat) (h : n ≤ s.length) : sliceA G t (.str s) none (some (.int .i64 (n : Int))) none = some (.str (s.take n)) := by
 unfold sliceA
 rw [show maxOk (some (.int .i64 (n : Int))) none = true from rfl, cond_true, hu]
 show bindO (boundA (some (.int .i64 (n : Int))) (len s) (len s)) (fun h => bindO (boundA none 0 h) fun l => bindO (takeN (dropN s l) (h - l)) fun r => some (AV.str r)) = _
 rw [show boundA (some (.int .i64 (n : Int))) (len s) (len s) = bif Nat.ble n (len s) then some n else none from rfl, len_eq]
 have : Nat.ble n s.length = true := Nat.ble_eq_true_of_le h
 rw [this, cond_true, s_bindO, show boundA none 0 n = some 0 from rfl, s_bindO, dropN_eq, takeN_eq, if_pos (by simpa using h), s_bindO]
 rfl
theorem s_appEq {α : Type} (l m : List α) : app l m = l ++ m := app_eq l m
theorem s_indexArr {t e : TypeId} {n z : Nat} (hu : G.und t = some (.array n e)) (hz : G.size e = some z) (b off : Nat) (k : IntKind) (x : Int) :
  indexAddrA G t (.ptr b off) (.int k x) = if 0 ≤ x ∧ x < (n : Int) then some (.ptr b (off + x.toNat * z)) else none := by
 unfold indexAddrA
 rw [hu]
 show bindO (inB (.int k x) n) (fun m => bindO (G.size e) fun z => some (AV.ptr b (off + m * z))) = _
 rw [s_inB]
 by_cases h : 0 ≤ x ∧ x < (n : Int)
 ·rw [if_pos h, if_pos h]; simp only [bindO, hz]
 ·rw [if_neg h, if_neg h]; rfl
theorem z_opNext (it : Operand) (s : Bool) (c : Ctx) (tm : T AV) (df : List ADefer) (H : Heap) : opE (.next it s) F G c tm df H = outs df (bindO (aev G tm it) fun v => nextA H v s) := rfl
theorem z_opRange' (t : TypeId) (x : Operand) (c : Ctx) (tm : T AV) (df : List ADefer) (H : Heap) : opE (.range t x) F G c tm df H = out2 df (bindO (aev G tm x) (rangeA G H t)) := rfl
theorem s_rangeStr {t : TypeId} (hu : G.und t = some .string) (H : Heap) (s : List UInt8) : rangeA G H t (.str s) = some (.ptr H.next 0, H.push (.strIter s 0)) := by
 unfold rangeA
 rw [hu]
 show newPtr H (.strIter s 0) = _
 unfold newPtr
 rw [newA_eq]
theorem s_nextEnd {H : Heap} {it pos : Nat} {s : List UInt8} (h : H.blks.get it = some (.strIter s pos)) (hp : s[pos]? = none) : nextA H (.ptr it 0) true = some [(.tuple [.bool false], H)] := by
 show nextIn H it true (H.blks.get it) = _
 rw [h]
 show nextStr H it pos s (nth s pos) = _
 rw [nth_eq, hp]; rfl
theorem s_nextCh {H : Heap} {it pos : Nat} {s : List UInt8} {b : UInt8} (h : H.blks.get it = some (.strIter s pos)) (hp : s[pos]? = some b) (hb : b.toNat < 128) :
  nextA H (.ptr it 0) true = some [(.tuple [.bool true, .int .i64 (pos : Int), .int .i32 (b.toNat : Int)], putBlk H it (some (.strIter s (pos + 1))))] := by
 show nextIn H it true (H.blks.get it) = _
 rw [h]
 show nextStr H it pos s (nth s pos) = _
 rw [nth_eq, hp]
 show (bif Nat.blt b.toNat 128 then forceN (pos + 1) (fun p => putBlkK H it (some (.strIter s p)) fun H' => some [(AV.tuple [.bool true, .int .i64 (.ofNat pos), .int .i32 (.ofNat b.toNat)], H')]) else none) = _
 have : Nat.blt b.toNat 128 = true := by simpa [Nat.blt_eq] using hb
 rw [this, cond_true, forceN_eq, putBlkK_eq]
 rfl
end
end Go.Sx
namespace Go.Proofs
open Go.Sx
set_option maxRecDepth 100000
def low (n : Nat) : Bool := decide (97 ≤ n ∧ n ≤ 122) || decide (48 ≤ n ∧ n ≤ 57)
abbrev lowA (c : UInt8) : Bool := low c.toNat
def setL : List AV := (List.range 256).map fun i => .bool (low i)
def letters : List UInt8 := [97, 98, 99, 100, 101, 102, 103, 104, 105, 106, 107, 108, 109, 110, 111, 112, 113, 114, 115, 116, 117, 118, 119, 120, 121, 122, 48, 49, 50, 51, 52, 53, 54, 55, 56, 57]
noncomputable def pH0 : Heap := ⟨10, .e⟩
theorem setK : runOnly pH0 (.tuple [.agg setL, .bool true]) ((fns Tryz.tab 60).call 141 [.str letters] pH0) = true := by kernel_rfl
theorem setKc : closedB Tryz.tab pH0 [.str letters] = true := by kernel_rfl
theorem setKf : flatR (.tuple [.agg setL, .bool true]) = true := by kernel_rfl
theorem mkset_to (H : Heap) : CallTo Tryz.prog Tryz.tab 141 [.str letters] H [(.tuple [.agg setL, .bool true], H)] :=
 embed_run Tryz.tabOk setK setKf setKc H fun b o h => by simp [pH0, T.get_e] at h
theorem setL_at (n : Nat) (h : n < 256) : setL[n]? = some (.bool (low n)) := by
 unfold setL
 rw [List.getElem?_map, List.getElem?_range h]; rfl
theorem setL_len : setL.length = 256 := by unfold setL; rw [List.length_map, List.length_range]
theorem setL_one : allOne setL = true := by kernel_rfl
theorem und261 : Tryz.tab.und 261 = some (.array 256 4) := by kernel_rfl
theorem lt256 (c : UInt8) : c.toNat < 256 := UInt8.toNat_lt c
theorem asc_to (c : UInt8) (b : Nat) (H : Heap) (hb : H.blks.get b = some (.cells 261 true setL)) (hN : Neat H) : CallTo Tryz.prog Tryz.tab 254 [.ptr b 0, .int .u8 (c.toNat : Int)] H [(.bool (lowA c), H)] := by
 refine callTo_pure (n := 20) (v := .bool (lowA c)) Tryz.tabOk (ov := noOv) noOv_ok (H' := H) ?_ (.refl _) hN trivial
 rw [s_callO, s_callB, get254]
 have hlt := lt256 c
 have hi : (0 : Int) ≤ (c.toNat : Int) := by omega
 have hi2 : (c.toNat : Int) < 256 := by omega
 have h256 : ((256 : Nat) : Int) = 256 := rfl
 have hc := setL_at c.toNat hlt
 simp -implicitDefEqProofs (disch := first | decide | assumption | (try simp only [q_next, s_put_next]) <;> omega | exact pd_ (by kernel_rfl) | fail) only [sxM, Nat.reduceAdd, reduceCtorEq, Int.reduceToNat, Nat.reduceEqDiff, Int.reduceEq, Int.reduceLT, Tryz.f254, s_indexArr und261 sz4, hi, hi2, h256, true_and, and_self, hb, s_varFalse ia4, Int.toNat_natCast, Nat.mul_one, hc]
theorem dw_nil (l : List UInt8) : l.dropWhile lowA = [] ↔ ∀ c ∈ l, lowA c = true := by
 induction l with
 | nil => simp
 | cons a l ih =>
  by_cases h : lowA a = true
  ·rw [List.dropWhile_cons_of_pos h, ih]; simp [h]
  ·rw [List.dropWhile_cons_of_neg h]
   simp only [reduceCtorEq, List.mem_cons, forall_eq_or_imp, false_iff]
   exact fun hh => h hh.1
def trR (l : List UInt8) : List UInt8 := (l.reverse.dropWhile lowA).reverse
theorem trR_snoc (l : List UInt8) (c : UInt8) : trR (l ++ [c]) = if lowA c = true then trR l else l ++ [c] := by
 unfold trR
 rw [List.reverse_append, List.reverse_singleton, List.singleton_append]
 by_cases h : lowA c = true
 ·rw [List.dropWhile_cons_of_pos h, if_pos h]
 ·rw [List.dropWhile_cons_of_neg h, if_neg h]; simp
theorem trR_all (l : List UInt8) : (∀ c ∈ trR l, lowA c = true) ↔ ∀ c ∈ l, lowA c = true := by
 have key : ∀ m : List UInt8, (∀ c ∈ m.dropWhile lowA, lowA c = true) ↔ ∀ c ∈ m, lowA c = true := by
  intro m
  induction m with
  | nil => simp
  | cons a m ih =>
   by_cases h : lowA a = true
   ·rw [List.dropWhile_cons_of_pos h, ih]; simp [h]
   ·rw [List.dropWhile_cons_of_neg h]
 unfold trR
 simp only [List.mem_reverse]
 rw [key]
 simp only [List.mem_reverse]
theorem trimL_to (s : List UInt8) (b : Nat) (H : Heap) (hb : H.blks.get b = some (.cells 261 true setL)) (hN : Neat H) : CallTo Tryz.prog Tryz.tab 142 [.str s, .ptr b 0] H [(.str (s.dropWhile lowA), H)] := by
 refine callTo_of Tryz.tabOk Tryz.func142 rfl rfl ?_
 show Gets Tryz.prog Tryz.tab ⟨none, 16⟩ _ _ _
 repeat refine Gets.seq ?_
 refine Gets.l0 Tryz.tabOk (s' := ?sn1) ?hn1 ?kn1; (case hn1 => (simp -implicitDefEqProofs (disch := first | decide | assumption | (try simp only [q_next, s_put_next]) <;> omega | exact pd_ (by kernel_rfl) | fail) only [sxM, Nat.reduceAdd, reduceCtorEq, Int.reduceToNat, Nat.reduceEqDiff, Int.reduceEq, Int.reduceLT, s_draw] <;> rfl)); (try (change Gets _ _ _ _ _ _; repeat refine Gets.seq ?_))
 refine Gets.midA (H := H) (I := fun tm => tm.get 0 = some (.str (s.dropWhile lowA))) ?_ ?_
 ·refine Gets.upto s.length (fun i tm => tm.get 1 = some (.ptr b 0) ∧ ∃ l : List UInt8, tm.get 0 = some (.str l) ∧ l.length + i = s.length ∧ l.dropWhile lowA = s.dropWhile lowA) ⟨by simp (disch := decide) only [sxL], s, by simp (disch := decide) only [sxL], rfl, rfl⟩ ?_
  rintro i tm hi ⟨i1, l, i0, hl, hd⟩
  repeat refine Gets.seq ?_
  cases l with
  | nil =>
   have h0 : ¬ (0 : Int) < ((([] : List UInt8).length : Nat) : Int) := by simp
   refine Gets.l0 Tryz.tabOk (s' := ?sn2) ?hn2 ?kn2; (case hn2 => (simp -implicitDefEqProofs (disch := first | decide | assumption | (try simp only [q_next, s_put_next]) <;> omega | exact pd_ (by kernel_rfl) | fail) only [sxM, Nat.reduceAdd, reduceCtorEq, Int.reduceToNat, Nat.reduceEqDiff, Int.reduceEq, Int.reduceLT, s_draw, i0, s_lenStr ud9, h0] <;> rfl)); (try (change Gets _ _ _ _ _ _; repeat refine Gets.seq ?_))
   refine Gets.condF (by simp (disch := decide) only [sxL]) (Gets.exit Tryz.tabOk ?_)
   refine inBlk_exit ?_
   have hd0 : List.dropWhile lowA s = [] := by rw [← hd]; rfl
   exact ⟨rfl, _, rfl, by simp (disch := decide) only [sxL, i0, hd0]⟩
  | cons c l =>
   have h0 : (0 : Int) < ((l.length + 1 : Nat) : Int) := by omega
   refine Gets.l0 Tryz.tabOk (s' := ?sn3) ?hn3 ?kn3; (case hn3 => (simp -implicitDefEqProofs (disch := first | decide | assumption | (try simp only [q_next, s_put_next]) <;> omega | exact pd_ (by kernel_rfl) | fail) only [sxM, Nat.reduceAdd, reduceCtorEq, Int.reduceToNat, Nat.reduceEqDiff, Int.reduceEq, Int.reduceLT, s_draw, i0, s_lenStr ud9, h0] <;> rfl)); (try (change Gets _ _ _ _ _ _; repeat refine Gets.seq ?_))
   refine Gets.condT (by simp (disch := decide) only [sxL]) (Gets.skip Tryz.tabOk ?_)
   change Gets _ _ _ _ _ _
   refine Gets.blk ?_
   repeat refine Gets.seq ?_
   have q := asc_to c b H hb hN
   have hx : indexA Tryz.tab 9 (.str (c :: l)) (.int .i64 0) = some (.int .u8 (c.toNat : Int)) := s_indexStr ud9 (c :: l) .i64 0 rfl
   by_cases hc : lowA c = true
   ·rw [hc] at q
    refine Gets.last Tryz.tabOk (ov := ptO noOv 254 [.ptr b 0, .int .u8 (c.toNat : Int)] H [(.bool true, H)]) (ptO_ok noOv_ok q) 8 (s' := ?sn4) ?hn4 ?kn4; (case hn4 => (simp -implicitDefEqProofs (disch := first | decide | assumption | (try simp only [q_next, s_put_next]) <;> omega | exact pd_ (by kernel_rfl) | fail) only [sxM, Nat.reduceAdd, reduceCtorEq, Int.reduceToNat, Nat.reduceEqDiff, Int.reduceEq, Int.reduceLT, s_draw, i0, i1, z_opIndex, hx] <;> rfl)); (try (change Gets _ _ _ _ _ _; repeat refine Gets.seq ?_))
    refine Gets.condF (by simp (disch := decide) only [sxL]) (Gets.skip Tryz.tabOk ?_)
    change Gets _ _ _ _ _ _
    have hs : sliceA Tryz.tab 9 (.str (c :: l)) (some (.int .i64 1)) none none = some (.str l) := s_sliceFrom ud9 (c :: l) 1 (by simp)
    refine Gets.l0 Tryz.tabOk (s' := ?sn5) ?hn5 ?kn5; (case hn5 => (simp -implicitDefEqProofs (disch := first | decide | assumption | (try simp only [q_next, s_put_next]) <;> omega | exact pd_ (by kernel_rfl) | fail) only [sxM, Nat.reduceAdd, reduceCtorEq, Int.reduceToNat, Nat.reduceEqDiff, Int.reduceEq, Int.reduceLT, s_draw, i0, z_opSlice, s_opt0, s_opt1, hs] <;> rfl)); (try (change Gets _ _ _ _ _ _; repeat refine Gets.seq ?_))
    refine inBlk_normal ?_
    refine ⟨_, rfl, by simp at hl; omega, by simp (disch := decide) only [sxL, i1], l, by simp (disch := decide) only [sxL], by simp at hl; omega, ?_⟩
    rw [← hd, List.dropWhile_cons_of_pos hc]
   ·have hf : lowA c = false := by simpa using hc
    rw [hf] at q
    refine Gets.last Tryz.tabOk (ov := ptO noOv 254 [.ptr b 0, .int .u8 (c.toNat : Int)] H [(.bool false, H)]) (ptO_ok noOv_ok q) 8 (s' := ?sn6) ?hn6 ?kn6; (case hn6 => (simp -implicitDefEqProofs (disch := first | decide | assumption | (try simp only [q_next, s_put_next]) <;> omega | exact pd_ (by kernel_rfl) | fail) only [sxM, Nat.reduceAdd, reduceCtorEq, Int.reduceToNat, Nat.reduceEqDiff, Int.reduceEq, Int.reduceLT, s_draw, i0, i1, z_opIndex, hx] <;> rfl)); (try (change Gets _ _ _ _ _ _; repeat refine Gets.seq ?_))
    refine Gets.condT (by simp (disch := decide) only [sxL]) (Gets.exit Tryz.tabOk ?_)
    refine inBlk_other (by decide) (inBlk_exit ?_)
    refine ⟨rfl, _, rfl, ?_⟩
    rw [← hd, List.dropWhile_cons_of_neg hc]
    simp (disch := decide) only [sxL, i0]
 rintro tm i0
 change Gets _ _ _ _ _ _
 repeat refine Gets.seq ?_
 refine Gets.l0 Tryz.tabOk (s' := ?sn7) ?hn7 ?kn7; (case hn7 => (simp -implicitDefEqProofs (disch := first | decide | assumption | (try simp only [q_next, s_put_next]) <;> omega | exact pd_ (by kernel_rfl) | fail) only [sxM, Nat.reduceAdd, reduceCtorEq, Int.reduceToNat, Nat.reduceEqDiff, Int.reduceEq, Int.reduceLT, s_draw, i0] <;> rfl)); (try (change Gets _ _ _ _ _ _; repeat refine Gets.seq ?_))
 refine Gets.ret Tryz.tabOk ?_
 exact fin_pure rfl (by simp (disch := decide) only [sxL, Tryz.f142, resultA]) (.refl _) hN trivial
end Go.Proofs
namespace Go.Proofs
open Go.Sx
set_option maxRecDepth 100000
theorem trimR_to (s : List UInt8) (b : Nat) (H : Heap) (hb : H.blks.get b = some (.cells 261 true setL)) (hN : Neat H) (hs : s.length < 1000000000) : CallTo Tryz.prog Tryz.tab 143 [.str s, .ptr b 0] H [(.str (trR s), H)] := by
 refine callTo_of Tryz.tabOk Tryz.func143 rfl rfl ?_
 show Gets Tryz.prog Tryz.tab ⟨none, 22⟩ _ _ _
 repeat refine Gets.seq ?_
 refine Gets.l0 Tryz.tabOk (s' := ?sn1) ?hn1 ?kn1; (case hn1 => (simp -implicitDefEqProofs (disch := first | decide | assumption | (try simp only [q_next, s_put_next]) <;> omega | exact pd_ (by kernel_rfl) | fail) only [sxM, Nat.reduceAdd, reduceCtorEq, Int.reduceToNat, Nat.reduceEqDiff, Int.reduceEq, Int.reduceLT, s_draw] <;> rfl)); (try (change Gets _ _ _ _ _ _; repeat refine Gets.seq ?_))
 refine Gets.midA (H := H) (I := fun tm => tm.get 0 = some (.str (trR s))) ?_ ?_
 ·refine Gets.upto s.length (fun i tm => tm.get 1 = some (.ptr b 0) ∧ ∃ l : List UInt8, tm.get 0 = some (.str l) ∧ l.length + i = s.length ∧ trR l = trR s) ⟨by simp (disch := decide) only [sxL], s, by simp (disch := decide) only [sxL], rfl, rfl⟩ ?_
  rintro i tm hi ⟨i1, l, i0, hl, hd⟩
  repeat refine Gets.seq ?_
  rcases List.eq_nil_or_concat l with rfl | ⟨l', c, hlc⟩
  ·have h0 : ¬ (0 : Int) < ((([] : List UInt8).length : Nat) : Int) := by simp
   refine Gets.l0 Tryz.tabOk (s' := ?sn2) ?hn2 ?kn2; (case hn2 => (simp -implicitDefEqProofs (disch := first | decide | assumption | (try simp only [q_next, s_put_next]) <;> omega | exact pd_ (by kernel_rfl) | fail) only [sxM, Nat.reduceAdd, reduceCtorEq, Int.reduceToNat, Nat.reduceEqDiff, Int.reduceEq, Int.reduceLT, s_draw, i0, s_lenStr ud9, h0] <;> rfl)); (try (change Gets _ _ _ _ _ _; repeat refine Gets.seq ?_))
   refine Gets.condF (by simp (disch := decide) only [sxL]) (Gets.exit Tryz.tabOk ?_)
   refine inBlk_exit ?_
   have hd0 : trR s = [] := by rw [← hd]; rfl
   exact ⟨rfl, _, rfl, by simp (disch := decide) only [sxL, i0, hd0]⟩
  ·rw [List.concat_eq_append] at hlc
   subst hlc
   have hl2 : (l' ++ [c]).length = l'.length + 1 := by simp
   have h0 : (0 : Int) < (((l' ++ [c]).length : Nat) : Int) := by rw [hl2]; omega
   refine Gets.l0 Tryz.tabOk (s' := ?sn3) ?hn3 ?kn3; (case hn3 => (simp -implicitDefEqProofs (disch := first | decide | assumption | (try simp only [q_next, s_put_next]) <;> omega | exact pd_ (by kernel_rfl) | fail) only [sxM, Nat.reduceAdd, reduceCtorEq, Int.reduceToNat, Nat.reduceEqDiff, Int.reduceEq, Int.reduceLT, s_draw, i0, s_lenStr ud9, h0] <;> rfl)); (try (change Gets _ _ _ _ _ _; repeat refine Gets.seq ?_))
   refine Gets.condT (by simp (disch := decide) only [sxL]) (Gets.skip Tryz.tabOk ?_)
   change Gets _ _ _ _ _ _
   refine Gets.blk ?_
   repeat refine Gets.seq ?_
   have q := asc_to c b H hb hN
   have w1 : awrap .i64 ((((l' ++ [c]).length : Nat) : Int) - 1) = (l'.length : Int) := (s_wrap (by rw [hl2]; omega) (by rw [hl2]; omega)).trans (by rw [hl2]; omega)
   have hx : indexA Tryz.tab 9 (.str (l' ++ [c])) (.int .i64 (l'.length : Int)) = some (.int .u8 (c.toNat : Int)) := s_indexStr ud9 (l' ++ [c]) .i64 l'.length (by simp)
   by_cases hc : lowA c = true
   ·rw [hc] at q
    refine Gets.last Tryz.tabOk (ov := ptO noOv 254 [.ptr b 0, .int .u8 (c.toNat : Int)] H [(.bool true, H)]) (ptO_ok noOv_ok q) 8 (s' := ?sn4) ?hn4 ?kn4; (case hn4 => (simp -implicitDefEqProofs (disch := first | decide | assumption | (try simp only [q_next, s_put_next]) <;> omega | exact pd_ (by kernel_rfl) | fail) only [sxM, Nat.reduceAdd, reduceCtorEq, Int.reduceToNat, Nat.reduceEqDiff, Int.reduceEq, Int.reduceLT, s_draw, i0, i1, z_opIndex, s_lenStr ud9, w1, hx] <;> rfl)); (try (change Gets _ _ _ _ _ _; repeat refine Gets.seq ?_))
    refine Gets.condF (by simp (disch := decide) only [sxL]) (Gets.skip Tryz.tabOk ?_)
    change Gets _ _ _ _ _ _
    have hs : sliceA Tryz.tab 9 (.str (l' ++ [c])) none (some (.int .i64 (l'.length : Int))) none = some (.str l') := (s_sliceTo ud9 (l' ++ [c]) l'.length (by simp)).trans (by simp)
    refine Gets.l0 Tryz.tabOk (s' := ?sn5) ?hn5 ?kn5; (case hn5 => (simp -implicitDefEqProofs (disch := first | decide | assumption | (try simp only [q_next, s_put_next]) <;> omega | exact pd_ (by kernel_rfl) | fail) only [sxM, Nat.reduceAdd, reduceCtorEq, Int.reduceToNat, Nat.reduceEqDiff, Int.reduceEq, Int.reduceLT, s_draw, i0, s_lenStr ud9, w1, z_opSlice, s_opt0, s_opt1, hs] <;> rfl)); (try (change Gets _ _ _ _ _ _; repeat refine Gets.seq ?_))
    refine inBlk_normal ?_
    refine ⟨_, rfl, by omega, by simp (disch := decide) only [sxL, i1], l', by simp (disch := decide) only [sxL], by omega, ?_⟩
    rw [← hd, trR_snoc, if_pos hc]
   ·have hf : lowA c = false := by simpa using hc
    rw [hf] at q
    refine Gets.last Tryz.tabOk (ov := ptO noOv 254 [.ptr b 0, .int .u8 (c.toNat : Int)] H [(.bool false, H)]) (ptO_ok noOv_ok q) 8 (s' := ?sn6) ?hn6 ?kn6; (case hn6 => (simp -implicitDefEqProofs (disch := first | decide | assumption | (try simp only [q_next, s_put_next]) <;> omega | exact pd_ (by kernel_rfl) | fail) only [sxM, Nat.reduceAdd, reduceCtorEq, Int.reduceToNat, Nat.reduceEqDiff, Int.reduceEq, Int.reduceLT, s_draw, i0, i1, z_opIndex, s_lenStr ud9, w1, hx] <;> rfl)); (try (change Gets _ _ _ _ _ _; repeat refine Gets.seq ?_))
    refine Gets.condT (by simp (disch := decide) only [sxL]) (Gets.exit Tryz.tabOk ?_)
    refine inBlk_other (by decide) (inBlk_exit ?_)
    refine ⟨rfl, _, rfl, ?_⟩
    rw [← hd, trR_snoc, if_neg hc]
    simp (disch := decide) only [sxL, i0]
 rintro tm i0
 change Gets _ _ _ _ _ _
 repeat refine Gets.seq ?_
 refine Gets.l0 Tryz.tabOk (s' := ?sn7) ?hn7 ?kn7; (case hn7 => (simp -implicitDefEqProofs (disch := first | decide | assumption | (try simp only [q_next, s_put_next]) <;> omega | exact pd_ (by kernel_rfl) | fail) only [sxM, Nat.reduceAdd, reduceCtorEq, Int.reduceToNat, Nat.reduceEqDiff, Int.reduceEq, Int.reduceLT, s_draw, i0] <;> rfl)); (try (change Gets _ _ _ _ _ _; repeat refine Gets.seq ?_))
 refine Gets.ret Tryz.tabOk ?_
 exact fin_pure rfl (by simp (disch := decide) only [sxL, Tryz.f143, resultA]) (.refl _) hN trivial
theorem zero261 : Tryz.tab.zero 261 = some (.agg (List.replicate 256 (.bool false))) := by kernel_rfl
theorem trim_to (s : List UInt8) (H : Heap) (hN : Neat H) (hs : s.length < 1000000000) : CallTo Tryz.prog Tryz.tab 84 [.str s, .str letters] H [(.str ((trR s).dropWhile lowA), H)] := by
 refine callTo_of Tryz.tabOk Tryz.func84 rfl rfl ?_
 show Gets Tryz.prog Tryz.tab ⟨none, 43⟩ _ _ _
 repeat refine Gets.seq ?_
 refine Gets.l0 Tryz.tabOk (s' := ?sn8) ?hn8 ?kn8; (case hn8 => (simp -implicitDefEqProofs (disch := first | decide | assumption | (try simp only [q_next, s_put_next]) <;> omega | exact pd_ (by kernel_rfl) | fail) only [sxM, Nat.reduceAdd, reduceCtorEq, Int.reduceToNat, Nat.reduceEqDiff, Int.reduceEq, Int.reduceLT, s_draw] <;> rfl)); (try (change Gets _ _ _ _ _ _; repeat refine Gets.seq ?_))
 have e1 : sbeq letters [] = false := rfl
 have e2 : ¬ ((36 : Int) = 1) := by omega
 have hll : letters.length = 36 := rfl
 by_cases h0 : s = []
 ·subst h0
  have e0 : sbeq [] [] = true := rfl
  refine Gets.l0 Tryz.tabOk (s' := ?sn9) ?hn9 ?kn9; (case hn9 => (simp -implicitDefEqProofs (disch := first | decide | assumption | (try simp only [q_next, s_put_next]) <;> omega | exact pd_ (by kernel_rfl) | fail) only [sxM, Nat.reduceAdd, reduceCtorEq, Int.reduceToNat, Nat.reduceEqDiff, Int.reduceEq, Int.reduceLT, s_draw, sbin, boolO, e0] <;> rfl)); (try (change Gets _ _ _ _ _ _; repeat refine Gets.seq ?_))
  refine Gets.condT (by simp (disch := decide) only [sxL]) ?_
  change Gets _ _ _ _ _ _
  repeat refine Gets.seq ?_
  refine Gets.l0 Tryz.tabOk (s' := ?sn10) ?hn10 ?kn10; (case hn10 => (simp -implicitDefEqProofs (disch := first | decide | assumption | (try simp only [q_next, s_put_next]) <;> omega | exact pd_ (by kernel_rfl) | fail) only [sxM, Nat.reduceAdd, reduceCtorEq, Int.reduceToNat, Nat.reduceEqDiff, Int.reduceEq, Int.reduceLT, s_draw] <;> rfl)); (try (change Gets _ _ _ _ _ _; repeat refine Gets.seq ?_))
  refine Gets.ret Tryz.tabOk ?_
  have hd0 : List.dropWhile lowA (trR []) = [] := rfl
  exact fin_pure rfl (by rw [hd0]; simp (disch := decide) only [sxL, Tryz.f84, resultA]) (.refl _) hN trivial
 have e0 : sbeq s [] = false := by cases s with
  | nil => exact absurd rfl h0
  | cons a l => rfl
 refine Gets.l0 Tryz.tabOk (s' := ?sn11) ?hn11 ?kn11; (case hn11 => (simp -implicitDefEqProofs (disch := first | decide | assumption | (try simp only [q_next, s_put_next]) <;> omega | exact pd_ (by kernel_rfl) | fail) only [sxM, Nat.reduceAdd, reduceCtorEq, Int.reduceToNat, Nat.reduceEqDiff, Int.reduceEq, Int.reduceLT, s_draw, sbin, boolO, e0, e1] <;> rfl)); (try (change Gets _ _ _ _ _ _; repeat refine Gets.seq ?_))
 refine Gets.condF (by simp (disch := decide) only [sxL]) (Gets.skip Tryz.tabOk ?_)
 change Gets _ _ _ _ _ _
 repeat refine Gets.seq ?_
 refine Gets.l0 Tryz.tabOk (s' := ?sn12) ?hn12 ?kn12; (case hn12 => (simp -implicitDefEqProofs (disch := first | decide | assumption | (try simp only [q_next, s_put_next]) <;> omega | exact pd_ (by kernel_rfl) | fail) only [sxM, Nat.reduceAdd, reduceCtorEq, Int.reduceToNat, Nat.reduceEqDiff, Int.reduceEq, Int.reduceLT, s_draw, s_lenStr ud9, hll, e2] <;> rfl)); (try (change Gets _ _ _ _ _ _; repeat refine Gets.seq ?_))
 refine Gets.condF (by simp (disch := decide) only [sxL]) (Gets.skip Tryz.tabOk ?_)
 change Gets _ _ _ _ _ _
 repeat refine Gets.seq ?_
 have q := mkset_to H
 have hst : storePtr Tryz.tab (H.push (.cells 261 true (List.replicate 256 (.bool false)))) 261 (.ptr H.next 0) (.agg setL) = some (putBlk (H.push (.cells 261 true (List.replicate 256 (.bool false)))) H.next (some (.cells 261 true setL))) :=
  store_full (s_push_same _ _) (by rw [setL_len]; exact sz261) (by rw [setL_len, List.length_replicate]) setL_one (by intro h; have := setL_len; rw [h] at this; simp at this)
 have hone : allOne (List.replicate 256 (.bool false)) = true := by kernel_rfl
 refine Gets.last Tryz.tabOk (ov := ptO noOv 141 [.str letters] H [(.tuple [.agg setL, .bool true], H)]) (ptO_ok noOv_ok q) 8 (s' := ?sn13) ?hn13 ?kn13; (case hn13 => (simp -implicitDefEqProofs (disch := first | decide | assumption | (try simp only [q_next, s_put_next]) <;> omega | exact pd_ (by kernel_rfl) | fail) only [sxM, Nat.reduceAdd, reduceCtorEq, Int.reduceToNat, Nat.reduceEqDiff, Int.reduceEq, Int.reduceLT, s_draw, zero261, hone, hst] <;> rfl)); (try (change Gets _ _ _ _ _ _; repeat refine Gets.seq ?_))
 have hg : Grows H (putBlk (H.push (.cells 261 true (List.replicate 256 (.bool false)))) H.next (some (.cells 261 true setL))) :=
  ⟨by rw [s_put_next, s_push_next]; omega, fun x hx => by rw [s_put_other _ _ _ (by omega), s_push_other _ _ (by omega)]⟩
 have hn2 : Neat (putBlk (H.push (.cells 261 true (List.replicate 256 (.bool false)))) H.next (some (.cells 261 true setL))) := (hN.push _).put (by rw [s_push_next]; omega) _
 have hb : (putBlk (H.push (.cells 261 true (List.replicate 256 (.bool false)))) H.next (some (.cells 261 true setL))).blks.get H.next = some (.cells 261 true setL) := s_put_same _ _ _
 generalize putBlk (H.push (.cells 261 true (List.replicate 256 (.bool false)))) H.next (some (.cells 261 true setL)) = h2 at hg hn2 hb ⊢
 refine Gets.l0 Tryz.tabOk (s' := ?sn14) ?hn14 ?kn14; (case hn14 => (simp -implicitDefEqProofs (disch := first | decide | assumption | (try simp only [q_next, s_put_next]) <;> omega | exact pd_ (by kernel_rfl) | fail) only [sxM, Nat.reduceAdd, reduceCtorEq, Int.reduceToNat, Nat.reduceEqDiff, Int.reduceEq, Int.reduceLT, s_draw] <;> rfl)); (try (change Gets _ _ _ _ _ _; repeat refine Gets.seq ?_))
 refine Gets.condT (by simp (disch := decide) only [sxL]) ?_
 change Gets _ _ _ _ _ _
 repeat refine Gets.seq ?_
 have q1 := trimR_to s H.next h2 hb hn2 hs
 have q2 := trimL_to (trR s) H.next h2 hb hn2
 refine Gets.last Tryz.tabOk (ov := ptO (ptO noOv 143 [.str s, .ptr H.next 0] h2 [(.str (trR s), h2)]) 142 [.str (trR s), .ptr H.next 0] h2 [(.str ((trR s).dropWhile lowA), h2)]) (ptO_ok (ptO_ok noOv_ok q1) q2) 8 (s' := ?sn15) ?hn15 ?kn15; (case hn15 => (simp -implicitDefEqProofs (disch := first | decide | assumption | (try simp only [q_next, s_put_next]) <;> omega | exact pd_ (by kernel_rfl) | fail) only [sxM, Nat.reduceAdd, reduceCtorEq, Int.reduceToNat, Nat.reduceEqDiff, Int.reduceEq, Int.reduceLT, s_draw, s_ptEq] <;> rfl)); (try (change Gets _ _ _ _ _ _; repeat refine Gets.seq ?_))
 refine Gets.ret Tryz.tabOk ?_
 exact fin_pure rfl (by simp (disch := decide) only [sxL, Tryz.f84, resultA]) hg hN trivial
end Go.Proofs
namespace Go.Proofs
open Go.Sx
set_option maxRecDepth 100000
theorem low_le {c : UInt8} (h : lowA c = true) : c.toNat ≤ 122 := by
 simp only [lowA, low, Bool.or_eq_true, decide_eq_true_eq] at h
 omega
theorem name1_to (c : UInt8) (h : lowA c = true) (H : Heap) (hN : Neat H) : CallTo Tryz.prog Tryz.tab 86 [.int .i32 (c.toNat : Int)] H [(.bool false, H)] := by
 refine callTo_pure (n := 20) (v := .bool false) Tryz.tabOk (ov := noOv) noOv_ok (H' := H) ?_ (.refl _) hN trivial
 rw [s_callO, s_callB, get86]
 have hc : ¬ (122 : Int) < (c.toNat : Int) := by have := low_le h; omega
 simp -implicitDefEqProofs (disch := first | decide | assumption | (try simp only [q_next, s_put_next]) <;> omega | exact pd_ (by kernel_rfl) | fail) only [sxM, Nat.reduceAdd, reduceCtorEq, Int.reduceToNat, Nat.reduceEqDiff, Int.reduceEq, Int.reduceLT, Tryz.f86, hc]
theorem bin_ft (c : Bool) : binA Tryz.tab .eql 4 c (.bool false) (.bool true) = some (.bool false) := by cases c <;> kernel_rfl
theorem sIx2_to (s : List UInt8) (hs : ∀ c ∈ s, lowA c = true) (hlen : s.length < 1000000000) (H : Heap) (hN : Neat H) :
  CallTo Tryz.prog Tryz.tab 258 [.str s, .func (.func 86) [] [], .bool true] H [(.int .i64 (-1), H)] := by
 refine callTo_of Tryz.tabOk Tryz.func258 rfl rfl ?_
 show Gets Tryz.prog Tryz.tab ⟨none, 21⟩ _ _ _
 repeat refine Gets.seq ?_
 refine Gets.l0 Tryz.tabOk (s' := ?sn1) ?hn1 ?kn1; (case hn1 => (simp -implicitDefEqProofs (disch := first | decide | assumption | (try simp only [q_next, s_put_next]) <;> omega | exact pd_ (by kernel_rfl) | fail) only [sxM, Nat.reduceAdd, reduceCtorEq, Int.reduceToNat, Nat.reduceEqDiff, Int.reduceEq, Int.reduceLT, s_draw] <;> rfl)); (try (change Gets _ _ _ _ _ _; repeat refine Gets.seq ?_))
 refine Gets.l0 Tryz.tabOk (s' := ?sn2) ?hn2 ?kn2; (case hn2 => (simp -implicitDefEqProofs (disch := first | decide | assumption | (try simp only [q_next, s_put_next]) <;> omega | exact pd_ (by kernel_rfl) | fail) only [sxM, Nat.reduceAdd, reduceCtorEq, Int.reduceToNat, Nat.reduceEqDiff, Int.reduceEq, Int.reduceLT, s_draw, z_opRange', s_rangeStr ud9] <;> rfl)); (try (change Gets _ _ _ _ _ _; repeat refine Gets.seq ?_))
 have hg : Grows H (H.push (.strIter s 0)) := .push _ _
 have hb : (H.push (.strIter s 0)).blks.get H.next = some (.strIter s 0) := s_push_same _ _
 have hN1 : Neat (H.push (.strIter s 0)) := hN.push _
 have hnx : (H.push (.strIter s 0)).next = H.next + 1 := rfl
 generalize H.push (.strIter s 0) = h1 at hg hb hN1 hnx ⊢
 refine Gets.midH (I := fun tm h => Grows H h) ?_ ?_
 ·refine Gets.uptoH s.length (fun i tm h => tm.get 1 = some (.func (.func 86) [] []) ∧ tm.get 2 = some (.bool true) ∧ tm.get 10 = some (.ptr H.next 0) ∧ h.blks.get H.next = some (.strIter s i) ∧ h.next = H.next + 1 ∧ Grows H h ∧ Neat h)
   ⟨by simp (disch := decide) only [sxL], by simp (disch := decide) only [sxL], by simp (disch := decide) only [sxL], hb, hnx, hg, hN1⟩ ?_
  clear hg hb hN1 hnx
  rintro i tm h hi ⟨i1, i2, i10, hb, hnx, hg, hN1⟩
  repeat refine Gets.seq ?_
  by_cases hlt : i < s.length
  ·obtain ⟨c, hc⟩ : ∃ c, s[i]? = some c := ⟨_, List.getElem?_eq_getElem hlt⟩
   have hlow := hs c (List.mem_of_getElem? hc)
   have hle := low_le hlow
   have hnext := s_nextCh hb hc (by omega)
   refine Gets.l0 Tryz.tabOk (s' := ?sn3) ?hn3 ?kn3; (case hn3 => (simp -implicitDefEqProofs (disch := first | decide | assumption | (try simp only [q_next, s_put_next]) <;> omega | exact pd_ (by kernel_rfl) | fail) only [sxM, Nat.reduceAdd, reduceCtorEq, Int.reduceToNat, Nat.reduceEqDiff, Int.reduceEq, Int.reduceLT, s_draw, i10, z_opNext, hnext] <;> rfl)); (try (change Gets _ _ _ _ _ _; repeat refine Gets.seq ?_))
   refine Gets.condT (by simp (disch := decide) only [sxL]) (Gets.skip Tryz.tabOk ?_)
   change Gets _ _ _ _ _ _
   refine Gets.blk ?_
   repeat refine Gets.seq ?_
   have hN2 : Neat (putBlk h H.next (some (.strIter s (i + 1)))) := hN1.put (by omega) _
   have hb2 : (putBlk h H.next (some (.strIter s (i + 1)))).blks.get H.next = some (.strIter s (i + 1)) := s_put_same _ _ _
   have hnx2 : (putBlk h H.next (some (.strIter s (i + 1)))).next = H.next + 1 := by rw [s_put_next]; exact hnx
   have hg2 : Grows H (putBlk h H.next (some (.strIter s (i + 1)))) := ⟨by rw [hnx2]; omega, fun x hx => by rw [s_put_other _ _ _ (by omega)]; exact hg.get x hx⟩
   generalize putBlk h H.next (some (.strIter s (i + 1))) = h2 at hN2 hb2 hnx2 hg2 ⊢
   have q := name1_to c hlow h2 hN2
   refine Gets.l0 Tryz.tabOk (s' := ?sn4) ?hn4 ?kn4; (case hn4 => (simp -implicitDefEqProofs (disch := first | decide | assumption | (try simp only [q_next, s_put_next]) <;> omega | exact pd_ (by kernel_rfl) | fail) only [sxM, Nat.reduceAdd, reduceCtorEq, Int.reduceToNat, Nat.reduceEqDiff, Int.reduceEq, Int.reduceLT, s_draw] <;> rfl)); (try (change Gets _ _ _ _ _ _; repeat refine Gets.seq ?_))
   refine Gets.last Tryz.tabOk (ov := ptO noOv 86 [.int .i32 (c.toNat : Int)] h2 [(.bool false, h2)]) (ptO_ok noOv_ok q) 8 (s' := ?sn5) ?hn5 ?kn5; (case hn5 => (simp -implicitDefEqProofs (disch := first | decide | assumption | (try simp only [q_next, s_put_next]) <;> omega | exact pd_ (by kernel_rfl) | fail) only [sxM, Nat.reduceAdd, reduceCtorEq, Int.reduceToNat, Nat.reduceEqDiff, Int.reduceEq, Int.reduceLT, s_draw, i1, i2, bin_ft] <;> rfl)); (try (change Gets _ _ _ _ _ _; repeat refine Gets.seq ?_))
   refine Gets.condF (by simp (disch := decide) only [sxL]) (Gets.skip Tryz.tabOk ?_)
   refine inBlk_normal ?_
   exact ⟨_, _, rfl, hlt, by simp (disch := decide) only [sxL, i1], by simp (disch := decide) only [sxL, i2], by simp (disch := decide) only [sxL, i10], hb2, hnx2, hg2, hN2⟩
  ·have hn : s[i]? = none := by simp; omega
   have hnext := s_nextEnd hb hn
   refine Gets.l0 Tryz.tabOk (s' := ?sn6) ?hn6 ?kn6; (case hn6 => (simp -implicitDefEqProofs (disch := first | decide | assumption | (try simp only [q_next, s_put_next]) <;> omega | exact pd_ (by kernel_rfl) | fail) only [sxM, Nat.reduceAdd, reduceCtorEq, Int.reduceToNat, Nat.reduceEqDiff, Int.reduceEq, Int.reduceLT, s_draw, i10, z_opNext, hnext] <;> rfl)); (try (change Gets _ _ _ _ _ _; repeat refine Gets.seq ?_))
   refine Gets.condF (by simp (disch := decide) only [sxL]) (Gets.exit Tryz.tabOk ?_)
   refine inBlk_exit ?_
   exact ⟨rfl, _, _, rfl, hg⟩
 rintro tm h hg
 change Gets _ _ _ _ _ _
 repeat refine Gets.seq ?_
 refine Gets.l0 Tryz.tabOk (s' := ?sn7) ?hn7 ?kn7; (case hn7 => (simp -implicitDefEqProofs (disch := first | decide | assumption | (try simp only [q_next, s_put_next]) <;> omega | exact pd_ (by kernel_rfl) | fail) only [sxM, Nat.reduceAdd, reduceCtorEq, Int.reduceToNat, Nat.reduceEqDiff, Int.reduceEq, Int.reduceLT, s_draw] <;> rfl)); (try (change Gets _ _ _ _ _ _; repeat refine Gets.seq ?_))
 refine Gets.ret Tryz.tabOk ?_
 exact fin_pure rfl (by simp (disch := decide) only [sxL, Tryz.f258, resultA]) hg hN trivial
theorem sIx_to (s : List UInt8) (hs : ∀ c ∈ s, lowA c = true) (hlen : s.length < 1000000000) (H : Heap) (hN : Neat H) :
  CallTo Tryz.prog Tryz.tab 146 [.str s, .func (.func 86) [] []] H [(.int .i64 (-1), H)] := by
 refine callTo_pure (n := 20) (v := .int .i64 (-1)) Tryz.tabOk (ov := ptO noOv 258 [.str s, .func (.func 86) [] [], .bool true] H [(.int .i64 (-1), H)]) (ptO_ok noOv_ok (sIx2_to s hs hlen H hN)) (H' := H) ?_ (.refl _) hN trivial
 rw [s_callO, s_callB, get146, s_ptNe _ (by decide)]
 simp -implicitDefEqProofs (disch := first | decide | assumption | (try simp only [q_next, s_put_next]) <;> omega | exact pd_ (by kernel_rfl) | fail) only [sxM, Nat.reduceAdd, reduceCtorEq, Int.reduceToNat, Nat.reduceEqDiff, Int.reduceEq, Int.reduceLT, Tryz.f146]
theorem scf_to (s : List UInt8) (hs : ∀ c ∈ s, lowA c = true) (hlen : s.length < 1000000000) (H : Heap) (hN : Neat H) :
  CallTo Tryz.prog Tryz.tab 85 [.str s, .func (.func 86) [] []] H [(.bool false, H)] := by
 refine callTo_pure (n := 20) (v := .bool false) Tryz.tabOk (ov := ptO noOv 146 [.str s, .func (.func 86) [] []] H [(.int .i64 (-1), H)]) (ptO_ok noOv_ok (sIx_to s hs hlen H hN)) (H' := H) ?_ (.refl _) hN trivial
 rw [s_callO, s_callB, get85, s_ptNe _ (by decide)]
 have h1 : ((-1 : Int) < 0) := by omega
 simp -implicitDefEqProofs (disch := first | decide | assumption | (try simp only [q_next, s_put_next]) <;> omega | exact pd_ (by kernel_rfl) | fail) only [sxM, Nat.reduceAdd, reduceCtorEq, Int.reduceToNat, Nat.reduceEqDiff, Int.reduceEq, Int.reduceLT, Tryz.f85, h1]
def nameB (s : List UInt8) : Bool := !decide ((s.length : Int) < 1) && (!decide (16 < (s.length : Int)) && s.all lowA)
theorem trim_nil (s : List UInt8) : sbeq ((trR s).dropWhile lowA) [] = s.all lowA := by
 rw [sbeq_eq]
 cases h : s.all lowA
 ·have : (trR s).dropWhile lowA ≠ [] := fun e => by
   rw [dw_nil, trR_all] at e
   rw [List.all_eq_true.2 e] at h; simp at h
  cases hd : (trR s).dropWhile lowA with
  | nil => exact absurd hd this
  | cons a l => rfl
 ·have : (trR s).dropWhile lowA = [] := by rw [dw_nil, trR_all]; exact List.all_eq_true.1 h
  rw [this]; rfl
theorem name_to (s : List UInt8) (hlen : s.length < 1000000000) (H : Heap) (hN : Neat H) : CallTo Tryz.prog Tryz.tab 39 [.str s] H [(.bool (nameB s), H)] := by
 refine callTo_of Tryz.tabOk Tryz.func39 rfl rfl ?_
 show Gets Tryz.prog Tryz.tab ⟨none, 21⟩ _ _ _
 repeat refine Gets.seq ?_
 refine Gets.l0 Tryz.tabOk (s' := ?sn8) ?hn8 ?kn8; (case hn8 => (simp -implicitDefEqProofs (disch := first | decide | assumption | (try simp only [q_next, s_put_next]) <;> omega | exact pd_ (by kernel_rfl) | fail) only [sxM, Nat.reduceAdd, reduceCtorEq, Int.reduceToNat, Nat.reduceEqDiff, Int.reduceEq, Int.reduceLT, s_draw] <;> rfl)); (try (change Gets _ _ _ _ _ _; repeat refine Gets.seq ?_))
 have q1 := trim_to s H hN hlen
 have e1 := trim_nil s
 by_cases h1 : (s.length : Int) < 1
 ·refine Gets.l0 Tryz.tabOk (s' := ?sn9) ?hn9 ?kn9; (case hn9 => (simp -implicitDefEqProofs (disch := first | decide | assumption | (try simp only [q_next, s_put_next]) <;> omega | exact pd_ (by kernel_rfl) | fail) only [sxM, Nat.reduceAdd, reduceCtorEq, Int.reduceToNat, Nat.reduceEqDiff, Int.reduceEq, Int.reduceLT, s_draw, s_lenStr ud9, h1] <;> rfl)); (try (change Gets _ _ _ _ _ _; repeat refine Gets.seq ?_))
  refine Gets.ret Tryz.tabOk ?_
  exact fin_pure rfl (by simp only [nameB, h1]; simp (disch := decide) only [sxL, Tryz.f39, resultA]) (.refl _) hN trivial
 by_cases h2 : 16 < (s.length : Int)
 ·refine Gets.l0 Tryz.tabOk (s' := ?sn10) ?hn10 ?kn10; (case hn10 => (simp -implicitDefEqProofs (disch := first | decide | assumption | (try simp only [q_next, s_put_next]) <;> omega | exact pd_ (by kernel_rfl) | fail) only [sxM, Nat.reduceAdd, reduceCtorEq, Int.reduceToNat, Nat.reduceEqDiff, Int.reduceEq, Int.reduceLT, s_draw, s_lenStr ud9, h1, h2] <;> rfl)); (try (change Gets _ _ _ _ _ _; repeat refine Gets.seq ?_))
  refine Gets.ret Tryz.tabOk ?_
  exact fin_pure rfl (by simp only [nameB, h1, h2]; simp (disch := decide) only [sxL, Tryz.f39, resultA]) (.refl _) hN trivial
 cases ha : s.all lowA
 ·rw [ha] at e1
  refine Gets.last Tryz.tabOk (ov := ptO noOv 84 [.str s, .str letters] H [(.str ((trR s).dropWhile lowA), H)]) (ptO_ok noOv_ok q1) 8 (s' := ?sn11) ?hn11 ?kn11; (case hn11 => (simp -implicitDefEqProofs (disch := first | decide | assumption | (try simp only [q_next, s_put_next]) <;> omega | exact pd_ (by kernel_rfl) | fail) only [sxM, Nat.reduceAdd, reduceCtorEq, Int.reduceToNat, Nat.reduceEqDiff, Int.reduceEq, Int.reduceLT, s_draw, s_lenStr ud9, h1, h2, sbin, boolO, e1, letters] <;> rfl)); (try (change Gets _ _ _ _ _ _; repeat refine Gets.seq ?_))
  refine Gets.ret Tryz.tabOk ?_
  exact fin_pure rfl (by simp only [nameB, h1, h2, ha]; simp (disch := decide) only [sxL, Tryz.f39, resultA]) (.refl _) hN trivial
 ·rw [ha] at e1
  have q2 := scf_to s (List.all_eq_true.1 ha) hlen H hN
  refine Gets.last Tryz.tabOk (ov := ptO (ptO noOv 84 [.str s, .str letters] H [(.str ((trR s).dropWhile lowA), H)]) 85 [.str s, .func (.func 86) [] []] H [(.bool false, H)]) (ptO_ok (ptO_ok noOv_ok q1) q2) 8 (s' := ?sn12) ?hn12 ?kn12; (case hn12 => (simp -implicitDefEqProofs (disch := first | decide | assumption | (try simp only [q_next, s_put_next]) <;> omega | exact pd_ (by kernel_rfl) | fail) only [sxM, Nat.reduceAdd, reduceCtorEq, Int.reduceToNat, Nat.reduceEqDiff, Int.reduceEq, Int.reduceLT, s_draw, s_lenStr ud9, h1, h2, sbin, boolO, e1, letters] <;> rfl)); (try (change Gets _ _ _ _ _ _; repeat refine Gets.seq ?_))
  refine Gets.ret Tryz.tabOk ?_
  exact fin_pure rfl (by simp only [nameB, h1, h2, ha]; simp (disch := decide) only [sxL, Tryz.f39, resultA]) (.refl _) hN trivial
end Go.Proofs
namespace Go.Sx
section
variable {G : Tab} {F : Fns}
theorem z_min (ar : Array Operand) (ts : Array TypeId) (tm : T AV) (H : Heap) : opN (.call ⟨.builtin .min, ar, ts⟩) G tm H = withH H (bindO (aevs G tm ar.toList) (fold1 min2A)) := rfl
theorem s_min2 (k k' : IntKind) (a b : Int) : fold1 min2A [.int k a, .int k' b] = some (.int k (min a b)) := by
 show some (AV.int k (bif iblt b a then b else a)) = _
 rw [s_iblt]
 by_cases h : b < a
 ·rw [decide_eq_true h, cond_true, Int.min_eq_right (by omega)]
 ·rw [decide_eq_false h, cond_false, Int.min_eq_left (by omega)]
theorem s_indexAgg {t e : TypeId} {n : Nat} (hu : G.und t = some (.array n e)) (hz : G.size e = some 1) (ha : G.isAgg e = some false) (cs : List AV) (k : IntKind) (i : Nat) {v : AV} (hi : i < n) (h : cs[i]? = some v) : indexA G t (.agg cs) (.int k (i : Int)) = some v := by
 unfold indexA
 rw [hu]
 show bindO (inB (.int k (i : Int)) n) (fun m => bindO (G.size e) fun z => partA G e cs (m * z)) = _
 rw [s_inB, if_pos ⟨by omega, by omega⟩, s_bindO, hz, s_bindO, s_partFalse ha, Nat.mul_one, Int.toNat_natCast, h]
end
end Go.Sx
namespace Go.Proofs
open Go.Sx
set_option maxRecDepth 100000
structure CntV where
 (v up down lo hi : Int)
def CntV.cells (c : CntV) : List AV := [.int .i64 c.v, .int .i64 c.up, .int .i64 c.down, .int .i64 c.lo, .int .i64 c.hi]
def okN (n : Int) : Bool := !decide (n < -1152921504606846976) && !decide (1152921504606846976 < n)
theorem okN_t {n : Int} (h : okN n = true) : -1152921504606846976 ≤ n ∧ n ≤ 1152921504606846976 := by
 simp [okN] at h; omega
theorem numchk_to (n : Int) (H : Heap) (hN : Neat H) : CallTo Tryz.prog Tryz.tab 62 [.int .i64 n] H [(.int .i64 (if okN n = true then 0 else 7), H)] := by
 refine callTo_pure (n := 20) (v := .int .i64 (if okN n = true then 0 else 7)) Tryz.tabOk (ov := noOv) noOv_ok (H' := H) ?_ (.refl _) hN trivial
 rw [s_callO, s_callB, get62]
 by_cases h1 : n < -1152921504606846976
 ·have e : okN n = (!decide (n < -1152921504606846976) && !decide (1152921504606846976 < n)) := rfl
  rw [e]
  simp -implicitDefEqProofs (disch := first | decide | assumption | (try simp only [q_next, s_put_next]) <;> omega | exact pd_ (by kernel_rfl) | fail) only [sxM, Nat.reduceAdd, reduceCtorEq, Int.reduceToNat, Nat.reduceEqDiff, Int.reduceEq, Int.reduceLT, Tryz.f62, h1]
 ·by_cases h2 : 1152921504606846976 < n
  ·have e : okN n = (!decide (n < -1152921504606846976) && !decide (1152921504606846976 < n)) := rfl
   rw [e]
   simp -implicitDefEqProofs (disch := first | decide | assumption | (try simp only [q_next, s_put_next]) <;> omega | exact pd_ (by kernel_rfl) | fail) only [sxM, Nat.reduceAdd, reduceCtorEq, Int.reduceToNat, Nat.reduceEqDiff, Int.reduceEq, Int.reduceLT, Tryz.f62, h1, h2]
  ·have e : okN n = (!decide (n < -1152921504606846976) && !decide (1152921504606846976 < n)) := rfl
   rw [e]
   simp -implicitDefEqProofs (disch := first | decide | assumption | (try simp only [q_next, s_put_next]) <;> omega | exact pd_ (by kernel_rfl) | fail) only [sxM, Nat.reduceAdd, reduceCtorEq, Int.reduceToNat, Nat.reduceEqDiff, Int.reduceEq, Int.reduceLT, Tryz.f62, h1, h2]
theorem within_to (n : Int) (H : Heap) (hN : Neat H) : CallTo Tryz.prog Tryz.tab 88 [.int .i64 n] H [(.bool (okN n), H)] := by
 refine callTo_pure (n := 20) (v := .bool (okN n)) Tryz.tabOk (ov := noOv) noOv_ok (H' := H) ?_ (.refl _) hN trivial
 rw [s_callO, s_callB, get88]
 by_cases h1 : n < -1152921504606846976
 ·have e : okN n = (!decide (n < -1152921504606846976) && !decide (1152921504606846976 < n)) := rfl
  rw [e]
  simp -implicitDefEqProofs (disch := first | decide | assumption | (try simp only [q_next, s_put_next]) <;> omega | exact pd_ (by kernel_rfl) | fail) only [sxM, Nat.reduceAdd, reduceCtorEq, Int.reduceToNat, Nat.reduceEqDiff, Int.reduceEq, Int.reduceLT, Tryz.f88, h1]
 ·by_cases h2 : 1152921504606846976 < n
  ·have e : okN n = (!decide (n < -1152921504606846976) && !decide (1152921504606846976 < n)) := rfl
   rw [e]
   simp -implicitDefEqProofs (disch := first | decide | assumption | (try simp only [q_next, s_put_next]) <;> omega | exact pd_ (by kernel_rfl) | fail) only [sxM, Nat.reduceAdd, reduceCtorEq, Int.reduceToNat, Nat.reduceEqDiff, Int.reduceEq, Int.reduceLT, Tryz.f88, h1, h2]
  ·have e : okN n = (!decide (n < -1152921504606846976) && !decide (1152921504606846976 < n)) := rfl
   rw [e]
   simp -implicitDefEqProofs (disch := first | decide | assumption | (try simp only [q_next, s_put_next]) <;> omega | exact pd_ (by kernel_rfl) | fail) only [sxM, Nat.reduceAdd, reduceCtorEq, Int.reduceToNat, Nat.reduceEqDiff, Int.reduceEq, Int.reduceLT, Tryz.f88, h1, h2]
end Go.Proofs
namespace Go.Proofs
open Go.Sx
set_option maxRecDepth 100000
def nx0 (s : Nat) : Nat := (s + 11400714819323198485) % 18446744073709551616
noncomputable def nx (s : Nat) : Nat := Classical.choose (⟨nx0 s, rfl⟩ : ∃ x, x = nx0 s)
theorem nx_is (s : Nat) : nx s = nx0 s := Classical.choose_spec (⟨nx0 s, rfl⟩ : ∃ x, x = nx0 s)
def mixA (z : Nat) : Nat := ((z ^^^ (z / 2 ^ 30)) * 13787848793156543929) % 18446744073709551616
def mixB (z : Nat) : Nat := ((z ^^^ (z / 2 ^ 27)) * 10723151780598845931) % 18446744073709551616
def mixC (z : Nat) : Nat := z ^^^ (z / 2 ^ 31)
noncomputable def bel0 (s k : Nat) : Nat := mixC (mixB (mixA (nx s))) % k
noncomputable def bel (s k : Nat) : Nat := Classical.choose (⟨bel0 s k, rfl⟩ : ∃ x, x = bel0 s k)
theorem bel_is (s k : Nat) : bel s k = bel0 s k := Classical.choose_spec (⟨bel0 s k, rfl⟩ : ∃ x, x = bel0 s k)
theorem nx_lt (s : Nat) : nx s < 18446744073709551616 := by rw [nx_is]; exact Nat.mod_lt _ (by omega)
theorem mixA_lt (s : Nat) : mixA s < 18446744073709551616 := Nat.mod_lt _ (by omega)
theorem mixB_lt (s : Nat) : mixB s < 18446744073709551616 := Nat.mod_lt _ (by omega)
theorem div_lt {z : Nat} (h : z < 18446744073709551616) (k : Nat) : z / 2 ^ k < 18446744073709551616 := Nat.lt_of_le_of_lt (Nat.div_le_self _ _) h
theorem mixC_lt {z : Nat} (h : z < 18446744073709551616) : mixC z < 18446744073709551616 :=
 Nat.xor_lt_two_pow (n := 64) h (div_lt h 31)
theorem bel_lt (s : Nat) {k : Nat} (h : 0 < k) : bel s k < k := by rw [bel_is]; exact Nat.mod_lt _ h
theorem wu (n : Nat) : awrap .u64 (n : Int) = ((n % 18446744073709551616 : Nat) : Int) := rfl
theorem wu_add (s : Nat) : awrap .u64 ((s : Int) + 11400714819323198485) = ((nx s : Nat) : Int) := by
 rw [show ((s : Int) + 11400714819323198485) = ((s + 11400714819323198485 : Nat) : Int) by omega, wu, nx_is]; rfl
theorem wu_mul (m c : Nat) : awrap .u64 ((m : Int) * (c : Int)) = ((m * c % 18446744073709551616 : Nat) : Int) := by
 rw [show ((m : Int) * (c : Int)) = ((m * c : Nat) : Int) by push_cast; rfl, wu]
theorem shr64 (z k : Nat) (hk : k ≤ 64) : shrO .u64 (z : Int) (k : Int) = some (.int .u64 ((z / 2 ^ k : Nat) : Int)) := by
 show (bif Nat.ble k 64 then some (AV.int .u64 (.ofNat (z / 2 ^ (min k 64)))) else none) = _
 rw [Nat.ble_eq_true_of_le hk, cond_true, Nat.min_eq_left hk]; rfl
theorem xor64 {m n : Nat} (hm : m < 18446744073709551616) (hn : n < 18446744073709551616) : bitO .u64 Nat.xor (m : Int) (n : Int) = some (.int .u64 ((m ^^^ n : Nat) : Int)) := by
 show (bif Nat.blt m 18446744073709551616 then (bif Nat.blt n 18446744073709551616 then some (AV.int .u64 (.ofNat (Nat.xor m n))) else none) else none) = _
 have h1 : Nat.blt m 18446744073709551616 = true := by simpa [Nat.blt_eq] using hm
 have h2 : Nat.blt n 18446744073709551616 = true := by simpa [Nat.blt_eq] using hn
 rw [h1, h2]; rfl
theorem convIU (n : Int) (H : Heap) : convertA Tryz.tab H 3 26 (.int .i64 n) = some (.int .u64 (awrap .u64 n), H) := by kernel_rfl
theorem convUI (n : Int) (H : Heap) : convertA Tryz.tab H 26 3 (.int .u64 n) = some (.int .i64 (awrap .i64 n), H) := by kernel_rfl
abbrev seedB (t s : Nat) : ABlk := .cells t true [.int .u64 (s : Int)]
theorem bel_to (b s k : Nat) (hs : s < 18446744073709551616) (hk : 0 < k ∧ k < 2147483648) (H : Heap) (hb : H.blks.get b = some (seedB 63 s)) :
  CallTo Tryz.prog Tryz.tab 19 [.ptr b 0, .int .i64 (k : Int)] H [(.int .i64 ((bel s k : Nat) : Int), putBlk H b (some (seedB 63 (nx s))))] := by
 refine callTo_run Tryz.tabOk (ov := noOv) noOv_ok (n := 20) ?_
 rw [s_callO, s_callB, get19]
 have h0 := nx_lt s
 have hst : storePtr Tryz.tab H 26 (.ptr b 0) (.int .u64 ((nx s : Nat) : Int)) = some (putBlk H b (some (seedB 63 (nx s)))) := store_one hb sz26 (by simp) rfl
 have e1 : shrO .u64 ((nx s : Nat) : Int) 30 = some (.int .u64 ((nx s / 2 ^ 30 : Nat) : Int)) := shr64 (nx s) 30 (by omega)
 have e2 := xor64 h0 (div_lt h0 30)
 have e3 : awrap .u64 (((nx s ^^^ (nx s / 2 ^ 30) : Nat) : Int) * 13787848793156543929) = ((mixA (nx s) : Nat) : Int) := wu_mul _ 13787848793156543929
 have h1 := mixA_lt (nx s)
 have e4 : shrO .u64 ((mixA (nx s) : Nat) : Int) 27 = some (.int .u64 ((mixA (nx s) / 2 ^ 27 : Nat) : Int)) := shr64 (mixA (nx s)) 27 (by omega)
 have e5 := xor64 h1 (div_lt h1 27)
 have e6 : awrap .u64 (((mixA (nx s) ^^^ (mixA (nx s) / 2 ^ 27) : Nat) : Int) * 10723151780598845931) = ((mixB (mixA (nx s)) : Nat) : Int) := wu_mul _ 10723151780598845931
 have h2 := mixB_lt (mixA (nx s))
 have e7 : shrO .u64 ((mixB (mixA (nx s)) : Nat) : Int) 31 = some (.int .u64 ((mixB (mixA (nx s)) / 2 ^ 31 : Nat) : Int)) := shr64 (mixB (mixA (nx s))) 31 (by omega)
 have e8 : bitO .u64 Nat.xor (mixB (mixA (nx s)) : Int) ((mixB (mixA (nx s)) / 2 ^ 31 : Nat) : Int) = some (.int .u64 ((mixC (mixB (mixA (nx s))) : Nat) : Int)) := xor64 h2 (div_lt h2 31)
 have h3 := mixC_lt h2
 have e9 : awrap .u64 (k : Int) = (k : Int) := by rw [wu, Nat.mod_eq_of_lt (by omega)]
 have e10 : remO .u64 ((mixC (mixB (mixA (nx s))) : Nat) : Int) (k : Int) = some (.int .u64 ((bel s k : Nat) : Int)) := by rw [bel_is]; exact s_rem _ (by omega) (by omega)
 have h4 := bel_lt s hk.1
 have e11 : awrap .i64 ((bel s k : Nat) : Int) = ((bel s k : Nat) : Int) := s_wrap (by omega) (by omega)
 simp -implicitDefEqProofs (disch := first | decide | assumption | (try simp only [q_next, s_put_next]) <;> omega | exact pd_ (by kernel_rfl) | fail) only [sxM, Nat.reduceAdd, reduceCtorEq, Int.reduceToNat, Nat.reduceEqDiff, Int.reduceEq, Int.reduceLT, Tryz.f19, fa63_0, hb, s_varFalse ia26, wu_add, hst, e1, e2, e3, e4, e5, e6, e7, e8, z_conv, convIU, convUI, e9, e10, e11]
theorem belR_to (b s k : Nat) (hs : s < 18446744073709551616) (hk : 0 < k ∧ k < 2147483648) (H : Heap) (hb : H.blks.get b = some (seedB 73 s)) :
  CallTo Tryz.prog Tryz.tab 55 [.ptr b 0, .int .i64 (k : Int)] H [(.int .i64 ((bel s k : Nat) : Int), putBlk H b (some (seedB 73 (nx s))))] := by
 refine callTo_run Tryz.tabOk (ov := noOv) noOv_ok (n := 20) ?_
 rw [s_callO, s_callB, get55]
 have h0 := nx_lt s
 have hst : storePtr Tryz.tab H 26 (.ptr b 0) (.int .u64 ((nx s : Nat) : Int)) = some (putBlk H b (some (seedB 73 (nx s)))) := store_one hb sz26 (by simp) rfl
 have e1 : shrO .u64 ((nx s : Nat) : Int) 30 = some (.int .u64 ((nx s / 2 ^ 30 : Nat) : Int)) := shr64 (nx s) 30 (by omega)
 have e2 := xor64 h0 (div_lt h0 30)
 have e3 : awrap .u64 (((nx s ^^^ (nx s / 2 ^ 30) : Nat) : Int) * 13787848793156543929) = ((mixA (nx s) : Nat) : Int) := wu_mul _ 13787848793156543929
 have h1 := mixA_lt (nx s)
 have e4 : shrO .u64 ((mixA (nx s) : Nat) : Int) 27 = some (.int .u64 ((mixA (nx s) / 2 ^ 27 : Nat) : Int)) := shr64 (mixA (nx s)) 27 (by omega)
 have e5 := xor64 h1 (div_lt h1 27)
 have e6 : awrap .u64 (((mixA (nx s) ^^^ (mixA (nx s) / 2 ^ 27) : Nat) : Int) * 10723151780598845931) = ((mixB (mixA (nx s)) : Nat) : Int) := wu_mul _ 10723151780598845931
 have h2 := mixB_lt (mixA (nx s))
 have e7 : shrO .u64 ((mixB (mixA (nx s)) : Nat) : Int) 31 = some (.int .u64 ((mixB (mixA (nx s)) / 2 ^ 31 : Nat) : Int)) := shr64 (mixB (mixA (nx s))) 31 (by omega)
 have e8 : bitO .u64 Nat.xor (mixB (mixA (nx s)) : Int) ((mixB (mixA (nx s)) / 2 ^ 31 : Nat) : Int) = some (.int .u64 ((mixC (mixB (mixA (nx s))) : Nat) : Int)) := xor64 h2 (div_lt h2 31)
 have h3 := mixC_lt h2
 have e9 : awrap .u64 (k : Int) = (k : Int) := by rw [wu, Nat.mod_eq_of_lt (by omega)]
 have e10 : remO .u64 ((mixC (mixB (mixA (nx s))) : Nat) : Int) (k : Int) = some (.int .u64 ((bel s k : Nat) : Int)) := by rw [bel_is]; exact s_rem _ (by omega) (by omega)
 have h4 := bel_lt s hk.1
 have e11 : awrap .i64 ((bel s k : Nat) : Int) = ((bel s k : Nat) : Int) := s_wrap (by omega) (by omega)
 simp -implicitDefEqProofs (disch := first | decide | assumption | (try simp only [q_next, s_put_next]) <;> omega | exact pd_ (by kernel_rfl) | fail) only [sxM, Nat.reduceAdd, reduceCtorEq, Int.reduceToNat, Nat.reduceEqDiff, Int.reduceEq, Int.reduceLT, Tryz.f55, fa73_0, hb, s_varFalse ia26, wu_add, hst, e1, e2, e3, e4, e5, e6, e7, e8, z_conv, convIU, convUI, e9, e10, e11]
end Go.Proofs
namespace Go.Proofs
open Go.Sx
set_option maxRecDepth 100000
def cntB (c : CntV) : Bool := okN c.v && (okN c.up && (okN c.down && (okN c.lo && (okN c.hi && (!decide (c.up < 0) && (!decide (c.down < 0) && (!decide (c.v - c.up < c.lo) && !decide (c.hi < c.v + c.down))))))))
def wrongB (c : CntV) : Bool := !cntB c || (!decide (c.up = 0) || !decide (c.down = 0))
abbrev cntBl (c : CntV) : ABlk := .cells 79 true c.cells
theorem build181 (c : CntV) : buildA Tryz.tab 181 [(0, .int .i64 c.v), (1, .int .i64 c.up), (2, .int .i64 c.down), (3, .int .i64 c.lo), (4, .int .i64 c.hi)] = some (.agg c.cells) := by kernel_rfl
theorem und181 : Tryz.tab.und 181 = some (.array 5 2) := by kernel_rfl
theorem cnt_at (c : CntV) (i : Nat) (hi : i < 5) : ∃ n, c.cells[i]? = some (.int .i64 n) := by
 match i, hi with
 | 0, _ => exact ⟨_, rfl⟩
 | 1, _ => exact ⟨_, rfl⟩
 | 2, _ => exact ⟨_, rfl⟩
 | 3, _ => exact ⟨_, rfl⟩
 | 4, _ => exact ⟨_, rfl⟩
theorem cnt_all (c : CntV) (h : ∀ i n, i < 5 → c.cells[i]? = some (.int .i64 n) → okN n = true) : okN c.v = true ∧ okN c.up = true ∧ okN c.down = true ∧ okN c.lo = true ∧ okN c.hi = true :=
 ⟨h 0 _ (by omega) rfl, h 1 _ (by omega) rfl, h 2 _ (by omega) rfl, h 3 _ (by omega) rfl, h 4 _ (by omega) rfl⟩
theorem cnt_bad (c : CntV) (i : Nat) (n : Int) (hi : i < 5) (hc : c.cells[i]? = some (.int .i64 n)) (h : okN n = false) : cntB c = false := by
 match i, hi, hc with
 | 0, _, hc => simp only [CntV.cells, List.getElem?_cons_zero, Option.some.injEq, AV.int.injEq, true_and] at hc; subst hc; simp [cntB, h]
 | 1, _, hc => simp only [CntV.cells, List.getElem?_cons_zero, List.getElem?_cons_succ, Option.some.injEq, AV.int.injEq, true_and] at hc; subst hc; simp [cntB, h]
 | 2, _, hc => simp only [CntV.cells, List.getElem?_cons_zero, List.getElem?_cons_succ, Option.some.injEq, AV.int.injEq, true_and] at hc; subst hc; simp [cntB, h]
 | 3, _, hc => simp only [CntV.cells, List.getElem?_cons_zero, List.getElem?_cons_succ, Option.some.injEq, AV.int.injEq, true_and] at hc; subst hc; simp [cntB, h]
 | 4, _, hc => simp only [CntV.cells, List.getElem?_cons_zero, List.getElem?_cons_succ, Option.some.injEq, AV.int.injEq, true_and] at hc; subst hc; simp [cntB, h]
theorem cntchk_to (c : CntV) (H : Heap) (hN : Neat H) : CallTo Tryz.prog Tryz.tab 41 [.agg c.cells] H [(.int .i64 (if cntB c = true then 0 else 2), H)] := by
 refine callTo_of Tryz.tabOk Tryz.func41 rfl rfl ?_
 show Gets Tryz.prog Tryz.tab ⟨none, 49⟩ _ _ _
 repeat refine Gets.seq ?_
 have hg : Grows H (H.push (cntBl c)) := .push _ _
 have hat : (H.push (cntBl c)).blks.get H.next = some (cntBl c) := s_push_same _ _
 have hN1 : Neat (H.push (cntBl c)) := hN.push _
 have hone : allOne c.cells = true := rfl
 have hcs : c.cells = [.int .i64 c.v, .int .i64 c.up, .int .i64 c.down, .int .i64 c.lo, .int .i64 c.hi] := rfl
 generalize hH1 : H.push (cntBl c) = H1 at hg hat hN1
 unfold cntBl at hH1 hat
 refine Gets.l0 Tryz.tabOk (s' := ?sn1) ?hn1 ?kn1; (case hn1 => (simp -implicitDefEqProofs (disch := first | decide | assumption | (try simp only [q_next, s_put_next]) <;> omega | exact pd_ (by kernel_rfl) | fail) only [sxM, Nat.reduceAdd, reduceCtorEq, Int.reduceToNat, Nat.reduceEqDiff, Int.reduceEq, Int.reduceLT, s_draw, hone, hH1] <;> rfl)); (try (change Gets _ _ _ _ _ _; repeat refine Gets.seq ?_))
 have bld := build181 c
 refine Gets.l0 Tryz.tabOk (s' := ?sn2) ?hn2 ?kn2; (case hn2 => (simp -implicitDefEqProofs (disch := first | decide | assumption | (try simp only [q_next, s_put_next]) <;> omega | exact pd_ (by kernel_rfl) | fail) only [sxM, Nat.reduceAdd, reduceCtorEq, Int.reduceToNat, Nat.reduceEqDiff, Int.reduceEq, Int.reduceLT, s_draw, hat, hcs, fa79_0, fa79_1, fa79_2, fa79_3, fa79_4, s_varFalse ia2, bld] <;> rfl)); (try (change Gets _ _ _ _ _ _; repeat refine Gets.seq ?_))
 refine Gets.upto 5 (fun i tm => tm.get 1 = some (.ptr H.next 0) ∧ tm.get 15 = some (.agg c.cells) ∧ tm.get 16 = some (.int .i64 (i : Int)) ∧ ∀ j n, j < i → c.cells[j]? = some (.int .i64 n) → okN n = true) ⟨by simp (disch := decide) only [sxL, hcs], by simp (disch := decide) only [sxL, hcs], by simp (disch := decide) only [sxL, hcs], fun j n hj => absurd hj (Nat.not_lt_zero _)⟩ ?_
 rintro i tm hi ⟨i1, i15, i16, hall⟩
 repeat refine Gets.seq ?_
 by_cases hlt : (i : Int) < 5
 ·have hi5 : i < 5 := by omega
  obtain ⟨n, hn⟩ := cnt_at c i hi5
  have hx := s_indexAgg und181 sz2 ia2 c.cells .i64 i hi5 hn
  have q := numchk_to n H1 hN1
  have hw : awrap .i64 ((i : Int) + 1) = (i : Int) + 1 := s_wrap (by omega) (by omega)
  refine Gets.l0 Tryz.tabOk (s' := ?sn3) ?hn3 ?kn3; (case hn3 => (simp -implicitDefEqProofs (disch := first | decide | assumption | (try simp only [q_next, s_put_next]) <;> omega | exact pd_ (by kernel_rfl) | fail) only [sxM, Nat.reduceAdd, reduceCtorEq, Int.reduceToNat, Nat.reduceEqDiff, Int.reduceEq, Int.reduceLT, s_draw, i16, hlt] <;> rfl)); (try (change Gets _ _ _ _ _ _; repeat refine Gets.seq ?_))
  refine Gets.condT (by simp (disch := decide) only [sxL]) (Gets.skip Tryz.tabOk ?_)
  change Gets _ _ _ _ _ _
  refine Gets.seq (Gets.blk ?_)
  repeat refine Gets.seq ?_
  refine Gets.l0 Tryz.tabOk (s' := ?sn4) ?hn4 ?kn4; (case hn4 => (simp -implicitDefEqProofs (disch := first | decide | assumption | (try simp only [q_next, s_put_next]) <;> omega | exact pd_ (by kernel_rfl) | fail) only [sxM, Nat.reduceAdd, reduceCtorEq, Int.reduceToNat, Nat.reduceEqDiff, Int.reduceEq, Int.reduceLT, s_draw, i15, i16, z_opIndex, hx] <;> rfl)); (try (change Gets _ _ _ _ _ _; repeat refine Gets.seq ?_))
  cases hok : okN n
  ·rw [hok] at q
   have q : CallTo Tryz.prog Tryz.tab 62 [.int .i64 n] H1 [(.int .i64 7, H1)] := q
   refine Gets.last Tryz.tabOk (ov := ptO noOv 62 [.int .i64 n] H1 [(.int .i64 7, H1)]) (ptO_ok noOv_ok q) 8 (s' := ?sn5) ?hn5 ?kn5; (case hn5 => (simp -implicitDefEqProofs (disch := first | decide | assumption | (try simp only [q_next, s_put_next]) <;> omega | exact pd_ (by kernel_rfl) | fail) only [sxM, Nat.reduceAdd, reduceCtorEq, Int.reduceToNat, Nat.reduceEqDiff, Int.reduceEq, Int.reduceLT, s_draw, s_ptEq] <;> rfl)); (try (change Gets _ _ _ _ _ _; repeat refine Gets.seq ?_))
   refine Gets.condT (by simp (disch := decide) only [sxL]) ?_
   change Gets _ _ _ _ _ _
   repeat refine Gets.seq ?_
   refine Gets.l0 Tryz.tabOk (s' := ?sn6) ?hn6 ?kn6; (case hn6 => (simp -implicitDefEqProofs (disch := first | decide | assumption | (try simp only [q_next, s_put_next]) <;> omega | exact pd_ (by kernel_rfl) | fail) only [sxM, Nat.reduceAdd, reduceCtorEq, Int.reduceToNat, Nat.reduceEqDiff, Int.reduceEq, Int.reduceLT, s_draw] <;> rfl)); (try (change Gets _ _ _ _ _ _; repeat refine Gets.seq ?_))
   refine Gets.ret Tryz.tabOk ?_
   exact fin_pure rfl (by rw [cnt_bad c i n hi5 hn hok]; simp (disch := decide) only [sxL, Tryz.f41, resultA]) hg hN trivial
  ·rw [hok] at q
   have q : CallTo Tryz.prog Tryz.tab 62 [.int .i64 n] H1 [(.int .i64 0, H1)] := q
   refine Gets.last Tryz.tabOk (ov := ptO noOv 62 [.int .i64 n] H1 [(.int .i64 0, H1)]) (ptO_ok noOv_ok q) 8 (s' := ?sn7) ?hn7 ?kn7; (case hn7 => (simp -implicitDefEqProofs (disch := first | decide | assumption | (try simp only [q_next, s_put_next]) <;> omega | exact pd_ (by kernel_rfl) | fail) only [sxM, Nat.reduceAdd, reduceCtorEq, Int.reduceToNat, Nat.reduceEqDiff, Int.reduceEq, Int.reduceLT, s_draw, s_ptEq] <;> rfl)); (try (change Gets _ _ _ _ _ _; repeat refine Gets.seq ?_))
   refine Gets.condF (by simp (disch := decide) only [sxL]) (Gets.skip Tryz.tabOk ?_)
   refine inBlk_normal ?_
   change Gets _ _ _ _ _ _
   refine Gets.l0 Tryz.tabOk (s' := ?sn8) ?hn8 ?kn8; (case hn8 => (simp -implicitDefEqProofs (disch := first | decide | assumption | (try simp only [q_next, s_put_next]) <;> omega | exact pd_ (by kernel_rfl) | fail) only [sxM, Nat.reduceAdd, reduceCtorEq, Int.reduceToNat, Nat.reduceEqDiff, Int.reduceEq, Int.reduceLT, s_draw, i16, hw] <;> rfl)); (try (change Gets _ _ _ _ _ _; repeat refine Gets.seq ?_))
   refine ⟨_, rfl, hi5, by simp (disch := decide) only [sxL, i1], by simp (disch := decide) only [sxL, i15], by simp (disch := decide) only [sxL, s_castS], fun j m hj hm => ?_⟩
   by_cases hji : j = i
   ·subst hji
    rw [hn] at hm
    simp only [Option.some.injEq, AV.int.injEq, true_and] at hm
    rw [← hm]; exact hok
   ·exact hall j m (by omega) hm
 ·refine Gets.l0 Tryz.tabOk (s' := ?sn9) ?hn9 ?kn9; (case hn9 => (simp -implicitDefEqProofs (disch := first | decide | assumption | (try simp only [q_next, s_put_next]) <;> omega | exact pd_ (by kernel_rfl) | fail) only [sxM, Nat.reduceAdd, reduceCtorEq, Int.reduceToNat, Nat.reduceEqDiff, Int.reduceEq, Int.reduceLT, s_draw, i16, hlt] <;> rfl)); (try (change Gets _ _ _ _ _ _; repeat refine Gets.seq ?_))
  refine Gets.condF (by simp (disch := decide) only [sxL]) (Gets.exit Tryz.tabOk ?_)
  refine inBlk_exit ?_
  have h5 : i = 5 := by omega
  subst h5
  clear i15 i16 hlt hi
  change Gets _ _ _ _ _ _
  repeat refine Gets.seq ?_
  obtain ⟨o1, o2, o3, o4, o5⟩ := cnt_all c hall
  have r1 := okN_t o1; have r2 := okN_t o2; have r3 := okN_t o3; have r4 := okN_t o4; have r5 := okN_t o5
  have w1 : awrap .i64 (c.v - c.up) = c.v - c.up := s_wrap (by omega) (by omega)
  have w2 : awrap .i64 (c.v + c.down) = c.v + c.down := s_wrap (by omega) (by omega)
  have hmin : (min c.up c.down < 0) = (c.up < 0 ∨ c.down < 0) := by
   refine propext ⟨fun h => ?_, fun h => ?_⟩
   ·rcases Int.lt_or_le c.up 0 with h1 | h1
    ·exact .inl h1
    ·exact .inr (by omega)
   ·omega
  by_cases h1 : min c.up c.down < 0
  ·refine Gets.l0 Tryz.tabOk (s' := ?sn10) ?hn10 ?kn10; (case hn10 => (simp -implicitDefEqProofs (disch := first | decide | assumption | (try simp only [q_next, s_put_next]) <;> omega | exact pd_ (by kernel_rfl) | fail) only [sxM, Nat.reduceAdd, reduceCtorEq, Int.reduceToNat, Nat.reduceEqDiff, Int.reduceEq, Int.reduceLT, s_draw, i1, hat, hcs, fa79_0, fa79_1, fa79_2, fa79_3, fa79_4, s_varFalse ia2, z_min, s_min2, h1] <;> rfl)); (try (change Gets _ _ _ _ _ _; repeat refine Gets.seq ?_))
   refine Gets.condT (by simp (disch := decide) only [sxL]) ?_
   change Gets _ _ _ _ _ _
   repeat refine Gets.seq ?_
   refine Gets.l0 Tryz.tabOk (s' := ?sn11) ?hn11 ?kn11; (case hn11 => (simp -implicitDefEqProofs (disch := first | decide | assumption | (try simp only [q_next, s_put_next]) <;> omega | exact pd_ (by kernel_rfl) | fail) only [sxM, Nat.reduceAdd, reduceCtorEq, Int.reduceToNat, Nat.reduceEqDiff, Int.reduceEq, Int.reduceLT, s_draw] <;> rfl)); (try (change Gets _ _ _ _ _ _; repeat refine Gets.seq ?_))
   refine Gets.ret Tryz.tabOk ?_
   have hf : cntB c = false := by
    rw [hmin] at h1
    rcases h1 with h1 | h1 <;> simp [cntB, h1]
   exact fin_pure rfl (by rw [hf]; simp (disch := decide) only [sxL, Tryz.f41, resultA]) hg hN trivial
  have h1' : ¬ c.up < 0 ∧ ¬ c.down < 0 := by rw [hmin] at h1; exact ⟨fun h => h1 (.inl h), fun h => h1 (.inr h)⟩
  by_cases h2 : c.v - c.up < c.lo
  ·refine Gets.l0 Tryz.tabOk (s' := ?sn12) ?hn12 ?kn12; (case hn12 => (simp -implicitDefEqProofs (disch := first | decide | assumption | (try simp only [q_next, s_put_next]) <;> omega | exact pd_ (by kernel_rfl) | fail) only [sxM, Nat.reduceAdd, reduceCtorEq, Int.reduceToNat, Nat.reduceEqDiff, Int.reduceEq, Int.reduceLT, s_draw, i1, hat, hcs, fa79_0, fa79_1, fa79_2, fa79_3, fa79_4, s_varFalse ia2, z_min, s_min2, h1, w1, h2] <;> rfl)); (try (change Gets _ _ _ _ _ _; repeat refine Gets.seq ?_))
   refine Gets.condT (by simp (disch := decide) only [sxL]) ?_
   change Gets _ _ _ _ _ _
   repeat refine Gets.seq ?_
   refine Gets.l0 Tryz.tabOk (s' := ?sn13) ?hn13 ?kn13; (case hn13 => (simp -implicitDefEqProofs (disch := first | decide | assumption | (try simp only [q_next, s_put_next]) <;> omega | exact pd_ (by kernel_rfl) | fail) only [sxM, Nat.reduceAdd, reduceCtorEq, Int.reduceToNat, Nat.reduceEqDiff, Int.reduceEq, Int.reduceLT, s_draw] <;> rfl)); (try (change Gets _ _ _ _ _ _; repeat refine Gets.seq ?_))
   refine Gets.ret Tryz.tabOk ?_
   have hf : cntB c = false := by simp [cntB, h2]
   exact fin_pure rfl (by rw [hf]; simp (disch := decide) only [sxL, Tryz.f41, resultA]) hg hN trivial
  by_cases h3 : c.hi < c.v + c.down
  ·refine Gets.l0 Tryz.tabOk (s' := ?sn14) ?hn14 ?kn14; (case hn14 => (simp -implicitDefEqProofs (disch := first | decide | assumption | (try simp only [q_next, s_put_next]) <;> omega | exact pd_ (by kernel_rfl) | fail) only [sxM, Nat.reduceAdd, reduceCtorEq, Int.reduceToNat, Nat.reduceEqDiff, Int.reduceEq, Int.reduceLT, s_draw, i1, hat, hcs, fa79_0, fa79_1, fa79_2, fa79_3, fa79_4, s_varFalse ia2, z_min, s_min2, h1, w1, h2, w2, h3] <;> rfl)); (try (change Gets _ _ _ _ _ _; repeat refine Gets.seq ?_))
   refine Gets.condT (by simp (disch := decide) only [sxL]) ?_
   change Gets _ _ _ _ _ _
   repeat refine Gets.seq ?_
   refine Gets.l0 Tryz.tabOk (s' := ?sn15) ?hn15 ?kn15; (case hn15 => (simp -implicitDefEqProofs (disch := first | decide | assumption | (try simp only [q_next, s_put_next]) <;> omega | exact pd_ (by kernel_rfl) | fail) only [sxM, Nat.reduceAdd, reduceCtorEq, Int.reduceToNat, Nat.reduceEqDiff, Int.reduceEq, Int.reduceLT, s_draw] <;> rfl)); (try (change Gets _ _ _ _ _ _; repeat refine Gets.seq ?_))
   refine Gets.ret Tryz.tabOk ?_
   have hf : cntB c = false := by simp [cntB, h3]
   exact fin_pure rfl (by rw [hf]; simp (disch := decide) only [sxL, Tryz.f41, resultA]) hg hN trivial
  refine Gets.l0 Tryz.tabOk (s' := ?sn16) ?hn16 ?kn16; (case hn16 => (simp -implicitDefEqProofs (disch := first | decide | assumption | (try simp only [q_next, s_put_next]) <;> omega | exact pd_ (by kernel_rfl) | fail) only [sxM, Nat.reduceAdd, reduceCtorEq, Int.reduceToNat, Nat.reduceEqDiff, Int.reduceEq, Int.reduceLT, s_draw, i1, hat, hcs, fa79_0, fa79_1, fa79_2, fa79_3, fa79_4, s_varFalse ia2, z_min, s_min2, h1, w1, h2, w2, h3] <;> rfl)); (try (change Gets _ _ _ _ _ _; repeat refine Gets.seq ?_))
  refine Gets.condF (by simp (disch := decide) only [sxL]) (Gets.skip Tryz.tabOk ?_)
  change Gets _ _ _ _ _ _
  repeat refine Gets.seq ?_
  refine Gets.l0 Tryz.tabOk (s' := ?sn17) ?hn17 ?kn17; (case hn17 => (simp -implicitDefEqProofs (disch := first | decide | assumption | (try simp only [q_next, s_put_next]) <;> omega | exact pd_ (by kernel_rfl) | fail) only [sxM, Nat.reduceAdd, reduceCtorEq, Int.reduceToNat, Nat.reduceEqDiff, Int.reduceEq, Int.reduceLT, s_draw] <;> rfl)); (try (change Gets _ _ _ _ _ _; repeat refine Gets.seq ?_))
  refine Gets.ret Tryz.tabOk ?_
  have hf : cntB c = true := by simp [cntB, o1, o2, o3, o4, o5, h1', h2, h3]
  exact fin_pure rfl (by rw [hf]; simp (disch := decide) only [sxL, Tryz.f41, resultA]) hg hN trivial
end Go.Proofs
namespace Go.Proofs
open Go.Sx
set_option maxRecDepth 100000
theorem within_run (n : Int) (H : Heap) : CallTo Tryz.prog Tryz.tab 88 [.int .i64 n] H [(.bool (okN n), H)] := by
 refine callTo_run Tryz.tabOk (ov := noOv) noOv_ok (n := 20) ?_
 rw [s_callO, s_callB, get88]
 by_cases h1 : n < -1152921504606846976
 ·have e : okN n = (!decide (n < -1152921504606846976) && !decide (1152921504606846976 < n)) := rfl
  rw [e]
  simp -implicitDefEqProofs (disch := first | decide | assumption | (try simp only [q_next, s_put_next]) <;> omega | exact pd_ (by kernel_rfl) | fail) only [sxM, Nat.reduceAdd, reduceCtorEq, Int.reduceToNat, Nat.reduceEqDiff, Int.reduceEq, Int.reduceLT, Tryz.f88, h1]
 ·by_cases h2 : 1152921504606846976 < n
  ·have e : okN n = (!decide (n < -1152921504606846976) && !decide (1152921504606846976 < n)) := rfl
   rw [e]
   simp -implicitDefEqProofs (disch := first | decide | assumption | (try simp only [q_next, s_put_next]) <;> omega | exact pd_ (by kernel_rfl) | fail) only [sxM, Nat.reduceAdd, reduceCtorEq, Int.reduceToNat, Nat.reduceEqDiff, Int.reduceEq, Int.reduceLT, Tryz.f88, h1, h2]
  ·have e : okN n = (!decide (n < -1152921504606846976) && !decide (1152921504606846976 < n)) := rfl
   rw [e]
   simp -implicitDefEqProofs (disch := first | decide | assumption | (try simp only [q_next, s_put_next]) <;> omega | exact pd_ (by kernel_rfl) | fail) only [sxM, Nat.reduceAdd, reduceCtorEq, Int.reduceToNat, Nat.reduceEqDiff, Int.reduceEq, Int.reduceLT, Tryz.f88, h1, h2]
noncomputable def ovW (args : List AV) (H : Heap) : Option (List VH) := match args with
 | [.int .i64 n] => some [(.bool (okN n), H)]
 | _ => none
theorem ovW_eq (n : Int) (H : Heap) : ovW [.int .i64 n] H = some [(.bool (okN n), H)] := rfl
theorem ovW_ok (args : List AV) (H : Heap) (outs : List VH) (h : ovW args H = some outs) : CallTo Tryz.prog Tryz.tab 88 args H outs := by
 unfold ovW at h
 split at h
 ·simp only [Option.some.injEq] at h; subst h
  exact within_run _ H
 ·simp at h
theorem chk07_to (c : CntV) (H : Heap) (hN : Neat H) : CallTo Tryz.prog Tryz.tab 54 [.agg c.cells] H [(.int .i64 (if cntB c = true then 0 else 2), H)] := by
 refine callTo_of Tryz.tabOk Tryz.func54 rfl rfl ?_
 show Gets Tryz.prog Tryz.tab ⟨none, 59⟩ _ _ _
 repeat refine Gets.seq ?_
 have hg : Grows H (H.push (cntBl c)) := .push _ _
 have hat : (H.push (cntBl c)).blks.get H.next = some (cntBl c) := s_push_same _ _
 have hone : allOne c.cells = true := rfl
 have hcs : c.cells = [.int .i64 c.v, .int .i64 c.up, .int .i64 c.down, .int .i64 c.lo, .int .i64 c.hi] := rfl
 generalize hH1 : H.push (cntBl c) = H1 at hg hat
 unfold cntBl at hH1 hat
 refine Gets.l0 Tryz.tabOk (s' := ?sn1) ?hn1 ?kn1; (case hn1 => (simp -implicitDefEqProofs (disch := first | decide | assumption | (try simp only [q_next, s_put_next]) <;> omega | exact pd_ (by kernel_rfl) | fail) only [sxM, Nat.reduceAdd, reduceCtorEq, Int.reduceToNat, Nat.reduceEqDiff, Int.reduceEq, Int.reduceLT, s_draw, hone, hH1] <;> rfl)); (try (change Gets _ _ _ _ _ _; repeat refine Gets.seq ?_))
 cases a0 : okN c.v
 ·refine Gets.last Tryz.tabOk (ov := addOv noOv 88 ovW) (addOv_ok noOv_ok ovW_ok) 8 (s' := ?sn2) ?hn2 ?kn2; (case hn2 => (simp -implicitDefEqProofs (disch := first | decide | assumption | (try simp only [q_next, s_put_next]) <;> omega | exact pd_ (by kernel_rfl) | fail) only [sxM, Nat.reduceAdd, reduceCtorEq, Int.reduceToNat, Nat.reduceEqDiff, Int.reduceEq, Int.reduceLT, s_draw, hat, hcs, fa79_0, fa79_1, fa79_2, fa79_3, fa79_4, s_varFalse ia2, ovW_eq, a0] <;> rfl)); (try (change Gets _ _ _ _ _ _; repeat refine Gets.seq ?_))
  refine Gets.condT (by simp (disch := decide) only [sxL]) ?_
  change Gets _ _ _ _ _ _
  repeat refine Gets.seq ?_
  refine Gets.l0 Tryz.tabOk (s' := ?sn3) ?hn3 ?kn3; (case hn3 => (simp -implicitDefEqProofs (disch := first | decide | assumption | (try simp only [q_next, s_put_next]) <;> omega | exact pd_ (by kernel_rfl) | fail) only [sxM, Nat.reduceAdd, reduceCtorEq, Int.reduceToNat, Nat.reduceEqDiff, Int.reduceEq, Int.reduceLT, s_draw] <;> rfl)); (try (change Gets _ _ _ _ _ _; repeat refine Gets.seq ?_))
  refine Gets.ret Tryz.tabOk ?_
  have hf : cntB c = false := by simp [cntB, a0]
  exact fin_pure rfl (by rw [hf]; simp (disch := decide) only [sxL, Tryz.f54, resultA]) hg hN trivial
 cases a1 : okN c.up
 ·refine Gets.last Tryz.tabOk (ov := addOv noOv 88 ovW) (addOv_ok noOv_ok ovW_ok) 8 (s' := ?sn4) ?hn4 ?kn4; (case hn4 => (simp -implicitDefEqProofs (disch := first | decide | assumption | (try simp only [q_next, s_put_next]) <;> omega | exact pd_ (by kernel_rfl) | fail) only [sxM, Nat.reduceAdd, reduceCtorEq, Int.reduceToNat, Nat.reduceEqDiff, Int.reduceEq, Int.reduceLT, s_draw, hat, hcs, fa79_0, fa79_1, fa79_2, fa79_3, fa79_4, s_varFalse ia2, ovW_eq, a0, a1] <;> rfl)); (try (change Gets _ _ _ _ _ _; repeat refine Gets.seq ?_))
  refine Gets.condT (by simp (disch := decide) only [sxL]) ?_
  change Gets _ _ _ _ _ _
  repeat refine Gets.seq ?_
  refine Gets.l0 Tryz.tabOk (s' := ?sn5) ?hn5 ?kn5; (case hn5 => (simp -implicitDefEqProofs (disch := first | decide | assumption | (try simp only [q_next, s_put_next]) <;> omega | exact pd_ (by kernel_rfl) | fail) only [sxM, Nat.reduceAdd, reduceCtorEq, Int.reduceToNat, Nat.reduceEqDiff, Int.reduceEq, Int.reduceLT, s_draw] <;> rfl)); (try (change Gets _ _ _ _ _ _; repeat refine Gets.seq ?_))
  refine Gets.ret Tryz.tabOk ?_
  have hf : cntB c = false := by simp [cntB, a1]
  exact fin_pure rfl (by rw [hf]; simp (disch := decide) only [sxL, Tryz.f54, resultA]) hg hN trivial
 cases a2 : okN c.down
 ·refine Gets.last Tryz.tabOk (ov := addOv noOv 88 ovW) (addOv_ok noOv_ok ovW_ok) 8 (s' := ?sn6) ?hn6 ?kn6; (case hn6 => (simp -implicitDefEqProofs (disch := first | decide | assumption | (try simp only [q_next, s_put_next]) <;> omega | exact pd_ (by kernel_rfl) | fail) only [sxM, Nat.reduceAdd, reduceCtorEq, Int.reduceToNat, Nat.reduceEqDiff, Int.reduceEq, Int.reduceLT, s_draw, hat, hcs, fa79_0, fa79_1, fa79_2, fa79_3, fa79_4, s_varFalse ia2, ovW_eq, a0, a1, a2] <;> rfl)); (try (change Gets _ _ _ _ _ _; repeat refine Gets.seq ?_))
  refine Gets.condT (by simp (disch := decide) only [sxL]) ?_
  change Gets _ _ _ _ _ _
  repeat refine Gets.seq ?_
  refine Gets.l0 Tryz.tabOk (s' := ?sn7) ?hn7 ?kn7; (case hn7 => (simp -implicitDefEqProofs (disch := first | decide | assumption | (try simp only [q_next, s_put_next]) <;> omega | exact pd_ (by kernel_rfl) | fail) only [sxM, Nat.reduceAdd, reduceCtorEq, Int.reduceToNat, Nat.reduceEqDiff, Int.reduceEq, Int.reduceLT, s_draw] <;> rfl)); (try (change Gets _ _ _ _ _ _; repeat refine Gets.seq ?_))
  refine Gets.ret Tryz.tabOk ?_
  have hf : cntB c = false := by simp [cntB, a2]
  exact fin_pure rfl (by rw [hf]; simp (disch := decide) only [sxL, Tryz.f54, resultA]) hg hN trivial
 cases a3 : okN c.lo
 ·refine Gets.last Tryz.tabOk (ov := addOv noOv 88 ovW) (addOv_ok noOv_ok ovW_ok) 8 (s' := ?sn8) ?hn8 ?kn8; (case hn8 => (simp -implicitDefEqProofs (disch := first | decide | assumption | (try simp only [q_next, s_put_next]) <;> omega | exact pd_ (by kernel_rfl) | fail) only [sxM, Nat.reduceAdd, reduceCtorEq, Int.reduceToNat, Nat.reduceEqDiff, Int.reduceEq, Int.reduceLT, s_draw, hat, hcs, fa79_0, fa79_1, fa79_2, fa79_3, fa79_4, s_varFalse ia2, ovW_eq, a0, a1, a2, a3] <;> rfl)); (try (change Gets _ _ _ _ _ _; repeat refine Gets.seq ?_))
  refine Gets.condT (by simp (disch := decide) only [sxL]) ?_
  change Gets _ _ _ _ _ _
  repeat refine Gets.seq ?_
  refine Gets.l0 Tryz.tabOk (s' := ?sn9) ?hn9 ?kn9; (case hn9 => (simp -implicitDefEqProofs (disch := first | decide | assumption | (try simp only [q_next, s_put_next]) <;> omega | exact pd_ (by kernel_rfl) | fail) only [sxM, Nat.reduceAdd, reduceCtorEq, Int.reduceToNat, Nat.reduceEqDiff, Int.reduceEq, Int.reduceLT, s_draw] <;> rfl)); (try (change Gets _ _ _ _ _ _; repeat refine Gets.seq ?_))
  refine Gets.ret Tryz.tabOk ?_
  have hf : cntB c = false := by simp [cntB, a3]
  exact fin_pure rfl (by rw [hf]; simp (disch := decide) only [sxL, Tryz.f54, resultA]) hg hN trivial
 cases a4 : okN c.hi
 ·refine Gets.last Tryz.tabOk (ov := addOv noOv 88 ovW) (addOv_ok noOv_ok ovW_ok) 8 (s' := ?sn10) ?hn10 ?kn10; (case hn10 => (simp -implicitDefEqProofs (disch := first | decide | assumption | (try simp only [q_next, s_put_next]) <;> omega | exact pd_ (by kernel_rfl) | fail) only [sxM, Nat.reduceAdd, reduceCtorEq, Int.reduceToNat, Nat.reduceEqDiff, Int.reduceEq, Int.reduceLT, s_draw, hat, hcs, fa79_0, fa79_1, fa79_2, fa79_3, fa79_4, s_varFalse ia2, ovW_eq, a0, a1, a2, a3, a4] <;> rfl)); (try (change Gets _ _ _ _ _ _; repeat refine Gets.seq ?_))
  refine Gets.condT (by simp (disch := decide) only [sxL]) ?_
  change Gets _ _ _ _ _ _
  repeat refine Gets.seq ?_
  refine Gets.l0 Tryz.tabOk (s' := ?sn11) ?hn11 ?kn11; (case hn11 => (simp -implicitDefEqProofs (disch := first | decide | assumption | (try simp only [q_next, s_put_next]) <;> omega | exact pd_ (by kernel_rfl) | fail) only [sxM, Nat.reduceAdd, reduceCtorEq, Int.reduceToNat, Nat.reduceEqDiff, Int.reduceEq, Int.reduceLT, s_draw] <;> rfl)); (try (change Gets _ _ _ _ _ _; repeat refine Gets.seq ?_))
  refine Gets.ret Tryz.tabOk ?_
  have hf : cntB c = false := by simp [cntB, a4]
  exact fin_pure rfl (by rw [hf]; simp (disch := decide) only [sxL, Tryz.f54, resultA]) hg hN trivial
 refine Gets.last Tryz.tabOk (ov := addOv noOv 88 ovW) (addOv_ok noOv_ok ovW_ok) 8 (s' := ?sn12) ?hn12 ?kn12; (case hn12 => (simp -implicitDefEqProofs (disch := first | decide | assumption | (try simp only [q_next, s_put_next]) <;> omega | exact pd_ (by kernel_rfl) | fail) only [sxM, Nat.reduceAdd, reduceCtorEq, Int.reduceToNat, Nat.reduceEqDiff, Int.reduceEq, Int.reduceLT, s_draw, hat, hcs, fa79_0, fa79_1, fa79_2, fa79_3, fa79_4, s_varFalse ia2, ovW_eq, a0, a1, a2, a3, a4] <;> rfl)); (try (change Gets _ _ _ _ _ _; repeat refine Gets.seq ?_))
 refine Gets.condF (by simp (disch := decide) only [sxL]) (Gets.skip Tryz.tabOk ?_)
 change Gets _ _ _ _ _ _
 repeat refine Gets.seq ?_
 have r1 := okN_t a0; have r2 := okN_t a1; have r3 := okN_t a2; have r4 := okN_t a3; have r5 := okN_t a4
 have w1 : awrap .i64 (c.v - c.up) = c.v - c.up := s_wrap (by omega) (by omega)
 have w2 : awrap .i64 (c.v + c.down) = c.v + c.down := s_wrap (by omega) (by omega)
 by_cases b1 : c.up < 0
 ·refine Gets.l0 Tryz.tabOk (s' := ?sn13) ?hn13 ?kn13; (case hn13 => (simp -implicitDefEqProofs (disch := first | decide | assumption | (try simp only [q_next, s_put_next]) <;> omega | exact pd_ (by kernel_rfl) | fail) only [sxM, Nat.reduceAdd, reduceCtorEq, Int.reduceToNat, Nat.reduceEqDiff, Int.reduceEq, Int.reduceLT, s_draw, hat, hcs, fa79_0, fa79_1, fa79_2, fa79_3, fa79_4, s_varFalse ia2, w1, w2, b1] <;> rfl)); (try (change Gets _ _ _ _ _ _; repeat refine Gets.seq ?_))
  refine Gets.condT (by simp (disch := decide) only [sxL]) ?_
  change Gets _ _ _ _ _ _
  repeat refine Gets.seq ?_
  refine Gets.l0 Tryz.tabOk (s' := ?sn14) ?hn14 ?kn14; (case hn14 => (simp -implicitDefEqProofs (disch := first | decide | assumption | (try simp only [q_next, s_put_next]) <;> omega | exact pd_ (by kernel_rfl) | fail) only [sxM, Nat.reduceAdd, reduceCtorEq, Int.reduceToNat, Nat.reduceEqDiff, Int.reduceEq, Int.reduceLT, s_draw] <;> rfl)); (try (change Gets _ _ _ _ _ _; repeat refine Gets.seq ?_))
  refine Gets.ret Tryz.tabOk ?_
  have hf : cntB c = false := by simp [cntB, b1]
  exact fin_pure rfl (by rw [hf]; simp (disch := decide) only [sxL, Tryz.f54, resultA]) hg hN trivial
 by_cases b2 : c.down < 0
 ·refine Gets.l0 Tryz.tabOk (s' := ?sn15) ?hn15 ?kn15; (case hn15 => (simp -implicitDefEqProofs (disch := first | decide | assumption | (try simp only [q_next, s_put_next]) <;> omega | exact pd_ (by kernel_rfl) | fail) only [sxM, Nat.reduceAdd, reduceCtorEq, Int.reduceToNat, Nat.reduceEqDiff, Int.reduceEq, Int.reduceLT, s_draw, hat, hcs, fa79_0, fa79_1, fa79_2, fa79_3, fa79_4, s_varFalse ia2, w1, w2, b1, b2] <;> rfl)); (try (change Gets _ _ _ _ _ _; repeat refine Gets.seq ?_))
  refine Gets.condT (by simp (disch := decide) only [sxL]) ?_
  change Gets _ _ _ _ _ _
  repeat refine Gets.seq ?_
  refine Gets.l0 Tryz.tabOk (s' := ?sn16) ?hn16 ?kn16; (case hn16 => (simp -implicitDefEqProofs (disch := first | decide | assumption | (try simp only [q_next, s_put_next]) <;> omega | exact pd_ (by kernel_rfl) | fail) only [sxM, Nat.reduceAdd, reduceCtorEq, Int.reduceToNat, Nat.reduceEqDiff, Int.reduceEq, Int.reduceLT, s_draw] <;> rfl)); (try (change Gets _ _ _ _ _ _; repeat refine Gets.seq ?_))
  refine Gets.ret Tryz.tabOk ?_
  have hf : cntB c = false := by simp [cntB, b2]
  exact fin_pure rfl (by rw [hf]; simp (disch := decide) only [sxL, Tryz.f54, resultA]) hg hN trivial
 by_cases b3 : c.v - c.up < c.lo
 ·refine Gets.l0 Tryz.tabOk (s' := ?sn17) ?hn17 ?kn17; (case hn17 => (simp -implicitDefEqProofs (disch := first | decide | assumption | (try simp only [q_next, s_put_next]) <;> omega | exact pd_ (by kernel_rfl) | fail) only [sxM, Nat.reduceAdd, reduceCtorEq, Int.reduceToNat, Nat.reduceEqDiff, Int.reduceEq, Int.reduceLT, s_draw, hat, hcs, fa79_0, fa79_1, fa79_2, fa79_3, fa79_4, s_varFalse ia2, w1, w2, b1, b2, b3] <;> rfl)); (try (change Gets _ _ _ _ _ _; repeat refine Gets.seq ?_))
  refine Gets.condT (by simp (disch := decide) only [sxL]) ?_
  change Gets _ _ _ _ _ _
  repeat refine Gets.seq ?_
  refine Gets.l0 Tryz.tabOk (s' := ?sn18) ?hn18 ?kn18; (case hn18 => (simp -implicitDefEqProofs (disch := first | decide | assumption | (try simp only [q_next, s_put_next]) <;> omega | exact pd_ (by kernel_rfl) | fail) only [sxM, Nat.reduceAdd, reduceCtorEq, Int.reduceToNat, Nat.reduceEqDiff, Int.reduceEq, Int.reduceLT, s_draw] <;> rfl)); (try (change Gets _ _ _ _ _ _; repeat refine Gets.seq ?_))
  refine Gets.ret Tryz.tabOk ?_
  have hf : cntB c = false := by simp [cntB, b3]
  exact fin_pure rfl (by rw [hf]; simp (disch := decide) only [sxL, Tryz.f54, resultA]) hg hN trivial
 by_cases b4 : c.hi < c.v + c.down
 ·refine Gets.l0 Tryz.tabOk (s' := ?sn19) ?hn19 ?kn19; (case hn19 => (simp -implicitDefEqProofs (disch := first | decide | assumption | (try simp only [q_next, s_put_next]) <;> omega | exact pd_ (by kernel_rfl) | fail) only [sxM, Nat.reduceAdd, reduceCtorEq, Int.reduceToNat, Nat.reduceEqDiff, Int.reduceEq, Int.reduceLT, s_draw, hat, hcs, fa79_0, fa79_1, fa79_2, fa79_3, fa79_4, s_varFalse ia2, w1, w2, b1, b2, b3, b4] <;> rfl)); (try (change Gets _ _ _ _ _ _; repeat refine Gets.seq ?_))
  refine Gets.condT (by simp (disch := decide) only [sxL]) ?_
  change Gets _ _ _ _ _ _
  repeat refine Gets.seq ?_
  refine Gets.l0 Tryz.tabOk (s' := ?sn20) ?hn20 ?kn20; (case hn20 => (simp -implicitDefEqProofs (disch := first | decide | assumption | (try simp only [q_next, s_put_next]) <;> omega | exact pd_ (by kernel_rfl) | fail) only [sxM, Nat.reduceAdd, reduceCtorEq, Int.reduceToNat, Nat.reduceEqDiff, Int.reduceEq, Int.reduceLT, s_draw] <;> rfl)); (try (change Gets _ _ _ _ _ _; repeat refine Gets.seq ?_))
  refine Gets.ret Tryz.tabOk ?_
  have hf : cntB c = false := by simp [cntB, b4]
  exact fin_pure rfl (by rw [hf]; simp (disch := decide) only [sxL, Tryz.f54, resultA]) hg hN trivial
 refine Gets.l0 Tryz.tabOk (s' := ?sn21) ?hn21 ?kn21; (case hn21 => (simp -implicitDefEqProofs (disch := first | decide | assumption | (try simp only [q_next, s_put_next]) <;> omega | exact pd_ (by kernel_rfl) | fail) only [sxM, Nat.reduceAdd, reduceCtorEq, Int.reduceToNat, Nat.reduceEqDiff, Int.reduceEq, Int.reduceLT, s_draw, hat, hcs, fa79_0, fa79_1, fa79_2, fa79_3, fa79_4, s_varFalse ia2, w1, w2, b1, b2, b3, b4] <;> rfl)); (try (change Gets _ _ _ _ _ _; repeat refine Gets.seq ?_))
 refine Gets.condF (by simp (disch := decide) only [sxL]) (Gets.skip Tryz.tabOk ?_)
 change Gets _ _ _ _ _ _
 repeat refine Gets.seq ?_
 refine Gets.l0 Tryz.tabOk (s' := ?sn22) ?hn22 ?kn22; (case hn22 => (simp -implicitDefEqProofs (disch := first | decide | assumption | (try simp only [q_next, s_put_next]) <;> omega | exact pd_ (by kernel_rfl) | fail) only [sxM, Nat.reduceAdd, reduceCtorEq, Int.reduceToNat, Nat.reduceEqDiff, Int.reduceEq, Int.reduceLT, s_draw] <;> rfl)); (try (change Gets _ _ _ _ _ _; repeat refine Gets.seq ?_))
 refine Gets.ret Tryz.tabOk ?_
 have hf : cntB c = true := by simp [cntB, a0, a1, a2, a3, a4, b1, b2, b3, b4]
 exact fin_pure rfl (by rw [hf]; simp (disch := decide) only [sxL, Tryz.f54, resultA]) hg hN trivial
end Go.Proofs
namespace Go.Proofs
open Go.Sx
set_option maxRecDepth 100000
def ixV {α : Type} (p : α → Bool) (l : List α) : Int := if l.any p = true then ((l.findIdx p : Nat) : Int) else -1
theorem findIdx_first {α : Type} {p : α → Bool} : ∀ {l : List α} {i : Nat} {a : α}, l[i]? = some a → p a = true → (∀ j b, j < i → l[j]? = some b → p b = false) → l.findIdx p = i
 | [], _, _, h, _, _ => by simp at h
 | x :: l, 0, a, h, hp, _ => by
  simp only [List.getElem?_cons_zero, Option.some.injEq] at h; subst h
  rw [List.findIdx_cons, hp]; rfl
 | x :: l, i + 1, a, h, hp, hn => by
  have hx : p x = false := hn 0 x (by omega) rfl
  rw [List.findIdx_cons, hx, cond_false, findIdx_first (l := l) (i := i) (by simpa using h) hp fun j b hj hb => hn (j + 1) b (by omega) (by simpa using hb)]
theorem ixV_found {α : Type} {p : α → Bool} {l : List α} {i : Nat} {a : α} (h : l[i]? = some a) (hp : p a = true) (hn : ∀ j b, j < i → l[j]? = some b → p b = false) : ixV p l = (i : Int) := by
 unfold ixV
 rw [if_pos (List.any_eq_true.2 ⟨a, List.mem_of_getElem? h, hp⟩), findIdx_first h hp hn]
theorem any_none {α : Type} {p : α → Bool} {l : List α} (hn : ∀ j b, j < l.length → l[j]? = some b → p b = false) : l.any p = false := by
 rw [List.any_eq_false]
 intro a ha
 obtain ⟨j, hj⟩ := List.mem_iff_getElem?.1 ha
 have := hn j a (List.getElem?_eq_some_iff.1 hj).1 hj
 simp [this]
theorem ixV_none {α : Type} {p : α → Bool} {l : List α} (hn : ∀ j b, j < l.length → l[j]? = some b → p b = false) : ixV p l = -1 := by
 unfold ixV
 rw [any_none hn]; rfl
theorem ixV_any {α : Type} (p : α → Bool) (l : List α) : (decide (ixV p l < 0)) = !(l.any p) := by
 unfold ixV
 cases h : l.any p
 ·rfl
 ·have : ¬ (((l.findIdx p : Nat) : Int) < 0) := by omega
  simp [this]
abbrev keyC (s : List UInt8) : List AV := [.str s]
abbrev KeysAt (H : Heap) (v : AV) (ks : List (List UInt8)) : Prop := RowsAt 9 1 keyC H v ks
abbrev CntsAt (H : Heap) (v : AV) (cs : List CntV) : Prop := RowsAt 79 5 CntV.cells H v cs
theorem cchk1_to (s : List UInt8) (hlen : s.length < 1000000000) (H : Heap) (hN : Neat H) : CallTo Tryz.prog Tryz.tab 38 [.str s] H [(.bool (!nameB s), H)] := by
 refine callTo_pure (n := 20) (v := .bool (!nameB s)) Tryz.tabOk (ov := ptO noOv 39 [.str s] H [(.bool (nameB s), H)]) (ptO_ok noOv_ok (name_to s hlen H hN)) (H' := H) ?_ (.refl _) hN trivial
 rw [s_callO, s_callB, get38, s_ptNe _ (by decide)]
 simp -implicitDefEqProofs (disch := first | decide | assumption | (try simp only [q_next, s_put_next]) <;> omega | exact pd_ (by kernel_rfl) | fail) only [sxM, Nat.reduceAdd, reduceCtorEq, Int.reduceToNat, Nat.reduceEqDiff, Int.reduceEq, Int.reduceLT, Tryz.f38, s_ptEq]
theorem cchk2_to (c : CntV) (H : Heap) (hN : Neat H) : CallTo Tryz.prog Tryz.tab 40 [.agg c.cells] H [(.bool (wrongB c), H)] := by
 refine callTo_of Tryz.tabOk Tryz.func40 rfl rfl ?_
 show Gets Tryz.prog Tryz.tab ⟨none, 16⟩ _ _ _
 repeat refine Gets.seq ?_
 have hg : Grows H (H.push (cntBl c)) := .push _ _
 have hat : (H.push (cntBl c)).blks.get H.next = some (cntBl c) := s_push_same _ _
 have hN1 : Neat (H.push (cntBl c)) := hN.push _
 have hone : allOne c.cells = true := rfl
 have hcs : c.cells = [.int .i64 c.v, .int .i64 c.up, .int .i64 c.down, .int .i64 c.lo, .int .i64 c.hi] := rfl
 have c5 : Sx.cellsIn ((H.push (cntBl c)).blks.get H.next) 0 5 = some c.cells := by rw [hat]; rfl
 have f1 : cellIn ((H.push (cntBl c)).blks.get H.next) 1 = some (.int .i64 c.up) := by rw [hat]; rfl
 have f2 : cellIn ((H.push (cntBl c)).blks.get H.next) 2 = some (.int .i64 c.down) := by rw [hat]; rfl
 generalize hH1 : H.push (cntBl c) = H1 at hg hat hN1 c5 f1 f2
 unfold cntBl at hH1 hat
 have q := cntchk_to c H1 hN1
 refine Gets.l0 Tryz.tabOk (s' := ?sn1) ?hn1 ?kn1; (case hn1 => (simp -implicitDefEqProofs (disch := first | decide | assumption | (try simp only [q_next, s_put_next]) <;> omega | exact pd_ (by kernel_rfl) | fail) only [sxM, Nat.reduceAdd, reduceCtorEq, Int.reduceToNat, Nat.reduceEqDiff, Int.reduceEq, Int.reduceLT, s_draw, hone, hH1] <;> rfl)); (try (change Gets _ _ _ _ _ _; repeat refine Gets.seq ?_))
 cases a0 : cntB c
 ·rw [a0] at q
  have q : CallTo Tryz.prog Tryz.tab 41 [.agg c.cells] H1 [(.int .i64 2, H1)] := q
  refine Gets.last Tryz.tabOk (ov := ptO noOv 41 [.agg c.cells] H1 [(.int .i64 2, H1)]) (ptO_ok noOv_ok q) 8 (s' := ?sn2) ?hn2 ?kn2; (case hn2 => (simp -implicitDefEqProofs (disch := first | decide | assumption | (try simp only [q_next, s_put_next]) <;> omega | exact pd_ (by kernel_rfl) | fail) only [sxM, Nat.reduceAdd, reduceCtorEq, Int.reduceToNat, Nat.reduceEqDiff, Int.reduceEq, Int.reduceLT, s_draw, s_ptEq, s_varTrue ia79 sz79, c5] <;> rfl)); (try (change Gets _ _ _ _ _ _; repeat refine Gets.seq ?_))
  refine Gets.ret Tryz.tabOk ?_
  have hf : wrongB c = true := by simp [wrongB, a0]
  exact fin_pure rfl (by rw [hf]; simp (disch := decide) only [sxL, Tryz.f40, resultA]) hg hN trivial
 rw [a0] at q
 have q : CallTo Tryz.prog Tryz.tab 41 [.agg c.cells] H1 [(.int .i64 0, H1)] := q
 by_cases a1 : c.up = 0
 ·have d1 : decide (c.up = 0) = true := decide_eq_true a1
  by_cases a2 : c.down = 0
  ·have d2 : decide (c.down = 0) = true := decide_eq_true a2
   refine Gets.last Tryz.tabOk (ov := ptO noOv 41 [.agg c.cells] H1 [(.int .i64 0, H1)]) (ptO_ok noOv_ok q) 8 (s' := ?sn3) ?hn3 ?kn3; (case hn3 => (simp -implicitDefEqProofs (disch := first | decide | assumption | (try simp only [q_next, s_put_next]) <;> omega | exact pd_ (by kernel_rfl) | fail) only [sxM, Nat.reduceAdd, reduceCtorEq, Int.reduceToNat, Nat.reduceEqDiff, Int.reduceEq, Int.reduceLT, s_draw, s_ptEq, s_varTrue ia79 sz79, c5, f1, f2, fa79_1, fa79_2, s_varFalse ia2, d1, d2] <;> rfl)); (try (change Gets _ _ _ _ _ _; repeat refine Gets.seq ?_))
   refine Gets.ret Tryz.tabOk ?_
   have hf : wrongB c = false := by simp [wrongB, a0, a1, a2]
   exact fin_pure rfl (by rw [hf]; simp (disch := decide) only [sxL, Tryz.f40, resultA]) hg hN trivial
  ·have d2 : decide (c.down = 0) = false := decide_eq_false a2
   refine Gets.last Tryz.tabOk (ov := ptO noOv 41 [.agg c.cells] H1 [(.int .i64 0, H1)]) (ptO_ok noOv_ok q) 8 (s' := ?sn4) ?hn4 ?kn4; (case hn4 => (simp -implicitDefEqProofs (disch := first | decide | assumption | (try simp only [q_next, s_put_next]) <;> omega | exact pd_ (by kernel_rfl) | fail) only [sxM, Nat.reduceAdd, reduceCtorEq, Int.reduceToNat, Nat.reduceEqDiff, Int.reduceEq, Int.reduceLT, s_draw, s_ptEq, s_varTrue ia79 sz79, c5, f1, f2, fa79_1, fa79_2, s_varFalse ia2, d1, d2] <;> rfl)); (try (change Gets _ _ _ _ _ _; repeat refine Gets.seq ?_))
   refine Gets.ret Tryz.tabOk ?_
   have hf : wrongB c = true := by simp [wrongB, a0, a1, a2]
   exact fin_pure rfl (by rw [hf]; simp (disch := decide) only [sxL, Tryz.f40, resultA]) hg hN trivial
 ·have d1 : decide (c.up = 0) = false := decide_eq_false a1
  refine Gets.last Tryz.tabOk (ov := ptO noOv 41 [.agg c.cells] H1 [(.int .i64 0, H1)]) (ptO_ok noOv_ok q) 8 (s' := ?sn5) ?hn5 ?kn5; (case hn5 => (simp -implicitDefEqProofs (disch := first | decide | assumption | (try simp only [q_next, s_put_next]) <;> omega | exact pd_ (by kernel_rfl) | fail) only [sxM, Nat.reduceAdd, reduceCtorEq, Int.reduceToNat, Nat.reduceEqDiff, Int.reduceEq, Int.reduceLT, s_draw, s_ptEq, s_varTrue ia79 sz79, c5, f1, f2, fa79_1, fa79_2, s_varFalse ia2, d1] <;> rfl)); (try (change Gets _ _ _ _ _ _; repeat refine Gets.seq ?_))
  refine Gets.ret Tryz.tabOk ?_
  have hf : wrongB c = true := by simp [wrongB, a0, a1]
  exact fin_pure rfl (by rw [hf]; simp (disch := decide) only [sxL, Tryz.f40, resultA]) hg hN trivial
end Go.Proofs
namespace Go.Proofs
open Go.Sx
set_option maxRecDepth 100000
theorem ixS_to (v : AV) (l : List (List UInt8)) (H : Heap) (hN : Neat H) (hv : KeysAt H v l) (hk : ∀ s ∈ l, s.length < 1000000000) (hl : l.length < 1000000000) : CallTo Tryz.prog Tryz.tab 83 [v, .func (.func 38) [] []] H [(.int .i64 (ixV (fun a => !nameB a) l), H)] := by
 refine callTo_of Tryz.tabOk Tryz.func83 rfl rfl ?_
 show Gets Tryz.prog Tryz.tab ⟨none, 19⟩ _ _ _
 repeat refine Gets.seq ?_
 have hone := hv.one
 have hlen := hv.len ud22 H
 refine Gets.l0 Tryz.tabOk (s' := ?sn1) ?hn1 ?kn1; (case hn1 => (simp -implicitDefEqProofs (disch := first | decide | assumption | (try simp only [q_next, s_put_next]) <;> omega | exact pd_ (by kernel_rfl) | fail) only [sxM, Nat.reduceAdd, reduceCtorEq, Int.reduceToNat, Nat.reduceEqDiff, Int.reduceEq, Int.reduceLT, s_draw, hone] <;> rfl)); (try (change Gets _ _ _ _ _ _; repeat refine Gets.seq ?_))
 refine Gets.l0 Tryz.tabOk (s' := ?sn2) ?hn2 ?kn2; (case hn2 => (simp -implicitDefEqProofs (disch := first | decide | assumption | (try simp only [q_next, s_put_next]) <;> omega | exact pd_ (by kernel_rfl) | fail) only [sxM, Nat.reduceAdd, reduceCtorEq, Int.reduceToNat, Nat.reduceEqDiff, Int.reduceEq, Int.reduceLT, s_draw, hone, hlen] <;> rfl)); (try (change Gets _ _ _ _ _ _; repeat refine Gets.seq ?_))
 have hbound : (l.length : Int) ≤ 9223372036854775807 ∨ True := .inr trivial
 refine Gets.upto l.length (fun i tm => tm.get 0 = some v ∧ tm.get 1 = some (.func (.func 38) [] []) ∧ tm.get 7 = some (.int .i64 (l.length : Int)) ∧ tm.get 8 = some (.int .i64 (i : Int)) ∧ ∀ j b, j < i → l[j]? = some b → (fun a => !nameB a) b = false) ⟨by simp (disch := decide) only [sxL], by simp (disch := decide) only [sxL], by simp (disch := decide) only [sxL], by simp (disch := decide) only [sxL], fun j b hj => absurd hj (Nat.not_lt_zero _)⟩ ?_
 rintro i tm hi ⟨i0, i1, i7, i8, hn⟩
 repeat refine Gets.seq ?_
 by_cases hlt : (i : Int) < (l.length : Int)
 ·obtain ⟨a, ha⟩ : ∃ a, l[i]? = some a := ⟨_, List.getElem?_eq_getElem (by omega)⟩
  obtain ⟨b, hx, hc1, hc2⟩ := hv.row ud22 sz9 (fun _ => rfl) ha
  have hld : cellIn (H.blks.get b) (i * 1) = some (.str a) := hc1 0 (by omega)
  have q := cchk1_to a (hk a (List.mem_of_getElem? ha)) H hN
  have hw : awrap .i64 ((i : Int) + 1) = (i : Int) + 1 := s_wrap (by omega) (by have := hl; omega)
  refine Gets.l0 Tryz.tabOk (s' := ?sn3) ?hn3 ?kn3; (case hn3 => (simp -implicitDefEqProofs (disch := first | decide | assumption | (try simp only [q_next, s_put_next]) <;> omega | exact pd_ (by kernel_rfl) | fail) only [sxM, Nat.reduceAdd, reduceCtorEq, Int.reduceToNat, Nat.reduceEqDiff, Int.reduceEq, Int.reduceLT, s_draw, i7, i8, hlt] <;> rfl)); (try (change Gets _ _ _ _ _ _; repeat refine Gets.seq ?_))
  refine Gets.condT (by simp (disch := decide) only [sxL]) (Gets.skip Tryz.tabOk ?_)
  change Gets _ _ _ _ _ _
  refine Gets.seq (Gets.blk ?_)
  repeat refine Gets.seq ?_
  refine Gets.l0 Tryz.tabOk (s' := ?sn4) ?hn4 ?kn4; (case hn4 => (simp -implicitDefEqProofs (disch := first | decide | assumption | (try simp only [q_next, s_put_next]) <;> omega | exact pd_ (by kernel_rfl) | fail) only [sxM, Nat.reduceAdd, reduceCtorEq, Int.reduceToNat, Nat.reduceEqDiff, Int.reduceEq, Int.reduceLT, s_draw, i8] <;> rfl)); (try (change Gets _ _ _ _ _ _; repeat refine Gets.seq ?_))
  cases hp : (!nameB a : Bool)
  ·rw [hp] at q
   refine Gets.last Tryz.tabOk (ov := ptO noOv 38 [.str a] H [(.bool false, H)]) (ptO_ok noOv_ok q) 8 (s' := ?sn5) ?hn5 ?kn5; (case hn5 => (simp -implicitDefEqProofs (disch := first | decide | assumption | (try simp only [q_next, s_put_next]) <;> omega | exact pd_ (by kernel_rfl) | fail) only [sxM, Nat.reduceAdd, reduceCtorEq, Int.reduceToNat, Nat.reduceEqDiff, Int.reduceEq, Int.reduceLT, s_draw, s_ptEq, i0, i1, hx, s_varFalse ia9, hld] <;> rfl)); (try (change Gets _ _ _ _ _ _; repeat refine Gets.seq ?_))
   refine Gets.condF (by simp (disch := decide) only [sxL]) (Gets.skip Tryz.tabOk ?_)
   refine inBlk_normal ?_
   change Gets _ _ _ _ _ _
   refine Gets.l0 Tryz.tabOk (s' := ?sn6) ?hn6 ?kn6; (case hn6 => (simp -implicitDefEqProofs (disch := first | decide | assumption | (try simp only [q_next, s_put_next]) <;> omega | exact pd_ (by kernel_rfl) | fail) only [sxM, Nat.reduceAdd, reduceCtorEq, Int.reduceToNat, Nat.reduceEqDiff, Int.reduceEq, Int.reduceLT, s_draw, i8, hw] <;> rfl)); (try (change Gets _ _ _ _ _ _; repeat refine Gets.seq ?_))
   refine ⟨_, rfl, by omega, by simp (disch := decide) only [sxL, i0], by simp (disch := decide) only [sxL, i1], by simp (disch := decide) only [sxL, i7], by simp (disch := decide) only [sxL, s_castS], fun j c hj hc => ?_⟩
   by_cases hji : j = i
   ·subst hji
    rw [ha] at hc
    simp only [Option.some.injEq] at hc
    subst hc; exact hp
   ·exact hn j c (by omega) hc
  ·rw [hp] at q
   refine Gets.last Tryz.tabOk (ov := ptO noOv 38 [.str a] H [(.bool true, H)]) (ptO_ok noOv_ok q) 8 (s' := ?sn7) ?hn7 ?kn7; (case hn7 => (simp -implicitDefEqProofs (disch := first | decide | assumption | (try simp only [q_next, s_put_next]) <;> omega | exact pd_ (by kernel_rfl) | fail) only [sxM, Nat.reduceAdd, reduceCtorEq, Int.reduceToNat, Nat.reduceEqDiff, Int.reduceEq, Int.reduceLT, s_draw, s_ptEq, i0, i1, hx, s_varFalse ia9, hld] <;> rfl)); (try (change Gets _ _ _ _ _ _; repeat refine Gets.seq ?_))
   refine Gets.condT (by simp (disch := decide) only [sxL]) ?_
   change Gets _ _ _ _ _ _
   repeat refine Gets.seq ?_
   refine Gets.l0 Tryz.tabOk (s' := ?sn8) ?hn8 ?kn8; (case hn8 => (simp -implicitDefEqProofs (disch := first | decide | assumption | (try simp only [q_next, s_put_next]) <;> omega | exact pd_ (by kernel_rfl) | fail) only [sxM, Nat.reduceAdd, reduceCtorEq, Int.reduceToNat, Nat.reduceEqDiff, Int.reduceEq, Int.reduceLT, s_draw, i8] <;> rfl)); (try (change Gets _ _ _ _ _ _; repeat refine Gets.seq ?_))
   refine Gets.ret Tryz.tabOk ?_
   exact fin_pure rfl (by rw [ixV_found ha hp hn]; simp (disch := decide) only [sxL, Tryz.f83, resultA]) (.refl _) hN trivial
 ·have h5 : i = l.length := by omega
  subst h5
  refine Gets.l0 Tryz.tabOk (s' := ?sn9) ?hn9 ?kn9; (case hn9 => (simp -implicitDefEqProofs (disch := first | decide | assumption | (try simp only [q_next, s_put_next]) <;> omega | exact pd_ (by kernel_rfl) | fail) only [sxM, Nat.reduceAdd, reduceCtorEq, Int.reduceToNat, Nat.reduceEqDiff, Int.reduceEq, Int.reduceLT, s_draw, i7, i8, hlt] <;> rfl)); (try (change Gets _ _ _ _ _ _; repeat refine Gets.seq ?_))
  refine Gets.condF (by simp (disch := decide) only [sxL]) (Gets.exit Tryz.tabOk ?_)
  refine inBlk_exit ?_
  change Gets _ _ _ _ _ _
  repeat refine Gets.seq ?_
  refine Gets.l0 Tryz.tabOk (s' := ?sn10) ?hn10 ?kn10; (case hn10 => (simp -implicitDefEqProofs (disch := first | decide | assumption | (try simp only [q_next, s_put_next]) <;> omega | exact pd_ (by kernel_rfl) | fail) only [sxM, Nat.reduceAdd, reduceCtorEq, Int.reduceToNat, Nat.reduceEqDiff, Int.reduceEq, Int.reduceLT, s_draw] <;> rfl)); (try (change Gets _ _ _ _ _ _; repeat refine Gets.seq ?_))
  refine Gets.ret Tryz.tabOk ?_
  exact fin_pure rfl (by rw [ixV_none hn]; simp (disch := decide) only [sxL, Tryz.f83, resultA]) (.refl _) hN trivial
theorem cfS_to (v : AV) (l : List (List UInt8)) (H : Heap) (hN : Neat H) (hv : KeysAt H v l) (hk : ∀ s ∈ l, s.length < 1000000000) (hl : l.length < 1000000000) : CallTo Tryz.prog Tryz.tab 37 [v, .func (.func 38) [] []] H [(.bool (l.any fun a => !nameB a), H)] := by
 have hone := hv.one
 refine callTo_pure (n := 20) (v := .bool (l.any fun a => !nameB a)) Tryz.tabOk (ov := ptO noOv 83 [v, .func (.func 38) [] []] H [(.int .i64 (ixV (fun a => !nameB a) l), H)]) (ptO_ok noOv_ok (ixS_to v l H hN hv hk hl)) (H' := H) ?_ (.refl _) hN trivial
 rw [s_callO, s_callB, get37, s_ptNe _ (by decide)]
 have hd := ixV_any (fun a => !nameB a) l
 simp -implicitDefEqProofs (disch := first | decide | assumption | (try simp only [q_next, s_put_next]) <;> omega | exact pd_ (by kernel_rfl) | fail) only [sxM, Nat.reduceAdd, reduceCtorEq, Int.reduceToNat, Nat.reduceEqDiff, Int.reduceEq, Int.reduceLT, Tryz.f37, hone, s_ptEq, hd]
theorem ixC_to (v : AV) (l : List CntV) (H : Heap) (hN : Neat H) (hv : CntsAt H v l) (hl : l.length < 1000000000) : CallTo Tryz.prog Tryz.tab 87 [v, .func (.func 40) [] []] H [(.int .i64 (ixV (fun a => wrongB a) l), H)] := by
 refine callTo_of Tryz.tabOk Tryz.func87 rfl rfl ?_
 show Gets Tryz.prog Tryz.tab ⟨none, 19⟩ _ _ _
 repeat refine Gets.seq ?_
 have hone := hv.one
 have hlen := hv.len ud23 H
 refine Gets.l0 Tryz.tabOk (s' := ?sn11) ?hn11 ?kn11; (case hn11 => (simp -implicitDefEqProofs (disch := first | decide | assumption | (try simp only [q_next, s_put_next]) <;> omega | exact pd_ (by kernel_rfl) | fail) only [sxM, Nat.reduceAdd, reduceCtorEq, Int.reduceToNat, Nat.reduceEqDiff, Int.reduceEq, Int.reduceLT, s_draw, hone] <;> rfl)); (try (change Gets _ _ _ _ _ _; repeat refine Gets.seq ?_))
 refine Gets.l0 Tryz.tabOk (s' := ?sn12) ?hn12 ?kn12; (case hn12 => (simp -implicitDefEqProofs (disch := first | decide | assumption | (try simp only [q_next, s_put_next]) <;> omega | exact pd_ (by kernel_rfl) | fail) only [sxM, Nat.reduceAdd, reduceCtorEq, Int.reduceToNat, Nat.reduceEqDiff, Int.reduceEq, Int.reduceLT, s_draw, hone, hlen] <;> rfl)); (try (change Gets _ _ _ _ _ _; repeat refine Gets.seq ?_))
 have hbound : (l.length : Int) ≤ 9223372036854775807 ∨ True := .inr trivial
 refine Gets.upto l.length (fun i tm => tm.get 0 = some v ∧ tm.get 1 = some (.func (.func 40) [] []) ∧ tm.get 7 = some (.int .i64 (l.length : Int)) ∧ tm.get 8 = some (.int .i64 (i : Int)) ∧ ∀ j b, j < i → l[j]? = some b → (fun a => wrongB a) b = false) ⟨by simp (disch := decide) only [sxL], by simp (disch := decide) only [sxL], by simp (disch := decide) only [sxL], by simp (disch := decide) only [sxL], fun j b hj => absurd hj (Nat.not_lt_zero _)⟩ ?_
 rintro i tm hi ⟨i0, i1, i7, i8, hn⟩
 repeat refine Gets.seq ?_
 by_cases hlt : (i : Int) < (l.length : Int)
 ·obtain ⟨a, ha⟩ : ∃ a, l[i]? = some a := ⟨_, List.getElem?_eq_getElem (by omega)⟩
  obtain ⟨b, hx, hc1, hc2⟩ := hv.row ud23 sz79 (fun _ => rfl) ha
  have hld : Sx.cellsIn (H.blks.get b) (i * 5) 5 = some a.cells := hc2 0 5 (by omega)
  have q := cchk2_to a H hN
  have hw : awrap .i64 ((i : Int) + 1) = (i : Int) + 1 := s_wrap (by omega) (by have := hl; omega)
  refine Gets.l0 Tryz.tabOk (s' := ?sn13) ?hn13 ?kn13; (case hn13 => (simp -implicitDefEqProofs (disch := first | decide | assumption | (try simp only [q_next, s_put_next]) <;> omega | exact pd_ (by kernel_rfl) | fail) only [sxM, Nat.reduceAdd, reduceCtorEq, Int.reduceToNat, Nat.reduceEqDiff, Int.reduceEq, Int.reduceLT, s_draw, i7, i8, hlt] <;> rfl)); (try (change Gets _ _ _ _ _ _; repeat refine Gets.seq ?_))
  refine Gets.condT (by simp (disch := decide) only [sxL]) (Gets.skip Tryz.tabOk ?_)
  change Gets _ _ _ _ _ _
  refine Gets.seq (Gets.blk ?_)
  repeat refine Gets.seq ?_
  refine Gets.l0 Tryz.tabOk (s' := ?sn14) ?hn14 ?kn14; (case hn14 => (simp -implicitDefEqProofs (disch := first | decide | assumption | (try simp only [q_next, s_put_next]) <;> omega | exact pd_ (by kernel_rfl) | fail) only [sxM, Nat.reduceAdd, reduceCtorEq, Int.reduceToNat, Nat.reduceEqDiff, Int.reduceEq, Int.reduceLT, s_draw, i8] <;> rfl)); (try (change Gets _ _ _ _ _ _; repeat refine Gets.seq ?_))
  cases hp : (wrongB a : Bool)
  ·rw [hp] at q
   refine Gets.last Tryz.tabOk (ov := ptO noOv 40 [.agg a.cells] H [(.bool false, H)]) (ptO_ok noOv_ok q) 8 (s' := ?sn15) ?hn15 ?kn15; (case hn15 => (simp -implicitDefEqProofs (disch := first | decide | assumption | (try simp only [q_next, s_put_next]) <;> omega | exact pd_ (by kernel_rfl) | fail) only [sxM, Nat.reduceAdd, reduceCtorEq, Int.reduceToNat, Nat.reduceEqDiff, Int.reduceEq, Int.reduceLT, s_draw, s_ptEq, i0, i1, hx, s_varTrue ia79 sz79, hld] <;> rfl)); (try (change Gets _ _ _ _ _ _; repeat refine Gets.seq ?_))
   refine Gets.condF (by simp (disch := decide) only [sxL]) (Gets.skip Tryz.tabOk ?_)
   refine inBlk_normal ?_
   change Gets _ _ _ _ _ _
   refine Gets.l0 Tryz.tabOk (s' := ?sn16) ?hn16 ?kn16; (case hn16 => (simp -implicitDefEqProofs (disch := first | decide | assumption | (try simp only [q_next, s_put_next]) <;> omega | exact pd_ (by kernel_rfl) | fail) only [sxM, Nat.reduceAdd, reduceCtorEq, Int.reduceToNat, Nat.reduceEqDiff, Int.reduceEq, Int.reduceLT, s_draw, i8, hw] <;> rfl)); (try (change Gets _ _ _ _ _ _; repeat refine Gets.seq ?_))
   refine ⟨_, rfl, by omega, by simp (disch := decide) only [sxL, i0], by simp (disch := decide) only [sxL, i1], by simp (disch := decide) only [sxL, i7], by simp (disch := decide) only [sxL, s_castS], fun j c hj hc => ?_⟩
   by_cases hji : j = i
   ·subst hji
    rw [ha] at hc
    simp only [Option.some.injEq] at hc
    subst hc; exact hp
   ·exact hn j c (by omega) hc
  ·rw [hp] at q
   refine Gets.last Tryz.tabOk (ov := ptO noOv 40 [.agg a.cells] H [(.bool true, H)]) (ptO_ok noOv_ok q) 8 (s' := ?sn17) ?hn17 ?kn17; (case hn17 => (simp -implicitDefEqProofs (disch := first | decide | assumption | (try simp only [q_next, s_put_next]) <;> omega | exact pd_ (by kernel_rfl) | fail) only [sxM, Nat.reduceAdd, reduceCtorEq, Int.reduceToNat, Nat.reduceEqDiff, Int.reduceEq, Int.reduceLT, s_draw, s_ptEq, i0, i1, hx, s_varTrue ia79 sz79, hld] <;> rfl)); (try (change Gets _ _ _ _ _ _; repeat refine Gets.seq ?_))
   refine Gets.condT (by simp (disch := decide) only [sxL]) ?_
   change Gets _ _ _ _ _ _
   repeat refine Gets.seq ?_
   refine Gets.l0 Tryz.tabOk (s' := ?sn18) ?hn18 ?kn18; (case hn18 => (simp -implicitDefEqProofs (disch := first | decide | assumption | (try simp only [q_next, s_put_next]) <;> omega | exact pd_ (by kernel_rfl) | fail) only [sxM, Nat.reduceAdd, reduceCtorEq, Int.reduceToNat, Nat.reduceEqDiff, Int.reduceEq, Int.reduceLT, s_draw, i8] <;> rfl)); (try (change Gets _ _ _ _ _ _; repeat refine Gets.seq ?_))
   refine Gets.ret Tryz.tabOk ?_
   exact fin_pure rfl (by rw [ixV_found ha hp hn]; simp (disch := decide) only [sxL, Tryz.f87, resultA]) (.refl _) hN trivial
 ·have h5 : i = l.length := by omega
  subst h5
  refine Gets.l0 Tryz.tabOk (s' := ?sn19) ?hn19 ?kn19; (case hn19 => (simp -implicitDefEqProofs (disch := first | decide | assumption | (try simp only [q_next, s_put_next]) <;> omega | exact pd_ (by kernel_rfl) | fail) only [sxM, Nat.reduceAdd, reduceCtorEq, Int.reduceToNat, Nat.reduceEqDiff, Int.reduceEq, Int.reduceLT, s_draw, i7, i8, hlt] <;> rfl)); (try (change Gets _ _ _ _ _ _; repeat refine Gets.seq ?_))
  refine Gets.condF (by simp (disch := decide) only [sxL]) (Gets.exit Tryz.tabOk ?_)
  refine inBlk_exit ?_
  change Gets _ _ _ _ _ _
  repeat refine Gets.seq ?_
  refine Gets.l0 Tryz.tabOk (s' := ?sn20) ?hn20 ?kn20; (case hn20 => (simp -implicitDefEqProofs (disch := first | decide | assumption | (try simp only [q_next, s_put_next]) <;> omega | exact pd_ (by kernel_rfl) | fail) only [sxM, Nat.reduceAdd, reduceCtorEq, Int.reduceToNat, Nat.reduceEqDiff, Int.reduceEq, Int.reduceLT, s_draw] <;> rfl)); (try (change Gets _ _ _ _ _ _; repeat refine Gets.seq ?_))
  refine Gets.ret Tryz.tabOk ?_
  exact fin_pure rfl (by rw [ixV_none hn]; simp (disch := decide) only [sxL, Tryz.f87, resultA]) (.refl _) hN trivial
theorem cfC_to (v : AV) (l : List CntV) (H : Heap) (hN : Neat H) (hv : CntsAt H v l) (hl : l.length < 1000000000) : CallTo Tryz.prog Tryz.tab 42 [v, .func (.func 40) [] []] H [(.bool (l.any fun a => wrongB a), H)] := by
 have hone := hv.one
 refine callTo_pure (n := 20) (v := .bool (l.any fun a => wrongB a)) Tryz.tabOk (ov := ptO noOv 87 [v, .func (.func 40) [] []] H [(.int .i64 (ixV (fun a => wrongB a) l), H)]) (ptO_ok noOv_ok (ixC_to v l H hN hv hl)) (H' := H) ?_ (.refl _) hN trivial
 rw [s_callO, s_callB, get42, s_ptNe _ (by decide)]
 have hd := ixV_any (fun a => wrongB a) l
 simp -implicitDefEqProofs (disch := first | decide | assumption | (try simp only [q_next, s_put_next]) <;> omega | exact pd_ (by kernel_rfl) | fail) only [sxM, Nat.reduceAdd, reduceCtorEq, Int.reduceToNat, Nat.reduceEqDiff, Int.reduceEq, Int.reduceLT, Tryz.f42, hone, s_ptEq, hd]
end Go.Proofs
