/-
  The shares; a script is drawn.
-/
import Derived.Test.YtnhnepmjdgfelaaGreatDoorPaC
import Derived.Test.YtnhnepmjdgfelaaGreatDoorPaB
set_option linter.unusedSimpArgs false
set_option linter.unusedVariables false
set_option linter.deprecated false
namespace Go.Proofs
open Go.Sx
set_option maxRecDepth 100000
theorem on_nf : oneCell .nilFunc = true := rfl
theorem cells_fn (f : Fn) (x y : List AV) : AV.cells (.func f x y) = [.func f x y] := rfl
theorem zz3 : Tryz.tab.zero 3 = some (.int .i64 0) := by kernel_rfl
theorem zz22 : Tryz.tab.zero 22 = some .nilslice := by kernel_rfl
theorem zz105 : Tryz.tab.zero 105 = some .nilFunc := by kernel_rfl
theorem zz119 : Tryz.tab.zero 119 = some .nilFunc := by kernel_rfl
theorem zz9 : Tryz.tab.zero 9 = some (.str []) := by kernel_rfl
theorem zz69 : Tryz.tab.zero 69 = some (.agg [.int .i64 0, .nilFunc]) := by kernel_rfl
theorem build69 (k : Int) (g : Nat) (l : List AV) : buildA Tryz.tab 69 [(0, .int .i64 k), (1, .func (.func g) [] l)] = some (.agg [.int .i64 k, .func (.func g) [] l]) := by kernel_rfl
theorem bs22 (H : Heap) (x : List UInt8) : buildSliceA Tryz.tab H 22 1 [(0, .str x)] = some (.slice H.next 0 1 false 1, H.push (.cells 9 true [.str x])) := by
 show bindO (Sx.elemOf Tryz.tab 22) (fun e => bindO (Tryz.tab.size e) fun z => bindO (Tryz.tab.zero e) fun zero =>
  bif Nat.ble (1 * z) 10000 then
   bif Nat.beq (len zero.cells) z then bindO (fillA (fun i => some (i * z, z)) [(0, .str x)] (repeatL zero.cells 1)) (newSlice H e 1 1) else none
  else none) = _
 rw [elemOf_of ud22]
 show bindO (Tryz.tab.size 9) (fun z => bindO (Tryz.tab.zero 9) fun zero =>
  bif Nat.ble (1 * z) 10000 then
   bif Nat.beq (len zero.cells) z then bindO (fillA (fun i => some (i * z, z)) [(0, .str x)] (repeatL zero.cells 1)) (newSlice H 9 1 1) else none
  else none) = _
 rw [sz9, zz9]
 show newSlice H 9 1 1 [.str x] = _
 unfold newSlice
 rw [s_newRowA]; rfl
theorem bs64g (ps : List (Nat × AV)) (H : Heap) (cells : List AV) (hfill : fillA (fun i => some (i * 2, 2)) ps (repeatL [AV.int .i64 0, .nilFunc] 12) = some cells) (h1 : allOne cells = true) : buildSliceA Tryz.tab H 64 12 ps = some (.slice H.next 0 12 false 12, H.push (.cells 69 true cells)) := by
 show bindO (Sx.elemOf Tryz.tab 64) (fun e => bindO (Tryz.tab.size e) fun z => bindO (Tryz.tab.zero e) fun zero =>
  bif Nat.ble (12 * z) 10000 then
   bif Nat.beq (len zero.cells) z then bindO (fillA (fun i => some (i * z, z)) ps (repeatL zero.cells 12)) (newSlice H e 12 12) else none
  else none) = _
 rw [elemOf_of ud64]
 show bindO (Tryz.tab.size 69) (fun z => bindO (Tryz.tab.zero 69) fun zero =>
  bif Nat.ble (12 * z) 10000 then
   bif Nat.beq (len zero.cells) z then bindO (fillA (fun i => some (i * z, z)) ps (repeatL zero.cells 12)) (newSlice H 69 12 12) else none
  else none) = _
 rw [sz69, zz69]
 show bindO (fillA (fun i => some (i * 2, 2)) ps (repeatL [AV.int .i64 0, .nilFunc] 12)) (newSlice H 69 12 12) = _
 rw [hfill]
 show newSlice H 69 12 12 cells = _
 unfold newSlice
 rw [s_newRowA, h1]; rfl
theorem bs64 (H : Heap) (k0 k1 k2 k3 k4 k5 k6 k7 k8 k9 ka kb : Int) (g0 g1 g2 g3 g4 g5 g6 g7 g8 g9 ga gb : Nat) (l0 l1 l2 l3 l4 l5 l6 l7 l8 l9 la lb : List AV) :
  buildSliceA Tryz.tab H 64 12 [(0, .agg [.int .i64 k0, .func (.func g0) [] l0]), (1, .agg [.int .i64 k1, .func (.func g1) [] l1]), (2, .agg [.int .i64 k2, .func (.func g2) [] l2]), (3, .agg [.int .i64 k3, .func (.func g3) [] l3]), (4, .agg [.int .i64 k4, .func (.func g4) [] l4]), (5, .agg [.int .i64 k5, .func (.func g5) [] l5]),
   (6, .agg [.int .i64 k6, .func (.func g6) [] l6]), (7, .agg [.int .i64 k7, .func (.func g7) [] l7]), (8, .agg [.int .i64 k8, .func (.func g8) [] l8]), (9, .agg [.int .i64 k9, .func (.func g9) [] l9]), (10, .agg [.int .i64 ka, .func (.func ga) [] la]), (11, .agg [.int .i64 kb, .func (.func gb) [] lb])] =
  some (.slice H.next 0 12 false 12, H.push (.cells 69 true [.int .i64 k0, .func (.func g0) [] l0, .int .i64 k1, .func (.func g1) [] l1, .int .i64 k2, .func (.func g2) [] l2, .int .i64 k3, .func (.func g3) [] l3, .int .i64 k4, .func (.func g4) [] l4, .int .i64 k5, .func (.func g5) [] l5,
   .int .i64 k6, .func (.func g6) [] l6, .int .i64 k7, .func (.func g7) [] l7, .int .i64 k8, .func (.func g8) [] l8, .int .i64 k9, .func (.func g9) [] l9, .int .i64 ka, .func (.func ga) [] la, .int .i64 kb, .func (.func gb) [] lb])) :=
 bs64g _ _ _ rfl rfl
def keysD (ks : List (List UInt8)) : List (List UInt8) := if ks.length = 0 then [[97]] else ks
abbrev EnvS (N M G : Nat) (kv cv kv' : AV) (p b2 br b5 b6 b7 b8 b10 : Nat) (h : Heap) : Prop :=
 h.blks.get b2 = some (.cells 25 true (confC N G kv cv)) ∧ h.blks.get br = some (.cells 61 true [.ptr p 0]) ∧ h.blks.get b5 = some (intB N) ∧ h.blks.get b6 = some (intB M) ∧ h.blks.get b7 = some (.cells 22 true [kv']) ∧
  h.blks.get b8 = some (.cells 105 true [.func (.func 43) [] [.ptr b7 0, .ptr br 0]]) ∧ h.blks.get b10 = some (.cells 119 true [.func (.func 46) [] [.ptr br 0, .ptr b5 0]])
abbrev ConsS (M c : Nat) (h : Heap) : Prop :=
 h.blks.get c = some (intB 4) ∧ h.blks.get (c + 1) = some (intB M) ∧ h.blks.get (c + 2) = some (intB 1) ∧ h.blks.get (c + 3) = some (intB (16 : Nat)) ∧ h.blks.get (c + 4) = some (intB 2) ∧ h.blks.get (c + 5) = some (intB (16 : Nat)) ∧ h.blks.get (c + 6) = some (intB 3) ∧ h.blks.get (c + 7) = some (intB (16 : Nat)) ∧
  h.blks.get (c + 8) = some (intB 5) ∧ h.blks.get (c + 9) = some (intB M) ∧ h.blks.get (c + 10) = some (intB 7) ∧ h.blks.get (c + 11) = some (intB M) ∧ h.blks.get (c + 12) = some (intB 9) ∧ h.blks.get (c + 13) = some (intB 10)
def shC (x : Int × AV) : List AV := [.int .i64 x.1, x.2]
def rowsS (b2 br b5 b6 b7 b8 b10 c : Nat) : List (Int × AV) :=
 [(40, .func (.func 45) [] [.ptr c 0, .ptr br 0, .ptr (c + 1) 0]), (75, .func (.func 45) [] [.ptr (c + 2) 0, .ptr br 0, .ptr (c + 3) 0]), (78, .func (.func 45) [] [.ptr (c + 4) 0, .ptr br 0, .ptr (c + 5) 0]), (81, .func (.func 45) [] [.ptr (c + 6) 0, .ptr br 0, .ptr (c + 7) 0]),
  (84, .func (.func 45) [] [.ptr (c + 8) 0, .ptr br 0, .ptr (c + 9) 0]), (85, .func (.func 48) [] [.ptr br 0, .ptr b6 0]), (90, .func (.func 45) [] [.ptr (c + 10) 0, .ptr br 0, .ptr (c + 11) 0]), (94, .func (.func 49) [] [.ptr b10 0, .ptr b7 0, .ptr br 0]),
  (95, .func (.func 47) [] [.ptr (c + 12) 0, .ptr br 0, .ptr b5 0]), (96, .func (.func 47) [] [.ptr (c + 13) 0, .ptr br 0, .ptr b5 0]), (98, .func (.func 51) [] [.ptr b5 0, .ptr br 0, .ptr b6 0, .ptr b8 0]), (100, .func (.func 52) [] [.ptr br 0, .ptr b5 0, .ptr b2 0, .ptr b8 0])]
abbrev SharesR (N M G : Nat) (kv cv : AV) (ks : List (List UInt8)) (p : Nat) (H : Heap) (v : AV) (h : Heap) : Prop :=
 ∃ b2 br b5 b6 b7 b8 b10 c kv', v = .slice (c + 14) 0 12 false 12 ∧ h.blks.get (c + 14) = some (.cells 69 true ((rowsS b2 br b5 b6 b7 b8 b10 c).flatMap shC)) ∧ EnvS N M G kv cv kv' p b2 br b5 b6 b7 b8 b10 h ∧ ConsS M c h ∧
  ((kv' = kv ∧ keysD ks = ks) ∨ CellsAt 9 keyC h kv' (keysD ks)) ∧ Grows H h ∧ Neat h
set_option maxHeartbeats 0 in
theorem shares_run (n g : Nat) (M : Nat) (kv cv : AV) (ks : List (List UInt8)) (p s : Nat) (H : Heap) (hN : Neat H) (hk : KeyS H kv ks) (k2 : oneCell cv = true) (hp : H.blks.get p = some (seedB 63 s)) (hM : M = n * g) (hM2 : M < 1000) :
  ∃ v h, SharesR n M g kv cv ks p H v h ∧ H.next ≤ h.next ∧ CallTo Tryz.prog Tryz.tab 18 [.agg (confC n g kv cv), .ptr p 0] H [(v, keepH H h)] := by
 refine callE_of Tryz.tabOk Tryz.func18 rfl rfl ?_
 show GetsE Tryz.prog Tryz.tab ⟨none, 63⟩ _ _ _
 repeat refine GetsE.seq ?_
 have lp := hN _ _ hp
 have k1 := hk.one
 have hkl := hk.len
 have wM : awrap .i64 ((n : Int) * (g : Int)) = (M : Int) := by rw [← Int.natCast_mul, ← hM]; exact s_wrap (by omega) (by omega)
 refine GetsE.l0 Tryz.tabOk (s' := ?sn3) ?hn3 ?kn3; (case hn3 => (simp -implicitDefEqProofs (disch := first | decide | assumption | (try simp only [q_next, s_put_next]) <;> omega | exact pd_ (by kernel_rfl) | fail) only [sxM, Nat.reduceAdd, reduceCtorEq, Int.reduceToNat, Nat.reduceEqDiff, Int.reduceEq, Int.reduceLT, s_draw, k1, k2] <;> rfl)); (try (change GetsE _ _ _ _ _ _; repeat refine GetsE.seq ?_))
 refine GetsE.ofH (fun h => h.blks.get H.next = some (.cells 25 true (confC n g kv cv)) ∧ h.blks.get (H.next + 1) = some (.cells 61 true [.ptr p 0]) ∧ Grows H h ∧ h.next = H.next + 2 ∧ Neat h) ⟨by ((try simp (disch := first | assumption | omega | (try simp only [q_next, s_put_next]) <;> omega | fail) only [foL]); (try rfl)), by ((try simp (disch := first | assumption | omega | (try simp only [q_next, s_put_next]) <;> omega | fail) only [foL]); (try rfl)), (Grows.push _ _).trans (.push _ _), by ((try simp (disch := first | assumption | omega | (try simp only [q_next, s_put_next]) <;> omega | fail) only [foL]); (try rfl)), (by repeat' (first | exact hN | exact aN | exact bN | (refine Neat.push ?_ _) | (refine Neat.put ?_ (by ((try dsimp only); (try simp only [s_push_next, s_put_next]); omega)) _)))⟩ ?_
 rintro h ⟨a0, a1, ag, ax, aN⟩
 refine GetsE.drawK Tryz.tabOk (ov := noOv) (noOv_ok) 8 (s' := ?sn1) [.rd 0, .rd 1, .rd 2, .rd 3, .rd 4, .rd 5, .rd 6, .rd 7, .rd 8, .rd 9, .rd 10, .rd 11, .lk 12 [2,3,4,5,6,7,8], .lk 13 [7,8], .lk 14 []] (by kernel_rfl) (aN) ?hn1 ?kn1; (case hn1 => (simp -implicitDefEqProofs (maxSteps := 10000000) (disch := first | decide | assumption | (try simp only [q_next, s_put_next]) <;> omega | exact pd_ (by kernel_rfl) | fail) only [sxM, Nat.reduceAdd, reduceCtorEq, Int.reduceToNat, Nat.reduceEqDiff, Int.reduceEq, Int.reduceLT, k_nil, k_rd, k_sm, k_lk, k_rdO, k_rdOG, k_rdGt, k_rdGf, k_smO, k_smOG, k_smGt, k_smGf, k_lkO, k_lkOG, k_lkGt, k_lkGf, k_rdN, k_rdN0, k_sk, k_sk0, k_smE, k_smE0, k_lkE, k_lkE0, k_lkX, k_keepP, k_keepR, k_keepA, k_look, k_look0, k_each0, k_each, k_la, k_laO, k_laOG, k_laGt, k_laGf, k_laE, k_laE0, k_lookM, k_lookM0, k_eachM0, k_eachM, k_samePtr, k_sameSl, k_ln, k_lnO, k_lnOG, k_lnGt, k_lnGf, k_lnE, k_lnE0, and_self, and_true, true_and, a0, a1, fa25_0, fa25_1, fa25_2, s_varFalse ia3, s_varFalse ia22, wM, stL, sz3, sz22, zz3, zz22, k1, withH] <;> rfl)); (try (change GetsE _ _ _ _ _ _; repeat refine GetsE.seq ?_))
 refine GetsE.ofH (fun h => h.blks.get H.next = some (.cells 25 true (confC n g kv cv)) ∧ h.blks.get (H.next + 1) = some (.cells 61 true [.ptr p 0]) ∧ h.blks.get (H.next + 2) = some (intB n) ∧ h.blks.get (H.next + 3) = some (intB M) ∧ h.blks.get (H.next + 4) = some (.cells 22 true [kv]) ∧ Grows H h ∧ h.next = H.next + 5 ∧ Neat h)
  ⟨by ((try simp (disch := first | assumption | omega | (try simp only [q_next, s_put_next]) <;> omega | fail) only [foL]); (try rfl)); exact a0, by ((try simp (disch := first | assumption | omega | (try simp only [q_next, s_put_next]) <;> omega | fail) only [foL]); (try rfl)); exact a1, by ((try simp (disch := first | assumption | omega | (try simp only [q_next, s_put_next]) <;> omega | fail) only [foL]); (try rfl)), by ((try simp (disch := first | assumption | omega | (try simp only [q_next, s_put_next]) <;> omega | fail) only [foL]); (try rfl)), by ((try simp (disch := first | assumption | omega | (try simp only [q_next, s_put_next]) <;> omega | fail) only [foL]); (try rfl)), ⟨by ((try dsimp only); (try simp only [s_push_next, s_put_next]); omega), fun b hb => by ((try simp (disch := first | assumption | omega | (try simp only [q_next, s_put_next]) <;> omega | fail) only [foL]); (try rfl)); exact ag.get b hb⟩, by ((try simp (disch := first | assumption | omega | (try simp only [q_next, s_put_next]) <;> omega | fail) only [foL]); (try rfl)); omega, (by repeat' (first | exact hN | exact aN | exact bN | (refine Neat.push ?_ _) | (refine Neat.put ?_ (by ((try dsimp only); (try simp only [s_push_next, s_put_next]); omega)) _)))⟩ ?_
 rw [ax]
 clear a0 a1 ag ax aN
 clear h
 rintro h ⟨a0, a1, a2, a3, a4, ag, ax, aN⟩
 refine GetsE.l0 Tryz.tabOk (s' := ?sn4) ?hn4 ?kn4; (case hn4 => (simp -implicitDefEqProofs (disch := first | decide | assumption | (try simp only [q_next, s_put_next]) <;> omega | exact pd_ (by kernel_rfl) | fail) only [sxM, Nat.reduceAdd, reduceCtorEq, Int.reduceToNat, Nat.reduceEqDiff, Int.reduceEq, Int.reduceLT, s_draw, a4, s_varFalse ia22, hkl] <;> rfl)); (try (change GetsE _ _ _ _ _ _; repeat refine GetsE.seq ?_))
 refine GetsE.midH (I := fun tm h => tm.get 2 = some (.ptr H.next 0) ∧ tm.get 3 = some (.ptr (H.next + 1) 0) ∧ tm.get 5 = some (.ptr (H.next + 2) 0) ∧ tm.get 6 = some (.ptr (H.next + 3) 0) ∧ tm.get 7 = some (.ptr (H.next + 4) 0) ∧
  h.blks.get H.next = some (.cells 25 true (confC n g kv cv)) ∧ h.blks.get (H.next + 1) = some (.cells 61 true [.ptr p 0]) ∧ h.blks.get (H.next + 2) = some (intB n) ∧ h.blks.get (H.next + 3) = some (intB M) ∧
  (∃ kv', h.blks.get (H.next + 4) = some (.cells 22 true [kv']) ∧ ((kv' = kv ∧ keysD ks = ks) ∨ CellsAt 9 keyC h kv' (keysD ks))) ∧ Grows H h ∧ H.next + 5 ≤ h.next ∧ Neat h) ?_ ?_
 ·by_cases h0 : (ks.length : Int) = 0
  ·have hkd : keysD ks = [[97]] := if_pos (by omega)
   refine GetsE.condT (by simp (disch := decide) only [sxL, h0]) ?_
   change GetsE _ _ _ _ _ _
   refine GetsE.l0 Tryz.tabOk (s' := ?sn5) ?hn5 ?kn5; (case hn5 => (simp -implicitDefEqProofs (disch := first | decide | assumption | (try simp only [q_next, s_put_next]) <;> omega | exact pd_ (by kernel_rfl) | fail) only [sxM, Nat.reduceAdd, reduceCtorEq, Int.reduceToNat, Nat.reduceEqDiff, Int.reduceEq, Int.reduceLT, s_draw, bs22, a4, stL, sz22] <;> rfl)); (try (change GetsE _ _ _ _ _ _; repeat refine GetsE.seq ?_))
   exact ⟨rfl, _, _, rfl, by simp (disch := decide) only [sxL], by simp (disch := decide) only [sxL], by simp (disch := decide) only [sxL], by simp (disch := decide) only [sxL], by simp (disch := decide) only [sxL], by ((try simp (disch := first | assumption | omega | (try simp only [q_next, s_put_next]) <;> omega | fail) only [foL]); (try rfl)); exact a0, by ((try simp (disch := first | assumption | omega | (try simp only [q_next, s_put_next]) <;> omega | fail) only [foL]); (try rfl)); exact a1, by ((try simp (disch := first | assumption | omega | (try simp only [q_next, s_put_next]) <;> omega | fail) only [foL]); (try rfl)); exact a2, by ((try simp (disch := first | assumption | omega | (try simp only [q_next, s_put_next]) <;> omega | fail) only [foL]); (try rfl)); exact a3, ⟨.slice h.next 0 1 false 1, by ((try simp (disch := first | assumption | omega | (try simp only [q_next, s_put_next]) <;> omega | fail) only [foL]); (try rfl)), .inr (.inr ⟨h.next, false, 1, true, by simp [hkd], by rw [hkd]; ((try simp (disch := first | assumption | omega | (try simp only [q_next, s_put_next]) <;> omega | fail) only [foL]); (try rfl))⟩)⟩, ⟨by ((try dsimp only); (try simp only [s_push_next, s_put_next]); omega), fun b hb => by ((try simp (disch := first | assumption | omega | (try simp only [q_next, s_put_next]) <;> omega | fail) only [foL]); (try rfl)); exact ag.get b hb⟩, by ((try dsimp only); (try simp only [s_push_next, s_put_next]); omega), (by repeat' (first | exact hN | exact aN | exact bN | (refine Neat.push ?_ _) | (refine Neat.put ?_ (by ((try dsimp only); (try simp only [s_push_next, s_put_next]); omega)) _)))⟩
  ·have hkd : keysD ks = ks := if_neg (by omega)
   refine GetsE.condF (by simp (disch := decide) only [sxL, h0]) (GetsE.skip Tryz.tabOk ?_)
   exact ⟨rfl, _, _, rfl, by simp (disch := decide) only [sxL], by simp (disch := decide) only [sxL], by simp (disch := decide) only [sxL], by simp (disch := decide) only [sxL], by simp (disch := decide) only [sxL], a0, a1, a2, a3, ⟨kv, a4, .inl ⟨rfl, hkd⟩⟩, ag, by omega, aN⟩
 clear a0 a1 a2 a3 a4 ag ax aN
 clear h
 rintro tm h ⟨i2, i3, i5, i6, i7, a0, a1, a2, a3, ⟨kv', a4, a5⟩, ag, ax, aN⟩
 change GetsE _ _ _ _ _ _
 repeat refine GetsE.seq ?_
 refine GetsE.l0 Tryz.tabOk (s' := ?sn6) ?hn6 ?kn6; (case hn6 => (simp -implicitDefEqProofs (disch := first | decide | assumption | (try simp only [q_next, s_put_next]) <;> omega | exact pd_ (by kernel_rfl) | fail) only [sxM, Nat.reduceAdd, reduceCtorEq, Int.reduceToNat, Nat.reduceEqDiff, Int.reduceEq, Int.reduceLT, s_draw, i3, i7, z_opMF, on_nf, cells_fn, zz105, stL, sz105] <;> rfl)); (try (change GetsE _ _ _ _ _ _; repeat refine GetsE.seq ?_))
 refine GetsE.l0 Tryz.tabOk (s' := ?sn7) ?hn7 ?kn7; (case hn7 => (simp -implicitDefEqProofs (disch := first | decide | assumption | (try simp only [q_next, s_put_next]) <;> omega | exact pd_ (by kernel_rfl) | fail) only [sxM, Nat.reduceAdd, reduceCtorEq, Int.reduceToNat, Nat.reduceEqDiff, Int.reduceEq, Int.reduceLT, s_draw, i3, z_opMF] <;> rfl)); (try (change GetsE _ _ _ _ _ _; repeat refine GetsE.seq ?_))
 refine GetsE.l0 Tryz.tabOk (s' := ?sn8) ?hn8 ?kn8; (case hn8 => (simp -implicitDefEqProofs (disch := first | decide | assumption | (try simp only [q_next, s_put_next]) <;> omega | exact pd_ (by kernel_rfl) | fail) only [sxM, Nat.reduceAdd, reduceCtorEq, Int.reduceToNat, Nat.reduceEqDiff, Int.reduceEq, Int.reduceLT, s_draw, i3, i5, z_opMF, on_nf, cells_fn, zz119, stL, sz119] <;> rfl)); (try (change GetsE _ _ _ _ _ _; repeat refine GetsE.seq ?_))
 refine GetsE.ofH (fun h' => EnvS n M g kv cv kv' p H.next (H.next + 1) (H.next + 2) (H.next + 3) (H.next + 4) h.next (h.next + 1) h' ∧ ((kv' = kv ∧ keysD ks = ks) ∨ CellsAt 9 keyC h' kv' (keysD ks)) ∧ Grows H h' ∧ h'.next = h.next + 2 ∧ Neat h')
  ⟨⟨by ((try simp (disch := first | assumption | omega | (try simp only [q_next, s_put_next]) <;> omega | fail) only [foL]); (try rfl)); exact a0, by ((try simp (disch := first | assumption | omega | (try simp only [q_next, s_put_next]) <;> omega | fail) only [foL]); (try rfl)); exact a1, by ((try simp (disch := first | assumption | omega | (try simp only [q_next, s_put_next]) <;> omega | fail) only [foL]); (try rfl)); exact a2, by ((try simp (disch := first | assumption | omega | (try simp only [q_next, s_put_next]) <;> omega | fail) only [foL]); (try rfl)); exact a3, by ((try simp (disch := first | assumption | omega | (try simp only [q_next, s_put_next]) <;> omega | fail) only [foL]); (try rfl)); exact a4, by ((try simp (disch := first | assumption | omega | (try simp only [q_next, s_put_next]) <;> omega | fail) only [foL]); (try rfl)), by ((try simp (disch := first | assumption | omega | (try simp only [q_next, s_put_next]) <;> omega | fail) only [foL]); (try rfl))⟩, a5.imp id fun a5 => CellsAt.to a5 fun b x y hb => by
   have hbn := aN _ _ hb
   ((try simp (disch := first | assumption | omega | (try simp only [q_next, s_put_next]) <;> omega | fail) only [foL]); (try rfl)); exact hb, ⟨by ((try dsimp only); (try simp only [s_push_next, s_put_next]); omega), fun b hb => by ((try simp (disch := first | assumption | omega | (try simp only [q_next, s_put_next]) <;> omega | fail) only [foL]); (try rfl)); exact ag.get b hb⟩, by ((try simp (disch := first | assumption | omega | (try simp only [q_next, s_put_next]) <;> omega | fail) only [foL]); (try rfl)), (by repeat' (first | exact hN | exact aN | exact bN | (refine Neat.push ?_ _) | (refine Neat.put ?_ (by ((try dsimp only); (try simp only [s_push_next, s_put_next]); omega)) _)))⟩ ?_
 generalize h.next = n1 at ax ⊢
 clear a0 a1 a2 a3 a4 a5 ag aN
 clear h
 rintro h ⟨⟨a0, a1, a2, a3, a4, a8, a10⟩, a5, ag, ax2, aN⟩
 have N0 := aN
 have N1 := (N0.push (intB 4)).push (intB M)
 have N2 := (N1.push (intB 1)).push (intB 16)
 have N3 := (N2.push (intB 2)).push (intB 16)
 have N4 := (N3.push (intB 3)).push (intB 16)
 have N5 := (N4.push (intB 5)).push (intB M)
 have N6 := (N5.push (intB 7)).push (intB M)
 have N7 := (N6.push (intB 9))
 have N8 := (N7.push (intB 10))
 refine GetsE.drawK Tryz.tabOk (ov := addOv (addOv noOv 44 ovS2) 46 ovS3) (addOv_ok (addOv_ok noOv_ok ovS2_ok) ovS3_ok) 8 (s' := ?sn2) [.rd 0, .rd 1, .rd 4, .rd 7, .rd 10, .rd 13, .rd 14, .rd 17, .rd 18, .rd 19, .rd 20, .rd 23, .rd 24, .rd 25, .rd 28, .rd 31, .rd 32, .rd 33, .rd 34, .ln 2 [0,1,3,4,6,7,9,10,12,13,14,16,17,18,19,20,22,23,24,25,27,28,30,31,32,33,34], .rd 3, .ln 5 [0,1,3,4,6,7,9,10,12,13,14,16,17,18,19,20,22,23,24,25,27,28,30,31,32,33,34], .rd 6, .ln 8 [0,1,3,4,6,7,9,10,12,13,14,16,17,18,19,20,22,23,24,25,27,28,30,31,32,33,34], .rd 9, .ln 11 [0,1,3,4,6,7,9,10,12,13,14,16,17,18,19,20,22,23,24,25,27,28,30,31,32,33,34], .rd 12, .ln 15 [0,1,3,4,6,7,9,10,12,13,14,16,17,18,19,20,22,23,24,25,27,28,30,31,32,33,34], .rd 16, .ln 21 [0,1,3,4,6,7,9,10,12,13,14,16,17,18,19,20,22,23,24,25,27,28,30,31,32,33,34], .rd 22, .ln 26 [0,1,3,4,6,7,9,10,12,13,14,16,17,18,19,20,22,23,24,25,27,28,30,31,32,33,34], .rd 27, .ln 29 [0,1,3,4,6,7,9,10,12,13,14,16,17,18,19,20,22,23,24,25,27,28,30,31,32,33,34], .rd 30, .rd 35, .rd 36] (by kernel_rfl) (aN) ?hn2 ?kn2; (case hn2 => (simp -implicitDefEqProofs (maxSteps := 10000000) (disch := first | decide | assumption | (try simp only [q_next, s_put_next]) <;> omega | exact pd_ (by kernel_rfl) | fail) only [sxM, Nat.reduceAdd, reduceCtorEq, Int.reduceToNat, Nat.reduceEqDiff, Int.reduceEq, Int.reduceLT, k_nil, k_rd, k_sm, k_lk, k_rdO, k_rdOG, k_rdGt, k_rdGf, k_smO, k_smOG, k_smGt, k_smGf, k_lkO, k_lkOG, k_lkGt, k_lkGf, k_rdN, k_rdN0, k_sk, k_sk0, k_smE, k_smE0, k_lkE, k_lkE0, k_lkX, k_keepP, k_keepR, k_keepA, k_look, k_look0, k_each0, k_each, k_la, k_laO, k_laOG, k_laGt, k_laGf, k_laE, k_laE0, k_lookM, k_lookM0, k_eachM0, k_eachM, k_samePtr, k_sameSl, k_ln, k_lnO, k_lnOG, k_lnGt, k_lnGf, k_lnE, k_lnE0, and_self, and_true, true_and, ovS2_red, ovS3_red, a3, a10, i2, i3, i5, i6, i7, s_varFalse ia3, s_varFalse ia119, z_opMF, build69, bs64, withH, N1, N2, N3, N4, N5, N6, N7, N8] <;> rfl)); (try (change GetsE _ _ _ _ _ _; repeat refine GetsE.seq ?_))
 refine GetsE.ret Tryz.tabOk ?_
 exact fin_E (vs := [.slice (h.next + 14) 0 12 false 12]) rfl (by simp (disch := decide) only [sxL, Tryz.f18, resultA]) (by ((try dsimp only); (try simp only [s_push_next, s_put_next]); omega)) (show h.next + 14 < _ from by ((try dsimp only); (try simp only [s_push_next, s_put_next]); omega))
  ⟨H.next, H.next + 1, H.next + 2, H.next + 3, H.next + 4, n1, n1 + 1, h.next, kv', rfl, by ((try simp (disch := first | assumption | omega | (try simp only [q_next, s_put_next]) <;> omega | fail) only [foL]); (try rfl)), ⟨by ((try simp (disch := first | assumption | omega | (try simp only [q_next, s_put_next]) <;> omega | fail) only [foL]); (try rfl)); exact a0, by ((try simp (disch := first | assumption | omega | (try simp only [q_next, s_put_next]) <;> omega | fail) only [foL]); (try rfl)); exact a1, by ((try simp (disch := first | assumption | omega | (try simp only [q_next, s_put_next]) <;> omega | fail) only [foL]); (try rfl)); exact a2, by ((try simp (disch := first | assumption | omega | (try simp only [q_next, s_put_next]) <;> omega | fail) only [foL]); (try rfl)); exact a3, by ((try simp (disch := first | assumption | omega | (try simp only [q_next, s_put_next]) <;> omega | fail) only [foL]); (try rfl)); exact a4, by ((try simp (disch := first | assumption | omega | (try simp only [q_next, s_put_next]) <;> omega | fail) only [foL]); (try rfl)); exact a8, by ((try simp (disch := first | assumption | omega | (try simp only [q_next, s_put_next]) <;> omega | fail) only [foL]); (try rfl)); exact a10⟩,
   ⟨by ((try simp (disch := first | assumption | omega | (try simp only [q_next, s_put_next]) <;> omega | fail) only [foL]); (try rfl)), by ((try simp (disch := first | assumption | omega | (try simp only [q_next, s_put_next]) <;> omega | fail) only [foL]); (try rfl)), by ((try simp (disch := first | assumption | omega | (try simp only [q_next, s_put_next]) <;> omega | fail) only [foL]); (try rfl)), by ((try simp (disch := first | assumption | omega | (try simp only [q_next, s_put_next]) <;> omega | fail) only [foL]); (try rfl)), by ((try simp (disch := first | assumption | omega | (try simp only [q_next, s_put_next]) <;> omega | fail) only [foL]); (try rfl)), by ((try simp (disch := first | assumption | omega | (try simp only [q_next, s_put_next]) <;> omega | fail) only [foL]); (try rfl)), by ((try simp (disch := first | assumption | omega | (try simp only [q_next, s_put_next]) <;> omega | fail) only [foL]); (try rfl)), by ((try simp (disch := first | assumption | omega | (try simp only [q_next, s_put_next]) <;> omega | fail) only [foL]); (try rfl)), by ((try simp (disch := first | assumption | omega | (try simp only [q_next, s_put_next]) <;> omega | fail) only [foL]); (try rfl)), by ((try simp (disch := first | assumption | omega | (try simp only [q_next, s_put_next]) <;> omega | fail) only [foL]); (try rfl)), by ((try simp (disch := first | assumption | omega | (try simp only [q_next, s_put_next]) <;> omega | fail) only [foL]); (try rfl)), by ((try simp (disch := first | assumption | omega | (try simp only [q_next, s_put_next]) <;> omega | fail) only [foL]); (try rfl)), by ((try simp (disch := first | assumption | omega | (try simp only [q_next, s_put_next]) <;> omega | fail) only [foL]); (try rfl)), by ((try simp (disch := first | assumption | omega | (try simp only [q_next, s_put_next]) <;> omega | fail) only [foL]); (try rfl))⟩,
   a5.imp id fun a5 => CellsAt.to a5 fun b x y hb => by
    have hbn := aN _ _ hb
    ((try simp (disch := first | assumption | omega | (try simp only [q_next, s_put_next]) <;> omega | fail) only [foL]); (try rfl)); exact hb, ⟨by ((try dsimp only); (try simp only [s_push_next, s_put_next]); omega), fun b hb => by ((try simp (disch := first | assumption | omega | (try simp only [q_next, s_put_next]) <;> omega | fail) only [foL]); (try rfl)); exact ag.get b hb⟩, (by repeat' (first | exact hN | exact aN | exact bN | (refine Neat.push ?_ _) | (refine Neat.put ?_ (by ((try dsimp only); (try simp only [s_push_next, s_put_next]); omega)) _)))⟩
end Go.Proofs
namespace Go.Proofs
open Go.Sx
set_option maxRecDepth 100000
noncomputable def keyV (ks : List (List UInt8)) (s : Nat) : List UInt8 := (ks[bel s ks.length]?).getD []
theorem keyV_at {ks : List (List UInt8)} (h : 0 < ks.length) (s : Nat) : ks[bel s ks.length]? = some (keyV ks s) := by
 unfold keyV
 rw [List.getElem?_eq_getElem (bel_lt s h)]; rfl
noncomputable def genF (n M g : Nat) (ks : List (List UInt8)) : Nat → Nat → OpV × Nat
 | 0, s => (⟨4, ((bel s M : Nat) : Int), 0, [], [], [], [], 0, 0, []⟩, nx s)
 | 1, s => (⟨1, ((bel s 16 : Nat) : Int), 0, [], [], [], [], 0, 0, []⟩, nx s)
 | 2, s => (⟨2, ((bel s 16 : Nat) : Int), 0, [], [], [], [], 0, 0, []⟩, nx s)
 | 3, s => (⟨3, ((bel s 16 : Nat) : Int), 0, [], [], [], [], 0, 0, []⟩, nx s)
 | 4, s => (⟨5, ((bel s M : Nat) : Int), 0, [], [], [], [], 0, 0, []⟩, nx s)
 | 5, s => (⟨6, ((bel s M : Nat) : Int), ((bel (nx s) 64 : Nat) : Int), [], [], [], [], 0, 0, []⟩, nx (nx s))
 | 6, s => (⟨7, ((bel s M : Nat) : Int), 0, [], [], [], [], 0, 0, []⟩, nx s)
 | 7, s => (opSub ks n s, dEnd ks (nx (nx s)))
 | 8, s => (⟨9, ((bel s n : Nat) : Int), 1 + ((bel (nx s) 9 : Nat) : Int), [], [], [], [], 0, 0, []⟩, nx (nx s))
 | 9, s => (⟨10, ((bel s n : Nat) : Int), 1 + ((bel (nx s) 9 : Nat) : Int), [], [], [], [], 0, 0, []⟩, nx (nx s))
 | 10, s => (⟨11, ((n + bel s (M - n) : Nat) : Int), 0, keyV ks (nx s), [], [], [], 0, 0, []⟩, nx (nx s))
 | _, s => (⟨12, ((bel s n : Nat) : Int), 1 + ((bel (nx s) (g - 1) : Nat) : Int), [], if bel (nx (nx (nx s))) 2 = 1 then [] else keyV ks (nx (nx s)), if bel (nx (nx (nx s))) 2 = 1 then keyV ks (nx (nx s)) else [], [], 0, 0, []⟩, nx (nx (nx (nx s))))
def thrL : List Int := [40, 75, 78, 81, 84, 85, 90, 94, 95, 96, 98, 100]
def GoodF (K : Heap) (p : Nat) (fn : AV) (gen : Nat → OpV × Nat) : Prop :=
 ∃ f cap, fn = .func (.func f) [] cap ∧ ∀ h s, GrowsP p K h → Neat h → s < 18446744073709551616 → h.blks.get p = some (seedB 63 s) → MakesOp 63 p h f cap (gen s).1 (gen s).2
theorem rows_ltle {α : Type} {e k : Nat} {f : α → List AV} {H : Heap} {v : AV} {l : List α} (h : RowsAt e k f H v l) (hN : Neat H) {N : Nat} (hle : H.next ≤ N) : ltV N v := by
 rcases h with ⟨h, -⟩ | ⟨b, c, rfl, h2⟩
 ·exact h.lt N
 ·exact Nat.lt_of_lt_of_le (hN b _ h2) hle
theorem cells_ltle {α : Type} {e : Nat} {f : α → List AV} {H : Heap} {v : AV} {l : List α} (h : CellsAt e f H v l) (hN : Neat H) {N : Nat} (hle : H.next ≤ N) : ltV N v := by
 rcases h with ⟨rfl, -⟩ | ⟨b, q, c, x, rfl, h2⟩
 ·trivial
 ·exact Nat.lt_of_lt_of_le (hN b _ h2) hle
theorem KeyS.ltle {H : Heap} {v : AV} {ks : List (List UInt8)} (h : KeyS H v ks) (hN : Neat H) {N : Nat} (hle : H.next ≤ N) : ltV N v := h.elim (fun h => rows_ltle h hN hle) (fun h => cells_ltle h hN hle)
theorem keysD_len {ks : List (List UInt8)} (h : ks.length < 1000000000) : 0 < (keysD ks).length ∧ (keysD ks).length < 1000000000 := by
 unfold keysD
 split
 ·exact ⟨by decide, by decide⟩
 ·exact ⟨by omega, h⟩
theorem shares_to (n g : Nat) (M : Nat) (kv cv : AV) (ks : List (List UInt8)) (p s : Nat) (H : Heap) (hN : Neat H) (hk : KeyS H kv ks) (k2 : oneCell cv = true) (hcv : ∀ N, H.next ≤ N → ltV N cv) (hp : H.blks.get p = some (seedB 63 s)) (hM : M = n * g) (hM2 : M < 1000) (hn : 0 < n ∧ n < M) (hg0 : 1 < g ∧ g < 1000) (hkl : ks.length < 1000000000) :
  ∃ v K L, CallTo Tryz.prog Tryz.tab 18 [.agg (confC n g kv cv), .ptr p 0] H [(v, K)] ∧ Grows H K ∧ Neat K ∧ CellsAt 69 shC K v L ∧ L.length = 12 ∧ ∀ i x, L[i]? = some x → thrL[i]? = some x.1 ∧ GoodF K p x.2 (genF n M g (keysD ks) i) := by
 obtain ⟨v, h, ⟨b2, br, b5, b6, b7, b8, b10, c, kv', rfl, hrow, ⟨e2, er, e5, e6, e7, e8, e10⟩, ⟨c0, c1, c2, c3, c4, c5, c6, c7, c8, c9, c10, c11, c12, c13⟩, hkk, ag, aN⟩, hle, hc⟩ := shares_run n g M kv cv ks p s H hN hk k2 hp hM hM2
 have lp := hN _ _ hp
 have KN : Neat (keepH H h) := keep_neat H h
 have gg : Grows H (keepH H h) := ⟨hle, fun b hb => keep_old hb hle (ag.get b hb)⟩
 have Kp : (keepH H h).blks.get p = some (seedB 63 s) := by rw [gg.get p lp]; exact hp
 have lr := aN _ _ er
 have l5 := aN _ _ e5
 have l6 := aN _ _ e6
 have l7 := aN _ _ e7
 have l8 := aN _ _ e8
 have l2 := aN _ _ e2
 have l10 := aN _ _ e10
 have lc := aN _ _ hrow
 have q2 := keep_new (H := H) aN e2 ⟨trivial, trivial, hk.ltle hN hle, hcv _ hle, trivial⟩
 have qr := keep_new (H := H) aN er ⟨Nat.lt_of_lt_of_le lp hle, trivial⟩
 have q5 := keep_new (H := H) aN e5 ⟨trivial, trivial⟩
 have q6 := keep_new (H := H) aN e6 ⟨trivial, trivial⟩
 have q8 := keep_new (H := H) aN e8 ⟨⟨trivial, l7, lr, trivial⟩, trivial⟩
 have q10 := keep_new (H := H) aN e10 ⟨⟨trivial, lr, l5, trivial⟩, trivial⟩
 have q7 : (keepH H h).blks.get b7 = some (.cells 22 true [kv']) := keep_new (H := H) aN e7 ⟨by
  rcases hkk with ⟨rfl, -⟩ | hkk
  ·exact hk.ltle hN hle
  ·exact cells_ltle hkk aN (Nat.le_refl _), trivial⟩
 have qk : KeyS (keepH H h) kv' (keysD ks) := by
  rcases hkk with ⟨rfl, hkd⟩ | hkk
  ·rw [hkd]
   rcases hk with hk | hk
   ·exact .inl (hk.grow hN gg)
   ·exact .inr (CellsAt.to hk fun b x y hb => by rw [gg.get b (hN b _ hb)]; exact hb)
  ·exact .inr (CellsAt.keep hkk aN fun a _ => ⟨trivial, trivial⟩)
 have d0 := keep_new (H := H) aN c0 ⟨trivial, trivial⟩
 have d1 := keep_new (H := H) aN c1 ⟨trivial, trivial⟩
 have d2 := keep_new (H := H) aN c2 ⟨trivial, trivial⟩
 have d3 := keep_new (H := H) aN c3 ⟨trivial, trivial⟩
 have d4 := keep_new (H := H) aN c4 ⟨trivial, trivial⟩
 have d5 := keep_new (H := H) aN c5 ⟨trivial, trivial⟩
 have d6 := keep_new (H := H) aN c6 ⟨trivial, trivial⟩
 have d7 := keep_new (H := H) aN c7 ⟨trivial, trivial⟩
 have d8 := keep_new (H := H) aN c8 ⟨trivial, trivial⟩
 have d9 := keep_new (H := H) aN c9 ⟨trivial, trivial⟩
 have d10 := keep_new (H := H) aN c10 ⟨trivial, trivial⟩
 have d11 := keep_new (H := H) aN c11 ⟨trivial, trivial⟩
 have d12 := keep_new (H := H) aN c12 ⟨trivial, trivial⟩
 have d13 := keep_new (H := H) aN c13 ⟨trivial, trivial⟩
 have qrow := keep_new (H := H) aN hrow (by
  have u0 : c < h.next := by omega
  refine ⟨trivial, ⟨trivial, ?_, lr, ?_, trivial⟩, trivial, ⟨trivial, ?_, lr, ?_, trivial⟩, trivial, ⟨trivial, ?_, lr, ?_, trivial⟩, trivial, ⟨trivial, ?_, lr, ?_, trivial⟩, trivial, ⟨trivial, ?_, lr, ?_, trivial⟩, trivial, ⟨trivial, lr, l6, trivial⟩, trivial, ⟨trivial, ?_, lr, ?_, trivial⟩,
   trivial, ⟨trivial, l10, l7, lr, trivial⟩, trivial, ⟨trivial, ?_, lr, l5, trivial⟩, trivial, ⟨trivial, ?_, lr, l5, trivial⟩, trivial, ⟨trivial, l5, lr, l6, l8, trivial⟩, trivial, ⟨trivial, lr, l5, l2, l8, trivial⟩, trivial⟩
  all_goals (show _ < h.next; omega))
 generalize keepH H h = K at *
 have T : ∀ {b : Nat} {o : ABlk}, K.blks.get b = some o → o ≠ seedB 63 s → ∀ {h' : Heap}, GrowsP p K h' → h'.blks.get b = some o := fun hb ho _ hg => hg.some_ KN hb (ne_of_blk hb Kp ho)
 have TK : ∀ {h' : Heap}, GrowsP p K h' → KeyS h' kv' (keysD ks) := fun hg => qk.growP KN hg (by decide) Kp
 have hkd := keysD_len hkl
 refine ⟨_, K, rowsS b2 br b5 b6 b7 b8 b10 c, hc, gg, KN, .inr ⟨c + 14, false, 12, true, rfl, qrow⟩, rfl, fun i x hx => ?_⟩
 have hi : i < 12 := (List.getElem?_eq_some_iff.1 hx).1
 match i, hi, hx with
 | 0, _, hx => cases hx; exact ⟨rfl, _, _, rfl, fun h' s' hg hn' hs' hp' => makes_of hn' (hn' _ _ hp') rfl (sh21_to 4 M s' _ _ _ p h' hn' (T d0 (by simp) hg) (T qr (by simp) hg) (T d1 (by simp) hg) hp' hs' ⟨by omega, by omega⟩)⟩
 | 1, _, hx => cases hx; exact ⟨rfl, _, _, rfl, fun h' s' hg hn' hs' hp' => makes_of hn' (hn' _ _ hp') rfl (sh21_to 1 16 s' _ _ _ p h' hn' (T d2 (by simp) hg) (T qr (by simp) hg) (T d3 (by simp) hg) hp' hs' ⟨by omega, by omega⟩)⟩
 | 2, _, hx => cases hx; exact ⟨rfl, _, _, rfl, fun h' s' hg hn' hs' hp' => makes_of hn' (hn' _ _ hp') rfl (sh21_to 2 16 s' _ _ _ p h' hn' (T d4 (by simp) hg) (T qr (by simp) hg) (T d5 (by simp) hg) hp' hs' ⟨by omega, by omega⟩)⟩
 | 3, _, hx => cases hx; exact ⟨rfl, _, _, rfl, fun h' s' hg hn' hs' hp' => makes_of hn' (hn' _ _ hp') rfl (sh21_to 3 16 s' _ _ _ p h' hn' (T d6 (by simp) hg) (T qr (by simp) hg) (T d7 (by simp) hg) hp' hs' ⟨by omega, by omega⟩)⟩
 | 4, _, hx => cases hx; exact ⟨rfl, _, _, rfl, fun h' s' hg hn' hs' hp' => makes_of hn' (hn' _ _ hp') rfl (sh21_to 5 M s' _ _ _ p h' hn' (T d8 (by simp) hg) (T qr (by simp) hg) (T d9 (by simp) hg) hp' hs' ⟨by omega, by omega⟩)⟩
 | 5, _, hx => cases hx; exact ⟨rfl, _, _, rfl, fun h' s' hg hn' hs' hp' => makes_of hn' (hn' _ _ hp') rfl (sh4_to M s' _ _ p h' hn' (T qr (by simp) hg) (T q6 (by simp) hg) hp' hs' ⟨by omega, by omega⟩)⟩
 | 6, _, hx => cases hx; exact ⟨rfl, _, _, rfl, fun h' s' hg hn' hs' hp' => makes_of hn' (hn' _ _ hp') rfl (sh21_to 7 M s' _ _ _ p h' hn' (T d10 (by simp) hg) (T qr (by simp) hg) (T d11 (by simp) hg) hp' hs' ⟨by omega, by omega⟩)⟩
 | 7, _, hx => cases hx; exact ⟨rfl, _, _, rfl, fun h' s' hg hn' hs' hp' => sh5_to kv' (keysD ks) n s' _ _ _ _ p h' hn' (TK hg) (T q5 (by simp) hg) (T qr (by simp) hg) (T q7 (by simp) hg) (T q10 (by simp) hg) hp' hs' ⟨by omega, by omega⟩ hkd⟩
 | 8, _, hx => cases hx; exact ⟨rfl, _, _, rfl, fun h' s' hg hn' hs' hp' => makes_of hn' (hn' _ _ hp') rfl (sh31_to 9 n s' _ _ _ p h' hn' (T d12 (by simp) hg) (T qr (by simp) hg) (T q5 (by simp) hg) hp' hs' ⟨by omega, by omega⟩)⟩
 | 9, _, hx => cases hx; exact ⟨rfl, _, _, rfl, fun h' s' hg hn' hs' hp' => makes_of hn' (hn' _ _ hp') rfl (sh31_to 10 n s' _ _ _ p h' hn' (T d13 (by simp) hg) (T qr (by simp) hg) (T q5 (by simp) hg) hp' hs' ⟨by omega, by omega⟩)⟩
 | 10, _, hx => cases hx; exact ⟨rfl, _, _, rfl, fun h' s' hg hn' hs' hp' => makes_of hn' (hn' _ _ hp') rfl (sh6_to kv' (keysD ks) _ n M s' _ _ _ _ _ p h' hn' (TK hg) (T q5 (by simp) hg) (T qr (by simp) hg) (T q6 (by simp) hg) (T q7 (by simp) hg) (T q8 (by simp) hg) hp' hs' ⟨by omega, by omega⟩ hkd (keyV_at hkd.1 _))⟩
 | 11, _, hx => cases hx; exact ⟨rfl, _, _, rfl, fun h' s' hg hn' hs' hp' => makes_of hn' (hn' _ _ hp') rfl (sh7_to kv' kv cv (keysD ks) _ n g s' _ _ _ _ _ p h' hn' (TK hg) (T q5 (by simp) hg) (T qr (by simp) hg) (T q2 (by simp) hg) (T q7 (by simp) hg) (T q8 (by simp) hg) hp' hs' ⟨by omega, by omega⟩ ⟨by omega, by omega⟩ hkd (keyV_at hkd.1 _))⟩
end Go.Proofs
namespace Go.Proofs
open Go.Sx
set_option maxRecDepth 100000
theorem zero43z : Tryz.tab.zero 43 = some (.agg (opZ 0 0 0)) := zero43
theorem ty43 : Tryz.tab.types.get 43 = some Tryz.t43 := by kernel_rfl
theorem ty43s : Tryz.t43.size = 10 := by kernel_rfl
theorem ty43b : Nat.ble Tryz.t43.bytes 100000 = true := by kernel_rfl
theorem build63 (s : Int) : buildA Tryz.tab 63 [(0, .int .u64 s)] = some (.agg [.int .u64 s]) := by kernel_rfl
def opC (x : OpV × AV) : List AV := x.1.cells x.2
theorem opC_len (x : OpV × AV) : (opC x).length = 10 := rfl
theorem opC_one {x : OpV × AV} (h : oneCell x.2 = true) : allOne (opC x) = true := by
 show allOne [.int .i64 x.1.k, .int .i64 x.1.a, .int .i64 x.1.n, .str x.1.key, .str x.1.lo, .str x.1.hi, .str x.1.id, .int .i64 x.1.co, .int .i64 x.1.dl, x.2] = true
 simp only [s_allOne_cons, s_allOne_nil, s_one_int, s_one_str, h, cond_true]
theorem opC_lt {x : OpV × AV} {N : Nat} (h : ltV N x.2) : ltL N (opC x) := ⟨trivial, trivial, trivial, trivial, trivial, trivial, trivial, trivial, trivial, h, trivial⟩
def OpsAt (H : Heap) (v : AV) (l : List OpV) : Prop := ∃ lv : List (OpV × AV), lv.map (·.1) = l ∧ CellsAt 43 opC H v lv ∧ ∀ x ∈ lv, StepsAt H x.2 x.1.st
def idxOf (r : Nat) : Nat := if r < 40 then 0 else if r < 75 then 1 else if r < 78 then 2 else if r < 81 then 3 else if r < 84 then 4 else if r < 85 then 5 else if r < 90 then 6 else if r < 94 then 7 else if r < 95 then 8 else if r < 96 then 9 else if r < 98 then 10 else 11
noncomputable def oneOp (n M g : Nat) (ks : List (List UInt8)) (s : Nat) : OpV × Nat := genF n M g ks (idxOf (bel s 100)) (nx s)
noncomputable def seedN (n M g : Nat) (ks : List (List UInt8)) (s : Nat) : Nat → Nat
 | 0 => s
 | i + 1 => (oneOp n M g ks (seedN n M g ks s i)).2
noncomputable def opsN (n M g : Nat) (ks : List (List UInt8)) (s i : Nat) : List OpV := (List.range i).map fun j => (oneOp n M g ks (seedN n M g ks s j)).1
theorem opsN_succ (n M g : Nat) (ks : List (List UInt8)) (s i : Nat) : opsN n M g ks s (i + 1) = opsN n M g ks s i ++ [(oneOp n M g ks (seedN n M g ks s i)).1] := by
 unfold opsN
 rw [List.range_succ, List.map_append]; rfl
theorem opsN_len (n M g : Nat) (ks : List (List UInt8)) (s i : Nat) : (opsN n M g ks s i).length = i := by
 unfold opsN
 rw [List.length_map, List.length_range]
theorem dEnd_lt (ks : List (List UInt8)) (s : Nat) : dEnd ks s < 18446744073709551616 := nxs_lt (nx_lt _) _
theorem genF_lt (n M g : Nat) (ks : List (List UInt8)) (i s : Nat) : (genF n M g ks i s).2 < 18446744073709551616 := by
 unfold genF
 split <;> first | exact nx_lt _ | exact dEnd_lt _ _
theorem seedN_lt (n M g : Nat) (ks : List (List UInt8)) {s : Nat} (h : s < 18446744073709551616) : ∀ i, seedN n M g ks s i < 18446744073709551616
 | 0 => h
 | i + 1 => genF_lt _ _ _ _ _ _
abbrev RandR (n M g : Nat) (ks : List (List UInt8)) (s cnt : Nat) (H : Heap) (v : AV) (h : Heap) : Prop := ∃ w, v = .tuple [w, .int .i64 0] ∧ OpsAt h w (opsN n M g ks s cnt) ∧ Grows H h ∧ Neat h
theorem ops_keep {H h : Heap} {v : AV} {l : List OpV} (ho : OpsAt h v l) (hN : Neat h) : OpsAt (keepH H h) v l := by
 obtain ⟨lv, h1, h2, h3⟩ := ho
 exact ⟨lv, h1, CellsAt.keep h2 hN fun x hx => opC_lt (CellsAt.lt (h3 x hx) hN), fun x hx => CellsAt.keep (h3 x hx) hN fun a _ => StepV.lt _ a⟩
theorem idx_here {r j : Nat} {t : Int} (ht : thrL[j]? = some t) (hlt : (r : Int) < t) (hbef : ∀ i t, i < j → thrL[i]? = some t → t ≤ (r : Int)) : idxOf r = j := by
 have hj : j < 12 := (List.getElem?_eq_some_iff.1 ht).1
 have b0 := fun h => hbef 0 40 h rfl
 have b1 := fun h => hbef 1 75 h rfl
 have b2 := fun h => hbef 2 78 h rfl
 have b3 := fun h => hbef 3 81 h rfl
 have b4 := fun h => hbef 4 84 h rfl
 have b5 := fun h => hbef 5 85 h rfl
 have b6 := fun h => hbef 6 90 h rfl
 have b7 := fun h => hbef 7 94 h rfl
 have b8 := fun h => hbef 8 95 h rfl
 have b9 := fun h => hbef 9 96 h rfl
 have b10 := fun h => hbef 10 98 h rfl
 unfold idxOf
 match j, hj, ht with
 | 0, _, ht => cases ht; rw [if_pos (by omega)]
 | 1, _, ht => cases ht; have := b0 (by omega); rw [if_neg (by omega), if_pos (by omega)]
 | 2, _, ht => cases ht; have := b1 (by omega); rw [if_neg (by omega), if_neg (by omega), if_pos (by omega)]
 | 3, _, ht => cases ht; have := b2 (by omega); rw [if_neg (by omega), if_neg (by omega), if_neg (by omega), if_pos (by omega)]
 | 4, _, ht => cases ht; have := b3 (by omega); rw [if_neg (by omega), if_neg (by omega), if_neg (by omega), if_neg (by omega), if_pos (by omega)]
 | 5, _, ht => cases ht; have := b4 (by omega); rw [if_neg (by omega), if_neg (by omega), if_neg (by omega), if_neg (by omega), if_neg (by omega), if_pos (by omega)]
 | 6, _, ht => cases ht; have := b5 (by omega); rw [if_neg (by omega), if_neg (by omega), if_neg (by omega), if_neg (by omega), if_neg (by omega), if_neg (by omega), if_pos (by omega)]
 | 7, _, ht => cases ht; have := b6 (by omega); rw [if_neg (by omega), if_neg (by omega), if_neg (by omega), if_neg (by omega), if_neg (by omega), if_neg (by omega), if_neg (by omega), if_pos (by omega)]
 | 8, _, ht => cases ht; have := b7 (by omega); rw [if_neg (by omega), if_neg (by omega), if_neg (by omega), if_neg (by omega), if_neg (by omega), if_neg (by omega), if_neg (by omega), if_neg (by omega), if_pos (by omega)]
 | 9, _, ht => cases ht; have := b8 (by omega); rw [if_neg (by omega), if_neg (by omega), if_neg (by omega), if_neg (by omega), if_neg (by omega), if_neg (by omega), if_neg (by omega), if_neg (by omega), if_neg (by omega), if_pos (by omega)]
 | 10, _, ht => cases ht; have := b9 (by omega); rw [if_neg (by omega), if_neg (by omega), if_neg (by omega), if_neg (by omega), if_neg (by omega), if_neg (by omega), if_neg (by omega), if_neg (by omega), if_neg (by omega), if_neg (by omega), if_pos (by omega)]
 | 11, _, ht => cases ht; have := b10 (by omega); rw [if_neg (by omega), if_neg (by omega), if_neg (by omega), if_neg (by omega), if_neg (by omega), if_neg (by omega), if_neg (by omega), if_neg (by omega), if_neg (by omega), if_neg (by omega), if_neg (by omega)]
structure RunsAt (n M g : Nat) (ks : List (List UInt8)) (s i n0 : Nat) (h : Heap) (v : AV) : Prop where
 ex : ∃ lv : List (OpV × AV), lv.map (·.1) = opsN n M g ks s i ∧ GrownAt n0 43 opC h v lv ∧ ∀ x ∈ lv, StepsAt h x.2 x.1.st
theorem RunsAt.to {n M g : Nat} {ks : List (List UInt8)} {s i n0 : Nat} {h h' : Heap} {v : AV} (r : RunsAt n M g ks s i n0 h v) (h1 : ∀ b x y, h.blks.get b = some (.cells 43 x y) → h'.blks.get b = some (.cells 43 x y)) (h2 : ∀ b x y, h.blks.get b = some (.cells 184 x y) → h'.blks.get b = some (.cells 184 x y)) : RunsAt n M g ks s i n0 h' v := by
 obtain ⟨lv, r1, r2, r3⟩ := r.ex
 exact ⟨lv, r1, r2.to h1, fun x hx => CellsAt.to (r3 x hx) h2⟩
theorem RunsAt.growP {n M g : Nat} {ks : List (List UInt8)} {s i n0 : Nat} {h h' : Heap} {v : AV} (r : RunsAt n M g ks s i n0 h v) (hN : Neat h) {p t s' : Nat} (hg : GrowsP p h h') (hp : h.blks.get p = some (seedB t s')) (ht : t ≠ 43 ∧ t ≠ 184) : RunsAt n M g ks s i n0 h' v :=
 r.to (fun b x y hb => hg.some_ hN hb (ne_of_blk hb hp (by simp [ht.1.symm]))) (fun b x y hb => hg.some_ hN hb (ne_of_blk hb hp (by simp [ht.2.symm])))
theorem RunsAt.zero (n M g : Nat) (ks : List (List UInt8)) (s n0 : Nat) (h : Heap) : RunsAt n M g ks s 0 n0 h .nilslice := ⟨[], rfl, .inl ⟨rfl, rfl⟩, fun x hx => by simp at hx⟩
theorem bs28 (H : Heap) (o : OpV) (sv : AV) (h1 : oneCell sv = true) : buildSliceA Tryz.tab H 28 1 [(0, .agg (o.cells sv))] = some (.slice H.next 0 1 false 1, H.push (.cells 43 true (o.cells sv))) :=
 build_row ud28 sz43 zero43 rfl (by decide) (by decide) (o.cells sv) rfl (opC_one (x := (o, sv)) h1)
theorem RunsAt.more {n M g : Nat} {ks : List (List UInt8)} {s i n0 : Nat} {h : Heap} {v sv : AV} (r : RunsAt n M g ks s i n0 h v) (hN : Neat h) (hn0 : n0 ≤ h.next) (hi : i ≤ 100000) {o : OpV} (ho : (oneOp n M g ks (seedN n M g ks s i)).1 = o) (hst : StepsAt h sv o.st) :
  ∃ v' h', appendA Tryz.tab (h.push (.cells 43 true (o.cells sv))) [28, 28] [v, .slice h.next 0 1 false 1] = some (v', h') ∧ RunsAt n M g ks s (i + 1) n0 h' v' ∧ Neat h' ∧ h'.next = h.next + 2 ∧
   (∀ x o, h.blks.get x = some o → (∀ y, o ≠ .cells 43 false y) → h'.blks.get x = some o) ∧ (∀ x, x < n0 → h'.blks.get x = h.blks.get x) ∧ oneCell v' = true := by
 obtain ⟨lv, r1, r2, r3⟩ := r.ex
 have hsv := CellsAt.one hst
 have hll : lv.length = i := by have := congrArg List.length r1; rwa [List.length_map, opsN_len] at this
 have pu : ∀ {b : Nat} {o' : ABlk}, h.blks.get b = some o' → (h.push (.cells 43 true (o.cells sv))).blks.get b = some o' := fun {b o'} hb => by rw [s_push_other _ _ (Nat.ne_of_lt (hN b o' hb))]; exact hb
 obtain ⟨v', h', e1, e2, e3, e4, e5, e6⟩ := grown_app (f := opC) ud28 ty43 ty43s (by decide) ty43b zero43 rfl opC_len (r2.to fun b x y hb => pu hb) (hN.push _) (by show n0 ≤ h.next + 1; omega) (by omega) (fun x hx => opC_one (CellsAt.one (r3 x hx))) (b := h.next) (a := (o, sv)) (s_push_same _ _) (opC_one (x := (o, sv)) hsv)
 refine ⟨v', h', e1, ⟨lv ++ [(o, sv)], by rw [List.map_append, r1, opsN_succ, ho]; rfl, e2, fun x hx => ?_⟩, e3, e4, fun x o' hx ho' => e5 x o' (pu hx) ho', fun x hx => by rw [e6 x hx, s_push_other _ _ (by omega)], CellsAt.one e2.cells⟩
 have st : ∀ {w : AV} {l : List StepV}, StepsAt h w l → StepsAt h' w l := fun hs => CellsAt.to hs fun b x y hb => e5 b _ (pu hb) fun y => by simp
 rcases List.mem_append.1 hx with hx | hx
 ·exact st (r3 x hx)
 ·rw [List.mem_singleton.1 hx]; exact st hst
end Go.Proofs
namespace Go.Proofs
open Go.Sx
set_option maxRecDepth 100000
theorem rnd_run (n g : Nat) (M : Nat) (kv cv : AV) (ks : List (List UInt8)) (cs : List CntV) (s cnt : Nat) (H : Heap) (hN : Neat H) (hk : KeysAt H kv ks) (hc : CntsAt H cv cs) (hks : ∀ s ∈ ks, s.length < 1000000000) (hkl : ks.length < 1000000000) (hcl : cs.length < 1000000000)
  (hE : cfgE n g ks cs = 0) (hs : s < 18446744073709551616) (hM : M = n * g) (hM2 : M < 1000) (hn : 0 < n ∧ n < M) (hg : 1 < g ∧ g < 1000) (hcnt : cnt ≤ 2000) :
  ∃ v h, RandR n M g (keysD ks) s cnt H v h ∧ H.next ≤ h.next ∧ CallTo Tryz.prog Tryz.tab 5 [.agg (confC n g kv cv), .int .u64 (s : Int), .int .i64 (cnt : Int)] H [(v, keepH H h)] := by
 refine callE_of Tryz.tabOk Tryz.func5 rfl rfl ?_
 show GetsE Tryz.prog Tryz.tab ⟨none, 57⟩ _ _ _
 repeat refine GetsE.seq ?_
 have k1 := hk.one
 have k2 := hc.one
 refine GetsE.l0 Tryz.tabOk (s' := ?sn1) ?hn1 ?kn1; (case hn1 => (simp -implicitDefEqProofs (disch := first | decide | assumption | (try simp only [q_next, s_put_next]) <;> omega | exact pd_ (by kernel_rfl) | fail) only [sxM, Nat.reduceAdd, reduceCtorEq, Int.reduceToNat, Nat.reduceEqDiff, Int.reduceEq, Int.reduceLT, s_draw, k1, k2] <;> rfl)); (try (change GetsE _ _ _ _ _ _; repeat refine GetsE.seq ?_))
 refine GetsE.ofH (fun h => h.blks.get H.next = some (.cells 25 true (confC n g kv cv)) ∧ Grows H h ∧ h.next = H.next + 1 ∧ Neat h) ⟨by ((try simp (disch := first | assumption | omega | (try simp only [q_next, s_put_next]) <;> omega | fail) only [foL]); (try rfl)), .push _ _, by ((try simp (disch := first | assumption | omega | (try simp only [q_next, s_put_next]) <;> omega | fail) only [foL]); (try rfl)), (by repeat' (first | exact hN | exact aN | exact bN | (refine Neat.push ?_ _) | (refine Neat.put ?_ (by ((try dsimp only); (try simp only [s_push_next, s_put_next]); omega)) _)))⟩ ?_
 rintro h ⟨a0, ag, ax, aN⟩
 have q := cchk_to n g kv cv ks cs h aN (hk.grow hN ag) (hc.grow hN ag) hks hkl hcl
 rw [hE] at q
 refine GetsE.last Tryz.tabOk (ov := ptO noOv 17 [.agg (confC n g kv cv)] h [(.int .i64 0, h)]) (ptO_ok noOv_ok q) 8 (s' := ?sn2) ?hn2 ?kn2; (case hn2 => (simp -implicitDefEqProofs (disch := first | decide | assumption | (try simp only [q_next, s_put_next]) <;> omega | exact pd_ (by kernel_rfl) | fail) only [sxM, Nat.reduceAdd, reduceCtorEq, Int.reduceToNat, Nat.reduceEqDiff, Int.reduceEq, Int.reduceLT, s_draw, s_ptEq, a0, s_varTrue ia25 sz25, t_r4] <;> rfl)); (try (change GetsE _ _ _ _ _ _; repeat refine GetsE.seq ?_))
 refine GetsE.blk ?_
 repeat refine GetsE.seq ?_
 have c1 : ¬ ((cnt : Int) < 0) := by omega
 have c2 : ¬ (2000 < (cnt : Int)) := by omega
 refine GetsE.l0 Tryz.tabOk (s' := ?sn3) ?hn3 ?kn3; (case hn3 => (simp -implicitDefEqProofs (disch := first | decide | assumption | (try simp only [q_next, s_put_next]) <;> omega | exact pd_ (by kernel_rfl) | fail) only [sxM, Nat.reduceAdd, reduceCtorEq, Int.reduceToNat, Nat.reduceEqDiff, Int.reduceEq, Int.reduceLT, s_draw] <;> rfl)); (try (change GetsE _ _ _ _ _ _; repeat refine GetsE.seq ?_))
 refine GetsE.condF (by simp (disch := decide) only [sxL]) ?_
 change GetsE _ _ _ _ _ _
 repeat refine GetsE.seq ?_
 refine GetsE.l0 Tryz.tabOk (s' := ?sn4) ?hn4 ?kn4; (case hn4 => (simp -implicitDefEqProofs (disch := first | decide | assumption | (try simp only [q_next, s_put_next]) <;> omega | exact pd_ (by kernel_rfl) | fail) only [sxM, Nat.reduceAdd, reduceCtorEq, Int.reduceToNat, Nat.reduceEqDiff, Int.reduceEq, Int.reduceLT, s_draw, c1] <;> rfl)); (try (change GetsE _ _ _ _ _ _; repeat refine GetsE.seq ?_))
 refine GetsE.condF (by simp (disch := decide) only [sxL]) ?_
 change GetsE _ _ _ _ _ _
 repeat refine GetsE.seq ?_
 refine GetsE.l0 Tryz.tabOk (s' := ?sn5) ?hn5 ?kn5; (case hn5 => (simp -implicitDefEqProofs (disch := first | decide | assumption | (try simp only [q_next, s_put_next]) <;> omega | exact pd_ (by kernel_rfl) | fail) only [sxM, Nat.reduceAdd, reduceCtorEq, Int.reduceToNat, Nat.reduceEqDiff, Int.reduceEq, Int.reduceLT, s_draw, c2] <;> rfl)); (try (change GetsE _ _ _ _ _ _; repeat refine GetsE.seq ?_))
 refine GetsE.condF (by simp (disch := decide) only [sxL]) (GetsE.skip Tryz.tabOk ?_)
 refine inBlk_normal ?_
 change GetsE _ _ _ _ _ _
 repeat refine GetsE.seq ?_
 clear q
 refine GetsE.l0 Tryz.tabOk (s' := ?sn6) ?hn6 ?kn6; (case hn6 => (simp -implicitDefEqProofs (disch := first | decide | assumption | (try simp only [q_next, s_put_next]) <;> omega | exact pd_ (by kernel_rfl) | fail) only [sxM, Nat.reduceAdd, reduceCtorEq, Int.reduceToNat, Nat.reduceEqDiff, Int.reduceEq, Int.reduceLT, s_draw, build63] <;> rfl)); (try (change GetsE _ _ _ _ _ _; repeat refine GetsE.seq ?_))
 refine GetsE.ofH (fun h' => h'.blks.get H.next = some (.cells 25 true (confC n g kv cv)) ∧ h'.blks.get (H.next + 1) = some (seedB 63 s) ∧ Grows H h' ∧ h'.next = H.next + 2 ∧ Neat h') ⟨by ((try simp (disch := first | assumption | omega | (try simp only [q_next, s_put_next]) <;> omega | fail) only [foL]); (try rfl)); exact a0, by ((try simp (disch := first | assumption | omega | (try simp only [q_next, s_put_next]) <;> omega | fail) only [foL]); (try rfl)), ⟨by ((try dsimp only); (try simp only [s_push_next, s_put_next]); omega), fun b hb => by ((try simp (disch := first | assumption | omega | (try simp only [q_next, s_put_next]) <;> omega | fail) only [foL]); (try rfl)); exact ag.get b hb⟩, by ((try simp (disch := first | assumption | omega | (try simp only [q_next, s_put_next]) <;> omega | fail) only [foL]); (try rfl)); omega, (by repeat' (first | exact hN | exact aN | exact bN | (refine Neat.push ?_ _) | (refine Neat.put ?_ (by ((try dsimp only); (try simp only [s_push_next, s_put_next]); omega)) _)))⟩ ?_
 rw [ax]
 clear a0 ag ax aN
 clear h
 rintro h ⟨a0, ap, ag, ax, aN⟩
 obtain ⟨tv, K, L, q, kg, KN, hL, hL12, hgood⟩ := shares_to n g M kv cv ks (H.next + 1) s h aN (.inl (hk.grow hN ag)) k2 (fun N hle => rows_ltle (hc.grow hN ag) aN hle) ap hM hM2 hn hg hkl
 refine GetsE.last Tryz.tabOk (ov := ptO noOv 18 [.agg (confC n g kv cv), .ptr (H.next + 1) 0] h [(tv, K)]) (ptO_ok noOv_ok q) 8 (s' := ?sn7) ?hn7 ?kn7; (case hn7 => (simp -implicitDefEqProofs (disch := first | decide | assumption | (try simp only [q_next, s_put_next]) <;> omega | exact pd_ (by kernel_rfl) | fail) only [sxM, Nat.reduceAdd, reduceCtorEq, Int.reduceToNat, Nat.reduceEqDiff, Int.reduceEq, Int.reduceLT, s_draw, s_ptEq, a0, s_varTrue ia25 sz25, t_r4] <;> rfl)); (try (change GetsE _ _ _ _ _ _; repeat refine GetsE.seq ?_))
 have hgK : Grows H K := ag.trans kg
 have Kx : H.next + 2 ≤ K.next := by have := kg.next; omega
 have Kp : K.blks.get (H.next + 1) = some (seedB 63 s) := by rw [kg.get _ (by omega)]; exact ap
 clear q a0 ap ag ax aN kg
 clear h
 have hpn : H.next ≤ H.next + 1 := by omega
 generalize H.next + 1 = p at Kp hgood hpn ⊢
 generalize keysD ks = kd at hgood ⊢
 clear hk hc hks hkl hcl hE
 have hln : ∀ h, lenA Tryz.tab h 64 tv = some (.int .i64 12) := fun h => by rw [CellsAt.len hL ud64 h, hL12]; rfl
 refine GetsE.l0 Tryz.tabOk (s' := ?sn8) ?hn8 ?kn8; (case hn8 => (simp -implicitDefEqProofs (disch := first | decide | assumption | (try simp only [q_next, s_put_next]) <;> omega | exact pd_ (by kernel_rfl) | fail) only [sxM, Nat.reduceAdd, reduceCtorEq, Int.reduceToNat, Nat.reduceEqDiff, Int.reduceEq, Int.reduceLT, s_draw] <;> rfl)); (try (change GetsE _ _ _ _ _ _; repeat refine GetsE.seq ?_))
 refine GetsE.l0 Tryz.tabOk (s' := ?sn9) ?hn9 ?kn9; (case hn9 => (simp -implicitDefEqProofs (disch := first | decide | assumption | (try simp only [q_next, s_put_next]) <;> omega | exact pd_ (by kernel_rfl) | fail) only [sxM, Nat.reduceAdd, reduceCtorEq, Int.reduceToNat, Nat.reduceEqDiff, Int.reduceEq, Int.reduceLT, s_draw] <;> rfl)); (try (change GetsE _ _ _ _ _ _; repeat refine GetsE.seq ?_))
 refine GetsE.uptoH cnt (fun i tm h => tm.get 9 = some (.ptr p 0) ∧ tm.get 10 = some tv ∧ (∃ w, tm.get 11 = some w ∧ oneCell w = true ∧ RunsAt n M g kd s i K.next h w) ∧ tm.get 33 = some (.int .i64 (cnt : Int)) ∧ tm.get 34 = some (.int .i64 (i : Int)) ∧ h.blks.get p = some (seedB 63 (seedN n M g kd s i)) ∧ GrowsP p K h ∧ Neat h)
  ⟨by simp (disch := decide) only [sxL], by simp (disch := decide) only [sxL], ⟨.nilslice, by simp (disch := decide) only [sxL], rfl, .zero _ _ _ _ _ _ _⟩, by simp (disch := decide) only [sxL], by simp (disch := decide) only [sxL], Kp, .refl _ _, KN⟩ ?_
 rintro i tm h hi ⟨i9, i10, ⟨w, i11, hw1, hr⟩, i33, i34, hp, hg, aN⟩
 repeat refine GetsE.seq ?_
 have hsi := seedN_lt n M g kd hs i
 by_cases hlt : (i : Int) < (cnt : Int)
 ·have v5 : awrap .i64 ((i : Int) + 1) = (i : Int) + 1 := s_wrap (by omega) (by omega)
  have hs2 : seedN n M g kd s (i + 1) = (genF n M g kd (idxOf (bel (seedN n M g kd s i) 100)) (nx (seedN n M g kd s i))).2 := rfl
  have ho : (oneOp n M g kd (seedN n M g kd s i)).1 = (genF n M g kd (idxOf (bel (seedN n M g kd s i) 100)) (nx (seedN n M g kd s i))).1 := rfl
  have hr100 := bel_lt (seedN n M g kd s i) (k := 100) (by omega)
  refine GetsE.l0 Tryz.tabOk (s' := ?sn10) ?hn10 ?kn10; (case hn10 => (simp -implicitDefEqProofs (disch := first | decide | assumption | (try simp only [q_next, s_put_next]) <;> omega | exact pd_ (by kernel_rfl) | fail) only [sxM, Nat.reduceAdd, reduceCtorEq, Int.reduceToNat, Nat.reduceEqDiff, Int.reduceEq, Int.reduceLT, s_draw, i33, i34, hlt] <;> rfl)); (try (change GetsE _ _ _ _ _ _; repeat refine GetsE.seq ?_))
  refine GetsE.condT (by simp (disch := decide) only [sxL]) (GetsE.skip Tryz.tabOk ?_)
  change GetsE _ _ _ _ _ _
  refine GetsE.seq (GetsE.blk ?_)
  repeat refine GetsE.seq ?_
  refine GetsE.last Tryz.tabOk (ov := addOv noOv 19 (ovB 63)) (addOv_ok noOv_ok ovB_ok) 8 (s' := ?sn11) ?hn11 ?kn11; (case hn11 => (simp -implicitDefEqProofs (disch := first | decide | assumption | (try simp only [q_next, s_put_next]) <;> omega | exact pd_ (by kernel_rfl) | fail) only [sxM, Nat.reduceAdd, reduceCtorEq, Int.reduceToNat, Nat.reduceEqDiff, Int.reduceEq, Int.reduceLT, s_draw, ovB_red, belE_eq, Int.toNat_natCast, i9, hp] <;> rfl)); (try (change GetsE _ _ _ _ _ _; repeat refine GetsE.seq ?_))
  refine GetsE.l0 Tryz.tabOk (s' := ?sn12) ?hn12 ?kn12; (case hn12 => (simp -implicitDefEqProofs (disch := first | decide | assumption | (try simp only [q_next, s_put_next]) <;> omega | exact pd_ (by kernel_rfl) | fail) only [sxM, Nat.reduceAdd, reduceCtorEq, Int.reduceToNat, Nat.reduceEqDiff, Int.reduceEq, Int.reduceLT, s_draw, i10, hln] <;> rfl)); (try (change GetsE _ _ _ _ _ _; repeat refine GetsE.seq ?_))
  refine GetsE.ofH (fun h => h.blks.get p = some (seedB 63 (nx (seedN n M g kd s i))) ∧ RunsAt n M g kd s i K.next h w ∧ GrowsP p K h ∧ Neat h) ⟨by ((try simp (disch := first | assumption | omega | (try simp only [q_next, s_put_next]) <;> omega | fail) only [foL]); (try rfl)), hr.growP aN (GrowsP.put _ _ _) hp ⟨by decide, by decide⟩, hg.trans (.put _ _ _), aN.put (aN _ _ hp) _⟩ ?_
  clear hr hp hg aN
  clear h
  rintro h ⟨hp, hr, hg, aN⟩
  refine GetsE.uptoH 12 (fun j tm h => tm.get 9 = some (.ptr p 0) ∧ tm.get 10 = some tv ∧ tm.get 11 = some w ∧ tm.get 12 = some (.int .i64 ((bel (seedN n M g kd s i) 100 : Nat) : Int)) ∧ tm.get 33 = some (.int .i64 (cnt : Int)) ∧ tm.get 34 = some (.int .i64 (i : Int)) ∧ tm.get 38 = some tv ∧ tm.get 39 = some (.int .i64 12) ∧ tm.get 40 = some (.int .i64 (j : Int)) ∧
    (∀ q t, q < j → thrL[q]? = some t → t ≤ ((bel (seedN n M g kd s i) 100 : Nat) : Int)) ∧ h.blks.get p = some (seedB 63 (nx (seedN n M g kd s i))) ∧ RunsAt n M g kd s i K.next h w ∧ GrowsP p K h ∧ Neat h)
   ⟨by simp (disch := decide) only [sxL, i9], by simp (disch := decide) only [sxL, i10], by simp (disch := decide) only [sxL, i11], by simp (disch := decide) only [sxL], by simp (disch := decide) only [sxL, i33], by simp (disch := decide) only [sxL, i34], by simp (disch := decide) only [sxL], by simp (disch := decide) only [sxL], by simp (disch := decide) only [sxL], fun q t hq => absurd hq (Nat.not_lt_zero _), hp, hr, hg, aN⟩ ?_
  clear hr hp hg aN i9 i10 i11 i33 i34
  clear h tm
  rintro j tm h hj ⟨i9, i10, i11, i12, i33, i34, i38, i39, i40, hbef, hp, hr, hg, aN⟩
  repeat refine GetsE.seq ?_
  by_cases hj2 : (j : Int) < 12
  ·obtain ⟨x, hx⟩ : ∃ x, L[j]? = some x := ⟨_, List.getElem?_eq_getElem (by omega)⟩
   obtain ⟨ht, f, cap, hxf, hmk⟩ := hgood j x hx
   obtain ⟨bL, hix, -, hcl⟩ := (CellsAt.growP hL KN hg Kp fun x y => by simp).row ud64 sz69 (fun _ => rfl) hx
   have hcl2 : Sx.cellsIn (h.blks.get bL) (j * 2) 2 = some [.int .i64 x.1, .func (.func f) [] cap] := by rw [← hxf]; exact hcl 0 2 (by omega)
   clear hcl
   have lp := aN _ _ hp
   have hKn := hg.next
   have v6 : awrap .i64 ((j : Int) + 1) = (j : Int) + 1 := s_wrap (by omega) (by omega)
   refine GetsE.l0 Tryz.tabOk (s' := ?sn13) ?hn13 ?kn13; (case hn13 => (simp -implicitDefEqProofs (disch := first | decide | assumption | (try simp only [q_next, s_put_next]) <;> omega | exact pd_ (by kernel_rfl) | fail) only [sxM, Nat.reduceAdd, reduceCtorEq, Int.reduceToNat, Nat.reduceEqDiff, Int.reduceEq, Int.reduceLT, s_draw, i39, i40, hj2] <;> rfl)); (try (change GetsE _ _ _ _ _ _; repeat refine GetsE.seq ?_))
   refine GetsE.condT (by simp (disch := decide) only [sxL]) (GetsE.skip Tryz.tabOk ?_)
   change GetsE _ _ _ _ _ _
   refine GetsE.seq (GetsE.blk ?_)
   repeat refine GetsE.seq ?_
   refine GetsE.l0 Tryz.tabOk (s' := ?sn14) ?hn14 ?kn14; (case hn14 => (simp -implicitDefEqProofs (disch := first | decide | assumption | (try simp only [q_next, s_put_next]) <;> omega | exact pd_ (by kernel_rfl) | fail) only [sxM, Nat.reduceAdd, reduceCtorEq, Int.reduceToNat, Nat.reduceEqDiff, Int.reduceEq, Int.reduceLT, s_draw, i38, i40, hix, hcl2, s_varTrue ia69 sz69, zz69, on_nf, cells_fn, stL, sz69] <;> rfl)); (try (change GetsE _ _ _ _ _ _; repeat refine GetsE.seq ?_))
   refine GetsE.ofH (fun h' => h'.blks.get h.next = some (.cells 69 true [.int .i64 x.1, .func (.func f) [] cap]) ∧ h'.blks.get p = some (seedB 63 (nx (seedN n M g kd s i))) ∧ RunsAt n M g kd s i K.next h' w ∧ GrowsP p K h' ∧ Neat h')
    ⟨by ((try simp (disch := first | assumption | omega | (try simp only [q_next, s_put_next]) <;> omega | fail) only [foL]); (try rfl)), by ((try simp (disch := first | assumption | omega | (try simp only [q_next, s_put_next]) <;> omega | fail) only [foL]); (try rfl)); exact hp, hr.to (fun b x y hb => by
     have hbn := aN _ _ hb
     ((try simp (disch := first | assumption | omega | (try simp only [q_next, s_put_next]) <;> omega | fail) only [foL]); (try rfl)); exact hb) (fun b x y hb => by
     have hbn := aN _ _ hb
     ((try simp (disch := first | assumption | omega | (try simp only [q_next, s_put_next]) <;> omega | fail) only [foL]); (try rfl)); exact hb), ⟨by ((try dsimp only); (try simp only [s_push_next, s_put_next]); omega), fun b hb hne => by ((try simp (disch := first | assumption | omega | (try simp only [q_next, s_put_next]) <;> omega | fail) only [foL]); (try rfl)); exact hg.get b hb hne⟩, (by repeat' (first | exact hN | exact aN | exact bN | (refine Neat.push ?_ _) | (refine Neat.put ?_ (by ((try dsimp only); (try simp only [s_push_next, s_put_next]); omega)) _)))⟩ ?_
   generalize h.next = d
   clear hr hp hg aN hix hcl2 lp hKn
   clear h
   rintro h ⟨a1, hp, hr, hg, aN⟩
   by_cases hlt2 : ((bel (seedN n M g kd s i) 100 : Nat) : Int) < x.1
   ·have hidx := idx_here ht hlt2 hbef
    rw [hidx] at hs2 ho
    obtain ⟨sv, H', q, bg, bN, bp, bst⟩ := hmk h (nx (seedN n M g kd s i)) hg aN (nx_lt _) hp
    generalize genF n M g kd j (nx (seedN n M g kd s i)) = gq at ho hs2 q bp bst
    have hr3 := hr.growP aN bg hp ⟨by decide, by decide⟩
    have hK1 := hg.next
    have hK2 := bg.next
    obtain ⟨v', h', happ, hr4, hN4, hx4, hpre, hlow, hv1⟩ := hr3.more bN (by omega) (by omega) ho bst
    have bs := bs28 H' gq.1 sv (CellsAt.one bst)
    refine GetsE.l0 Tryz.tabOk (s' := ?sn15) ?hn15 ?kn15; (case hn15 => (simp -implicitDefEqProofs (disch := first | decide | assumption | (try simp only [q_next, s_put_next]) <;> omega | exact pd_ (by kernel_rfl) | fail) only [sxM, Nat.reduceAdd, reduceCtorEq, Int.reduceToNat, Nat.reduceEqDiff, Int.reduceEq, Int.reduceLT, s_draw, i12, a1, fa69_0, s_varFalse ia3, hlt2] <;> rfl)); (try (change GetsE _ _ _ _ _ _; repeat refine GetsE.seq ?_))
    refine GetsE.condT (by simp (disch := decide) only [sxL]) ?_
    change GetsE _ _ _ _ _ _
    repeat refine GetsE.seq ?_
    refine GetsE.last Tryz.tabOk (ov := ptO noOv f cap h [(.agg (gq.1.cells sv), H')]) (ptO_ok noOv_ok q) 8 (s' := ?sn16) ?hn16 ?kn16; (case hn16 => (simp -implicitDefEqProofs (disch := first | decide | assumption | (try simp only [q_next, s_put_next]) <;> omega | exact pd_ (by kernel_rfl) | fail) only [sxM, Nat.reduceAdd, reduceCtorEq, Int.reduceToNat, Nat.reduceEqDiff, Int.reduceEq, Int.reduceLT, s_draw, s_ptEq, i11, a1, fa69_1, s_varFalse ia67, bs, z_opApp, happ] <;> rfl)); (try (change GetsE _ _ _ _ _ _; repeat refine GetsE.seq ?_))
    refine GetsE.exit Tryz.tabOk ?_
    refine inBlk_other (by decide) ?_
    refine inBlk_exit ?_
    change GetsE _ _ _ _ _ _
    refine GetsE.l0 Tryz.tabOk (s' := ?sn17) ?hn17 ?kn17; (case hn17 => (simp -implicitDefEqProofs (disch := first | decide | assumption | (try simp only [q_next, s_put_next]) <;> omega | exact pd_ (by kernel_rfl) | fail) only [sxM, Nat.reduceAdd, reduceCtorEq, Int.reduceToNat, Nat.reduceEqDiff, Int.reduceEq, Int.reduceLT, s_draw, i34, v5] <;> rfl)); (try (change GetsE _ _ _ _ _ _; repeat refine GetsE.seq ?_))
    exact ⟨_, _, rfl, by omega, by simp (disch := decide) only [sxL, i9], by simp (disch := decide) only [sxL, i10], ⟨v', by simp (disch := decide) only [sxL], hv1, hr4⟩, by simp (disch := decide) only [sxL, i33], by simp (disch := decide) only [sxL, s_castS], by rw [hs2]; exact hpre _ _ bp (fun y => by simp), ⟨by omega, fun b hb hne => by rw [hlow b hb]; exact (hg.trans bg).get b hb hne⟩, hN4⟩
   ·refine GetsE.l0 Tryz.tabOk (s' := ?sn18) ?hn18 ?kn18; (case hn18 => (simp -implicitDefEqProofs (disch := first | decide | assumption | (try simp only [q_next, s_put_next]) <;> omega | exact pd_ (by kernel_rfl) | fail) only [sxM, Nat.reduceAdd, reduceCtorEq, Int.reduceToNat, Nat.reduceEqDiff, Int.reduceEq, Int.reduceLT, s_draw, i12, a1, fa69_0, s_varFalse ia3, hlt2] <;> rfl)); (try (change GetsE _ _ _ _ _ _; repeat refine GetsE.seq ?_))
    refine GetsE.condF (by simp (disch := decide) only [sxL]) (GetsE.skip Tryz.tabOk ?_)
    change GetsE _ _ _ _ _ _
    refine GetsE.l0 Tryz.tabOk (s' := ?sn19) ?hn19 ?kn19; (case hn19 => (simp -implicitDefEqProofs (disch := first | decide | assumption | (try simp only [q_next, s_put_next]) <;> omega | exact pd_ (by kernel_rfl) | fail) only [sxM, Nat.reduceAdd, reduceCtorEq, Int.reduceToNat, Nat.reduceEqDiff, Int.reduceEq, Int.reduceLT, s_draw, i40, v6] <;> rfl)); (try (change GetsE _ _ _ _ _ _; repeat refine GetsE.seq ?_))
    exact ⟨_, _, rfl, by omega, by simp (disch := decide) only [sxL, i9], by simp (disch := decide) only [sxL, i10], by simp (disch := decide) only [sxL, i11], by simp (disch := decide) only [sxL, i12], by simp (disch := decide) only [sxL, i33], by simp (disch := decide) only [sxL, i34], by simp (disch := decide) only [sxL, i38], by simp (disch := decide) only [sxL, i39], by simp (disch := decide) only [sxL, s_castS], fun q t hq ht' => by
     by_cases e : q = j
     ·subst e
      rw [ht] at ht'
      cases ht'
      omega
     ·exact hbef q t (by omega) ht', hp, hr, hg, aN⟩
  ·exact absurd (hbef 11 100 (by omega) rfl) (by omega)
 ·have h9 : i = cnt := by omega
  subst h9
  refine GetsE.l0 Tryz.tabOk (s' := ?sn20) ?hn20 ?kn20; (case hn20 => (simp -implicitDefEqProofs (disch := first | decide | assumption | (try simp only [q_next, s_put_next]) <;> omega | exact pd_ (by kernel_rfl) | fail) only [sxM, Nat.reduceAdd, reduceCtorEq, Int.reduceToNat, Nat.reduceEqDiff, Int.reduceEq, Int.reduceLT, s_draw, i33, i34, hlt] <;> rfl)); (try (change GetsE _ _ _ _ _ _; repeat refine GetsE.seq ?_))
  refine GetsE.condF (by simp (disch := decide) only [sxL]) (GetsE.exit Tryz.tabOk ?_)
  refine inBlk_exit ?_
  change GetsE _ _ _ _ _ _
  repeat refine GetsE.seq ?_
  refine GetsE.l0 Tryz.tabOk (s' := ?sn21) ?hn21 ?kn21; (case hn21 => (simp -implicitDefEqProofs (disch := first | decide | assumption | (try simp only [q_next, s_put_next]) <;> omega | exact pd_ (by kernel_rfl) | fail) only [sxM, Nat.reduceAdd, reduceCtorEq, Int.reduceToNat, Nat.reduceEqDiff, Int.reduceEq, Int.reduceLT, s_draw, i11] <;> rfl)); (try (change GetsE _ _ _ _ _ _; repeat refine GetsE.seq ?_))
  refine GetsE.ret Tryz.tabOk ?_
  obtain ⟨lv, r1, r2, r3⟩ := hr.ex
  have hK1 := hg.next
  have hK2 := hgK.next
  exact fin_E (vs := [w, .int .i64 0]) rfl (by simp (disch := decide) only [sxL, Tryz.f5, resultA]) (by ((try dsimp only); (try simp only [s_push_next, s_put_next]); omega)) ⟨CellsAt.lt r2.cells aN, trivial, trivial⟩ ⟨w, rfl, ⟨lv, r1, r2.cells, r3⟩, ⟨by ((try dsimp only); (try simp only [s_push_next, s_put_next]); omega), fun b hb => by rw [hg.get b (by omega) (by omega), hgK.get b hb]⟩, aN⟩
end Go.Proofs
