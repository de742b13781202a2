/-
  The makers of shares, and definitions, draw as the law says.
-/
import Derived.Test.YtnhnepmjdgfelaaGreatDoorPaB
import Derived.Test.YtnhnepmjdgfelaaGreatDoorSxI
set_option linter.unusedSimpArgs false
set_option linter.unusedVariables false
set_option linter.deprecated false
namespace Go.Proofs
open Go.Sx
set_option maxRecDepth 100000
theorem z_opMF (f : FuncId) (b : List Operand) (tm : T AV) (H : Heap) : opN (.makeFunc (.func f) #[] b.toArray) Tryz.tab tm H = withH H (bindO (aevs Tryz.tab tm b) fun b => some (.func (.func f) [] b)) := rfl
abbrev intB (k : Int) : ABlk := .cells 3 true [.int .i64 k]
theorem sh2_to (k n : Int) (r : Nat) (H : Heap) :
  CallTo Tryz.prog Tryz.tab 44 [.int .i64 k, .int .i64 n, .ptr r 0] H [(.func (.func 45) [] [.ptr H.next 0, .ptr r 0, .ptr (H.next + 1) 0], (H.push (intB k)).push (intB n))] := by
 refine callTo_run Tryz.tabOk (ov := noOv) noOv_ok (n := 20) ?_
 rw [s_callO, s_callB, get44]
 simp -implicitDefEqProofs (disch := first | decide | assumption | (try simp only [q_next, s_put_next]) <;> omega | exact pd_ (by kernel_rfl) | fail) only [sxM, Nat.reduceAdd, reduceCtorEq, Int.reduceToNat, Nat.reduceEqDiff, Int.reduceEq, Int.reduceLT, Tryz.f44, z_opMF, withH]
theorem sh3_to (k : Int) (r q : Nat) (H : Heap) :
  CallTo Tryz.prog Tryz.tab 46 [.int .i64 k, .ptr r 0, .ptr q 0] H [(.func (.func 47) [] [.ptr H.next 0, .ptr r 0, .ptr q 0], H.push (intB k))] := by
 refine callTo_run Tryz.tabOk (ov := noOv) noOv_ok (n := 20) ?_
 rw [s_callO, s_callB, get46]
 simp -implicitDefEqProofs (disch := first | decide | assumption | (try simp only [q_next, s_put_next]) <;> omega | exact pd_ (by kernel_rfl) | fail) only [sxM, Nat.reduceAdd, reduceCtorEq, Int.reduceToNat, Nat.reduceEqDiff, Int.reduceEq, Int.reduceLT, Tryz.f46, z_opMF, withH]
end Go.Proofs
namespace Go.Sx
theorem Cut.put {H H' : Heap} {v : AV} {p : Nat} {o : ABlk} (hn : H.next ≤ H'.next) (hp : p < H.next) (hb : ∀ b, b < H.next → b ≠ p → H'.blks.get b = H.blks.get b) (hq : H'.blks.get p = some o) (ho : ltB H.next o) (hh : Neat H) (hv : ltV H.next v) : Cut H (v, putBlk H p (some o)) v H' :=
 ⟨rfl, by rw [s_put_next]; exact hn, by rw [s_put_next]; exact Nat.le_refl _, fun b o' h => by
  rw [s_put_next]
  by_cases e : b = p
  ·subst e
   have h' : (putBlk H b (some o)).blks.get b = some o' := h
   rw [s_put_same] at h'
   cases h'
   exact ⟨hq, .inr ho⟩
  ·have h' : (putBlk H p (some o)).blks.get b = some o' := h
   rw [s_put_other _ _ _ e] at h'
   have hl := hh b o' h'
   exact ⟨by rw [hb b hl e]; exact h', .inl ⟨hl, h'⟩⟩, by rw [s_put_next]; exact hv⟩
theorem fin_put {G : Tab} {H : Heap} {s : St} {v : AV} {rs : List ResultVar} {p : Nat} {o : ABlk} (hd : s.df = []) (hr : resultsA G s.tm s.h rs = some [v]) (hn : H.next ≤ s.h.next) (hp : p < H.next) (hb : ∀ b, b < H.next → b ≠ p → s.h.blks.get b = H.blks.get b) (hq : s.h.blks.get p = some o) (ho : ltB H.next o) (hh : Neat H) (hv : ltV H.next v) :
  leaves .ret = true ∧ s.df = [] ∧ ∃ vs, resultsA G s.tm s.h rs = some vs ∧ ∃ q ∈ [(v, putBlk H p (some o))], Cut H q (oneOf vs) s.h :=
 ⟨rfl, hd, [v], hr, (v, putBlk H p (some o)), List.mem_singleton.2 rfl, .put hn hp hb hq ho hh hv⟩
end Go.Sx
namespace Go.Proofs
open Go.Sx
set_option maxRecDepth 100000
abbrev opZ (k a n : Int) : List AV := [.int .i64 k, .int .i64 a, .int .i64 n, .str [], .str [], .str [], .str [], .int .i64 0, .int .i64 0, .nilslice]
theorem zero43 : Tryz.tab.zero 43 = some (.agg (opZ 0 0 0)) := by kernel_rfl
theorem build432 (k a : Int) : buildA Tryz.tab 43 [(0, .int .i64 k), (1, .int .i64 a)] = some (.agg (opZ k a 0)) := by kernel_rfl
theorem sh21_to (k : Int) (n s bk br bn p : Nat) (H : Heap) (hN : Neat H) (h1 : H.blks.get bk = some (intB k)) (h2 : H.blks.get br = some (.cells 61 true [.ptr p 0])) (h3 : H.blks.get bn = some (intB n)) (hp : H.blks.get p = some (seedB 63 s)) (hs : s < 18446744073709551616) (hk : 0 < n ∧ n < 2147483648) :
  CallTo Tryz.prog Tryz.tab 45 [.ptr bk 0, .ptr br 0, .ptr bn 0] H [(.agg (opZ k (bel s n : Nat) 0), putBlk H p (some (seedB 63 (nx s))))] := by
 refine callTo_of Tryz.tabOk Tryz.func45 rfl rfl ?_
 show Gets Tryz.prog Tryz.tab ⟨none, 9⟩ _ _ _
 repeat refine Gets.seq ?_
 have hlp := hN _ _ hp
 have g1 : cellIn ((H.push (.cells 43 true (opZ 0 0 0))).blks.get bk) 0 = some (.int .i64 k) := by rw [s_push_other _ _ (Nat.ne_of_lt (hN _ _ h1)), h1]; rfl
 have g2 : cellIn ((H.push (.cells 43 true (opZ 0 0 0))).blks.get br) 0 = some (.ptr p 0) := by rw [s_push_other _ _ (Nat.ne_of_lt (hN _ _ h2)), h2]; rfl
 have g3 : cellIn ((H.push (.cells 43 true (opZ 0 0 0))).blks.get bn) 0 = some (.int .i64 n) := by rw [s_push_other _ _ (Nat.ne_of_lt (hN _ _ h3)), h3]; rfl
 have g4 : (H.push (.cells 43 true (opZ 0 0 0))).blks.get p = some (seedB 63 s) := by rw [s_push_other _ _ (Nat.ne_of_lt hlp), hp]
 have hkp : bk ≠ p := fun e => by
  rw [e, hp] at h1
  simp at h1
 have g5 : cellIn ((putBlk (H.push (.cells 43 true (opZ 0 0 0))) p (some (seedB 63 (nx s)))).blks.get bk) 0 = some (.int .i64 k) := by rw [s_put_other _ _ _ hkp]; exact g1
 have q := bel_to p s n hs hk (H.push (.cells 43 true (opZ 0 0 0))) g4
 have hz : (putBlk (H.push (.cells 43 true (opZ 0 0 0))) p (some (seedB 63 (nx s)))).blks.get H.next = some (.cells 43 true (opZ 0 0 0)) := by rw [s_put_other _ _ _ (Nat.ne_of_gt hlp)]; exact s_push_same _ _
 have hst : storePtr Tryz.tab (putBlk (H.push (.cells 43 true (opZ 0 0 0))) p (some (seedB 63 (nx s)))) 43 (.ptr H.next 0) (.agg (opZ k (bel s n : Nat) 0)) = some (putBlk (putBlk (H.push (.cells 43 true (opZ 0 0 0))) p (some (seedB 63 (nx s)))) H.next (some (.cells 43 true (opZ k (bel s n : Nat) 0)))) := store_full hz sz43 rfl rfl (by simp)
 refine Gets.l0 Tryz.tabOk (s' := ?sn2) ?hn2 ?kn2; (case hn2 => (simp -implicitDefEqProofs (disch := first | decide | assumption | (try simp only [q_next, s_put_next]) <;> omega | exact pd_ (by kernel_rfl) | fail) only [sxM, Nat.reduceAdd, reduceCtorEq, Int.reduceToNat, Nat.reduceEqDiff, Int.reduceEq, Int.reduceLT, s_draw, zero43] <;> rfl)); (try (change Gets _ _ _ _ _ _; repeat refine Gets.seq ?_))
 refine Gets.drawK Tryz.tabOk (ov := ptO noOv 19 [.ptr p 0, .int .i64 n] (H.push (.cells 43 true (opZ 0 0 0))) [(.int .i64 (bel s n : Nat), putBlk (H.push (.cells 43 true (opZ 0 0 0))) p (some (seedB 63 (nx s))))]) (ptO_ok noOv_ok q) 8 (s' := ?sn1) [.rd 0, .rd 1, .rd 2, .lk 3 [0], .rd 4, .lk 5 []] (by kernel_rfl) (hN.push _) ?hn1 ?kn1; (case hn1 => (simp -implicitDefEqProofs (maxSteps := 10000000) (disch := first | decide | assumption | (try simp only [q_next, s_put_next]) <;> omega | exact pd_ (by kernel_rfl) | fail) only [sxM, Nat.reduceAdd, reduceCtorEq, Int.reduceToNat, Nat.reduceEqDiff, Int.reduceEq, Int.reduceLT, k_nil, k_rd, k_sm, k_lk, k_rdO, k_rdOG, k_rdGt, k_rdGf, k_smO, k_smOG, k_smGt, k_smGf, k_lkO, k_lkOG, k_lkGt, k_lkGf, k_rdN, k_rdN0, k_sk, k_sk0, k_smE, k_smE0, k_lkE, k_lkE0, k_lkX, k_keepP, k_keepR, k_keepA, k_look, k_look0, k_each0, k_each, k_la, k_laO, k_laOG, k_laGt, k_laGf, k_laE, k_laE0, k_lookM, k_lookM0, k_eachM0, k_eachM, k_samePtr, k_sameSl, k_ln, k_lnO, k_lnOG, k_lnGt, k_lnGf, k_lnE, k_lnE0, and_self, and_true, true_and, s_ptEq, g1, g2, g3, g5, withH, s_varFalse ia3, s_varFalse ia61, build432, hst] <;> rfl)); (try (change Gets _ _ _ _ _ _; repeat refine Gets.seq ?_))
 refine Gets.ret Tryz.tabOk ?_
 refine fin_put rfl (by simp -implicitDefEqProofs (disch := first | decide | assumption | (try simp only [q_next, s_put_next]) <;> omega | exact pd_ (by kernel_rfl) | fail) only [sxM, Nat.reduceAdd, reduceCtorEq, Int.reduceToNat, Nat.reduceEqDiff, Int.reduceEq, Int.reduceLT, Tryz.f45, resCell, s_varTrue ia43 sz43]; rfl) ?_ hlp (fun b hb hne => ?_) ?_ ⟨trivial, trivial⟩ hN ?_
 ·show H.next ≤ (putBlk (putBlk (H.push (.cells 43 true (opZ 0 0 0))) p _) H.next _).next
  rw [s_put_next, s_put_next, s_push_next]; omega
 ·show (putBlk (putBlk (H.push (.cells 43 true (opZ 0 0 0))) p _) H.next _).blks.get b = _
  rw [s_put_other _ _ _ (by omega), s_put_other _ _ _ hne, s_push_other _ _ (by omega)]
 ·show (putBlk (putBlk (H.push (.cells 43 true (opZ 0 0 0))) p _) H.next _).blks.get p = _
  rw [s_put_other _ _ _ (by omega), s_put_same]
 ·exact ⟨trivial, trivial, trivial, trivial, trivial, trivial, trivial, trivial, trivial, trivial, trivial⟩
end Go.Proofs
namespace Go.Proofs
open Go.Sx
set_option maxRecDepth 100000
noncomputable def belE (t : Nat) (H : Heap) (b : Nat) (k : Int) (o : Option ABlk) : Option (List VH) := match o with
 | some (.cells e true [.int .u64 s]) => if e = t ∧ 0 ≤ s ∧ s < 18446744073709551616 ∧ 0 < k ∧ k < 2147483648 then some [(.int .i64 ((bel s.toNat k.toNat : Nat) : Int), putBlk H b (some (seedB t (nx s.toNat))))] else none
 | _ => none
noncomputable def ovB (t : Nat) (args : List AV) (H : Heap) : Option (List VH) := match args with
 | [.ptr b 0, .int .i64 k] => belE t H b k (H.blks.get b)
 | _ => none
theorem ovB_red (t b : Nat) (k : Int) (H : Heap) : ovB t [.ptr b 0, .int .i64 k] H = belE t H b k (H.blks.get b) := rfl
theorem belE_eq (t b s : Nat) (k : Int) (H : Heap) (hs : s < 18446744073709551616) (hk : 0 < k ∧ k < 2147483648) :
  belE t H b k (some (seedB t s)) = some [(.int .i64 ((bel s k.toNat : Nat) : Int), putBlk H b (some (seedB t (nx s))))] := by
 show (if t = t ∧ 0 ≤ (s : Int) ∧ (s : Int) < 18446744073709551616 ∧ 0 < k ∧ k < 2147483648 then some [(AV.int .i64 ((bel (s : Int).toNat k.toNat : Nat) : Int), putBlk H b (some (seedB t (nx (s : Int).toNat))))] else none) = _
 rw [if_pos ⟨rfl, by omega, by omega, hk.1, hk.2⟩, Int.toNat_natCast]
theorem belE_ok {t b : Nat} {k : Int} {H : Heap} {outs : List VH} (h : belE t H b k (H.blks.get b) = some outs) : ∃ s n : Nat, k = (n : Int) ∧ 0 < n ∧ n < 2147483648 ∧ s < 18446744073709551616 ∧ H.blks.get b = some (seedB t s) ∧ outs = [(.int .i64 ((bel s n : Nat) : Int), putBlk H b (some (seedB t (nx s))))] := by
 unfold belE at h
 split at h
 ·rename_i e s hb
  split at h
  ·rename_i hc
   obtain ⟨rfl, h0, h1, h2, h3⟩ := hc
   obtain ⟨s, rfl⟩ := Int.eq_ofNat_of_zero_le h0
   obtain ⟨n, rfl⟩ := Int.eq_ofNat_of_zero_le (Int.le_of_lt h2)
   simp only [Option.some.injEq, Int.toNat_natCast] at h
   exact ⟨s, n, rfl, by omega, by omega, by omega, hb, h.symm⟩
  ·simp at h
 ·simp at h
theorem ovB_ok (args : List AV) (H : Heap) (outs : List VH) (h : ovB 63 args H = some outs) : CallTo Tryz.prog Tryz.tab 19 args H outs := by
 unfold ovB at h
 split at h
 ·obtain ⟨s, n, rfl, h1, h2, h3, h4, rfl⟩ := belE_ok h
  exact bel_to _ s n h3 ⟨h1, h2⟩ H h4
 ·simp at h
theorem ovBR_ok (args : List AV) (H : Heap) (outs : List VH) (h : ovB 73 args H = some outs) : CallTo Tryz.prog Tryz.tab 55 args H outs := by
 unfold ovB at h
 split at h
 ·obtain ⟨s, n, rfl, h1, h2, h3, h4, rfl⟩ := belE_ok h
  exact belR_to _ s n h3 ⟨h1, h2⟩ H h4
 ·simp at h
structure StepV where
 (key : List UInt8) (d : Int)
def StepV.cells (x : StepV) : List AV := [.str x.key, .int .i64 x.d]
theorem StepV.len (x : StepV) : x.cells.length = 2 := rfl
theorem StepV.one (x : StepV) : allOne x.cells = true := rfl
theorem StepV.lt (N : Nat) (x : StepV) : ltL N x.cells := ⟨trivial, trivial, trivial⟩
structure OpV where
 (k a n : Int) (key lo hi id : List UInt8) (co dl : Int) (st : List StepV)
def OpV.cells (o : OpV) (v : AV) : List AV := [.int .i64 o.k, .int .i64 o.a, .int .i64 o.n, .str o.key, .str o.lo, .str o.hi, .str o.id, .int .i64 o.co, .int .i64 o.dl, v]
abbrev StepsAt (H : Heap) (v : AV) (l : List StepV) : Prop := CellsAt 184 StepV.cells H v l
theorem StepsAt.growP {H H' : Heap} {v : AV} {l : List StepV} (h : StepsAt H v l) (hN : Neat H) {p : Nat} (hg : GrowsP p H H') {s : Nat} (hp : H.blks.get p = some (seedB 63 s)) : StepsAt H' v l := CellsAt.growP h hN hg hp fun x y => by simp
theorem StepsAt.growR {H H' : Heap} {v : AV} {l : List StepV} (h : StepsAt H v l) (hN : Neat H) {p : Nat} (hg : GrowsP p H H') {s : Nat} (hp : H.blks.get p = some (seedB 73 s)) : StepsAt H' v l := CellsAt.growP h hN hg hp fun x y => by simp
def KeyS (H : Heap) (v : AV) (ks : List (List UInt8)) : Prop := KeysAt H v ks ∨ CellsAt 9 keyC H v ks
theorem KeyS.one {H : Heap} {v : AV} {ks : List (List UInt8)} (h : KeyS H v ks) : oneCell v = true := h.elim RowsAt.one CellsAt.one
theorem KeyS.len {H : Heap} {v : AV} {ks : List (List UInt8)} (h : KeyS H v ks) (H' : Heap) : lenA Tryz.tab H' 22 v = some (.int .i64 (ks.length : Int)) := h.elim (fun h => RowsAt.len h ud22 H') (fun h => CellsAt.len h ud22 H')
theorem KeyS.growP {H H' : Heap} {v : AV} {ks : List (List UInt8)} (h : KeyS H v ks) (hN : Neat H) {p t s : Nat} (hg : GrowsP p H H') (ht : t ≠ 9) (hp : H.blks.get p = some (seedB t s)) : KeyS H' v ks := by
 rcases h with (h | ⟨b, c, h1, h2⟩) | h
 ·exact .inl (.inl h)
 ·exact .inl (.inr ⟨b, c, h1, hg.some_ hN h2 (ne_of_blk h2 hp (by simp))⟩)
 ·exact .inr (CellsAt.growP h hN hg hp fun x y => by simp [ht])
theorem KeyS.at_ {H : Heap} {v : AV} {ks : List (List UInt8)} (h : KeyS H v ks) {i : Nat} {a : List UInt8} (ha : ks[i]? = some a) : ∃ b, indexAddrA Tryz.tab 22 v (.int .i64 (i : Int)) = some (.ptr b (i * 1)) ∧ cellIn (H.blks.get b) (i * 1) = some (.str a) := by
 rcases h with h | h
 ·obtain ⟨b, h1, h2, -⟩ := RowsAt.row h ud22 sz9 (fun _ => rfl) ha
  exact ⟨b, h1, h2 0 (by omega)⟩
 ·obtain ⟨b, h1, h2, -⟩ := CellsAt.row h ud22 sz9 (fun _ => rfl) ha
  exact ⟨b, h1, h2 0 (by omega)⟩
theorem cell_ne {H : Heap} {b p i t s : Nat} {a : List UInt8} (h : cellIn (H.blks.get b) i = some (.str a)) (hp : H.blks.get p = some (seedB t s)) : b ≠ p := fun e => by
 rw [e, hp] at h
 cases i with
 | zero => exact absurd (show some (AV.int .u64 (s : Int)) = some (.str a) from h) (by simp)
 | succ q => exact absurd (show (none : Option AV) = some (.str a) from h) (by simp)
abbrev RowR (mk : AV → List AV) (t p : Nat) (H : Heap) (s' : Nat) (st : List StepV) (v : AV) (h : Heap) : Prop :=
 ∃ sv, v = .agg (mk sv) ∧ GrowsP p H h ∧ Neat h ∧ h.blks.get p = some (seedB t s') ∧ StepsAt h sv st
abbrev Makes (mk : AV → List AV) (t p : Nat) (H : Heap) (f : Nat) (args : List AV) (s' : Nat) (st : List StepV) : Prop :=
 ∃ sv H', CallTo Tryz.prog Tryz.tab f args H [(.agg (mk sv), H')] ∧ GrowsP p H H' ∧ Neat H' ∧ H'.blks.get p = some (seedB t s') ∧ StepsAt H' sv st
theorem makes_E {mk : AV → List AV} {t p : Nat} {H : Heap} {f : Nat} {args : List AV} {s' : Nat} {st : List StepV} (h : ∃ v h, RowR mk t p H s' st v h ∧ H.next ≤ h.next ∧ CallTo Tryz.prog Tryz.tab f args H [(v, keepH H h)]) : Makes mk t p H f args s' st := by
 obtain ⟨v, h, ⟨sv, rfl, hg, hn, hpp, hst⟩, hle, hc⟩ := h
 exact ⟨sv, keepH H h, hc, hg.keep, keep_neat _ _, keep_new hn hpp ⟨trivial, trivial⟩, CellsAt.keep hst hn fun a _ => StepV.lt _ a⟩
abbrev MakesOp (t p : Nat) (H : Heap) (f : Nat) (args : List AV) (o : OpV) (s' : Nat) : Prop := Makes o.cells t p H f args s' o.st
theorem makes_of {t p : Nat} {H : Heap} {f : Nat} {args : List AV} {o : OpV} {s' : Nat} (hN : Neat H) (hp : p < H.next) (ho : o.st = []) (h : CallTo Tryz.prog Tryz.tab f args H [(.agg (o.cells .nilslice), putBlk H p (some (seedB t s')))]) : MakesOp t p H f args o s' :=
 ⟨_, _, h, .put _ _ _, hN.put hp _, s_put_same _ _ _, .inl ⟨rfl, ho⟩⟩
noncomputable def nxs : Nat → Nat → Nat
 | 0, s => s
 | n + 1, s => nx (nxs n s)
theorem nxs_lt {s : Nat} (h : s < 18446744073709551616) : ∀ n, nxs n s < 18446744073709551616
 | 0 => h
 | n + 1 => nx_lt _
noncomputable def stepV (ks : List (List UInt8)) (fr i s : Nat) : StepV :=
 ⟨(ks[(fr + i) % ks.length]?).getD [], if bel (nx s) 2 = 1 then -(1 + ((bel s 5 : Nat) : Int)) else 1 + ((bel s 5 : Nat) : Int)⟩
noncomputable def stepsV (ks : List (List UInt8)) (fr s m : Nat) : List StepV := (List.range m).map fun i => stepV ks fr i (nxs (2 * i) s)
theorem stepsV_succ (ks : List (List UInt8)) (fr s m : Nat) : stepsV ks fr s (m + 1) = stepsV ks fr s m ++ [stepV ks fr m (nxs (2 * m) s)] := by
 unfold stepsV
 rw [List.range_succ, List.map_append]; rfl
theorem stepsV_len (ks : List (List UInt8)) (fr s m : Nat) : (stepsV ks fr s m).length = m := by
 unfold stepsV
 rw [List.length_map, List.length_range]
noncomputable def padV (ks : List (List UInt8)) (fr s m i : Nat) : List AV := (stepsV ks fr s i ++ List.replicate (m - i) (⟨[], 0⟩ : StepV)).flatMap StepV.cells
theorem padV_zero (ks : List (List UInt8)) (fr s m : Nat) : (List.replicate m (⟨[], 0⟩ : StepV)).flatMap StepV.cells = padV ks fr s m 0 := rfl
theorem padV_all (ks : List (List UInt8)) (fr s m : Nat) : padV ks fr s m m = (stepsV ks fr s m).flatMap StepV.cells := by
 unfold padV
 rw [Nat.sub_self, List.replicate_zero, List.append_nil]
theorem padV_put {ks : List (List UInt8)} {fr s m i : Nat} (hi : i < m) {a : List UInt8} {d : Int} (hx : stepV ks fr i (nxs (2 * i) s) = ⟨a, d⟩) : spliceN [AV.str a, .int .i64 d] (padV ks fr s m i) (i * 2) = some (padV ks fr s m (i + 1)) := by
 have e : m - i = (m - (i + 1)) + 1 := by omega
 unfold padV
 rw [e, List.replicate_succ]
 have := splice_row (f := StepV.cells) StepV.len (by omega) (stepsV ks fr s i) (List.replicate (m - (i + 1)) (⟨[], 0⟩ : StepV)) ⟨[], 0⟩ ⟨a, d⟩ (i := i * 2) (by rw [stepsV_len])
 rw [stepsV_succ, hx, List.append_assoc]
 exact this
noncomputable def fewV (ks : List (List UInt8)) (s : Nat) : Nat := bel s (min 3 ks.length)
noncomputable def dCo (s : Nat) : Int := ((bel s 3 : Nat) : Int)
noncomputable def dDl (s : Nat) : Int := 50 * ((bel (nx s) 2 : Nat) : Int)
noncomputable def dSt (ks : List (List UInt8)) (s : Nat) : List StepV := stepsV ks (bel (nxs 3 s) ks.length) (nxs 4 s) (1 + fewV ks (nxs 2 s))
noncomputable def dEnd (ks : List (List UInt8)) (s : Nat) : Nat := nxs (2 * (1 + fewV ks (nxs 2 s))) (nxs 4 s)
end Go.Proofs
namespace Go.Proofs
open Go.Sx
set_option maxRecDepth 100000
theorem sh1_to (kv : AV) (ks : List (List UInt8)) (a : List UInt8) (s bk br p : Nat) (H : Heap) (hN : Neat H) (hk : KeyS H kv ks) (h1 : H.blks.get bk = some (.cells 22 true [kv])) (h2 : H.blks.get br = some (.cells 61 true [.ptr p 0])) (hp : H.blks.get p = some (seedB 63 s)) (hs : s < 18446744073709551616) (hl : 0 < ks.length ∧ ks.length < 1000000000) (ha : ks[bel s ks.length]? = some a) :
  CallTo Tryz.prog Tryz.tab 43 [.ptr bk 0, .ptr br 0] H [(.str a, putBlk H p (some (seedB 63 (nx s))))] := by
 refine callTo_of Tryz.tabOk Tryz.func43 rfl rfl ?_
 show Gets Tryz.prog Tryz.tab ⟨none, 10⟩ _ _ _
 repeat refine Gets.seq ?_
 have hlp := hN _ _ hp
 have q := bel_to p s ks.length hs ⟨hl.1, by omega⟩ H hp
 generalize bel s ks.length = i at ha q
 generalize nx s = t at q ⊢
 obtain ⟨b, hxa, hld⟩ := hk.at_ ha
 have hkn := hk.len
 have hbp : b ≠ p := cell_ne hld hp
 have hkp : bk ≠ p := ne_of_blk h1 hp (by simp)
 have g1 : cellIn (H.blks.get bk) 0 = some kv := by rw [h1]; rfl
 have g2 : cellIn (H.blks.get br) 0 = some (.ptr p 0) := by rw [h2]; rfl
 have g5 : cellIn ((putBlk H p (some (seedB 63 t))).blks.get bk) 0 = some kv := by rw [s_put_other _ _ _ hkp]; exact g1
 generalize i * 1 = j at hxa hld
 have g6 : cellIn ((putBlk H p (some (seedB 63 t))).blks.get b) j = some (.str a) := by rw [s_put_other _ _ _ hbp]; exact hld
 refine Gets.l0 Tryz.tabOk (s' := ?sn2) ?hn2 ?kn2; (case hn2 => (simp -implicitDefEqProofs (disch := first | decide | assumption | (try simp only [q_next, s_put_next]) <;> omega | exact pd_ (by kernel_rfl) | fail) only [sxM, Nat.reduceAdd, reduceCtorEq, Int.reduceToNat, Nat.reduceEqDiff, Int.reduceEq, Int.reduceLT, s_draw] <;> rfl)); (try (change Gets _ _ _ _ _ _; repeat refine Gets.seq ?_))
 refine Gets.drawK Tryz.tabOk (ov := ptO noOv 19 [.ptr p 0, .int .i64 (ks.length : Int)] H [(.int .i64 (i : Nat), putBlk H p (some (seedB 63 t)))]) (ptO_ok noOv_ok q) 8 (s' := ?sn1) [.rd 0, .rd 1, .rd 2, .rd 3, .lk 4 [0], .rd 5, .rd 6, .rd 7] (by kernel_rfl) (hN) ?hn1 ?kn1; (case hn1 => (simp -implicitDefEqProofs (maxSteps := 10000000) (disch := first | decide | assumption | (try simp only [q_next, s_put_next]) <;> omega | exact pd_ (by kernel_rfl) | fail) only [sxM, Nat.reduceAdd, reduceCtorEq, Int.reduceToNat, Nat.reduceEqDiff, Int.reduceEq, Int.reduceLT, k_nil, k_rd, k_sm, k_lk, k_rdO, k_rdOG, k_rdGt, k_rdGf, k_smO, k_smOG, k_smGt, k_smGf, k_lkO, k_lkOG, k_lkGt, k_lkGf, k_rdN, k_rdN0, k_sk, k_sk0, k_smE, k_smE0, k_lkE, k_lkE0, k_lkX, k_keepP, k_keepR, k_keepA, k_look, k_look0, k_each0, k_each, k_la, k_laO, k_laOG, k_laGt, k_laGf, k_laE, k_laE0, k_lookM, k_lookM0, k_eachM0, k_eachM, k_samePtr, k_sameSl, k_ln, k_lnO, k_lnOG, k_lnGt, k_lnGf, k_lnE, k_lnE0, and_self, and_true, true_and, s_ptEq, g1, g2, g5, g6, hld, hxa, hkn, withH, s_varFalse ia9, s_varFalse ia22, s_varFalse ia61] <;> rfl)); (try (change Gets _ _ _ _ _ _; repeat refine Gets.seq ?_))
 refine Gets.ret Tryz.tabOk ?_
 exact fin_put rfl (by simp -implicitDefEqProofs (disch := first | decide | assumption | (try simp only [q_next, s_put_next]) <;> omega | exact pd_ (by kernel_rfl) | fail) only [sxM, Nat.reduceAdd, reduceCtorEq, Int.reduceToNat, Nat.reduceEqDiff, Int.reduceEq, Int.reduceLT, Tryz.f43]) (by show H.next ≤ (putBlk H p _).next; rw [s_put_next]; omega) hlp (fun b hb hne => s_put_other _ _ _ hne) (s_put_same _ _ _) ⟨trivial, trivial⟩ hN trivial
end Go.Proofs
namespace Go.Proofs
open Go.Sx
set_option maxRecDepth 100000
theorem sh31_to (k : Int) (n s bk br bn p : Nat) (H : Heap) (hN : Neat H) (h1 : H.blks.get bk = some (intB k)) (h2 : H.blks.get br = some (.cells 61 true [.ptr p 0])) (h3 : H.blks.get bn = some (intB n)) (hp : H.blks.get p = some (seedB 63 s)) (hs : s < 18446744073709551616) (hk : 0 < n ∧ n < 2147483648) :
  CallTo Tryz.prog Tryz.tab 47 [.ptr bk 0, .ptr br 0, .ptr bn 0] H [(.agg (opZ k (bel s n : Nat) (1 + (bel (nx s) 9 : Nat))), putBlk H p (some (seedB 63 (nx (nx s)))))] := by
 refine callTo_of Tryz.tabOk Tryz.func47 rfl rfl ?_
 show Gets Tryz.prog Tryz.tab ⟨none, 15⟩ _ _ _
 repeat refine Gets.seq ?_
 have lp := hN _ _ hp
 have l1 := hN _ _ h1
 have l2 := hN _ _ h2
 have l3 := hN _ _ h3
 have n1 : bk ≠ p := ne_of_blk h1 hp (by simp)
 have n2 : br ≠ p := ne_of_blk h2 hp (by simp)
 have n3 : bn ≠ p := ne_of_blk h3 hp (by simp)
 have s1 := nx_lt s
 have kk : 0 < (n : Int) ∧ (n : Int) < 2147483648 := by omega
 have hb9 := bel_lt (nx s) (k := 9) (by omega)
 have hw : awrap .i64 (1 + ((bel (nx s) 9 : Nat) : Int)) = 1 + ((bel (nx s) 9 : Nat) : Int) := s_wrap (by omega) (by omega)
 refine Gets.l0 Tryz.tabOk (s' := ?sn2) ?hn2 ?kn2; (case hn2 => (simp -implicitDefEqProofs (disch := first | decide | assumption | (try simp only [q_next, s_put_next]) <;> omega | exact pd_ (by kernel_rfl) | fail) only [sxM, Nat.reduceAdd, reduceCtorEq, Int.reduceToNat, Nat.reduceEqDiff, Int.reduceEq, Int.reduceLT, s_draw, zero43] <;> rfl)); (try (change Gets _ _ _ _ _ _; repeat refine Gets.seq ?_))
 refine Gets.drawK Tryz.tabOk (ov := addOv noOv 19 (ovB 63)) (addOv_ok noOv_ok ovB_ok) 8 (s' := ?sn1) [.rd 0, .rd 1, .rd 2, .rd 5, .la 3 [0] [5], .rd 4, .lk 6 []] (by kernel_rfl) (hN.push _) ?hn1 ?kn1; (case hn1 => (simp -implicitDefEqProofs (maxSteps := 10000000) (disch := first | decide | assumption | (try simp only [q_next, s_put_next]) <;> omega | exact pd_ (by kernel_rfl) | fail) only [sxM, Nat.reduceAdd, reduceCtorEq, Int.reduceToNat, Nat.reduceEqDiff, Int.reduceEq, Int.reduceLT, k_nil, k_rd, k_sm, k_lk, k_rdO, k_rdOG, k_rdGt, k_rdGf, k_smO, k_smOG, k_smGt, k_smGf, k_lkO, k_lkOG, k_lkGt, k_lkGf, k_rdN, k_rdN0, k_sk, k_sk0, k_smE, k_smE0, k_lkE, k_lkE0, k_lkX, k_keepP, k_keepR, k_keepA, k_look, k_look0, k_each0, k_each, k_la, k_laO, k_laOG, k_laGt, k_laGf, k_laE, k_laE0, k_lookM, k_lookM0, k_eachM0, k_eachM, k_samePtr, k_sameSl, k_ln, k_lnO, k_lnOG, k_lnGt, k_lnGf, k_lnE, k_lnE0, and_self, and_true, true_and, ovB_red, belE_eq, Int.toNat_natCast, h1, h2, h3, hp, s_varFalse ia3, s_varFalse ia61, build432, zero43, stL, sz43, withH] <;> rfl)); (try (change Gets _ _ _ _ _ _; repeat refine Gets.seq ?_))
 refine Gets.last Tryz.tabOk (ov := addOv noOv 19 (ovB 63)) (addOv_ok noOv_ok ovB_ok) 8 (s' := ?sn3) ?hn3 ?kn3; (case hn3 => (simp -implicitDefEqProofs (disch := first | decide | assumption | (try simp only [q_next, s_put_next]) <;> omega | exact pd_ (by kernel_rfl) | fail) only [sxM, Nat.reduceAdd, reduceCtorEq, Int.reduceToNat, Nat.reduceEqDiff, Int.reduceEq, Int.reduceLT, s_draw, ovB_red, belE_eq, Int.toNat_natCast, h1, h2, h3, hp, s_varFalse ia3, s_varFalse ia61, hw, fa43_2, stL, sz3] <;> rfl)); (try (change Gets _ _ _ _ _ _; repeat refine Gets.seq ?_))
 refine Gets.l0 Tryz.tabOk (s' := ?sn4) ?hn4 ?kn4; (case hn4 => (simp -implicitDefEqProofs (disch := first | decide | assumption | (try simp only [q_next, s_put_next]) <;> omega | exact pd_ (by kernel_rfl) | fail) only [sxM, Nat.reduceAdd, reduceCtorEq, Int.reduceToNat, Nat.reduceEqDiff, Int.reduceEq, Int.reduceLT, s_draw, s_varTrue ia43 sz43, stL, sz43] <;> rfl)); (try (change Gets _ _ _ _ _ _; repeat refine Gets.seq ?_))
 refine Gets.ret Tryz.tabOk ?_
 exact fin_put rfl (by simp -implicitDefEqProofs (disch := first | decide | assumption | (try simp only [q_next, s_put_next]) <;> omega | exact pd_ (by kernel_rfl) | fail) only [sxM, Nat.reduceAdd, reduceCtorEq, Int.reduceToNat, Nat.reduceEqDiff, Int.reduceEq, Int.reduceLT, Tryz.f47, resCell, s_varTrue ia43 sz43, stL] <;> rfl) (by ((try dsimp only); (try simp only [s_push_next, s_put_next]); omega)) lp (fun b hb hne => by ((try simp (disch := first | assumption | omega | (try simp only [q_next, s_put_next]) <;> omega | fail) only [foL]); (try rfl))) (by ((try simp (disch := first | assumption | omega | (try simp only [q_next, s_put_next]) <;> omega | fail) only [foL]); (try rfl))) ⟨trivial, trivial⟩ hN ⟨trivial, trivial, trivial, trivial, trivial, trivial, trivial, trivial, trivial, trivial, trivial⟩
theorem sh4_to (n s br bn p : Nat) (H : Heap) (hN : Neat H) (h2 : H.blks.get br = some (.cells 61 true [.ptr p 0])) (h3 : H.blks.get bn = some (intB n)) (hp : H.blks.get p = some (seedB 63 s)) (hs : s < 18446744073709551616) (hk : 0 < n ∧ n < 2147483648) :
  CallTo Tryz.prog Tryz.tab 48 [.ptr br 0, .ptr bn 0] H [(.agg (opZ 6 (bel s n : Nat) (bel (nx s) 64 : Nat)), putBlk H p (some (seedB 63 (nx (nx s)))))] := by
 refine callTo_of Tryz.tabOk Tryz.func48 rfl rfl ?_
 show Gets Tryz.prog Tryz.tab ⟨none, 12⟩ _ _ _
 repeat refine Gets.seq ?_
 have lp := hN _ _ hp
 have l2 := hN _ _ h2
 have l3 := hN _ _ h3
 have n2 : br ≠ p := ne_of_blk h2 hp (by simp)
 have n3 : bn ≠ p := ne_of_blk h3 hp (by simp)
 have s1 := nx_lt s
 have kk : 0 < (n : Int) ∧ (n : Int) < 2147483648 := by omega
 refine Gets.l0 Tryz.tabOk (s' := ?sn5) ?hn5 ?kn5; (case hn5 => (simp -implicitDefEqProofs (disch := first | decide | assumption | (try simp only [q_next, s_put_next]) <;> omega | exact pd_ (by kernel_rfl) | fail) only [sxM, Nat.reduceAdd, reduceCtorEq, Int.reduceToNat, Nat.reduceEqDiff, Int.reduceEq, Int.reduceLT, s_draw, zero43] <;> rfl)); (try (change Gets _ _ _ _ _ _; repeat refine Gets.seq ?_))
 refine Gets.last Tryz.tabOk (ov := addOv noOv 19 (ovB 63)) (addOv_ok noOv_ok ovB_ok) 8 (s' := ?sn6) ?hn6 ?kn6; (case hn6 => (simp -implicitDefEqProofs (disch := first | decide | assumption | (try simp only [q_next, s_put_next]) <;> omega | exact pd_ (by kernel_rfl) | fail) only [sxM, Nat.reduceAdd, reduceCtorEq, Int.reduceToNat, Nat.reduceEqDiff, Int.reduceEq, Int.reduceLT, s_draw, ovB_red, belE_eq, Int.toNat_natCast, h2, h3, hp, s_varFalse ia3, s_varFalse ia61, build432, zero43, stL, sz43] <;> rfl)); (try (change Gets _ _ _ _ _ _; repeat refine Gets.seq ?_))
 refine Gets.last Tryz.tabOk (ov := addOv noOv 19 (ovB 63)) (addOv_ok noOv_ok ovB_ok) 8 (s' := ?sn7) ?hn7 ?kn7; (case hn7 => (simp -implicitDefEqProofs (disch := first | decide | assumption | (try simp only [q_next, s_put_next]) <;> omega | exact pd_ (by kernel_rfl) | fail) only [sxM, Nat.reduceAdd, reduceCtorEq, Int.reduceToNat, Nat.reduceEqDiff, Int.reduceEq, Int.reduceLT, s_draw, ovB_red, belE_eq, Int.toNat_natCast, h2, h3, hp, s_varFalse ia3, s_varFalse ia61, fa43_2, stL, sz3] <;> rfl)); (try (change Gets _ _ _ _ _ _; repeat refine Gets.seq ?_))
 refine Gets.l0 Tryz.tabOk (s' := ?sn8) ?hn8 ?kn8; (case hn8 => (simp -implicitDefEqProofs (disch := first | decide | assumption | (try simp only [q_next, s_put_next]) <;> omega | exact pd_ (by kernel_rfl) | fail) only [sxM, Nat.reduceAdd, reduceCtorEq, Int.reduceToNat, Nat.reduceEqDiff, Int.reduceEq, Int.reduceLT, s_draw, s_varTrue ia43 sz43, stL, sz43] <;> rfl)); (try (change Gets _ _ _ _ _ _; repeat refine Gets.seq ?_))
 refine Gets.ret Tryz.tabOk ?_
 exact fin_put rfl (by simp -implicitDefEqProofs (disch := first | decide | assumption | (try simp only [q_next, s_put_next]) <;> omega | exact pd_ (by kernel_rfl) | fail) only [sxM, Nat.reduceAdd, reduceCtorEq, Int.reduceToNat, Nat.reduceEqDiff, Int.reduceEq, Int.reduceLT, Tryz.f48, resCell, s_varTrue ia43 sz43, stL] <;> rfl) (by ((try dsimp only); (try simp only [s_push_next, s_put_next]); omega)) lp (fun b hb hne => by ((try simp (disch := first | assumption | omega | (try simp only [q_next, s_put_next]) <;> omega | fail) only [foL]); (try rfl))) (by ((try simp (disch := first | assumption | omega | (try simp only [q_next, s_put_next]) <;> omega | fail) only [foL]); (try rfl))) ⟨trivial, trivial⟩ hN ⟨trivial, trivial, trivial, trivial, trivial, trivial, trivial, trivial, trivial, trivial, trivial⟩
end Go.Proofs
namespace Go.Proofs
open Go.Sx
set_option maxRecDepth 100000
theorem build38 (a : List UInt8) : buildA Tryz.tab 38 [(1, .str a)] = some (.agg [.str [], .str a]) := by kernel_rfl
theorem sh6_to (kv : AV) (ks : List (List UInt8)) (a : List UInt8) (N M s b5 br b6 b7 b8 p : Nat) (H : Heap) (hN : Neat H) (hk : KeyS H kv ks) (h5 : H.blks.get b5 = some (intB N)) (h2 : H.blks.get br = some (.cells 61 true [.ptr p 0])) (h6 : H.blks.get b6 = some (intB M))
  (h7 : H.blks.get b7 = some (.cells 22 true [kv])) (h8 : H.blks.get b8 = some (.cells 105 true [.func (.func 43) [] [.ptr b7 0, .ptr br 0]])) (hp : H.blks.get p = some (seedB 63 s)) (hs : s < 18446744073709551616)
  (hNM : N < M ∧ M < 1000000) (hl : 0 < ks.length ∧ ks.length < 1000000000) (ha : ks[bel (nx s) ks.length]? = some a) :
  CallTo Tryz.prog Tryz.tab 51 [.ptr b5 0, .ptr br 0, .ptr b6 0, .ptr b8 0] H [(.agg (OpV.cells ⟨11, ((N + bel s (M - N) : Nat) : Int), 0, a, [], [], [], 0, 0, []⟩ .nilslice), putBlk H p (some (seedB 63 (nx (nx s)))))] := by
 refine callTo_of Tryz.tabOk Tryz.func51 rfl rfl ?_
 show Gets Tryz.prog Tryz.tab ⟨none, 18⟩ _ _ _
 repeat refine Gets.seq ?_
 have lp := hN _ _ hp
 have l5 := hN _ _ h5
 have l2 := hN _ _ h2
 have l6 := hN _ _ h6
 have l8 := hN _ _ h8
 have n5 : b5 ≠ p := ne_of_blk h5 hp (by simp)
 have n2 : br ≠ p := ne_of_blk h2 hp (by simp)
 have n6 : b6 ≠ p := ne_of_blk h6 hp (by simp)
 have n7 : b7 ≠ p := ne_of_blk h7 hp (by simp)
 have n8 : b8 ≠ p := ne_of_blk h8 hp (by simp)
 have s1 := nx_lt s
 have hx := bel_lt s (k := M - N) (by omega)
 have kk : 0 < (((M - N : Nat)) : Int) ∧ (((M - N : Nat)) : Int) < 2147483648 := by omega
 have w1 : awrap .i64 ((M : Int) - (N : Int)) = ((M - N : Nat) : Int) := by rw [s_wrap (by omega) (by omega)]; omega
 have w2 : awrap .i64 ((N : Int) + ((bel s (M - N) : Nat) : Int)) = ((N + bel s (M - N) : Nat) : Int) := by rw [s_wrap (by omega) (by omega)]; omega
 refine Gets.l0 Tryz.tabOk (s' := ?sn2) ?hn2 ?kn2; (case hn2 => (simp -implicitDefEqProofs (disch := first | decide | assumption | (try simp only [q_next, s_put_next]) <;> omega | exact pd_ (by kernel_rfl) | fail) only [sxM, Nat.reduceAdd, reduceCtorEq, Int.reduceToNat, Nat.reduceEqDiff, Int.reduceEq, Int.reduceLT, s_draw, zero43] <;> rfl)); (try (change Gets _ _ _ _ _ _; repeat refine Gets.seq ?_))
 refine Gets.drawK Tryz.tabOk (ov := addOv noOv 19 (ovB 63)) (addOv_ok noOv_ok ovB_ok) 8 (s' := ?sn1) [.rd 0, .rd 1, .rd 2, .rd 3, .rd 4, .rd 8, .la 5 [0] [8], .rd 6, .rd 7, .lk 9 []] (by kernel_rfl) (hN.push _) ?hn1 ?kn1; (case hn1 => (simp -implicitDefEqProofs (maxSteps := 10000000) (disch := first | decide | assumption | (try simp only [q_next, s_put_next]) <;> omega | exact pd_ (by kernel_rfl) | fail) only [sxM, Nat.reduceAdd, reduceCtorEq, Int.reduceToNat, Nat.reduceEqDiff, Int.reduceEq, Int.reduceLT, k_nil, k_rd, k_sm, k_lk, k_rdO, k_rdOG, k_rdGt, k_rdGf, k_smO, k_smOG, k_smGt, k_smGf, k_lkO, k_lkOG, k_lkGt, k_lkGf, k_rdN, k_rdN0, k_sk, k_sk0, k_smE, k_smE0, k_lkE, k_lkE0, k_lkX, k_keepP, k_keepR, k_keepA, k_look, k_look0, k_each0, k_each, k_la, k_laO, k_laOG, k_laGt, k_laGf, k_laE, k_laE0, k_lookM, k_lookM0, k_eachM0, k_eachM, k_samePtr, k_sameSl, k_ln, k_lnO, k_lnOG, k_lnGt, k_lnGf, k_lnE, k_lnE0, and_self, and_true, true_and, ovB_red, belE_eq, Int.toNat_natCast, h5, h2, h6, hp, w1, w2, s_varFalse ia3, s_varFalse ia61, build432, zero43, stL, sz43, withH] <;> rfl)); (try (change Gets _ _ _ _ _ _; repeat refine Gets.seq ?_))
 refine Gets.ofH (fun h => h.blks.get (H.next + 1) = some (.cells 43 true (opZ 11 ((N + bel s (M - N) : Nat) : Int) 0)) ∧ h.blks.get p = some (seedB 63 (nx s)) ∧ h.blks.get H.next = some (.cells 43 true (opZ 0 0 0)) ∧ GrowsP p H h ∧ h.next = H.next + 2 ∧ Neat h)
  ⟨by ((try simp (disch := first | assumption | omega | (try simp only [q_next, s_put_next]) <;> omega | fail) only [foL]); (try rfl)), by ((try simp (disch := first | assumption | omega | (try simp only [q_next, s_put_next]) <;> omega | fail) only [foL]); (try rfl)), by ((try simp (disch := first | assumption | omega | (try simp only [q_next, s_put_next]) <;> omega | fail) only [foL]); (try rfl)), ⟨by ((try dsimp only); (try simp only [s_push_next, s_put_next]); omega), fun b hb hne => by ((try simp (disch := first | assumption | omega | (try simp only [q_next, s_put_next]) <;> omega | fail) only [foL]); (try rfl))⟩, by ((try simp (disch := first | assumption | omega | (try simp only [q_next, s_put_next]) <;> omega | fail) only [foL]); (try rfl)), (by repeat' (first | exact hN | exact aN | exact bN | (refine Neat.push ?_ _) | (refine Neat.put ?_ (by ((try dsimp only); (try simp only [s_push_next, s_put_next]); omega)) _)))⟩ ?_
 rintro h ⟨a1, a2, a0, ag, ax, aN⟩
 have g8 := ag.some_ hN h8 n8
 have q := sh1_to kv ks a (nx s) b7 br p h aN (hk.growP hN ag (by decide) hp) (ag.some_ hN h7 n7) (ag.some_ hN h2 n2) a2 s1 hl ha
 refine Gets.last Tryz.tabOk (ov := ptO noOv 43 [.ptr b7 0, .ptr br 0] h [(.str a, putBlk h p (some (seedB 63 (nx (nx s)))))]) (ptO_ok noOv_ok q) 8 (s' := ?sn3) ?hn3 ?kn3; (case hn3 => (simp -implicitDefEqProofs (disch := first | decide | assumption | (try simp only [q_next, s_put_next]) <;> omega | exact pd_ (by kernel_rfl) | fail) only [sxM, Nat.reduceAdd, reduceCtorEq, Int.reduceToNat, Nat.reduceEqDiff, Int.reduceEq, Int.reduceLT, s_draw, s_ptEq, g8, a1, s_varFalse ia105, fa43_3, stL, sz9] <;> rfl)); (try (change Gets _ _ _ _ _ _; repeat refine Gets.seq ?_))
 refine Gets.l0 Tryz.tabOk (s' := ?sn4) ?hn4 ?kn4; (case hn4 => (simp -implicitDefEqProofs (disch := first | decide | assumption | (try simp only [q_next, s_put_next]) <;> omega | exact pd_ (by kernel_rfl) | fail) only [sxM, Nat.reduceAdd, reduceCtorEq, Int.reduceToNat, Nat.reduceEqDiff, Int.reduceEq, Int.reduceLT, s_draw, a0, s_varTrue ia43 sz43, stL, sz43] <;> rfl)); (try (change Gets _ _ _ _ _ _; repeat refine Gets.seq ?_))
 refine Gets.ret Tryz.tabOk ?_
 exact fin_put rfl (by simp -implicitDefEqProofs (disch := first | decide | assumption | (try simp only [q_next, s_put_next]) <;> omega | exact pd_ (by kernel_rfl) | fail) only [sxM, Nat.reduceAdd, reduceCtorEq, Int.reduceToNat, Nat.reduceEqDiff, Int.reduceEq, Int.reduceLT, Tryz.f51, resCell, s_varTrue ia43 sz43, stL] <;> rfl) (by ((try dsimp only); (try simp only [s_push_next, s_put_next]); omega)) lp (fun b hb hne => by ((try simp (disch := first | assumption | omega | (try simp only [q_next, s_put_next]) <;> omega | fail) only [foL]); (try rfl)); exact ag.get b hb hne) (by ((try simp (disch := first | assumption | omega | (try simp only [q_next, s_put_next]) <;> omega | fail) only [foL]); (try rfl))) ⟨trivial, trivial⟩ hN ⟨trivial, trivial, trivial, trivial, trivial, trivial, trivial, trivial, trivial, trivial, trivial⟩
theorem sh7_to (kv kc cv : AV) (ks : List (List UInt8)) (a : List UInt8) (N G s b5 br b2 b7 b8 p : Nat) (H : Heap) (hN : Neat H) (hk : KeyS H kv ks) (h5 : H.blks.get b5 = some (intB N)) (h2 : H.blks.get br = some (.cells 61 true [.ptr p 0])) (hc : H.blks.get b2 = some (.cells 25 true (confC N G kc cv)))
  (h7 : H.blks.get b7 = some (.cells 22 true [kv])) (h8 : H.blks.get b8 = some (.cells 105 true [.func (.func 43) [] [.ptr b7 0, .ptr br 0]])) (hp : H.blks.get p = some (seedB 63 s)) (hs : s < 18446744073709551616)
  (hn : 0 < N ∧ N < 1000000) (hg : 1 < G ∧ G < 1000000) (hl : 0 < ks.length ∧ ks.length < 1000000000) (ha : ks[bel (nx (nx s)) ks.length]? = some a) :
  CallTo Tryz.prog Tryz.tab 52 [.ptr br 0, .ptr b5 0, .ptr b2 0, .ptr b8 0] H [(.agg (OpV.cells ⟨12, ((bel s N : Nat) : Int), 1 + ((bel (nx s) (G - 1) : Nat) : Int), [], if bel (nx (nx (nx s))) 2 = 1 then [] else a, if bel (nx (nx (nx s))) 2 = 1 then a else [], [], 0, 0, []⟩ .nilslice), putBlk H p (some (seedB 63 (nx (nx (nx (nx s)))))))] := by
 refine callTo_of Tryz.tabOk Tryz.func52 rfl rfl ?_
 show Gets Tryz.prog Tryz.tab ⟨none, 30⟩ _ _ _
 repeat refine Gets.seq ?_
 have lp := hN _ _ hp
 have l5 := hN _ _ h5
 have l2 := hN _ _ h2
 have lc := hN _ _ hc
 have l8 := hN _ _ h8
 have n5 : b5 ≠ p := ne_of_blk h5 hp (by simp)
 have n2 : br ≠ p := ne_of_blk h2 hp (by simp)
 have nc : b2 ≠ p := ne_of_blk hc hp (by simp)
 have n7 : b7 ≠ p := ne_of_blk h7 hp (by simp)
 have n8 : b8 ≠ p := ne_of_blk h8 hp (by simp)
 have s1 := nx_lt s
 have s2 := nx_lt (nx s)
 have s3 := nx_lt (nx (nx s))
 have hx := bel_lt (nx s) (k := G - 1) (by omega)
 have k1 : 0 < (N : Int) ∧ (N : Int) < 2147483648 := by omega
 have k2 : 0 < (((G - 1 : Nat)) : Int) ∧ (((G - 1 : Nat)) : Int) < 2147483648 := by omega
 have w1 : awrap .i64 ((G : Int) - 1) = ((G - 1 : Nat) : Int) := by rw [s_wrap (by omega) (by omega)]; omega
 have w2 : awrap .i64 (1 + ((bel (nx s) (G - 1) : Nat) : Int)) = 1 + ((bel (nx s) (G - 1) : Nat) : Int) := s_wrap (by omega) (by omega)
 refine Gets.l0 Tryz.tabOk (s' := ?sn5) ?hn5 ?kn5; (case hn5 => (simp -implicitDefEqProofs (disch := first | decide | assumption | (try simp only [q_next, s_put_next]) <;> omega | exact pd_ (by kernel_rfl) | fail) only [sxM, Nat.reduceAdd, reduceCtorEq, Int.reduceToNat, Nat.reduceEqDiff, Int.reduceEq, Int.reduceLT, s_draw, zero43] <;> rfl)); (try (change Gets _ _ _ _ _ _; repeat refine Gets.seq ?_))
 refine Gets.last Tryz.tabOk (ov := addOv noOv 19 (ovB 63)) (addOv_ok noOv_ok ovB_ok) 8 (s' := ?sn6) ?hn6 ?kn6; (case hn6 => (simp -implicitDefEqProofs (disch := first | decide | assumption | (try simp only [q_next, s_put_next]) <;> omega | exact pd_ (by kernel_rfl) | fail) only [sxM, Nat.reduceAdd, reduceCtorEq, Int.reduceToNat, Nat.reduceEqDiff, Int.reduceEq, Int.reduceLT, s_draw, ovB_red, belE_eq, Int.toNat_natCast, h5, h2, hp, s_varFalse ia3, s_varFalse ia61, build432, zero43, stL, sz43] <;> rfl)); (try (change Gets _ _ _ _ _ _; repeat refine Gets.seq ?_))
 refine Gets.last Tryz.tabOk (ov := addOv noOv 19 (ovB 63)) (addOv_ok noOv_ok ovB_ok) 8 (s' := ?sn7) ?hn7 ?kn7; (case hn7 => (simp -implicitDefEqProofs (disch := first | decide | assumption | (try simp only [q_next, s_put_next]) <;> omega | exact pd_ (by kernel_rfl) | fail) only [sxM, Nat.reduceAdd, reduceCtorEq, Int.reduceToNat, Nat.reduceEqDiff, Int.reduceEq, Int.reduceLT, s_draw, ovB_red, belE_eq, Int.toNat_natCast, h2, hc, hp, w1, w2, s_varFalse ia3, s_varFalse ia61, fa43_2, fa25_1, stL, sz3] <;> rfl)); (try (change Gets _ _ _ _ _ _; repeat refine Gets.seq ?_))
 refine Gets.ofH (fun h => h.blks.get (H.next + 1) = some (.cells 43 true (opZ 12 ((bel s N : Nat) : Int) (1 + ((bel (nx s) (G - 1) : Nat) : Int)))) ∧ h.blks.get p = some (seedB 63 (nx (nx s))) ∧ h.blks.get H.next = some (.cells 43 true (opZ 0 0 0)) ∧ GrowsP p H h ∧ h.next = H.next + 2 ∧ Neat h)
  ⟨by ((try simp (disch := first | assumption | omega | (try simp only [q_next, s_put_next]) <;> omega | fail) only [foL]); (try rfl)), by ((try simp (disch := first | assumption | omega | (try simp only [q_next, s_put_next]) <;> omega | fail) only [foL]); (try rfl)), by ((try simp (disch := first | assumption | omega | (try simp only [q_next, s_put_next]) <;> omega | fail) only [foL]); (try rfl)), ⟨by ((try dsimp only); (try simp only [s_push_next, s_put_next]); omega), fun b hb hne => by ((try simp (disch := first | assumption | omega | (try simp only [q_next, s_put_next]) <;> omega | fail) only [foL]); (try rfl))⟩, by ((try simp (disch := first | assumption | omega | (try simp only [q_next, s_put_next]) <;> omega | fail) only [foL]); (try rfl)), (by repeat' (first | exact hN | exact aN | exact bN | (refine Neat.push ?_ _) | (refine Neat.put ?_ (by ((try dsimp only); (try simp only [s_push_next, s_put_next]); omega)) _)))⟩ ?_
 rintro h ⟨a1, a2, a0, ag, ax, aN⟩
 have g8 := ag.some_ hN h8 n8
 have g2 := ag.some_ hN h2 n2
 have q := sh1_to kv ks a (nx (nx s)) b7 br p h aN (hk.growP hN ag (by decide) hp) (ag.some_ hN h7 n7) g2 a2 s2 hl ha
 refine Gets.last Tryz.tabOk (ov := ptO noOv 43 [.ptr b7 0, .ptr br 0] h [(.str a, putBlk h p (some (seedB 63 (nx (nx (nx s))))))]) (ptO_ok noOv_ok q) 8 (s' := ?sn8) ?hn8 ?kn8; (case hn8 => (simp -implicitDefEqProofs (disch := first | decide | assumption | (try simp only [q_next, s_put_next]) <;> omega | exact pd_ (by kernel_rfl) | fail) only [sxM, Nat.reduceAdd, reduceCtorEq, Int.reduceToNat, Nat.reduceEqDiff, Int.reduceEq, Int.reduceLT, s_draw, s_ptEq, g8, s_varFalse ia105] <;> rfl)); (try (change Gets _ _ _ _ _ _; repeat refine Gets.seq ?_))
 refine Gets.l0 Tryz.tabOk (s' := ?sn9) ?hn9 ?kn9; (case hn9 => (simp -implicitDefEqProofs (disch := first | decide | assumption | (try simp only [q_next, s_put_next]) <;> omega | exact pd_ (by kernel_rfl) | fail) only [sxM, Nat.reduceAdd, reduceCtorEq, Int.reduceToNat, Nat.reduceEqDiff, Int.reduceEq, Int.reduceLT, s_draw, a1, fa43_4, fa38_0, stL, sz9] <;> rfl)); (try (change Gets _ _ _ _ _ _; repeat refine Gets.seq ?_))
 by_cases hd : bel (nx (nx (nx s))) 2 = 1
 ·rw [if_pos hd, if_pos hd]
  have hd' : ((bel (nx (nx (nx s))) 2 : Nat) : Int) = 1 := by omega
  refine Gets.last Tryz.tabOk (ov := addOv noOv 19 (ovB 63)) (addOv_ok noOv_ok ovB_ok) 8 (s' := ?sn10) ?hn10 ?kn10; (case hn10 => (simp -implicitDefEqProofs (disch := first | decide | assumption | (try simp only [q_next, s_put_next]) <;> omega | exact pd_ (by kernel_rfl) | fail) only [sxM, Nat.reduceAdd, reduceCtorEq, Int.reduceToNat, Nat.reduceEqDiff, Int.reduceEq, Int.reduceLT, s_draw, ovB_red, belE_eq, Int.toNat_natCast, g2, a2, s_varFalse ia61, hd'] <;> rfl)); (try (change Gets _ _ _ _ _ _; repeat refine Gets.seq ?_))
  refine Gets.condT (by simp (disch := decide) only [sxL]) ?_
  change Gets _ _ _ _ _ _
  repeat refine Gets.seq ?_
  refine Gets.l0 Tryz.tabOk (s' := ?sn11) ?hn11 ?kn11; (case hn11 => (simp -implicitDefEqProofs (disch := first | decide | assumption | (try simp only [q_next, s_put_next]) <;> omega | exact pd_ (by kernel_rfl) | fail) only [sxM, Nat.reduceAdd, reduceCtorEq, Int.reduceToNat, Nat.reduceEqDiff, Int.reduceEq, Int.reduceLT, s_draw, a1, fa43_4, build38, stL, sz38] <;> rfl)); (try (change Gets _ _ _ _ _ _; repeat refine Gets.seq ?_))
  refine Gets.l0 Tryz.tabOk (s' := ?sn12) ?hn12 ?kn12; (case hn12 => (simp -implicitDefEqProofs (disch := first | decide | assumption | (try simp only [q_next, s_put_next]) <;> omega | exact pd_ (by kernel_rfl) | fail) only [sxM, Nat.reduceAdd, reduceCtorEq, Int.reduceToNat, Nat.reduceEqDiff, Int.reduceEq, Int.reduceLT, s_draw, a0, s_varTrue ia43 sz43, stL, sz43] <;> rfl)); (try (change Gets _ _ _ _ _ _; repeat refine Gets.seq ?_))
  refine Gets.ret Tryz.tabOk ?_
  exact fin_put rfl (by simp -implicitDefEqProofs (disch := first | decide | assumption | (try simp only [q_next, s_put_next]) <;> omega | exact pd_ (by kernel_rfl) | fail) only [sxM, Nat.reduceAdd, reduceCtorEq, Int.reduceToNat, Nat.reduceEqDiff, Int.reduceEq, Int.reduceLT, Tryz.f52, resCell, s_varTrue ia43 sz43, stL] <;> rfl) (by ((try dsimp only); (try simp only [s_push_next, s_put_next]); omega)) lp (fun b hb hne => by ((try simp (disch := first | assumption | omega | (try simp only [q_next, s_put_next]) <;> omega | fail) only [foL]); (try rfl)); exact ag.get b hb hne) (by ((try simp (disch := first | assumption | omega | (try simp only [q_next, s_put_next]) <;> omega | fail) only [foL]); (try rfl))) ⟨trivial, trivial⟩ hN ⟨trivial, trivial, trivial, trivial, trivial, trivial, trivial, trivial, trivial, trivial, trivial⟩
 ·rw [if_neg hd, if_neg hd]
  have hd' : ¬ ((bel (nx (nx (nx s))) 2 : Nat) : Int) = 1 := by omega
  refine Gets.last Tryz.tabOk (ov := addOv noOv 19 (ovB 63)) (addOv_ok noOv_ok ovB_ok) 8 (s' := ?sn13) ?hn13 ?kn13; (case hn13 => (simp -implicitDefEqProofs (disch := first | decide | assumption | (try simp only [q_next, s_put_next]) <;> omega | exact pd_ (by kernel_rfl) | fail) only [sxM, Nat.reduceAdd, reduceCtorEq, Int.reduceToNat, Nat.reduceEqDiff, Int.reduceEq, Int.reduceLT, s_draw, ovB_red, belE_eq, Int.toNat_natCast, g2, a2, s_varFalse ia61, hd'] <;> rfl)); (try (change Gets _ _ _ _ _ _; repeat refine Gets.seq ?_))
  refine Gets.condF (by simp (disch := decide) only [sxL]) (Gets.skip Tryz.tabOk ?_)
  change Gets _ _ _ _ _ _
  repeat refine Gets.seq ?_
  refine Gets.l0 Tryz.tabOk (s' := ?sn14) ?hn14 ?kn14; (case hn14 => (simp -implicitDefEqProofs (disch := first | decide | assumption | (try simp only [q_next, s_put_next]) <;> omega | exact pd_ (by kernel_rfl) | fail) only [sxM, Nat.reduceAdd, reduceCtorEq, Int.reduceToNat, Nat.reduceEqDiff, Int.reduceEq, Int.reduceLT, s_draw, a0, a1, s_varTrue ia43 sz43, stL, sz43] <;> rfl)); (try (change Gets _ _ _ _ _ _; repeat refine Gets.seq ?_))
  refine Gets.ret Tryz.tabOk ?_
  exact fin_put rfl (by simp -implicitDefEqProofs (disch := first | decide | assumption | (try simp only [q_next, s_put_next]) <;> omega | exact pd_ (by kernel_rfl) | fail) only [sxM, Nat.reduceAdd, reduceCtorEq, Int.reduceToNat, Nat.reduceEqDiff, Int.reduceEq, Int.reduceLT, Tryz.f52, resCell, s_varTrue ia43 sz43, stL] <;> rfl) (by ((try dsimp only); (try simp only [s_push_next, s_put_next]); omega)) lp (fun b hb hne => by ((try simp (disch := first | assumption | omega | (try simp only [q_next, s_put_next]) <;> omega | fail) only [foL]); (try rfl)); exact ag.get b hb hne) (by ((try simp (disch := first | assumption | omega | (try simp only [q_next, s_put_next]) <;> omega | fail) only [foL]); (try rfl))) ⟨trivial, trivial⟩ hN ⟨trivial, trivial, trivial, trivial, trivial, trivial, trivial, trivial, trivial, trivial, trivial⟩
end Go.Proofs
namespace Go.Proofs
open Go.Sx
set_option maxRecDepth 100000
theorem zero41 : Tryz.tab.zero 41 = some (.agg [.str [], .int .i64 0, .int .i64 0, .nilslice]) := by kernel_rfl
theorem build41 (x : List UInt8) (k : Int) : buildA Tryz.tab 41 [(0, .str x), (1, .int .i64 k)] = some (.agg [.str x, .int .i64 k, .int .i64 0, .nilslice]) := by kernel_rfl
theorem build184 (x : List UInt8) (k : Int) : buildA Tryz.tab 184 [(0, .str x), (1, .int .i64 k)] = some (.agg [.str x, .int .i64 k]) := by kernel_rfl
theorem zero184 : Tryz.tab.zero 184 = some (.agg [.str [], .int .i64 0]) := by kernel_rfl
theorem ty184 : Tryz.tab.types.get 184 = some Tryz.t184 := by kernel_rfl
theorem ty184s : Tryz.t184.size = 2 := by kernel_rfl
theorem ty184b : Nat.ble Tryz.t184.bytes 100000 = true := by kernel_rfl
theorem mk39 (H : Heap) (m : Nat) (hm : m ≤ 500) : makeSliceA Tryz.tab H 39 (.int .i64 (m : Int)) (.int .i64 (m : Int)) = some (.slice H.next 0 m false m, H.push (.cells 184 true ((List.replicate m (⟨[], 0⟩ : StepV)).flatMap StepV.cells))) :=
 make_rows (f := StepV.cells) ud39 ty184 ty184s ty184b zero184 ⟨[], 0⟩ rfl rfl rfl m (by omega) (by omega)
abbrev defC (co dl : Int) (sv : AV) : List AV := [.str [114], .int .i64 co, .int .i64 dl, sv]
theorem defn_to (kv : AV) (ks : List (List UInt8)) (s p : Nat) (H : Heap) (hN : Neat H) (hk : KeyS H kv ks) (hp : H.blks.get p = some (seedB 63 s)) (hs : s < 18446744073709551616) (hl : 0 < ks.length ∧ ks.length < 1000000000) :
  Makes (defC (dCo s) (dDl s)) 63 p H 50 [kv, .ptr p 0] (dEnd ks s) (dSt ks s) := by
 show Makes (defC ((bel s 3 : Nat) : Int) (50 * ((bel (nx s) 2 : Nat) : Int))) 63 p H 50 [kv, .ptr p 0] (nxs (2 * (1 + fewV ks (nxs 2 s))) (nxs 4 s)) (stepsV ks (bel (nxs 3 s) ks.length) (nxs 4 s) (1 + fewV ks (nxs 2 s)))
 refine makes_E (callE_of Tryz.tabOk Tryz.func50 rfl rfl ?_)
 show GetsE Tryz.prog Tryz.tab ⟨none, 59⟩ _ _ _
 repeat refine GetsE.seq ?_
 have lp := hN _ _ hp
 have s1 : nx s < 18446744073709551616 := nx_lt s
 have s2 : nx (nx s) < 18446744073709551616 := nx_lt _
 have s3 : nx (nx (nx s)) < 18446744073709551616 := nx_lt _
 have hone := hk.one
 have hkl : ∀ h, lenA Tryz.tab h 22 kv = some (.int .i64 (ks.length : Int)) := hk.len
 have hmin : min (3 : Int) (ks.length : Int) = ((min 3 ks.length : Nat) : Int) := by omega
 have k3 : 0 < ((min 3 ks.length : Nat) : Int) ∧ ((min 3 ks.length : Nat) : Int) < 2147483648 := by omega
 have kl : 0 < (ks.length : Int) ∧ (ks.length : Int) < 2147483648 := by omega
 have hf := bel_lt (nx (nx s)) (k := min 3 ks.length) (by omega)
 have hco := bel_lt (nx s) (k := 2) (by omega)
 have hfr := bel_lt (nx (nx (nx s))) (k := ks.length) hl.1
 have w1 : awrap .i64 (50 * ((bel (nx s) 2 : Nat) : Int)) = 50 * ((bel (nx s) 2 : Nat) : Int) := s_wrap (by omega) (by omega)
 have w2 : awrap .i64 (1 + ((bel (nx (nx s)) (min 3 ks.length) : Nat) : Int)) = ((1 + bel (nx (nx s)) (min 3 ks.length) : Nat) : Int) := by rw [s_wrap (by omega) (by omega)]; omega
 have hfew : fewV ks (nxs 2 s) = bel (nx (nx s)) (min 3 ks.length) := rfl
 have hfr3 : nxs 3 s = nx (nx (nx s)) := rfl
 rw [hfew, hfr3]
 generalize hm : 1 + bel (nx (nx s)) (min 3 ks.length) = m at w2 ⊢
 have hmk := fun h => mk39 h m (by omega)
 refine GetsE.l0 Tryz.tabOk (s' := ?sn1) ?hn1 ?kn1; (case hn1 => (simp -implicitDefEqProofs (disch := first | decide | assumption | (try simp only [q_next, s_put_next]) <;> omega | exact pd_ (by kernel_rfl) | fail) only [sxM, Nat.reduceAdd, reduceCtorEq, Int.reduceToNat, Nat.reduceEqDiff, Int.reduceEq, Int.reduceLT, s_draw, zero41, hone] <;> rfl)); (try (change GetsE _ _ _ _ _ _; repeat refine GetsE.seq ?_))
 refine GetsE.last Tryz.tabOk (ov := addOv noOv 19 (ovB 63)) (addOv_ok noOv_ok ovB_ok) 8 (s' := ?sn2) ?hn2 ?kn2; (case hn2 => (simp -implicitDefEqProofs (disch := first | decide | assumption | (try simp only [q_next, s_put_next]) <;> omega | exact pd_ (by kernel_rfl) | fail) only [sxM, Nat.reduceAdd, reduceCtorEq, Int.reduceToNat, Nat.reduceEqDiff, Int.reduceEq, Int.reduceLT, s_draw, ovB_red, belE_eq, Int.toNat_natCast, hp, build41, zero41, stL, sz41] <;> rfl)); (try (change GetsE _ _ _ _ _ _; repeat refine GetsE.seq ?_))
 refine GetsE.last Tryz.tabOk (ov := addOv noOv 19 (ovB 63)) (addOv_ok noOv_ok ovB_ok) 8 (s' := ?sn3) ?hn3 ?kn3; (case hn3 => (simp -implicitDefEqProofs (disch := first | decide | assumption | (try simp only [q_next, s_put_next]) <;> omega | exact pd_ (by kernel_rfl) | fail) only [sxM, Nat.reduceAdd, reduceCtorEq, Int.reduceToNat, Nat.reduceEqDiff, Int.reduceEq, Int.reduceLT, s_draw, ovB_red, belE_eq, Int.toNat_natCast, hp, w1, fa41_2, stL, sz3] <;> rfl)); (try (change GetsE _ _ _ _ _ _; repeat refine GetsE.seq ?_))
 refine GetsE.last Tryz.tabOk (ov := addOv noOv 19 (ovB 63)) (addOv_ok noOv_ok ovB_ok) 8 (s' := ?sn4) ?hn4 ?kn4; (case hn4 => (simp -implicitDefEqProofs (disch := first | decide | assumption | (try simp only [q_next, s_put_next]) <;> omega | exact pd_ (by kernel_rfl) | fail) only [sxM, Nat.reduceAdd, reduceCtorEq, Int.reduceToNat, Nat.reduceEqDiff, Int.reduceEq, Int.reduceLT, s_draw, ovB_red, belE_eq, Int.toNat_natCast, hp, hkl, z_min, s_min2, hmin, w2, hmk, fa41_3, stL, sz39] <;> rfl)); (try (change GetsE _ _ _ _ _ _; repeat refine GetsE.seq ?_))
 refine GetsE.last Tryz.tabOk (ov := addOv noOv 19 (ovB 63)) (addOv_ok noOv_ok ovB_ok) 8 (s' := ?sn5) ?hn5 ?kn5; (case hn5 => (simp -implicitDefEqProofs (disch := first | decide | assumption | (try simp only [q_next, s_put_next]) <;> omega | exact pd_ (by kernel_rfl) | fail) only [sxM, Nat.reduceAdd, reduceCtorEq, Int.reduceToNat, Nat.reduceEqDiff, Int.reduceEq, Int.reduceLT, s_draw, ovB_red, belE_eq, Int.toNat_natCast, hp, hkl, stL] <;> rfl)); (try (change GetsE _ _ _ _ _ _; repeat refine GetsE.seq ?_))
 refine GetsE.ofH (fun h => h.blks.get H.next = some (.cells 41 true [.str [], .int .i64 0, .int .i64 0, .nilslice]) ∧ h.blks.get (H.next + 1) = some (.cells 41 true (defC ((bel s 3 : Nat) : Int) (50 * ((bel (nx s) 2 : Nat) : Int)) (.slice (H.next + 2) 0 m false m))) ∧
   h.blks.get (H.next + 2) = some (.cells 184 true (padV ks (bel (nx (nx (nx s))) ks.length) (nxs 4 s) m 0)) ∧ h.blks.get p = some (seedB 63 (nxs (2 * 0) (nxs 4 s))) ∧ GrowsP p H h ∧ h.next = H.next + 3 ∧ Neat h)
  ⟨by ((try simp (disch := first | assumption | omega | (try simp only [q_next, s_put_next]) <;> omega | fail) only [foL]); (try rfl)), by ((try simp (disch := first | assumption | omega | (try simp only [q_next, s_put_next]) <;> omega | fail) only [foL]); (try rfl)), by ((try simp (disch := first | assumption | omega | (try simp only [q_next, s_put_next]) <;> omega | fail) only [foL]); (try rfl)), by ((try simp (disch := first | assumption | omega | (try simp only [q_next, s_put_next]) <;> omega | fail) only [foL]); (try rfl)), ⟨by ((try dsimp only); (try simp only [s_push_next, s_put_next]); omega), fun b hb hne => by ((try simp (disch := first | assumption | omega | (try simp only [q_next, s_put_next]) <;> omega | fail) only [foL]); (try rfl))⟩, by ((try simp (disch := first | assumption | omega | (try simp only [q_next, s_put_next]) <;> omega | fail) only [foL]); (try rfl)), (by repeat' (first | exact hN | exact aN | exact bN | (refine Neat.push ?_ _) | (refine Neat.put ?_ (by ((try dsimp only); (try simp only [s_push_next, s_put_next]); omega)) _)))⟩ ?_
 rintro h0 ⟨a0, a1, a2, a3, ag, ax, aN⟩
 refine GetsE.l0 Tryz.tabOk (s' := ?sn6) ?hn6 ?kn6; (case hn6 => (simp -implicitDefEqProofs (disch := first | decide | assumption | (try simp only [q_next, s_put_next]) <;> omega | exact pd_ (by kernel_rfl) | fail) only [sxM, Nat.reduceAdd, reduceCtorEq, Int.reduceToNat, Nat.reduceEqDiff, Int.reduceEq, Int.reduceLT, s_draw, a1, fa41_3, s_varFalse ia39, s_lenSlice ud39] <;> rfl)); (try (change GetsE _ _ _ _ _ _; repeat refine GetsE.seq ?_))
 generalize hfrq : bel (nx (nx (nx s))) ks.length = fr at hfr a2 ⊢
 have hu0 := nxs_lt hs 4
 generalize nxs 4 s = u at a2 a3 hu0 ⊢
 refine GetsE.uptoH m (fun i tm h => tm.get 0 = some kv ∧ tm.get 1 = some (.ptr p 0) ∧ tm.get 4 = some (.ptr H.next 0) ∧ tm.get 5 = some (.ptr (H.next + 1) 0) ∧ tm.get 6 = some (.int .i64 (fr : Int)) ∧ tm.get 30 = some (.int .i64 (m : Int)) ∧ tm.get 31 = some (.int .i64 (i : Int)) ∧
   h.blks.get H.next = some (.cells 41 true [.str [], .int .i64 0, .int .i64 0, .nilslice]) ∧ h.blks.get (H.next + 1) = some (.cells 41 true (defC ((bel s 3 : Nat) : Int) (50 * ((bel (nx s) 2 : Nat) : Int)) (.slice (H.next + 2) 0 m false m))) ∧
   h.blks.get (H.next + 2) = some (.cells 184 true (padV ks fr u m i)) ∧ h.blks.get p = some (seedB 63 (nxs (2 * i) u)) ∧ GrowsP p H h ∧ h.next = H.next + 3 ∧ Neat h)
  ⟨by simp (disch := decide) only [sxL], by simp (disch := decide) only [sxL], by simp (disch := decide) only [sxL], by simp (disch := decide) only [sxL], by simp (disch := decide) only [sxL, hfrq], by simp (disch := decide) only [sxL], by simp (disch := decide) only [sxL], a0, a1, a2, a3, ag, ax, aN⟩ ?_
 clear a0 a1 a2 a3 ag ax aN h0
 rintro i tm h hi ⟨i0, i1, i4, i5, i6, i30, i31, a0, a1, a2, a3, ag, ax, aN⟩
 repeat refine GetsE.seq ?_
 by_cases hlt : (i : Int) < (m : Int)
 ·have hu := nxs_lt hu0 (2 * i)
  have hu1 := nx_lt (nxs (2 * i) u)
  obtain ⟨a, ha⟩ : ∃ a, ks[(fr + i) % ks.length]? = some a := ⟨_, List.getElem?_eq_getElem (Nat.mod_lt _ hl.1)⟩
  obtain ⟨b, hxa, hld⟩ := (hk.growP hN ag (by decide) hp).at_ ha
  have nb : b ≠ p := cell_ne hld a3
  have hb5 := bel_lt (nxs (2 * i) u) (k := 5) (by omega)
  have v1 : awrap .i64 (1 + ((bel (nxs (2 * i) u) 5 : Nat) : Int)) = 1 + ((bel (nxs (2 * i) u) 5 : Nat) : Int) := s_wrap (by omega) (by omega)
  have v2 : awrap .i64 (0 - (1 + ((bel (nxs (2 * i) u) 5 : Nat) : Int))) = -(1 + ((bel (nxs (2 * i) u) 5 : Nat) : Int)) := by rw [s_wrap (by omega) (by omega)]; omega
  have v3 : awrap .i64 ((fr : Int) + (i : Int)) = ((fr + i : Nat) : Int) := by rw [s_wrap (by omega) (by omega)]; omega
  have v4 : remO .i64 ((fr + i : Nat) : Int) (ks.length : Int) = some (.int .i64 (((fr + i) % ks.length : Nat) : Int)) := s_rem _ (by omega) (by omega)
  have v5 : awrap .i64 ((i : Int) + 1) = (i : Int) + 1 := s_wrap (by omega) (by omega)
  have hxs : indexAddrA Tryz.tab 39 (.slice (H.next + 2) 0 m false m) (.int .i64 (i : Int)) = some (.ptr (H.next + 2) (i * 2)) := by
   rw [s_indexSlice ud39 sz184, if_pos ⟨by omega, by omega⟩]; simp
  have hgd : (ks[(fr + i) % ks.length]?).getD [] = a := by rw [ha]; rfl
  refine GetsE.l0 Tryz.tabOk (s' := ?sn7) ?hn7 ?kn7; (case hn7 => (simp -implicitDefEqProofs (disch := first | decide | assumption | (try simp only [q_next, s_put_next]) <;> omega | exact pd_ (by kernel_rfl) | fail) only [sxM, Nat.reduceAdd, reduceCtorEq, Int.reduceToNat, Nat.reduceEqDiff, Int.reduceEq, Int.reduceLT, s_draw, i30, i31, hlt] <;> rfl)); (try (change GetsE _ _ _ _ _ _; repeat refine GetsE.seq ?_))
  refine GetsE.condT (by simp (disch := decide) only [sxL]) (GetsE.skip Tryz.tabOk ?_)
  change GetsE _ _ _ _ _ _
  refine GetsE.seq (GetsE.blk ?_)
  repeat refine GetsE.seq ?_
  refine GetsE.l0 Tryz.tabOk (s' := ?sn8) ?hn8 ?kn8; (case hn8 => (simp -implicitDefEqProofs (disch := first | decide | assumption | (try simp only [q_next, s_put_next]) <;> omega | exact pd_ (by kernel_rfl) | fail) only [sxM, Nat.reduceAdd, reduceCtorEq, Int.reduceToNat, Nat.reduceEqDiff, Int.reduceEq, Int.reduceLT, s_draw, i31] <;> rfl)); (try (change GetsE _ _ _ _ _ _; repeat refine GetsE.seq ?_))
  refine GetsE.last Tryz.tabOk (ov := addOv noOv 19 (ovB 63)) (addOv_ok noOv_ok ovB_ok) 8 (s' := ?sn9) ?hn9 ?kn9; (case hn9 => (simp -implicitDefEqProofs (disch := first | decide | assumption | (try simp only [q_next, s_put_next]) <;> omega | exact pd_ (by kernel_rfl) | fail) only [sxM, Nat.reduceAdd, reduceCtorEq, Int.reduceToNat, Nat.reduceEqDiff, Int.reduceEq, Int.reduceLT, s_draw, ovB_red, belE_eq, Int.toNat_natCast, i1, a3, v1] <;> rfl)); (try (change GetsE _ _ _ _ _ _; repeat refine GetsE.seq ?_))
  by_cases hd : bel (nx (nxs (2 * i) u)) 2 = 1
  ·have hd' : ((bel (nx (nxs (2 * i) u)) 2 : Nat) : Int) = 1 := by omega
   have hsp := padV_put (m := m) (d := -(1 + ((bel (nxs (2 * i) u) 5 : Nat) : Int))) (by omega) (show stepV ks fr i (nxs (2 * i) u) = ⟨a, _⟩ by unfold stepV; rw [hgd, if_pos hd])
   refine GetsE.last Tryz.tabOk (ov := addOv noOv 19 (ovB 63)) (addOv_ok noOv_ok ovB_ok) 8 (s' := ?sn10) ?hn10 ?kn10; (case hn10 => (simp -implicitDefEqProofs (disch := first | decide | assumption | (try simp only [q_next, s_put_next]) <;> omega | exact pd_ (by kernel_rfl) | fail) only [sxM, Nat.reduceAdd, reduceCtorEq, Int.reduceToNat, Nat.reduceEqDiff, Int.reduceEq, Int.reduceLT, s_draw, ovB_red, belE_eq, Int.toNat_natCast, i1, a3, hd'] <;> rfl)); (try (change GetsE _ _ _ _ _ _; repeat refine GetsE.seq ?_))
   refine GetsE.condT (by simp (disch := decide) only [sxL]) ?_
   change GetsE _ _ _ _ _ _
   repeat refine GetsE.seq ?_
   refine GetsE.l0 Tryz.tabOk (s' := ?sn11) ?hn11 ?kn11; (case hn11 => (simp -implicitDefEqProofs (disch := first | decide | assumption | (try simp only [q_next, s_put_next]) <;> omega | exact pd_ (by kernel_rfl) | fail) only [sxM, Nat.reduceAdd, reduceCtorEq, Int.reduceToNat, Nat.reduceEqDiff, Int.reduceEq, Int.reduceLT, s_draw, v2] <;> rfl)); (try (change GetsE _ _ _ _ _ _; repeat refine GetsE.seq ?_))
   refine GetsE.l0 Tryz.tabOk (s' := ?sn12) ?hn12 ?kn12; (case hn12 => (simp -implicitDefEqProofs (disch := first | decide | assumption | (try simp only [q_next, s_put_next]) <;> omega | exact pd_ (by kernel_rfl) | fail) only [sxM, Nat.reduceAdd, reduceCtorEq, Int.reduceToNat, Nat.reduceEqDiff, Int.reduceEq, Int.reduceLT, s_draw, i0, i5, i6, a1, fa41_3, s_varFalse ia39, v3, v4, hkl, hxa, hld, s_varFalse ia9, build184, hxs, stL, sz184, a2, hsp] <;> rfl)); (try (change GetsE _ _ _ _ _ _; repeat refine GetsE.seq ?_))
   refine GetsE.l0 Tryz.tabOk (s' := ?sn13) ?hn13 ?kn13; (case hn13 => (simp -implicitDefEqProofs (disch := first | decide | assumption | (try simp only [q_next, s_put_next]) <;> omega | exact pd_ (by kernel_rfl) | fail) only [sxM, Nat.reduceAdd, reduceCtorEq, Int.reduceToNat, Nat.reduceEqDiff, Int.reduceEq, Int.reduceLT, s_draw, i31, v5] <;> rfl)); (try (change GetsE _ _ _ _ _ _; repeat refine GetsE.seq ?_))
   exact ⟨_, _, rfl, by omega, by simp (disch := decide) only [sxL, i0], by simp (disch := decide) only [sxL, i1], by simp (disch := decide) only [sxL, i4], by simp (disch := decide) only [sxL, i5], by simp (disch := decide) only [sxL, i6], by simp (disch := decide) only [sxL, i30], by simp (disch := decide) only [sxL, s_castS], by ((try simp (disch := first | assumption | omega | (try simp only [q_next, s_put_next]) <;> omega | fail) only [foL]); (try rfl)); exact a0, by ((try simp (disch := first | assumption | omega | (try simp only [q_next, s_put_next]) <;> omega | fail) only [foL]); (try rfl)); exact a1, by ((try simp (disch := first | assumption | omega | (try simp only [q_next, s_put_next]) <;> omega | fail) only [foL]); (try rfl)), by ((try simp (disch := first | assumption | omega | (try simp only [q_next, s_put_next]) <;> omega | fail) only [foL]); (try rfl)), ⟨by ((try dsimp only); (try simp only [s_push_next, s_put_next]); omega), fun b hb hne => by ((try simp (disch := first | assumption | omega | (try simp only [q_next, s_put_next]) <;> omega | fail) only [foL]); (try rfl)); exact ag.get b hb hne⟩, by ((try simp (disch := first | assumption | omega | (try simp only [q_next, s_put_next]) <;> omega | fail) only [foL]); (try rfl)); exact ax, (by repeat' (first | exact hN | exact aN | exact bN | (refine Neat.push ?_ _) | (refine Neat.put ?_ (by ((try dsimp only); (try simp only [s_push_next, s_put_next]); omega)) _)))⟩
  ·have hd' : ¬ ((bel (nx (nxs (2 * i) u)) 2 : Nat) : Int) = 1 := by omega
   have hsp := padV_put (m := m) (d := 1 + ((bel (nxs (2 * i) u) 5 : Nat) : Int)) (by omega) (show stepV ks fr i (nxs (2 * i) u) = ⟨a, _⟩ by unfold stepV; rw [hgd, if_neg hd])
   refine GetsE.last Tryz.tabOk (ov := addOv noOv 19 (ovB 63)) (addOv_ok noOv_ok ovB_ok) 8 (s' := ?sn14) ?hn14 ?kn14; (case hn14 => (simp -implicitDefEqProofs (disch := first | decide | assumption | (try simp only [q_next, s_put_next]) <;> omega | exact pd_ (by kernel_rfl) | fail) only [sxM, Nat.reduceAdd, reduceCtorEq, Int.reduceToNat, Nat.reduceEqDiff, Int.reduceEq, Int.reduceLT, s_draw, ovB_red, belE_eq, Int.toNat_natCast, i1, a3, hd'] <;> rfl)); (try (change GetsE _ _ _ _ _ _; repeat refine GetsE.seq ?_))
   refine GetsE.condF (by simp (disch := decide) only [sxL]) (GetsE.skip Tryz.tabOk ?_)
   change GetsE _ _ _ _ _ _
   repeat refine GetsE.seq ?_
   refine GetsE.l0 Tryz.tabOk (s' := ?sn15) ?hn15 ?kn15; (case hn15 => (simp -implicitDefEqProofs (disch := first | decide | assumption | (try simp only [q_next, s_put_next]) <;> omega | exact pd_ (by kernel_rfl) | fail) only [sxM, Nat.reduceAdd, reduceCtorEq, Int.reduceToNat, Nat.reduceEqDiff, Int.reduceEq, Int.reduceLT, s_draw, i0, i5, i6, a1, fa41_3, s_varFalse ia39, v3, v4, hkl, hxa, hld, s_varFalse ia9, build184, hxs, stL, sz184, a2, hsp] <;> rfl)); (try (change GetsE _ _ _ _ _ _; repeat refine GetsE.seq ?_))
   refine GetsE.l0 Tryz.tabOk (s' := ?sn16) ?hn16 ?kn16; (case hn16 => (simp -implicitDefEqProofs (disch := first | decide | assumption | (try simp only [q_next, s_put_next]) <;> omega | exact pd_ (by kernel_rfl) | fail) only [sxM, Nat.reduceAdd, reduceCtorEq, Int.reduceToNat, Nat.reduceEqDiff, Int.reduceEq, Int.reduceLT, s_draw, i31, v5] <;> rfl)); (try (change GetsE _ _ _ _ _ _; repeat refine GetsE.seq ?_))
   exact ⟨_, _, rfl, by omega, by simp (disch := decide) only [sxL, i0], by simp (disch := decide) only [sxL, i1], by simp (disch := decide) only [sxL, i4], by simp (disch := decide) only [sxL, i5], by simp (disch := decide) only [sxL, i6], by simp (disch := decide) only [sxL, i30], by simp (disch := decide) only [sxL, s_castS], by ((try simp (disch := first | assumption | omega | (try simp only [q_next, s_put_next]) <;> omega | fail) only [foL]); (try rfl)); exact a0, by ((try simp (disch := first | assumption | omega | (try simp only [q_next, s_put_next]) <;> omega | fail) only [foL]); (try rfl)); exact a1, by ((try simp (disch := first | assumption | omega | (try simp only [q_next, s_put_next]) <;> omega | fail) only [foL]); (try rfl)), by ((try simp (disch := first | assumption | omega | (try simp only [q_next, s_put_next]) <;> omega | fail) only [foL]); (try rfl)), ⟨by ((try dsimp only); (try simp only [s_push_next, s_put_next]); omega), fun b hb hne => by ((try simp (disch := first | assumption | omega | (try simp only [q_next, s_put_next]) <;> omega | fail) only [foL]); (try rfl)); exact ag.get b hb hne⟩, by ((try simp (disch := first | assumption | omega | (try simp only [q_next, s_put_next]) <;> omega | fail) only [foL]); (try rfl)); exact ax, (by repeat' (first | exact hN | exact aN | exact bN | (refine Neat.push ?_ _) | (refine Neat.put ?_ (by ((try dsimp only); (try simp only [s_push_next, s_put_next]); omega)) _)))⟩
 ·have h9 : i = m := by omega
  subst h9
  rw [padV_all] at a2
  refine GetsE.l0 Tryz.tabOk (s' := ?sn17) ?hn17 ?kn17; (case hn17 => (simp -implicitDefEqProofs (disch := first | decide | assumption | (try simp only [q_next, s_put_next]) <;> omega | exact pd_ (by kernel_rfl) | fail) only [sxM, Nat.reduceAdd, reduceCtorEq, Int.reduceToNat, Nat.reduceEqDiff, Int.reduceEq, Int.reduceLT, s_draw, i30, i31, hlt] <;> rfl)); (try (change GetsE _ _ _ _ _ _; repeat refine GetsE.seq ?_))
  refine GetsE.condF (by simp (disch := decide) only [sxL]) (GetsE.exit Tryz.tabOk ?_)
  refine inBlk_exit ?_
  change GetsE _ _ _ _ _ _
  repeat refine GetsE.seq ?_
  refine GetsE.l0 Tryz.tabOk (s' := ?sn18) ?hn18 ?kn18; (case hn18 => (simp -implicitDefEqProofs (disch := first | decide | assumption | (try simp only [q_next, s_put_next]) <;> omega | exact pd_ (by kernel_rfl) | fail) only [sxM, Nat.reduceAdd, reduceCtorEq, Int.reduceToNat, Nat.reduceEqDiff, Int.reduceEq, Int.reduceLT, s_draw, i4, i5, a0, a1, s_varTrue ia41 sz41, stL, sz41] <;> rfl)); (try (change GetsE _ _ _ _ _ _; repeat refine GetsE.seq ?_))
  refine GetsE.ret Tryz.tabOk ?_
  exact fin_E (vs := [.agg (defC ((bel s 3 : Nat) : Int) (50 * ((bel (nx s) 2 : Nat) : Int)) (.slice (H.next + 2) 0 i false i))]) rfl (by simp -implicitDefEqProofs (disch := first | decide | assumption | (try simp only [q_next, s_put_next]) <;> omega | exact pd_ (by kernel_rfl) | fail) only [sxM, Nat.reduceAdd, reduceCtorEq, Int.reduceToNat, Nat.reduceEqDiff, Int.reduceEq, Int.reduceLT, Tryz.f50, resCell, s_varTrue ia41 sz41, stL, i4] <;> rfl) (by ((try dsimp only); (try simp only [s_push_next, s_put_next]); omega)) ⟨trivial, trivial, trivial, (show H.next + 2 < _ from by ((try dsimp only); (try simp only [s_push_next, s_put_next]); omega)), trivial⟩
   ⟨_, rfl, ⟨by ((try dsimp only); (try simp only [s_push_next, s_put_next]); omega), fun b hb hne => by ((try simp (disch := first | assumption | omega | (try simp only [q_next, s_put_next]) <;> omega | fail) only [foL]); (try rfl)); exact ag.get b hb hne⟩, (by repeat' (first | exact hN | exact aN | exact bN | (refine Neat.push ?_ _) | (refine Neat.put ?_ (by ((try dsimp only); (try simp only [s_push_next, s_put_next]); omega)) _))), by ((try simp (disch := first | assumption | omega | (try simp only [q_next, s_put_next]) <;> omega | fail) only [foL]); (try rfl)); exact a3, .inr ⟨H.next + 2, false, i, true, by rw [stepsV_len], by ((try simp (disch := first | assumption | omega | (try simp only [q_next, s_put_next]) <;> omega | fail) only [foL]); (try rfl)); exact a2⟩⟩
end Go.Proofs
namespace Go.Proofs
open Go.Sx
set_option maxRecDepth 100000
noncomputable def ovS2 (args : List AV) (H : Heap) : Option (List VH) := match args with
 | [.int .i64 k, .int .i64 n, .ptr r 0] => some [(.func (.func 45) [] [.ptr H.next 0, .ptr r 0, .ptr (H.next + 1) 0], (H.push (intB k)).push (intB n))]
 | _ => none
theorem ovS2_red (k n : Int) (r : Nat) (H : Heap) : ovS2 [.int .i64 k, .int .i64 n, .ptr r 0] H = some [(.func (.func 45) [] [.ptr H.next 0, .ptr r 0, .ptr (H.next + 1) 0], (H.push (intB k)).push (intB n))] := rfl
theorem ovS2_ok (args : List AV) (H : Heap) (outs : List VH) (h : ovS2 args H = some outs) : CallTo Tryz.prog Tryz.tab 44 args H outs := by
 unfold ovS2 at h
 split at h
 ·simp only [Option.some.injEq] at h; subst h
  exact sh2_to _ _ _ _
 ·simp at h
noncomputable def ovS3 (args : List AV) (H : Heap) : Option (List VH) := match args with
 | [.int .i64 k, .ptr r 0, .ptr q 0] => some [(.func (.func 47) [] [.ptr H.next 0, .ptr r 0, .ptr q 0], H.push (intB k))]
 | _ => none
theorem ovS3_red (k : Int) (r q : Nat) (H : Heap) : ovS3 [.int .i64 k, .ptr r 0, .ptr q 0] H = some [(.func (.func 47) [] [.ptr H.next 0, .ptr r 0, .ptr q 0], H.push (intB k))] := rfl
theorem ovS3_ok (args : List AV) (H : Heap) (outs : List VH) (h : ovS3 args H = some outs) : CallTo Tryz.prog Tryz.tab 46 args H outs := by
 unfold ovS3 at h
 split at h
 ·simp only [Option.some.injEq] at h; subst h
  exact sh3_to _ _ _ _
 ·simp at h
noncomputable def opSub (ks : List (List UInt8)) (N s : Nat) : OpV := ⟨8, ((bel s N : Nat) : Int), 1 + ((bel (nx s) 9 : Nat) : Int), [], [], [], [114], dCo (nx (nx s)), dDl (nx (nx s)), dSt ks (nx (nx s))⟩
theorem sh5_to (kv : AV) (ks : List (List UInt8)) (N s b5 br b7 b10 p : Nat) (H : Heap) (hN : Neat H) (hk : KeyS H kv ks) (h5 : H.blks.get b5 = some (intB N)) (h2 : H.blks.get br = some (.cells 61 true [.ptr p 0])) (h7 : H.blks.get b7 = some (.cells 22 true [kv]))
  (h10 : H.blks.get b10 = some (.cells 119 true [.func (.func 46) [] [.ptr br 0, .ptr b5 0]])) (hp : H.blks.get p = some (seedB 63 s)) (hs : s < 18446744073709551616) (hn : 0 < N ∧ N < 1000000) (hl : 0 < ks.length ∧ ks.length < 1000000000) :
  MakesOp 63 p H 49 [.ptr b10 0, .ptr b7 0, .ptr br 0] (opSub ks N s) (dEnd ks (nx (nx s))) := by
 refine makes_E (callE_of Tryz.tabOk Tryz.func49 rfl rfl ?_)
 show GetsE Tryz.prog Tryz.tab ⟨none, 13⟩ _ _ _
 repeat refine GetsE.seq ?_
 have lp := hN _ _ hp
 have l5 := hN _ _ h5
 have l2 := hN _ _ h2
 have l7 := hN _ _ h7
 have l10 := hN _ _ h10
 have n5 : b5 ≠ p := ne_of_blk h5 hp (by simp)
 have n2 : br ≠ p := ne_of_blk h2 hp (by simp)
 have n7 : b7 ≠ p := ne_of_blk h7 hp (by simp)
 have n10 : b10 ≠ p := ne_of_blk h10 hp (by simp)
 have s1 := nx_lt s
 have s2 := nx_lt (nx s)
 have hone := hk.one
 refine GetsE.l0 Tryz.tabOk (s' := ?sn1) ?hn1 ?kn1; (case hn1 => (simp -implicitDefEqProofs (disch := first | decide | assumption | (try simp only [q_next, s_put_next]) <;> omega | exact pd_ (by kernel_rfl) | fail) only [sxM, Nat.reduceAdd, reduceCtorEq, Int.reduceToNat, Nat.reduceEqDiff, Int.reduceEq, Int.reduceLT, s_draw, zero43] <;> rfl)); (try (change GetsE _ _ _ _ _ _; repeat refine GetsE.seq ?_))
 refine GetsE.ofH (fun h => h.blks.get H.next = some (.cells 43 true (opZ 0 0 0)) ∧ Grows H h ∧ h.next = H.next + 1 ∧ Neat h) ⟨by ((try simp (disch := first | assumption | omega | (try simp only [q_next, s_put_next]) <;> omega | fail) only [foL]); (try rfl)), .push _ _, by ((try simp (disch := first | assumption | omega | (try simp only [q_next, s_put_next]) <;> omega | fail) only [foL]); (try rfl)), (by repeat' (first | exact hN | exact aN | exact bN | (refine Neat.push ?_ _) | (refine Neat.put ?_ (by ((try dsimp only); (try simp only [s_push_next, s_put_next]); omega)) _)))⟩ ?_
 rintro h ⟨a0, ag, ax, aN⟩
 have g5 : h.blks.get b5 = some (intB N) := by rw [ag.get _ l5]; exact h5
 have g2 : h.blks.get br = some (.cells 61 true [.ptr p 0]) := by rw [ag.get _ l2]; exact h2
 have g7 : h.blks.get b7 = some (.cells 22 true [kv]) := by rw [ag.get _ l7]; exact h7
 have g10 : h.blks.get b10 = some (.cells 119 true [.func (.func 46) [] [.ptr br 0, .ptr b5 0]]) := by rw [ag.get _ l10]; exact h10
 have gp : h.blks.get p = some (seedB 63 s) := by rw [ag.get _ lp]; exact hp
 have q := sh31_to 8 N s h.next br b5 p (h.push (intB 8)) (aN.push _) (by ((try simp (disch := first | assumption | omega | (try simp only [q_next, s_put_next]) <;> omega | fail) only [foL]); (try rfl))) (by ((try simp (disch := first | assumption | omega | (try simp only [q_next, s_put_next]) <;> omega | fail) only [foL]); (try rfl)); exact g2) (by ((try simp (disch := first | assumption | omega | (try simp only [q_next, s_put_next]) <;> omega | fail) only [foL]); (try rfl)); exact g5) (by ((try simp (disch := first | assumption | omega | (try simp only [q_next, s_put_next]) <;> omega | fail) only [foL]); (try rfl)); exact gp) hs ⟨hn.1, by omega⟩
 refine GetsE.last Tryz.tabOk (ov := addOv (ptO noOv 47 [.ptr h.next 0, .ptr br 0, .ptr b5 0] (h.push (intB 8)) [(.agg (opZ 8 (bel s N : Nat) (1 + (bel (nx s) 9 : Nat))), putBlk (h.push (intB 8)) p (some (seedB 63 (nx (nx s)))))]) 46 ovS3) (addOv_ok (ptO_ok noOv_ok q) ovS3_ok) 8 (s' := ?sn2) ?hn2 ?kn2; (case hn2 => (simp -implicitDefEqProofs (disch := first | decide | assumption | (try simp only [q_next, s_put_next]) <;> omega | exact pd_ (by kernel_rfl) | fail) only [sxM, Nat.reduceAdd, reduceCtorEq, Int.reduceToNat, Nat.reduceEqDiff, Int.reduceEq, Int.reduceLT, s_draw, ovS3_red, s_ptEq, g10, s_varFalse ia119, zero43, stL, sz43] <;> rfl)); (try (change GetsE _ _ _ _ _ _; repeat refine GetsE.seq ?_))
 refine GetsE.ofH (fun h' => h'.blks.get H.next = some (.cells 43 true (opZ 0 0 0)) ∧ h'.blks.get (h.next + 1) = some (.cells 43 true (opZ 8 (bel s N : Nat) (1 + (bel (nx s) 9 : Nat)))) ∧ h'.blks.get p = some (seedB 63 (nx (nx s))) ∧ GrowsP p H h' ∧ h'.next = h.next + 2 ∧ Neat h')
  ⟨by ((try simp (disch := first | assumption | omega | (try simp only [q_next, s_put_next]) <;> omega | fail) only [foL]); (try rfl)); exact a0, by ((try simp (disch := first | assumption | omega | (try simp only [q_next, s_put_next]) <;> omega | fail) only [foL]); (try rfl)), by ((try simp (disch := first | assumption | omega | (try simp only [q_next, s_put_next]) <;> omega | fail) only [foL]); (try rfl)), ⟨by ((try dsimp only); (try simp only [s_push_next, s_put_next]); omega), fun b hb hne => by ((try simp (disch := first | assumption | omega | (try simp only [q_next, s_put_next]) <;> omega | fail) only [foL]); (try rfl)); exact ag.get b hb⟩, by ((try simp (disch := first | assumption | omega | (try simp only [q_next, s_put_next]) <;> omega | fail) only [foL]); (try rfl)), (by repeat' (first | exact hN | exact aN | exact bN | (refine Neat.push ?_ _) | (refine Neat.put ?_ (by ((try dsimp only); (try simp only [s_push_next, s_put_next]); omega)) _)))⟩ ?_
 generalize h.next = d0 at ax ⊢
 clear a0 ag aN g5 g2 g7 g10 gp q
 clear h
 rintro h ⟨a0, a1, a2, ag, ax2, aN⟩
 have hk1 := hk.growP hN ag (by decide) hp
 obtain ⟨sv, H', q, bg, bN, bp, bst⟩ := defn_to kv ks (nx (nx s)) p h aN hk1 a2 s2 hl
 have g7 := ag.some_ hN h7 n7
 have g2 := ag.some_ hN h2 n2
 have n0 : H.next ≠ p := Nat.ne_of_gt lp
 have n1 : d0 + 1 ≠ p := by omega
 have c0 := bg.some_ aN a0 n0
 have c1 := bg.some_ aN a1 n1
 have c9 := bg.next
 have hsv := CellsAt.one bst
 have hlt := CellsAt.lt bst bN
 have cg := ag.trans bg
 refine GetsE.last Tryz.tabOk (ov := ptO noOv 50 [kv, .ptr p 0] h [(.agg (defC (dCo (nx (nx s))) (dDl (nx (nx s))) sv), H')]) (ptO_ok noOv_ok q) 8 (s' := ?sn3) ?hn3 ?kn3; (case hn3 => (simp -implicitDefEqProofs (disch := first | decide | assumption | (try simp only [q_next, s_put_next]) <;> omega | exact pd_ (by kernel_rfl) | fail) only [sxM, Nat.reduceAdd, reduceCtorEq, Int.reduceToNat, Nat.reduceEqDiff, Int.reduceEq, Int.reduceLT, s_draw, s_ptEq, g7, g2, s_varFalse ia22, s_varFalse ia61, fa43_5, stL, sz41, c1, hsv] <;> rfl)); (try (change GetsE _ _ _ _ _ _; repeat refine GetsE.seq ?_))
 refine GetsE.l0 Tryz.tabOk (s' := ?sn4) ?hn4 ?kn4; (case hn4 => (simp -implicitDefEqProofs (disch := first | decide | assumption | (try simp only [q_next, s_put_next]) <;> omega | exact pd_ (by kernel_rfl) | fail) only [sxM, Nat.reduceAdd, reduceCtorEq, Int.reduceToNat, Nat.reduceEqDiff, Int.reduceEq, Int.reduceLT, s_draw, c0, s_varTrue ia43 sz43, stL, sz43, hsv] <;> rfl)); (try (change GetsE _ _ _ _ _ _; repeat refine GetsE.seq ?_))
 refine GetsE.ret Tryz.tabOk ?_
 have hst2 : StepsAt (putBlk H' (d0 + 1) (some (.cells 43 true ((opSub ks N s).cells sv)))) sv (dSt ks (nx (nx s))) := CellsAt.growP bst bN (GrowsP.put _ _ _) c1 fun x y => by simp
 have hst3 : StepsAt (putBlk (putBlk H' (d0 + 1) (some (.cells 43 true ((opSub ks N s).cells sv)))) H.next (some (.cells 43 true ((opSub ks N s).cells sv)))) sv (dSt ks (nx (nx s))) := CellsAt.growP hst2 (bN.put (by omega) _) (GrowsP.put _ _ _) (show (putBlk H' (d0 + 1) _).blks.get H.next = some (.cells 43 true (opZ 0 0 0)) by rw [s_put_other _ _ _ (by omega)]; exact c0) fun x y => by simp
 exact fin_E (vs := [.agg ((opSub ks N s).cells sv)]) rfl (by simp -implicitDefEqProofs (disch := first | decide | assumption | (try simp only [q_next, s_put_next]) <;> omega | exact pd_ (by kernel_rfl) | fail) only [sxM, Nat.reduceAdd, reduceCtorEq, Int.reduceToNat, Nat.reduceEqDiff, Int.reduceEq, Int.reduceLT, Tryz.f49, resCell, s_varTrue ia43 sz43, stL] <;> rfl) (by ((try dsimp only); (try simp only [s_push_next, s_put_next]); omega)) ⟨trivial, trivial, trivial, trivial, trivial, trivial, trivial, trivial, trivial, (show ltV (putBlk (putBlk H' _ _) _ _).next sv by rw [s_put_next, s_put_next]; exact hlt), trivial⟩
  ⟨sv, rfl, ⟨by ((try dsimp only); (try simp only [s_push_next, s_put_next]); omega), fun b hb hne => by ((try simp (disch := first | assumption | omega | (try simp only [q_next, s_put_next]) <;> omega | fail) only [foL]); (try rfl)); exact cg.get b hb hne⟩, (bN.put (by omega) _).put (by ((try dsimp only); (try simp only [s_push_next, s_put_next]); omega)) _, by ((try simp (disch := first | assumption | omega | (try simp only [q_next, s_put_next]) <;> omega | fail) only [foL]); (try rfl)); exact bp, hst3⟩
end Go.Proofs
