/-
  Errors; equal scripts; the law's own code; the start and the arguments.
-/
import Derived.Test.YtnhnepmjdgfelaaGreatDoorPaE
import Derived.Test.YtnhnepmjdgfelaaGreatDoorPaD
import Derived.Test.YtnhnepmjdgfelaaGreatDoorPwA
import Derived.Test.YtnhnepmjdgfelaaGreatDoorSxF
import Derived.Test.YtnhnepmjdgfelaaGreatDoorSxH
import Derived.ProofKit
import Derived.Lay
import Derived.LaidOnce
import Derived.SevenTiedAt
import Derived.Carry
set_option linter.unusedSimpArgs false
set_option linter.unusedVariables false
set_option linter.deprecated false
namespace Go.Proofs
open Go.Sx
set_option maxRecDepth 100000
theorem fin_two {G : Tab} {H : Heap} {s : St} {a b : AV} {rs : List Go.ResultVar} (hd : s.df = []) (hr : resultsA G s.tm s.h rs = some [a, b]) (hg : Grows H s.h) (hn : Neat H) (ha : ltV H.next a) (hb : ltV H.next b) :
  leaves .ret = true ∧ s.df = [] ∧ ∃ vs, resultsA G s.tm s.h rs = some vs ∧ ∃ p ∈ [(.tuple [a, b], H)], Cut H p (oneOf vs) s.h :=
 ⟨rfl, hd, [a, b], hr, _, List.mem_singleton.2 rfl, Cut.pure hg.next hg.get hn ⟨ha, hb, trivial⟩⟩
def errR (n g : Int) (ks : List (List UInt8)) (cs : List CntV) (cnt : Int) : Int := if cfgE n g ks cs ≠ 0 then cfgE n g ks cs else if cnt < 0 then 2 else if 2000 < cnt then 12 else 0
theorem rnd_err (n g : Int) (kv cv : AV) (ks : List (List UInt8)) (cs : List CntV) (s : Nat) (cnt : Int) (H : Heap) (hN : Neat H) (hk : KeysAt H kv ks) (hc : CntsAt H cv cs) (hks : ∀ s ∈ ks, s.length < 1000000000) (hkl : ks.length < 1000000000) (hcl : cs.length < 1000000000) (hE : errR n g ks cs cnt ≠ 0) :
  CallTo Tryz.prog Tryz.tab 5 [.agg (confC n g kv cv), .int .u64 (s : Int), .int .i64 cnt] H [(.tuple [.nilslice, .int .i64 (errR n g ks cs cnt)], H)] := by
 refine callTo_of Tryz.tabOk Tryz.func5 rfl rfl ?_
 show Gets Tryz.prog Tryz.tab ⟨none, 57⟩ _ _ _
 repeat refine Gets.seq ?_
 have k1 := hk.one
 have k2 := hc.one
 refine Gets.l0 Tryz.tabOk (s' := ?sn1) ?hn1 ?kn1; (case hn1 => (simp -implicitDefEqProofs (disch := first | decide | assumption | (try simp only [q_next, s_put_next]) <;> omega | exact pd_ (by kernel_rfl) | fail) only [sxM, Nat.reduceAdd, reduceCtorEq, Int.reduceToNat, Nat.reduceEqDiff, Int.reduceEq, Int.reduceLT, s_draw, k1, k2] <;> rfl)); (try (change Gets _ _ _ _ _ _; repeat refine Gets.seq ?_))
 refine Gets.ofH (fun h => h.blks.get H.next = some (.cells 25 true (confC n g kv cv)) ∧ Grows H h ∧ h.next = H.next + 1 ∧ Neat h) ⟨by ((try simp (disch := first | assumption | omega | (try simp only [q_next, s_put_next]) <;> omega | fail) only [foL]); (try rfl)), .push _ _, by ((try simp (disch := first | assumption | omega | (try simp only [q_next, s_put_next]) <;> omega | fail) only [foL]); (try rfl)), (by repeat' (first | exact hN | exact aN | exact bN | (refine Neat.push ?_ _) | (refine Neat.put ?_ (by ((try dsimp only); (try simp only [s_push_next, s_put_next]); omega)) _)))⟩ ?_
 rintro h ⟨a0, ag, ax, aN⟩
 have q := cchk_to n g kv cv ks cs h aN (hk.grow hN ag) (hc.grow hN ag) hks hkl hcl
 generalize hce : cfgE n g ks cs = e at q
 refine Gets.last Tryz.tabOk (ov := ptO noOv 17 [.agg (confC n g kv cv)] h [(.int .i64 e, h)]) (ptO_ok noOv_ok q) 8 (s' := ?sn2) ?hn2 ?kn2; (case hn2 => (simp -implicitDefEqProofs (disch := first | decide | assumption | (try simp only [q_next, s_put_next]) <;> omega | exact pd_ (by kernel_rfl) | fail) only [sxM, Nat.reduceAdd, reduceCtorEq, Int.reduceToNat, Nat.reduceEqDiff, Int.reduceEq, Int.reduceLT, s_draw, s_ptEq, a0, s_varTrue ia25 sz25, t_r4] <;> rfl)); (try (change Gets _ _ _ _ _ _; repeat refine Gets.seq ?_))
 refine Gets.blk ?_
 repeat refine Gets.seq ?_
 by_cases he : e = 0
 ·subst he
  refine Gets.l0 Tryz.tabOk (s' := ?sn3) ?hn3 ?kn3; (case hn3 => (simp -implicitDefEqProofs (disch := first | decide | assumption | (try simp only [q_next, s_put_next]) <;> omega | exact pd_ (by kernel_rfl) | fail) only [sxM, Nat.reduceAdd, reduceCtorEq, Int.reduceToNat, Nat.reduceEqDiff, Int.reduceEq, Int.reduceLT, s_draw] <;> rfl)); (try (change Gets _ _ _ _ _ _; repeat refine Gets.seq ?_))
  refine Gets.condF (by simp (disch := decide) only [sxL]) ?_
  change Gets _ _ _ _ _ _
  repeat refine Gets.seq ?_
  by_cases h1 : cnt < 0
  ·have hv : errR n g ks cs cnt = 2 := by unfold errR; rw [if_neg (fun hh => hh hce), if_pos h1]
   rw [hv]
   refine Gets.l0 Tryz.tabOk (s' := ?sn4) ?hn4 ?kn4; (case hn4 => (simp -implicitDefEqProofs (disch := first | decide | assumption | (try simp only [q_next, s_put_next]) <;> omega | exact pd_ (by kernel_rfl) | fail) only [sxM, Nat.reduceAdd, reduceCtorEq, Int.reduceToNat, Nat.reduceEqDiff, Int.reduceEq, Int.reduceLT, s_draw, h1] <;> rfl)); (try (change Gets _ _ _ _ _ _; repeat refine Gets.seq ?_))
   refine Gets.condT (by simp (disch := decide) only [sxL]) ?_
   change Gets _ _ _ _ _ _
   repeat refine Gets.seq ?_
   refine Gets.l0 Tryz.tabOk (s' := ?sn5) ?hn5 ?kn5; (case hn5 => (simp -implicitDefEqProofs (disch := first | decide | assumption | (try simp only [q_next, s_put_next]) <;> omega | exact pd_ (by kernel_rfl) | fail) only [sxM, Nat.reduceAdd, reduceCtorEq, Int.reduceToNat, Nat.reduceEqDiff, Int.reduceEq, Int.reduceLT, s_draw] <;> rfl)); (try (change Gets _ _ _ _ _ _; repeat refine Gets.seq ?_))
   refine Gets.ret Tryz.tabOk ?_
   refine inBlk_ret (fin_two (a := .nilslice) (b := .int .i64 2) rfl ?_ ag hN trivial trivial)
   simp (disch := decide) only [sxL, Tryz.f5, resultA]
  ·refine Gets.l0 Tryz.tabOk (s' := ?sn6) ?hn6 ?kn6; (case hn6 => (simp -implicitDefEqProofs (disch := first | decide | assumption | (try simp only [q_next, s_put_next]) <;> omega | exact pd_ (by kernel_rfl) | fail) only [sxM, Nat.reduceAdd, reduceCtorEq, Int.reduceToNat, Nat.reduceEqDiff, Int.reduceEq, Int.reduceLT, s_draw, h1] <;> rfl)); (try (change Gets _ _ _ _ _ _; repeat refine Gets.seq ?_))
   refine Gets.condF (by simp (disch := decide) only [sxL]) ?_
   change Gets _ _ _ _ _ _
   repeat refine Gets.seq ?_
   by_cases h2 : 2000 < cnt
   ·have hv : errR n g ks cs cnt = 12 := by unfold errR; rw [if_neg (fun hh => hh hce), if_neg h1, if_pos h2]
    rw [hv]
    refine Gets.l0 Tryz.tabOk (s' := ?sn7) ?hn7 ?kn7; (case hn7 => (simp -implicitDefEqProofs (disch := first | decide | assumption | (try simp only [q_next, s_put_next]) <;> omega | exact pd_ (by kernel_rfl) | fail) only [sxM, Nat.reduceAdd, reduceCtorEq, Int.reduceToNat, Nat.reduceEqDiff, Int.reduceEq, Int.reduceLT, s_draw, h2] <;> rfl)); (try (change Gets _ _ _ _ _ _; repeat refine Gets.seq ?_))
    refine Gets.condT (by simp (disch := decide) only [sxL]) ?_
    change Gets _ _ _ _ _ _
    repeat refine Gets.seq ?_
    refine Gets.l0 Tryz.tabOk (s' := ?sn8) ?hn8 ?kn8; (case hn8 => (simp -implicitDefEqProofs (disch := first | decide | assumption | (try simp only [q_next, s_put_next]) <;> omega | exact pd_ (by kernel_rfl) | fail) only [sxM, Nat.reduceAdd, reduceCtorEq, Int.reduceToNat, Nat.reduceEqDiff, Int.reduceEq, Int.reduceLT, s_draw] <;> rfl)); (try (change Gets _ _ _ _ _ _; repeat refine Gets.seq ?_))
    refine Gets.ret Tryz.tabOk ?_
    refine inBlk_ret (fin_two (a := .nilslice) (b := .int .i64 12) rfl ?_ ag hN trivial trivial)
    simp (disch := decide) only [sxL, Tryz.f5, resultA]
   ·exact absurd (by unfold errR; rw [if_neg (fun hh => hh hce), if_neg h1, if_neg h2]) hE
 ·have hv : errR n g ks cs cnt = e := by unfold errR; rw [if_pos (by rw [hce]; exact he), hce]
  rw [hv]
  refine Gets.l0 Tryz.tabOk (s' := ?sn9) ?hn9 ?kn9; (case hn9 => (simp -implicitDefEqProofs (disch := first | decide | assumption | (try simp only [q_next, s_put_next]) <;> omega | exact pd_ (by kernel_rfl) | fail) only [sxM, Nat.reduceAdd, reduceCtorEq, Int.reduceToNat, Nat.reduceEqDiff, Int.reduceEq, Int.reduceLT, s_draw, he] <;> rfl)); (try (change Gets _ _ _ _ _ _; repeat refine Gets.seq ?_))
  refine Gets.condT (by simp (disch := decide) only [sxL]) ?_
  change Gets _ _ _ _ _ _
  repeat refine Gets.seq ?_
  refine Gets.l0 Tryz.tabOk (s' := ?sn10) ?hn10 ?kn10; (case hn10 => (simp -implicitDefEqProofs (disch := first | decide | assumption | (try simp only [q_next, s_put_next]) <;> omega | exact pd_ (by kernel_rfl) | fail) only [sxM, Nat.reduceAdd, reduceCtorEq, Int.reduceToNat, Nat.reduceEqDiff, Int.reduceEq, Int.reduceLT, s_draw] <;> rfl)); (try (change Gets _ _ _ _ _ _; repeat refine Gets.seq ?_))
  refine Gets.ret Tryz.tabOk ?_
  refine inBlk_ret (fin_two (a := .nilslice) (b := .int .i64 e) rfl ?_ ag hN trivial trivial)
  simp (disch := decide) only [sxL, Tryz.f5, resultA]
theorem rndR_err (n g : Int) (kv cv : AV) (ks : List (List UInt8)) (cs : List CntV) (s : Nat) (cnt : Int) (H : Heap) (hN : Neat H) (hk : KeysAt H kv ks) (hc : CntsAt H cv cs) (hks : ∀ s ∈ ks, s.length < 1000000000) (hkl : ks.length < 1000000000) (hcl : cs.length < 1000000000) (hE : errR n g ks cs cnt ≠ 0) :
  CallTo Tryz.prog Tryz.tab 6 [.agg (confC n g kv cv), .int .u64 (s : Int), .int .i64 cnt] H [(.tuple [.nilslice, .int .i64 (errR n g ks cs cnt)], H)] := by
 refine callTo_of Tryz.tabOk Tryz.func6 rfl rfl ?_
 show Gets Tryz.prog Tryz.tab ⟨none, 44⟩ _ _ _
 repeat refine Gets.seq ?_
 have k1 := hk.one
 have k2 := hc.one
 refine Gets.l0 Tryz.tabOk (s' := ?sn11) ?hn11 ?kn11; (case hn11 => (simp -implicitDefEqProofs (disch := first | decide | assumption | (try simp only [q_next, s_put_next]) <;> omega | exact pd_ (by kernel_rfl) | fail) only [sxM, Nat.reduceAdd, reduceCtorEq, Int.reduceToNat, Nat.reduceEqDiff, Int.reduceEq, Int.reduceLT, s_draw, k1, k2] <;> rfl)); (try (change Gets _ _ _ _ _ _; repeat refine Gets.seq ?_))
 refine Gets.ofH (fun h => h.blks.get H.next = some (.cells 33 true (confC n g kv cv)) ∧ Grows H h ∧ h.next = H.next + 1 ∧ Neat h) ⟨by ((try simp (disch := first | assumption | omega | (try simp only [q_next, s_put_next]) <;> omega | fail) only [foL]); (try rfl)), .push _ _, by ((try simp (disch := first | assumption | omega | (try simp only [q_next, s_put_next]) <;> omega | fail) only [foL]); (try rfl)), (by repeat' (first | exact hN | exact aN | exact bN | (refine Neat.push ?_ _) | (refine Neat.put ?_ (by ((try dsimp only); (try simp only [s_push_next, s_put_next]); omega)) _)))⟩ ?_
 rintro h ⟨a0, ag, ax, aN⟩
 have q := chkR_to n g kv cv ks cs h aN (hk.grow hN ag) (hc.grow hN ag) hks hkl hcl
 generalize hce : cfgE n g ks cs = e at q
 refine Gets.last Tryz.tabOk (ov := ptO noOv 20 [.agg (confC n g kv cv)] h [(.int .i64 e, h)]) (ptO_ok noOv_ok q) 8 (s' := ?sn12) ?hn12 ?kn12; (case hn12 => (simp -implicitDefEqProofs (disch := first | decide | assumption | (try simp only [q_next, s_put_next]) <;> omega | exact pd_ (by kernel_rfl) | fail) only [sxM, Nat.reduceAdd, reduceCtorEq, Int.reduceToNat, Nat.reduceEqDiff, Int.reduceEq, Int.reduceLT, s_draw, s_ptEq, a0, s_varTrue ia33 sz33, t_r4] <;> rfl)); (try (change Gets _ _ _ _ _ _; repeat refine Gets.seq ?_))
 by_cases he : e = 0
 ·subst he
  refine Gets.l0 Tryz.tabOk (s' := ?sn13) ?hn13 ?kn13; (case hn13 => (simp -implicitDefEqProofs (disch := first | decide | assumption | (try simp only [q_next, s_put_next]) <;> omega | exact pd_ (by kernel_rfl) | fail) only [sxM, Nat.reduceAdd, reduceCtorEq, Int.reduceToNat, Nat.reduceEqDiff, Int.reduceEq, Int.reduceLT, s_draw] <;> rfl)); (try (change Gets _ _ _ _ _ _; repeat refine Gets.seq ?_))
  refine Gets.condF (by simp (disch := decide) only [sxL]) (Gets.skip Tryz.tabOk ?_)
  change Gets _ _ _ _ _ _
  repeat refine Gets.seq ?_
  by_cases h1 : cnt < 0
  ·have hv : errR n g ks cs cnt = 2 := by unfold errR; rw [if_neg (fun hh => hh hce), if_pos h1]
   rw [hv]
   refine Gets.l0 Tryz.tabOk (s' := ?sn14) ?hn14 ?kn14; (case hn14 => (simp -implicitDefEqProofs (disch := first | decide | assumption | (try simp only [q_next, s_put_next]) <;> omega | exact pd_ (by kernel_rfl) | fail) only [sxM, Nat.reduceAdd, reduceCtorEq, Int.reduceToNat, Nat.reduceEqDiff, Int.reduceEq, Int.reduceLT, s_draw, h1] <;> rfl)); (try (change Gets _ _ _ _ _ _; repeat refine Gets.seq ?_))
   refine Gets.condT (by simp (disch := decide) only [sxL]) ?_
   change Gets _ _ _ _ _ _
   repeat refine Gets.seq ?_
   refine Gets.l0 Tryz.tabOk (s' := ?sn15) ?hn15 ?kn15; (case hn15 => (simp -implicitDefEqProofs (disch := first | decide | assumption | (try simp only [q_next, s_put_next]) <;> omega | exact pd_ (by kernel_rfl) | fail) only [sxM, Nat.reduceAdd, reduceCtorEq, Int.reduceToNat, Nat.reduceEqDiff, Int.reduceEq, Int.reduceLT, s_draw] <;> rfl)); (try (change Gets _ _ _ _ _ _; repeat refine Gets.seq ?_))
   refine Gets.ret Tryz.tabOk ?_
   refine fin_two (a := .nilslice) (b := .int .i64 2) rfl ?_ ag hN trivial trivial
   simp (disch := decide) only [sxL, Tryz.f6, resultA]
  ·refine Gets.l0 Tryz.tabOk (s' := ?sn16) ?hn16 ?kn16; (case hn16 => (simp -implicitDefEqProofs (disch := first | decide | assumption | (try simp only [q_next, s_put_next]) <;> omega | exact pd_ (by kernel_rfl) | fail) only [sxM, Nat.reduceAdd, reduceCtorEq, Int.reduceToNat, Nat.reduceEqDiff, Int.reduceEq, Int.reduceLT, s_draw, h1] <;> rfl)); (try (change Gets _ _ _ _ _ _; repeat refine Gets.seq ?_))
   refine Gets.condF (by simp (disch := decide) only [sxL]) (Gets.skip Tryz.tabOk ?_)
   change Gets _ _ _ _ _ _
   repeat refine Gets.seq ?_
   by_cases h2 : 2000 < cnt
   ·have hv : errR n g ks cs cnt = 12 := by unfold errR; rw [if_neg (fun hh => hh hce), if_neg h1, if_pos h2]
    rw [hv]
    refine Gets.l0 Tryz.tabOk (s' := ?sn17) ?hn17 ?kn17; (case hn17 => (simp -implicitDefEqProofs (disch := first | decide | assumption | (try simp only [q_next, s_put_next]) <;> omega | exact pd_ (by kernel_rfl) | fail) only [sxM, Nat.reduceAdd, reduceCtorEq, Int.reduceToNat, Nat.reduceEqDiff, Int.reduceEq, Int.reduceLT, s_draw, h2] <;> rfl)); (try (change Gets _ _ _ _ _ _; repeat refine Gets.seq ?_))
    refine Gets.condT (by simp (disch := decide) only [sxL]) ?_
    change Gets _ _ _ _ _ _
    repeat refine Gets.seq ?_
    refine Gets.l0 Tryz.tabOk (s' := ?sn18) ?hn18 ?kn18; (case hn18 => (simp -implicitDefEqProofs (disch := first | decide | assumption | (try simp only [q_next, s_put_next]) <;> omega | exact pd_ (by kernel_rfl) | fail) only [sxM, Nat.reduceAdd, reduceCtorEq, Int.reduceToNat, Nat.reduceEqDiff, Int.reduceEq, Int.reduceLT, s_draw] <;> rfl)); (try (change Gets _ _ _ _ _ _; repeat refine Gets.seq ?_))
    refine Gets.ret Tryz.tabOk ?_
    refine fin_two (a := .nilslice) (b := .int .i64 12) rfl ?_ ag hN trivial trivial
    simp (disch := decide) only [sxL, Tryz.f6, resultA]
   ·exact absurd (by unfold errR; rw [if_neg (fun hh => hh hce), if_neg h1, if_neg h2]) hE
 ·have hv : errR n g ks cs cnt = e := by unfold errR; rw [if_pos (by rw [hce]; exact he), hce]
  rw [hv]
  refine Gets.l0 Tryz.tabOk (s' := ?sn19) ?hn19 ?kn19; (case hn19 => (simp -implicitDefEqProofs (disch := first | decide | assumption | (try simp only [q_next, s_put_next]) <;> omega | exact pd_ (by kernel_rfl) | fail) only [sxM, Nat.reduceAdd, reduceCtorEq, Int.reduceToNat, Nat.reduceEqDiff, Int.reduceEq, Int.reduceLT, s_draw, he] <;> rfl)); (try (change Gets _ _ _ _ _ _; repeat refine Gets.seq ?_))
  refine Gets.condT (by simp (disch := decide) only [sxL]) ?_
  change Gets _ _ _ _ _ _
  repeat refine Gets.seq ?_
  refine Gets.l0 Tryz.tabOk (s' := ?sn20) ?hn20 ?kn20; (case hn20 => (simp -implicitDefEqProofs (disch := first | decide | assumption | (try simp only [q_next, s_put_next]) <;> omega | exact pd_ (by kernel_rfl) | fail) only [sxM, Nat.reduceAdd, reduceCtorEq, Int.reduceToNat, Nat.reduceEqDiff, Int.reduceEq, Int.reduceLT, s_draw] <;> rfl)); (try (change Gets _ _ _ _ _ _; repeat refine Gets.seq ?_))
  refine Gets.ret Tryz.tabOk ?_
  refine fin_two (a := .nilslice) (b := .int .i64 e) rfl ?_ ag hN trivial trivial
  simp (disch := decide) only [sxL, Tryz.f6, resultA]
end Go.Proofs
namespace Go.Proofs
open Go.Sx
set_option maxRecDepth 100000
theorem sbeq_self (a : List UInt8) : sbeq a a = true := by rw [sbeq_eq]; simp
theorem eq38 (a b a' b' : List UInt8) : eqA Tryz.tab 60 38 (.agg [.str a, .str b]) (.agg [.str a', .str b']) = andO (some (sbeq a a')) (andO (some (sbeq b b')) (some true)) := by kernel_rfl
theorem nq38 : isNoneO (Tryz.tab.noEq.get 38) = true := by kernel_rfl
theorem eqB38 (a b : List UInt8) : eqBin .eql (eqA Tryz.tab 60 38 (.agg [.str a, .str b]) (.agg [.str a, .str b])) = some (.bool true) := by
 rw [eq38, sbeq_self, sbeq_self]; rfl
theorem eq184 (a a' : List UInt8) (d d' : Int) : eqA Tryz.tab 60 184 (.agg [.str a, .int .i64 d]) (.agg [.str a', .int .i64 d']) = andO (some (sbeq a a')) (andO (some (ibeq d d')) (some true)) := by kernel_rfl
theorem nq184 : isNoneO (Tryz.tab.noEq.get 184) = true := by kernel_rfl
theorem eqB184 (a : List UInt8) (d : Int) : eqBin .neq (eqA Tryz.tab 60 184 (.agg [.str a, .int .i64 d]) (.agg [.str a, .int .i64 d])) = some (.bool false) := by
 have e : ibeq d d = true := by rw [s_ibeq]; simp
 rw [eq184, sbeq_self, e]; rfl
theorem equ26_to (id : List UInt8) (co dl : Int) (sv sv' : AV) (l : List StepV) (H : Heap) (hN : Neat H) (h1 : StepsAt H sv l) (h2 : StepsAt H sv' l) (hl : l.length < 1000000) :
  CallTo Tryz.prog Tryz.tab 57 [.agg [.str id, .int .i64 co, .int .i64 dl, sv], .agg [.str id, .int .i64 co, .int .i64 dl, sv']] H [(.bool true, H)] := by
 refine callTo_of Tryz.tabOk Tryz.func57 rfl rfl ?_
 show Gets Tryz.prog Tryz.tab ⟨none, 52⟩ _ _ _
 repeat refine Gets.seq ?_
 have o1 := CellsAt.one h1
 have o2 := CellsAt.one h2
 have n1 : ∀ h, lenA Tryz.tab h 39 sv = some (.int .i64 (l.length : Int)) := CellsAt.len h1 ud39
 have n2 : ∀ h, lenA Tryz.tab h 39 sv' = some (.int .i64 (l.length : Int)) := CellsAt.len h2 ud39
 have hs := sbeq_self id
 refine Gets.l0 Tryz.tabOk (s' := ?sn2) ?hn2 ?kn2; (case hn2 => (simp -implicitDefEqProofs (disch := first | decide | assumption | (try simp only [q_next, s_put_next]) <;> omega | exact pd_ (by kernel_rfl) | fail) only [sxM, Nat.reduceAdd, reduceCtorEq, Int.reduceToNat, Nat.reduceEqDiff, Int.reduceEq, Int.reduceLT, s_draw, o1, o2] <;> rfl)); (try (change Gets _ _ _ _ _ _; repeat refine Gets.seq ?_))
 refine Gets.ofH (fun h => h.blks.get H.next = some (.cells 41 true [.str id, .int .i64 co, .int .i64 dl, sv]) ∧ h.blks.get (H.next + 1) = some (.cells 41 true [.str id, .int .i64 co, .int .i64 dl, sv']) ∧ StepsAt h sv l ∧ StepsAt h sv' l ∧ Grows H h ∧ Neat h)
  ⟨by ((try simp (disch := first | assumption | omega | (try simp only [q_next, s_put_next]) <;> omega | fail) only [foL]); (try rfl)), by ((try simp (disch := first | assumption | omega | (try simp only [q_next, s_put_next]) <;> omega | fail) only [foL]); (try rfl)), CellsAt.to h1 fun b x y hb => by
   have hbn := hN _ _ hb
   ((try simp (disch := first | assumption | omega | (try simp only [q_next, s_put_next]) <;> omega | fail) only [foL]); (try rfl)); exact hb, CellsAt.to h2 fun b x y hb => by
   have hbn := hN _ _ hb
   ((try simp (disch := first | assumption | omega | (try simp only [q_next, s_put_next]) <;> omega | fail) only [foL]); (try rfl)); exact hb, (Grows.push _ _).trans (.push _ _), (by repeat' (first | exact hN | exact aN | exact bN | (refine Neat.push ?_ _) | (refine Neat.put ?_ (by ((try dsimp only); (try simp only [s_push_next, s_put_next]); omega)) _)))⟩ ?_
 clear h1 h2
 rintro h ⟨a0, a1, h1, h2, ag, aN⟩
 refine Gets.l0 Tryz.tabOk (s' := ?sn3) ?hn3 ?kn3; (case hn3 => (simp -implicitDefEqProofs (disch := first | decide | assumption | (try simp only [q_next, s_put_next]) <;> omega | exact pd_ (by kernel_rfl) | fail) only [sxM, Nat.reduceAdd, reduceCtorEq, Int.reduceToNat, Nat.reduceEqDiff, Int.reduceEq, Int.reduceLT, s_draw, a0, a1, fa41_0, fa41_1, fa41_2, fa41_3, s_varFalse ia9, s_varFalse ia3, s_varFalse ia39, sbin, boolO, hs, n1, n2] <;> rfl)); (try (change Gets _ _ _ _ _ _; repeat refine Gets.seq ?_))
 refine Gets.condF (by simp (disch := decide) only [sxL]) (Gets.skip Tryz.tabOk ?_)
 change Gets _ _ _ _ _ _
 repeat refine Gets.seq ?_
 refine Gets.l0 Tryz.tabOk (s' := ?sn4) ?hn4 ?kn4; (case hn4 => (simp -implicitDefEqProofs (disch := first | decide | assumption | (try simp only [q_next, s_put_next]) <;> omega | exact pd_ (by kernel_rfl) | fail) only [sxM, Nat.reduceAdd, reduceCtorEq, Int.reduceToNat, Nat.reduceEqDiff, Int.reduceEq, Int.reduceLT, s_draw] <;> rfl)); (try (change Gets _ _ _ _ _ _; repeat refine Gets.seq ?_))
 refine Gets.upto l.length (fun i tm => tm.get 2 = some (.ptr H.next 0) ∧ tm.get 3 = some (.ptr (H.next + 1) 0) ∧ tm.get 5 = some (.int .i64 (i : Int))) ⟨by simp (disch := decide) only [sxL], by simp (disch := decide) only [sxL], by simp (disch := decide) only [sxL]⟩ ?_
 rintro i tm hi ⟨i2, i3, i5⟩
 repeat refine Gets.seq ?_
 by_cases hlt : (i : Int) < (l.length : Int)
 ·obtain ⟨x, hx⟩ : ∃ x, l[i]? = some x := ⟨_, List.getElem?_eq_getElem (by omega)⟩
  obtain ⟨b1, hx1, -, hc1⟩ := CellsAt.row h1 ud39 sz184 StepV.len hx
  obtain ⟨b2, hx2, -, hc2⟩ := CellsAt.row h2 ud39 sz184 StepV.len hx
  have hc1 : Sx.cellsIn (h.blks.get b1) (i * 2) 2 = some [.str x.key, .int .i64 x.d] := hc1 0 2 (by omega)
  have hc2 : Sx.cellsIn (h.blks.get b2) (i * 2) 2 = some [.str x.key, .int .i64 x.d] := hc2 0 2 (by omega)
  have v5 : awrap .i64 ((i : Int) + 1) = (i : Int) + 1 := s_wrap (by omega) (by omega)
  refine Gets.l0 Tryz.tabOk (s' := ?sn5) ?hn5 ?kn5; (case hn5 => (simp -implicitDefEqProofs (disch := first | decide | assumption | (try simp only [q_next, s_put_next]) <;> omega | exact pd_ (by kernel_rfl) | fail) only [sxM, Nat.reduceAdd, reduceCtorEq, Int.reduceToNat, Nat.reduceEqDiff, Int.reduceEq, Int.reduceLT, s_draw, i2, i5, a0, fa41_3, s_varFalse ia39, n1, hlt] <;> rfl)); (try (change Gets _ _ _ _ _ _; repeat refine Gets.seq ?_))
  refine Gets.condT (by simp (disch := decide) only [sxL]) (Gets.skip Tryz.tabOk ?_)
  change Gets _ _ _ _ _ _
  refine Gets.seq (Gets.blk ?_)
  repeat refine Gets.seq ?_
  refine Gets.l0 Tryz.tabOk (s' := ?sn6) ?hn6 ?kn6; (case hn6 => (simp -implicitDefEqProofs (disch := first | decide | assumption | (try simp only [q_next, s_put_next]) <;> omega | exact pd_ (by kernel_rfl) | fail) only [sxM, Nat.reduceAdd, reduceCtorEq, Int.reduceToNat, Nat.reduceEqDiff, Int.reduceEq, Int.reduceLT, s_draw, i2, i3, i5, a0, a1, fa41_3, s_varFalse ia39, hx1, hx2, hc1, hc2, s_varTrue ia184 sz184, nq184, eqB184] <;> rfl)); (try (change Gets _ _ _ _ _ _; repeat refine Gets.seq ?_))
  refine Gets.condF (by simp (disch := decide) only [sxL]) (Gets.skip Tryz.tabOk ?_)
  change Gets _ _ _ _ _ _
  refine Gets.l0 Tryz.tabOk (s' := ?sn7) ?hn7 ?kn7; (case hn7 => (simp -implicitDefEqProofs (disch := first | decide | assumption | (try simp only [q_next, s_put_next]) <;> omega | exact pd_ (by kernel_rfl) | fail) only [sxM, Nat.reduceAdd, reduceCtorEq, Int.reduceToNat, Nat.reduceEqDiff, Int.reduceEq, Int.reduceLT, s_draw, i5, v5] <;> rfl)); (try (change Gets _ _ _ _ _ _; repeat refine Gets.seq ?_))
  exact ⟨_, rfl, by omega, by simp (disch := decide) only [sxL, i2], by simp (disch := decide) only [sxL, i3], by simp (disch := decide) only [sxL, s_castS]⟩
 ·refine Gets.l0 Tryz.tabOk (s' := ?sn8) ?hn8 ?kn8; (case hn8 => (simp -implicitDefEqProofs (disch := first | decide | assumption | (try simp only [q_next, s_put_next]) <;> omega | exact pd_ (by kernel_rfl) | fail) only [sxM, Nat.reduceAdd, reduceCtorEq, Int.reduceToNat, Nat.reduceEqDiff, Int.reduceEq, Int.reduceLT, s_draw, i2, i5, a0, fa41_3, s_varFalse ia39, n1, hlt] <;> rfl)); (try (change Gets _ _ _ _ _ _; repeat refine Gets.seq ?_))
  refine Gets.condF (by simp (disch := decide) only [sxL]) (Gets.exit Tryz.tabOk ?_)
  refine inBlk_exit ?_
  change Gets _ _ _ _ _ _
  repeat refine Gets.seq ?_
  refine Gets.l0 Tryz.tabOk (s' := ?sn9) ?hn9 ?kn9; (case hn9 => (simp -implicitDefEqProofs (disch := first | decide | assumption | (try simp only [q_next, s_put_next]) <;> omega | exact pd_ (by kernel_rfl) | fail) only [sxM, Nat.reduceAdd, reduceCtorEq, Int.reduceToNat, Nat.reduceEqDiff, Int.reduceEq, Int.reduceLT, s_draw] <;> rfl)); (try (change Gets _ _ _ _ _ _; repeat refine Gets.seq ?_))
  refine Gets.ret Tryz.tabOk ?_
  exact fin_pure rfl (by simp (disch := decide) only [sxL, Tryz.f57, resultA]) ag hN trivial
theorem equ41_to (o : OpV) (sv sv' : AV) (H : Heap) (hN : Neat H) (h1 : StepsAt H sv o.st) (h2 : StepsAt H sv' o.st) (hl : o.st.length < 1000000) :
  CallTo Tryz.prog Tryz.tab 22 [.agg (o.cells sv), .agg (o.cells sv')] H [(.bool true, H)] := by
 refine callTo_of Tryz.tabOk Tryz.func22 rfl rfl ?_
 show Gets Tryz.prog Tryz.tab ⟨none, 45⟩ _ _ _
 repeat refine Gets.seq ?_
 have o1 := CellsAt.one h1
 have o2 := CellsAt.one h2
 have hs := sbeq_self o.key
 have e1 : o.cells sv = [.int .i64 o.k, .int .i64 o.a, .int .i64 o.n, .str o.key, .str o.lo, .str o.hi, .str o.id, .int .i64 o.co, .int .i64 o.dl, sv] := rfl
 have e2 : o.cells sv' = [.int .i64 o.k, .int .i64 o.a, .int .i64 o.n, .str o.key, .str o.lo, .str o.hi, .str o.id, .int .i64 o.co, .int .i64 o.dl, sv'] := rfl
 rw [e1, e2]
 refine Gets.l0 Tryz.tabOk (s' := ?sn10) ?hn10 ?kn10; (case hn10 => (simp -implicitDefEqProofs (disch := first | decide | assumption | (try simp only [q_next, s_put_next]) <;> omega | exact pd_ (by kernel_rfl) | fail) only [sxM, Nat.reduceAdd, reduceCtorEq, Int.reduceToNat, Nat.reduceEqDiff, Int.reduceEq, Int.reduceLT, s_draw, o1, o2] <;> rfl)); (try (change Gets _ _ _ _ _ _; repeat refine Gets.seq ?_))
 refine Gets.ofH (fun h => h.blks.get H.next = some (.cells 43 true [.int .i64 o.k, .int .i64 o.a, .int .i64 o.n, .str o.key, .str o.lo, .str o.hi, .str o.id, .int .i64 o.co, .int .i64 o.dl, sv]) ∧ h.blks.get (H.next + 1) = some (.cells 43 true [.int .i64 o.k, .int .i64 o.a, .int .i64 o.n, .str o.key, .str o.lo, .str o.hi, .str o.id, .int .i64 o.co, .int .i64 o.dl, sv']) ∧ StepsAt h sv o.st ∧ StepsAt h sv' o.st ∧ Grows H h ∧ Neat h)
  ⟨by ((try simp (disch := first | assumption | omega | (try simp only [q_next, s_put_next]) <;> omega | fail) only [foL]); (try rfl)), by ((try simp (disch := first | assumption | omega | (try simp only [q_next, s_put_next]) <;> omega | fail) only [foL]); (try rfl)), CellsAt.to h1 fun b x y hb => by
   have hbn := hN _ _ hb
   ((try simp (disch := first | assumption | omega | (try simp only [q_next, s_put_next]) <;> omega | fail) only [foL]); (try rfl)); exact hb, CellsAt.to h2 fun b x y hb => by
   have hbn := hN _ _ hb
   ((try simp (disch := first | assumption | omega | (try simp only [q_next, s_put_next]) <;> omega | fail) only [foL]); (try rfl)); exact hb, (Grows.push _ _).trans (.push _ _), (by repeat' (first | exact hN | exact aN | exact bN | (refine Neat.push ?_ _) | (refine Neat.put ?_ (by ((try dsimp only); (try simp only [s_push_next, s_put_next]); omega)) _)))⟩ ?_
 clear h1 h2
 rintro h ⟨a0, a1, h1, h2, ag, aN⟩
 have q := equ26_to o.id o.co o.dl sv sv' o.st h aN h1 h2 hl
 refine Gets.last Tryz.tabOk (ov := ptO noOv 57 [.agg [.str o.id, .int .i64 o.co, .int .i64 o.dl, sv], .agg [.str o.id, .int .i64 o.co, .int .i64 o.dl, sv']] h [(.bool true, h)]) (ptO_ok noOv_ok q) 8 (s' := ?sn11) ?hn11 ?kn11; (case hn11 => (simp -implicitDefEqProofs (disch := first | decide | assumption | (try simp only [q_next, s_put_next]) <;> omega | exact pd_ (by kernel_rfl) | fail) only [sxM, Nat.reduceAdd, reduceCtorEq, Int.reduceToNat, Nat.reduceEqDiff, Int.reduceEq, Int.reduceLT, s_draw, s_ptEq, a0, a1, fa43_0, fa43_1, fa43_2, fa43_3, fa43_4, fa43_5, s_varFalse ia9, s_varFalse ia3, s_varTrue ia38 sz38, s_varTrue ia41 sz41, t_r10a, t_r10b, sbin, boolO, hs, nq38, eqB38] <;> rfl)); (try (change Gets _ _ _ _ _ _; repeat refine Gets.seq ?_))
 refine Gets.ret Tryz.tabOk ?_
 exact fin_pure rfl (by simp (disch := decide) only [sxL, Tryz.f22, resultA]) ag hN trivial
theorem ops_to (v v' : AV) (l : List OpV) (H : Heap) (hN : Neat H) (h1 : OpsAt H v l) (h2 : OpsAt H v' l) (hl : l.length < 1000000) (hst : ∀ o ∈ l, o.st.length < 1000000) : CallTo Tryz.prog Tryz.tab 8 [v, v'] H [(.bool true, H)] := by
 obtain ⟨lv, r1, r2, r3⟩ := h1
 obtain ⟨lw, u1, u2, u3⟩ := h2
 have c1 : lv.length = l.length := by rw [← r1, List.length_map]
 have c2 : lw.length = l.length := by rw [← u1, List.length_map]
 refine callTo_of Tryz.tabOk Tryz.func8 rfl rfl ?_
 show Gets Tryz.prog Tryz.tab ⟨none, 27⟩ _ _ _
 repeat refine Gets.seq ?_
 have n1 : ∀ h, lenA Tryz.tab h 28 v = some (.int .i64 (l.length : Int)) := fun h => by rw [CellsAt.len r2 ud28 h, c1]
 have n2 : ∀ h, lenA Tryz.tab h 28 v' = some (.int .i64 (l.length : Int)) := fun h => by rw [CellsAt.len u2 ud28 h, c2]
 refine Gets.l0 Tryz.tabOk (s' := ?sn12) ?hn12 ?kn12; (case hn12 => (simp -implicitDefEqProofs (disch := first | decide | assumption | (try simp only [q_next, s_put_next]) <;> omega | exact pd_ (by kernel_rfl) | fail) only [sxM, Nat.reduceAdd, reduceCtorEq, Int.reduceToNat, Nat.reduceEqDiff, Int.reduceEq, Int.reduceLT, s_draw] <;> rfl)); (try (change Gets _ _ _ _ _ _; repeat refine Gets.seq ?_))
 refine Gets.l0 Tryz.tabOk (s' := ?sn13) ?hn13 ?kn13; (case hn13 => (simp -implicitDefEqProofs (disch := first | decide | assumption | (try simp only [q_next, s_put_next]) <;> omega | exact pd_ (by kernel_rfl) | fail) only [sxM, Nat.reduceAdd, reduceCtorEq, Int.reduceToNat, Nat.reduceEqDiff, Int.reduceEq, Int.reduceLT, s_draw, n1, n2] <;> rfl)); (try (change Gets _ _ _ _ _ _; repeat refine Gets.seq ?_))
 refine Gets.condF (by simp (disch := decide) only [sxL]) (Gets.skip Tryz.tabOk ?_)
 change Gets _ _ _ _ _ _
 repeat refine Gets.seq ?_
 refine Gets.l0 Tryz.tabOk (s' := ?sn14) ?hn14 ?kn14; (case hn14 => (simp -implicitDefEqProofs (disch := first | decide | assumption | (try simp only [q_next, s_put_next]) <;> omega | exact pd_ (by kernel_rfl) | fail) only [sxM, Nat.reduceAdd, reduceCtorEq, Int.reduceToNat, Nat.reduceEqDiff, Int.reduceEq, Int.reduceLT, s_draw] <;> rfl)); (try (change Gets _ _ _ _ _ _; repeat refine Gets.seq ?_))
 refine Gets.upto l.length (fun i tm => tm.get 0 = some v ∧ tm.get 1 = some v' ∧ tm.get 5 = some (.int .i64 (i : Int))) ⟨by simp (disch := decide) only [sxL], by simp (disch := decide) only [sxL], by simp (disch := decide) only [sxL]⟩ ?_
 rintro i tm hi ⟨i0, i1, i5⟩
 repeat refine Gets.seq ?_
 by_cases hlt : (i : Int) < (l.length : Int)
 ·obtain ⟨x, hx⟩ : ∃ x, lv[i]? = some x := ⟨_, List.getElem?_eq_getElem (by omega)⟩
  obtain ⟨y, hy⟩ : ∃ y, lw[i]? = some y := ⟨_, List.getElem?_eq_getElem (by omega)⟩
  have ex : l[i]? = some x.1 := by rw [← r1, List.getElem?_map, hx]; rfl
  have ey : l[i]? = some y.1 := by rw [← u1, List.getElem?_map, hy]; rfl
  have exy : y.1 = x.1 := by rw [ex] at ey; exact (Option.some.inj ey).symm
  obtain ⟨b1, hx1, -, hc1⟩ := r2.row ud28 sz43 opC_len hx
  obtain ⟨b2, hx2, -, hc2⟩ := u2.row ud28 sz43 opC_len hy
  have hc1 : Sx.cellsIn (H.blks.get b1) (i * 10) 10 = some (x.1.cells x.2) := hc1 0 10 (by omega)
  have hc2 : Sx.cellsIn (H.blks.get b2) (i * 10) 10 = some (x.1.cells y.2) := by rw [← exy]; exact hc2 0 10 (by omega)
  have s1 := r3 x (List.mem_of_getElem? hx)
  have s2 : StepsAt H y.2 x.1.st := by rw [← exy]; exact u3 y (List.mem_of_getElem? hy)
  have q := equ41_to x.1 x.2 y.2 H hN s1 s2 (hst x.1 (List.mem_of_getElem? ex))
  have v5 : awrap .i64 ((i : Int) + 1) = (i : Int) + 1 := s_wrap (by omega) (by omega)
  refine Gets.l0 Tryz.tabOk (s' := ?sn15) ?hn15 ?kn15; (case hn15 => (simp -implicitDefEqProofs (disch := first | decide | assumption | (try simp only [q_next, s_put_next]) <;> omega | exact pd_ (by kernel_rfl) | fail) only [sxM, Nat.reduceAdd, reduceCtorEq, Int.reduceToNat, Nat.reduceEqDiff, Int.reduceEq, Int.reduceLT, s_draw, i0, i5, n1, hlt] <;> rfl)); (try (change Gets _ _ _ _ _ _; repeat refine Gets.seq ?_))
  refine Gets.condT (by simp (disch := decide) only [sxL]) (Gets.skip Tryz.tabOk ?_)
  change Gets _ _ _ _ _ _
  refine Gets.seq (Gets.blk ?_)
  repeat refine Gets.seq ?_
  refine Gets.drawK Tryz.tabOk (ov := ptO noOv 22 [.agg (x.1.cells x.2), .agg (x.1.cells y.2)] H [(.bool true, H)]) (ptO_ok noOv_ok q) 8 (s' := ?sn1) [.rd 0, .rd 1, .rd 2, .rd 3, .rd 4, .rd 5, .rd 6, .rd 7, .lk 8 [], .rd 9] (by kernel_rfl) (hN) ?hn1 ?kn1; (case hn1 => (simp -implicitDefEqProofs (maxSteps := 10000000) (disch := first | decide | assumption | (try simp only [q_next, s_put_next]) <;> omega | exact pd_ (by kernel_rfl) | fail) only [sxM, Nat.reduceAdd, reduceCtorEq, Int.reduceToNat, Nat.reduceEqDiff, Int.reduceEq, Int.reduceLT, k_nil, k_rd, k_sm, k_lk, k_rdO, k_rdOG, k_rdGt, k_rdGf, k_smO, k_smOG, k_smGt, k_smGf, k_lkO, k_lkOG, k_lkGt, k_lkGf, k_rdN, k_rdN0, k_sk, k_sk0, k_smE, k_smE0, k_lkE, k_lkE0, k_lkX, k_keepP, k_keepR, k_keepA, k_look, k_look0, k_each0, k_each, k_la, k_laO, k_laOG, k_laGt, k_laGf, k_laE, k_laE0, k_lookM, k_lookM0, k_eachM0, k_eachM, k_samePtr, k_sameSl, k_ln, k_lnO, k_lnOG, k_lnGt, k_lnGf, k_lnE, k_lnE0, and_self, and_true, true_and, s_ptEq, i0, i1, i5, hx1, hx2, hc1, hc2, s_varTrue ia43 sz43, withH] <;> rfl)); (try (change Gets _ _ _ _ _ _; repeat refine Gets.seq ?_))
  refine Gets.condF (by simp (disch := decide) only [sxL]) (Gets.skip Tryz.tabOk ?_)
  change Gets _ _ _ _ _ _
  refine Gets.l0 Tryz.tabOk (s' := ?sn16) ?hn16 ?kn16; (case hn16 => (simp -implicitDefEqProofs (disch := first | decide | assumption | (try simp only [q_next, s_put_next]) <;> omega | exact pd_ (by kernel_rfl) | fail) only [sxM, Nat.reduceAdd, reduceCtorEq, Int.reduceToNat, Nat.reduceEqDiff, Int.reduceEq, Int.reduceLT, s_draw, i5, v5] <;> rfl)); (try (change Gets _ _ _ _ _ _; repeat refine Gets.seq ?_))
  exact ⟨_, rfl, by omega, by simp (disch := decide) only [sxL, i0], by simp (disch := decide) only [sxL, i1], by simp (disch := decide) only [sxL, s_castS]⟩
 ·refine Gets.l0 Tryz.tabOk (s' := ?sn17) ?hn17 ?kn17; (case hn17 => (simp -implicitDefEqProofs (disch := first | decide | assumption | (try simp only [q_next, s_put_next]) <;> omega | exact pd_ (by kernel_rfl) | fail) only [sxM, Nat.reduceAdd, reduceCtorEq, Int.reduceToNat, Nat.reduceEqDiff, Int.reduceEq, Int.reduceLT, s_draw, i0, i5, n1, hlt] <;> rfl)); (try (change Gets _ _ _ _ _ _; repeat refine Gets.seq ?_))
  refine Gets.condF (by simp (disch := decide) only [sxL]) (Gets.exit Tryz.tabOk ?_)
  refine inBlk_exit ?_
  change Gets _ _ _ _ _ _
  repeat refine Gets.seq ?_
  refine Gets.l0 Tryz.tabOk (s' := ?sn18) ?hn18 ?kn18; (case hn18 => (simp -implicitDefEqProofs (disch := first | decide | assumption | (try simp only [q_next, s_put_next]) <;> omega | exact pd_ (by kernel_rfl) | fail) only [sxM, Nat.reduceAdd, reduceCtorEq, Int.reduceToNat, Nat.reduceEqDiff, Int.reduceEq, Int.reduceLT, s_draw] <;> rfl)); (try (change Gets _ _ _ _ _ _; repeat refine Gets.seq ?_))
  refine Gets.ret Tryz.tabOk ?_
  exact fin_pure rfl (by simp (disch := decide) only [sxL, Tryz.f8, resultA]) (.refl _) hN trivial
end Go.Proofs
namespace Go.Proofs
open Go.Sx
set_option maxRecDepth 100000
theorem rnd_to (n g : Nat) (M : Nat) (kv cv : AV) (ks : List (List UInt8)) (cs : List CntV) (s cnt : Nat) (H : Heap) (hN : Neat H) (hk : KeysAt H kv ks) (hc : CntsAt H cv cs) (hks : ∀ s ∈ ks, s.length < 1000000000) (hkl : ks.length < 1000000000) (hcl : cs.length < 1000000000)
  (hE : cfgE n g ks cs = 0) (hs : s < 18446744073709551616) (hM : M = n * g) (hM2 : M < 1000) (hn : 0 < n ∧ n < M) (hg : 1 < g ∧ g < 1000) (hcnt : cnt ≤ 2000) :
  ∃ w K, CallTo Tryz.prog Tryz.tab 5 [.agg (confC n g kv cv), .int .u64 (s : Int), .int .i64 (cnt : Int)] H [(.tuple [w, .int .i64 0], K)] ∧ OpsAt K w (opsN n M g (keysD ks) s cnt) ∧ Grows H K ∧ Neat K := by
 obtain ⟨v, h, ⟨w, rfl, ho, hg, hn⟩, hle, hc⟩ := rnd_run n g M kv cv ks cs s cnt H hN hk hc hks hkl hcl hE hs hM hM2 hn hg hcnt
 exact ⟨w, keepH H h, hc, ops_keep ho hn, ⟨hle, fun b hb => keep_old hb hle (hg.get b hb)⟩, keep_neat _ _⟩
theorem rndR_to (n g : Nat) (M : Nat) (kv cv : AV) (ks : List (List UInt8)) (cs : List CntV) (s cnt : Nat) (H : Heap) (hN : Neat H) (hk : KeysAt H kv ks) (hc : CntsAt H cv cs) (hks : ∀ s ∈ ks, s.length < 1000000000) (hkl : ks.length < 1000000000) (hcl : cs.length < 1000000000)
  (hE : cfgE n g ks cs = 0) (hs : s < 18446744073709551616) (hM : M = n * g) (hM2 : M < 1000) (hn : 0 < n ∧ n < M) (hg : 1 < g ∧ g < 1000) (hcnt : cnt ≤ 2000) :
  ∃ w K, CallTo Tryz.prog Tryz.tab 6 [.agg (confC n g kv cv), .int .u64 (s : Int), .int .i64 (cnt : Int)] H [(.tuple [w, .int .i64 0], K)] ∧ OpsAt K w (opsN n M g (keysD ks) s cnt) ∧ Grows H K ∧ Neat K := by
 obtain ⟨v, h, ⟨w, rfl, ho, hg, hn⟩, hle, hc⟩ := rndR_run n g M kv cv ks cs s cnt H hN hk hc hks hkl hcl hE hs hM hM2 hn hg hcnt
 exact ⟨w, keepH H h, hc, ops_keep ho hn, ⟨hle, fun b hb => keep_old hb hle (hg.get b hb)⟩, keep_neat _ _⟩
theorem cfgE_zero {n g : Int} {ks : List (List UInt8)} {cs : List CntV} (h : cfgE n g ks cs = 0) : 1 ≤ n ∧ n ≤ 7 ∧ 2 ≤ g ∧ g ≤ 8 := by
 by_cases hb : n < 1 ∨ 7 < n ∨ g < 2 ∨ 8 < g
 ·have : cfgE n g ks cs = 2 := if_pos hb
  omega
 ·omega
theorem genF_st (n M g : Nat) {ks : List (List UInt8)} (hl : 0 < ks.length) (i s : Nat) : (genF n M g ks i s).1.st.length < 1000000 := by
 have h7 : (dSt ks (nx (nx s))).length < 1000000 := by
  have := bel_lt (nxs 2 (nx (nx s))) (k := min 3 ks.length) (by omega)
  unfold dSt fewV
  rw [stepsV_len]
  omega
 unfold genF
 split <;> first | exact h7 | exact (by decide : (0 : Nat) < 1000000)
theorem ops_grow {H H' : Heap} {v : AV} {l : List OpV} (h : OpsAt H v l) (hN : Neat H) (hg : Grows H H') : OpsAt H' v l := by
 obtain ⟨lv, h1, h2, h3⟩ := h
 have t : ∀ b o, H.blks.get b = some o → H'.blks.get b = some o := fun b o hb => by rw [hg.get b (hN b o hb)]; exact hb
 exact ⟨lv, h1, CellsAt.to h2 fun b x y hb => t b _ hb, fun x hx => CellsAt.to (h3 x hx) fun b x y hb => t b _ hb⟩
theorem ops_one {H : Heap} {v : AV} {l : List OpV} (h : OpsAt H v l) : oneCell v = true := by
 obtain ⟨lv, h1, h2, h3⟩ := h
 exact CellsAt.one h2
theorem law_to (n g : Int) (kv cv : AV) (ks : List (List UInt8)) (cs : List CntV) (s : Nat) (cnt : Int) (H : Heap) (hN : Neat H) (hk : KeysAt H kv ks) (hc : CntsAt H cv cs) (hs : s < 18446744073709551616)
  (hW : ∀ h, Grows H h → Neat h → CallTo Tryz.prog Tryz.tab 4 [] h [(.bool true, h)]) :
  CallTo Tryz.prog Tryz.tab 3 [.agg (confC n g kv cv), .int .u64 (s : Int), .int .i64 cnt] H [(.bool true, H)] := by
 refine callTo_of Tryz.tabOk Tryz.func3 rfl rfl ?_
 show Gets Tryz.prog Tryz.tab ⟨none, 72⟩ _ _ _
 repeat refine Gets.seq ?_
 have k1 := hk.one
 have k2 := hc.one
 have hkn : ∀ h, lenA Tryz.tab h 22 kv = some (.int .i64 (ks.length : Int)) := hk.len ud22
 have hcn : ∀ h, lenA Tryz.tab h 23 cv = some (.int .i64 (cs.length : Int)) := hc.len ud23
 refine Gets.l0 Tryz.tabOk (s' := ?sn1) ?hn1 ?kn1; (case hn1 => (simp -implicitDefEqProofs (disch := first | decide | assumption | (try simp only [q_next, s_put_next]) <;> omega | exact pd_ (by kernel_rfl) | fail) only [sxM, Nat.reduceAdd, reduceCtorEq, Int.reduceToNat, Nat.reduceEqDiff, Int.reduceEq, Int.reduceLT, s_draw, k1, k2] <;> rfl)); (try (change Gets _ _ _ _ _ _; repeat refine Gets.seq ?_))
 refine Gets.ofH (fun h => h.blks.get H.next = some (.cells 25 true (confC n g kv cv)) ∧ Grows H h ∧ Neat h) ⟨by ((try simp (disch := first | assumption | omega | (try simp only [q_next, s_put_next]) <;> omega | fail) only [foL]); (try rfl)), .push _ _, (by repeat' (first | exact hN | exact aN | exact bN | (refine Neat.push ?_ _) | (refine Neat.put ?_ (by ((try dsimp only); (try simp only [s_push_next, s_put_next]); omega)) _)))⟩ ?_
 rintro h ⟨a0, ag, aN⟩
 have qW := hW h ag aN
 by_cases hA : 70 < (ks.length : Int)
 ·refine Gets.l0 Tryz.tabOk (s' := ?sn2) ?hn2 ?kn2; (case hn2 => (simp -implicitDefEqProofs (disch := first | decide | assumption | (try simp only [q_next, s_put_next]) <;> omega | exact pd_ (by kernel_rfl) | fail) only [sxM, Nat.reduceAdd, reduceCtorEq, Int.reduceToNat, Nat.reduceEqDiff, Int.reduceEq, Int.reduceLT, s_draw, a0, fa25_2, fa25_3, s_varFalse ia22, s_varFalse ia23, hkn, hcn, hA] <;> rfl)); (try (change Gets _ _ _ _ _ _; repeat refine Gets.seq ?_))
  refine Gets.condT (by rfl) ?_
  change Gets _ _ _ _ _ _
  repeat refine Gets.seq ?_
  refine Gets.last Tryz.tabOk (ov := ptO noOv 4 [] h [(.bool true, h)]) (ptO_ok noOv_ok qW) 8 (s' := ?sn3) ?hn3 ?kn3; (case hn3 => (simp -implicitDefEqProofs (disch := first | decide | assumption | (try simp only [q_next, s_put_next]) <;> omega | exact pd_ (by kernel_rfl) | fail) only [sxM, Nat.reduceAdd, reduceCtorEq, Int.reduceToNat, Nat.reduceEqDiff, Int.reduceEq, Int.reduceLT, s_draw, s_ptEq] <;> rfl)); (try (change Gets _ _ _ _ _ _; repeat refine Gets.seq ?_))
  refine Gets.ret Tryz.tabOk ?_
  exact fin_pure rfl (by simp (disch := decide) only [sxL, Tryz.f3, resultA]) ag hN trivial
 by_cases hB : 70 < (cs.length : Int)
 ·refine Gets.l0 Tryz.tabOk (s' := ?sn4) ?hn4 ?kn4; (case hn4 => (simp -implicitDefEqProofs (disch := first | decide | assumption | (try simp only [q_next, s_put_next]) <;> omega | exact pd_ (by kernel_rfl) | fail) only [sxM, Nat.reduceAdd, reduceCtorEq, Int.reduceToNat, Nat.reduceEqDiff, Int.reduceEq, Int.reduceLT, s_draw, a0, fa25_2, fa25_3, s_varFalse ia22, s_varFalse ia23, hkn, hcn, hA, hB] <;> rfl)); (try (change Gets _ _ _ _ _ _; repeat refine Gets.seq ?_))
  refine Gets.condT (by rfl) ?_
  change Gets _ _ _ _ _ _
  repeat refine Gets.seq ?_
  refine Gets.last Tryz.tabOk (ov := ptO noOv 4 [] h [(.bool true, h)]) (ptO_ok noOv_ok qW) 8 (s' := ?sn5) ?hn5 ?kn5; (case hn5 => (simp -implicitDefEqProofs (disch := first | decide | assumption | (try simp only [q_next, s_put_next]) <;> omega | exact pd_ (by kernel_rfl) | fail) only [sxM, Nat.reduceAdd, reduceCtorEq, Int.reduceToNat, Nat.reduceEqDiff, Int.reduceEq, Int.reduceLT, s_draw, s_ptEq] <;> rfl)); (try (change Gets _ _ _ _ _ _; repeat refine Gets.seq ?_))
  refine Gets.ret Tryz.tabOk ?_
  exact fin_pure rfl (by simp (disch := decide) only [sxL, Tryz.f3, resultA]) ag hN trivial
 by_cases hC : 300 < cnt ∧ cnt ≤ 2000
 ·have c1 := hC.1
  have c2 := hC.2
  have c3 : ¬ (2000 < cnt) := by omega
  refine Gets.l0 Tryz.tabOk (s' := ?sn6) ?hn6 ?kn6; (case hn6 => (simp -implicitDefEqProofs (disch := first | decide | assumption | (try simp only [q_next, s_put_next]) <;> omega | exact pd_ (by kernel_rfl) | fail) only [sxM, Nat.reduceAdd, reduceCtorEq, Int.reduceToNat, Nat.reduceEqDiff, Int.reduceEq, Int.reduceLT, s_draw, a0, fa25_2, fa25_3, s_varFalse ia22, s_varFalse ia23, hkn, hcn, hA, hB, c1, c2, c3] <;> rfl)); (try (change Gets _ _ _ _ _ _; repeat refine Gets.seq ?_))
  refine Gets.condT (by simp (disch := decide) only [sxL]) ?_
  change Gets _ _ _ _ _ _
  repeat refine Gets.seq ?_
  refine Gets.last Tryz.tabOk (ov := ptO noOv 4 [] h [(.bool true, h)]) (ptO_ok noOv_ok qW) 8 (s' := ?sn7) ?hn7 ?kn7; (case hn7 => (simp -implicitDefEqProofs (disch := first | decide | assumption | (try simp only [q_next, s_put_next]) <;> omega | exact pd_ (by kernel_rfl) | fail) only [sxM, Nat.reduceAdd, reduceCtorEq, Int.reduceToNat, Nat.reduceEqDiff, Int.reduceEq, Int.reduceLT, s_draw, s_ptEq] <;> rfl)); (try (change Gets _ _ _ _ _ _; repeat refine Gets.seq ?_))
  refine Gets.ret Tryz.tabOk ?_
  exact fin_pure rfl (by simp (disch := decide) only [sxL, Tryz.f3, resultA]) ag hN trivial
 refine Gets.midH (I := fun tm h' => h' = h ∧ tm.get 0 = some (.agg (confC n g kv cv)) ∧ tm.get 1 = some (.int .u64 (s : Int)) ∧ tm.get 2 = some (.int .i64 cnt) ∧ tm.get 3 = some (.ptr H.next 0) ∧ tm.get 29 = some (.bool false)) ?_ ?_
 ·by_cases hC1 : 300 < cnt
  ·have c2 : ¬ (cnt ≤ 2000) := fun hh => hC ⟨hC1, hh⟩
   have c3 : 2000 < cnt := by omega
   refine Gets.l0 Tryz.tabOk (s' := ?sn8) ?hn8 ?kn8; (case hn8 => (simp -implicitDefEqProofs (disch := first | decide | assumption | (try simp only [q_next, s_put_next]) <;> omega | exact pd_ (by kernel_rfl) | fail) only [sxM, Nat.reduceAdd, reduceCtorEq, Int.reduceToNat, Nat.reduceEqDiff, Int.reduceEq, Int.reduceLT, s_draw, a0, fa25_2, fa25_3, s_varFalse ia22, s_varFalse ia23, hkn, hcn, hA, hB, hC1, c2, c3] <;> rfl)); (try (change Gets _ _ _ _ _ _; repeat refine Gets.seq ?_))
   exact ⟨rfl, _, _, rfl, rfl, by simp (disch := decide) only [sxL], by simp (disch := decide) only [sxL], by simp (disch := decide) only [sxL], by simp (disch := decide) only [sxL], by simp (disch := decide) only [sxL]⟩
  ·refine Gets.l0 Tryz.tabOk (s' := ?sn9) ?hn9 ?kn9; (case hn9 => (simp -implicitDefEqProofs (disch := first | decide | assumption | (try simp only [q_next, s_put_next]) <;> omega | exact pd_ (by kernel_rfl) | fail) only [sxM, Nat.reduceAdd, reduceCtorEq, Int.reduceToNat, Nat.reduceEqDiff, Int.reduceEq, Int.reduceLT, s_draw, a0, fa25_2, fa25_3, s_varFalse ia22, s_varFalse ia23, hkn, hcn, hA, hB, hC1] <;> rfl)); (try (change Gets _ _ _ _ _ _; repeat refine Gets.seq ?_))
   exact ⟨rfl, _, _, rfl, rfl, by simp (disch := decide) only [sxL], by simp (disch := decide) only [sxL], by simp (disch := decide) only [sxL], by simp (disch := decide) only [sxL], by simp (disch := decide) only [sxL]⟩
 rintro tm h' ⟨hh, i0, i1, i2, i3, i29⟩
 rw [hh]
 clear hh h'
 change Gets _ _ _ _ _ _
 repeat refine Gets.seq ?_
 refine Gets.condF (by simp (disch := decide) only [sxL, i29]) (Gets.skip Tryz.tabOk ?_)
 change Gets _ _ _ _ _ _
 repeat refine Gets.seq ?_
 refine Gets.l0 Tryz.tabOk (s' := ?sn10) ?hn10 ?kn10; (case hn10 => (simp -implicitDefEqProofs (disch := first | decide | assumption | (try simp only [q_next, s_put_next]) <;> omega | exact pd_ (by kernel_rfl) | fail) only [sxM, Nat.reduceAdd, reduceCtorEq, Int.reduceToNat, Nat.reduceEqDiff, Int.reduceEq, Int.reduceLT, s_draw] <;> rfl)); (try (change Gets _ _ _ _ _ _; repeat refine Gets.seq ?_))
 refine Gets.upto ks.length (fun i tm => tm.get 1 = some (.int .u64 (s : Int)) ∧ tm.get 2 = some (.int .i64 cnt) ∧ tm.get 3 = some (.ptr H.next 0) ∧ tm.get 7 = some (.int .i64 (i : Int)) ∧ ∀ j a, j < i → ks[j]? = some a → a.length ≤ 40)
  ⟨by simp (disch := decide) only [sxL, i1], by simp (disch := decide) only [sxL, i2], by simp (disch := decide) only [sxL, i3], by simp (disch := decide) only [sxL], fun j a hj => absurd hj (Nat.not_lt_zero _)⟩ ?_
 clear i0 i1 i2 i3 i29
 clear tm
 rintro i tm hi ⟨i1, i2, i3, i7, hsm⟩
 repeat refine Gets.seq ?_
 by_cases hlt : (i : Int) < (ks.length : Int)
 ·obtain ⟨a, ha⟩ : ∃ a, ks[i]? = some a := ⟨_, List.getElem?_eq_getElem (by omega)⟩
  obtain ⟨b, hxa, hca, -⟩ := (hk.grow hN ag).row ud22 sz9 (fun _ => rfl) ha
  have hld : cellIn (h.blks.get b) (i * 1) = some (.str a) := hca 0 (by omega)
  have v5 : awrap .i64 ((i : Int) + 1) = (i : Int) + 1 := s_wrap (by omega) (by omega)
  refine Gets.l0 Tryz.tabOk (s' := ?sn11) ?hn11 ?kn11; (case hn11 => (simp -implicitDefEqProofs (disch := first | decide | assumption | (try simp only [q_next, s_put_next]) <;> omega | exact pd_ (by kernel_rfl) | fail) only [sxM, Nat.reduceAdd, reduceCtorEq, Int.reduceToNat, Nat.reduceEqDiff, Int.reduceEq, Int.reduceLT, s_draw, i3, i7, a0, fa25_2, s_varFalse ia22, hkn, hlt] <;> rfl)); (try (change Gets _ _ _ _ _ _; repeat refine Gets.seq ?_))
  refine Gets.condT (by simp (disch := decide) only [sxL]) (Gets.skip Tryz.tabOk ?_)
  change Gets _ _ _ _ _ _
  refine Gets.seq (Gets.blk ?_)
  repeat refine Gets.seq ?_
  by_cases h40 : 40 < (a.length : Int)
  ·refine Gets.l0 Tryz.tabOk (s' := ?sn12) ?hn12 ?kn12; (case hn12 => (simp -implicitDefEqProofs (disch := first | decide | assumption | (try simp only [q_next, s_put_next]) <;> omega | exact pd_ (by kernel_rfl) | fail) only [sxM, Nat.reduceAdd, reduceCtorEq, Int.reduceToNat, Nat.reduceEqDiff, Int.reduceEq, Int.reduceLT, s_draw, i3, i7, a0, fa25_2, s_varFalse ia22, hxa, hld, s_varFalse ia9, s_lenStr ud9, h40] <;> rfl)); (try (change Gets _ _ _ _ _ _; repeat refine Gets.seq ?_))
   refine Gets.condT (by simp (disch := decide) only [sxL]) ?_
   change Gets _ _ _ _ _ _
   repeat refine Gets.seq ?_
   refine Gets.last Tryz.tabOk (ov := ptO noOv 4 [] h [(.bool true, h)]) (ptO_ok noOv_ok qW) 8 (s' := ?sn13) ?hn13 ?kn13; (case hn13 => (simp -implicitDefEqProofs (disch := first | decide | assumption | (try simp only [q_next, s_put_next]) <;> omega | exact pd_ (by kernel_rfl) | fail) only [sxM, Nat.reduceAdd, reduceCtorEq, Int.reduceToNat, Nat.reduceEqDiff, Int.reduceEq, Int.reduceLT, s_draw, s_ptEq] <;> rfl)); (try (change Gets _ _ _ _ _ _; repeat refine Gets.seq ?_))
   refine Gets.ret Tryz.tabOk ?_
   exact fin_pure rfl (by simp (disch := decide) only [sxL, Tryz.f3, resultA]) ag hN trivial
  ·refine Gets.l0 Tryz.tabOk (s' := ?sn14) ?hn14 ?kn14; (case hn14 => (simp -implicitDefEqProofs (disch := first | decide | assumption | (try simp only [q_next, s_put_next]) <;> omega | exact pd_ (by kernel_rfl) | fail) only [sxM, Nat.reduceAdd, reduceCtorEq, Int.reduceToNat, Nat.reduceEqDiff, Int.reduceEq, Int.reduceLT, s_draw, i3, i7, a0, fa25_2, s_varFalse ia22, hxa, hld, s_varFalse ia9, s_lenStr ud9, h40] <;> rfl)); (try (change Gets _ _ _ _ _ _; repeat refine Gets.seq ?_))
   refine Gets.condF (by simp (disch := decide) only [sxL]) (Gets.skip Tryz.tabOk ?_)
   change Gets _ _ _ _ _ _
   refine Gets.l0 Tryz.tabOk (s' := ?sn15) ?hn15 ?kn15; (case hn15 => (simp -implicitDefEqProofs (disch := first | decide | assumption | (try simp only [q_next, s_put_next]) <;> omega | exact pd_ (by kernel_rfl) | fail) only [sxM, Nat.reduceAdd, reduceCtorEq, Int.reduceToNat, Nat.reduceEqDiff, Int.reduceEq, Int.reduceLT, s_draw, i7, v5] <;> rfl)); (try (change Gets _ _ _ _ _ _; repeat refine Gets.seq ?_))
   exact ⟨_, rfl, by omega, by simp (disch := decide) only [sxL, i1], by simp (disch := decide) only [sxL, i2], by simp (disch := decide) only [sxL, i3], by simp (disch := decide) only [sxL, s_castS], fun j c hj hc' => by
    by_cases e : j = i
    ·subst e
     rw [ha] at hc'
     cases hc'
     omega
    ·exact hsm j c (by omega) hc'⟩
 ·have h9 : i = ks.length := by omega
  subst h9
  have hks : ∀ a ∈ ks, a.length < 1000000000 := fun a ha => by
   obtain ⟨j, hj⟩ := List.mem_iff_getElem?.1 ha
   have := hsm j a (List.getElem?_eq_some_iff.1 hj).1 hj
   omega
  refine Gets.l0 Tryz.tabOk (s' := ?sn16) ?hn16 ?kn16; (case hn16 => (simp -implicitDefEqProofs (disch := first | decide | assumption | (try simp only [q_next, s_put_next]) <;> omega | exact pd_ (by kernel_rfl) | fail) only [sxM, Nat.reduceAdd, reduceCtorEq, Int.reduceToNat, Nat.reduceEqDiff, Int.reduceEq, Int.reduceLT, s_draw, i3, i7, a0, fa25_2, s_varFalse ia22, hkn, hlt] <;> rfl)); (try (change Gets _ _ _ _ _ _; repeat refine Gets.seq ?_))
  refine Gets.condF (by simp (disch := decide) only [sxL]) (Gets.exit Tryz.tabOk ?_)
  refine inBlk_exit ?_
  change Gets _ _ _ _ _ _
  repeat refine Gets.seq ?_
  have hkh := hk.grow hN ag
  have hch := hc.grow hN ag
  by_cases hE : errR n g ks cs cnt = 0
  ·have hE0 : cfgE n g ks cs = 0 := by
    by_cases hh : cfgE n g ks cs = 0
    ·exact hh
    ·unfold errR at hE; rw [if_pos hh] at hE; exact hE
   unfold errR at hE
   rw [if_neg (fun hh => hh hE0)] at hE
   have hcnt0 : 0 ≤ cnt := by
    by_cases hh : cnt < 0
    ·rw [if_pos hh] at hE; omega
    ·omega
   have hcnt1 : cnt ≤ 2000 := by
    rw [if_neg (by omega)] at hE
    by_cases hh : 2000 < cnt
    ·rw [if_pos hh] at hE; omega
    ·omega
   obtain ⟨e1, e2, e3, e4⟩ := cfgE_zero hE0
   obtain ⟨n', rfl⟩ := Int.eq_ofNat_of_zero_le (show 0 ≤ n by omega)
   obtain ⟨g', rfl⟩ := Int.eq_ofNat_of_zero_le (show 0 ≤ g by omega)
   obtain ⟨cnt', rfl⟩ := Int.eq_ofNat_of_zero_le hcnt0
   have hM2 : n' * g' ≤ 7 * 8 := Nat.mul_le_mul (by omega) (by omega)
   have hM3 : n' * 2 ≤ n' * g' := Nat.mul_le_mul_left n' (by omega)
   obtain ⟨w, K, q1, o1, g1, KN⟩ := rnd_to n' g' (n' * g') kv cv ks cs s cnt' h aN hkh hch hks (by omega) (by omega) hE0 hs rfl (by omega) ⟨by omega, by omega⟩ ⟨by omega, by omega⟩ (by omega)
   have kg := ag.trans g1
   have qR := ref_to n' g' kv cv K KN k1 k2 (rows_ltle hk hN kg.next) (rows_ltle hc hN kg.next)
   obtain ⟨w', K', q2, o2, g2, KN'⟩ := rndR_to n' g' (n' * g') kv cv ks cs s cnt' K KN (hk.grow hN kg) (hc.grow hN kg) hks (by omega) (by omega) hE0 hs rfl (by omega) ⟨by omega, by omega⟩ ⟨by omega, by omega⟩ (by omega)
   have kg' := kg.trans g2
   have a0K : K.blks.get H.next = some (.cells 25 true (confC n' g' kv cv)) := by rw [g1.get _ (aN _ _ a0)]; exact a0
   have hkd := keysD_len (ks := ks) (by omega)
   have qO := ops_to w w' _ K' KN' (ops_grow o1 KN g2) o2 (by rw [opsN_len]; omega) (fun o ho => by
    obtain ⟨j, -, rfl⟩ := List.mem_map.1 ho
    exact genF_st _ _ _ hkd.1 _ _)
   have qW' := hW K' kg' KN'
   have hw1 := ops_one o1
   have hw2 := ops_one o2
   refine Gets.last Tryz.tabOk (ov := ptO noOv 5 [.agg (confC n' g' kv cv), .int .u64 (s : Int), .int .i64 (cnt' : Int)] h [(.tuple [w, .int .i64 0], K)]) (ptO_ok noOv_ok q1) 8 (s' := ?sn17) ?hn17 ?kn17; (case hn17 => (simp -implicitDefEqProofs (disch := first | decide | assumption | (try simp only [q_next, s_put_next]) <;> omega | exact pd_ (by kernel_rfl) | fail) only [sxM, Nat.reduceAdd, reduceCtorEq, Int.reduceToNat, Nat.reduceEqDiff, Int.reduceEq, Int.reduceLT, s_draw, s_ptEq, i1, i2, i3, a0, s_varTrue ia25 sz25, t_r4] <;> rfl)); (try (change Gets _ _ _ _ _ _; repeat refine Gets.seq ?_))
   refine Gets.last Tryz.tabOk (ov := ptO (ptO noOv 7 [.agg (confC n' g' kv cv)] K [(.agg (confC n' g' kv cv), K)]) 6 [.agg (confC n' g' kv cv), .int .u64 (s : Int), .int .i64 (cnt' : Int)] K [(.tuple [w', .int .i64 0], K')]) (ptO_ok (ptO_ok noOv_ok qR) q2) 8 (s' := ?sn18) ?hn18 ?kn18; (case hn18 => (simp -implicitDefEqProofs (disch := first | decide | assumption | (try simp only [q_next, s_put_next]) <;> omega | exact pd_ (by kernel_rfl) | fail) only [sxM, Nat.reduceAdd, reduceCtorEq, Int.reduceToNat, Nat.reduceEqDiff, Int.reduceEq, Int.reduceLT, s_draw, s_ptEq, s_ptNe, i1, i2, i3, a0K, s_varTrue ia25 sz25, t_r4] <;> rfl)); (try (change Gets _ _ _ _ _ _; repeat refine Gets.seq ?_))
   refine Gets.last Tryz.tabOk (ov := ptO (ptO noOv 8 [w, w'] K' [(.bool true, K')]) 4 [] K' [(.bool true, K')]) (ptO_ok (ptO_ok noOv_ok qO) qW') 8 (s' := ?sn19) ?hn19 ?kn19; (case hn19 => (simp -implicitDefEqProofs (disch := first | decide | assumption | (try simp only [q_next, s_put_next]) <;> omega | exact pd_ (by kernel_rfl) | fail) only [sxM, Nat.reduceAdd, reduceCtorEq, Int.reduceToNat, Nat.reduceEqDiff, Int.reduceEq, Int.reduceLT, s_draw, s_ptEq, s_ptNe] <;> rfl)); (try (change Gets _ _ _ _ _ _; repeat refine Gets.seq ?_))
   refine Gets.ret Tryz.tabOk ?_
   exact fin_pure rfl (by simp (disch := decide) only [sxL, Tryz.f3, resultA]) kg' hN trivial
  ·have q1 := rnd_err n g kv cv ks cs s cnt h aN hkh hch hks (by omega) (by omega) hE
   have qR := ref_to n g kv cv h aN k1 k2 (rows_ltle hk hN ag.next) (rows_ltle hc hN ag.next)
   have q2 := rndR_err n g kv cv ks cs s cnt h aN hkh hch hks (by omega) (by omega) hE
   have qO := ops_to .nilslice .nilslice [] h aN ⟨[], rfl, .inl ⟨rfl, rfl⟩, fun x hx => by simp at hx⟩ ⟨[], rfl, .inl ⟨rfl, rfl⟩, fun x hx => by simp at hx⟩ (by decide) (fun o ho => by simp at ho)
   generalize errR n g ks cs cnt = e at q1 q2
   refine Gets.last Tryz.tabOk (ov := ptO noOv 5 [.agg (confC n g kv cv), .int .u64 (s : Int), .int .i64 cnt] h [(.tuple [.nilslice, .int .i64 e], h)]) (ptO_ok noOv_ok q1) 8 (s' := ?sn20) ?hn20 ?kn20; (case hn20 => (simp -implicitDefEqProofs (disch := first | decide | assumption | (try simp only [q_next, s_put_next]) <;> omega | exact pd_ (by kernel_rfl) | fail) only [sxM, Nat.reduceAdd, reduceCtorEq, Int.reduceToNat, Nat.reduceEqDiff, Int.reduceEq, Int.reduceLT, s_draw, s_ptEq, i1, i2, i3, a0, s_varTrue ia25 sz25, t_r4] <;> rfl)); (try (change Gets _ _ _ _ _ _; repeat refine Gets.seq ?_))
   refine Gets.last Tryz.tabOk (ov := ptO (ptO noOv 7 [.agg (confC n g kv cv)] h [(.agg (confC n g kv cv), h)]) 6 [.agg (confC n g kv cv), .int .u64 (s : Int), .int .i64 cnt] h [(.tuple [.nilslice, .int .i64 e], h)]) (ptO_ok (ptO_ok noOv_ok qR) q2) 8 (s' := ?sn21) ?hn21 ?kn21; (case hn21 => (simp -implicitDefEqProofs (disch := first | decide | assumption | (try simp only [q_next, s_put_next]) <;> omega | exact pd_ (by kernel_rfl) | fail) only [sxM, Nat.reduceAdd, reduceCtorEq, Int.reduceToNat, Nat.reduceEqDiff, Int.reduceEq, Int.reduceLT, s_draw, s_ptEq, s_ptNe, i1, i2, i3, a0, s_varTrue ia25 sz25, t_r4] <;> rfl)); (try (change Gets _ _ _ _ _ _; repeat refine Gets.seq ?_))
   refine Gets.last Tryz.tabOk (ov := ptO (ptO noOv 8 [.nilslice, .nilslice] h [(.bool true, h)]) 4 [] h [(.bool true, h)]) (ptO_ok (ptO_ok noOv_ok qO) qW) 8 (s' := ?sn22) ?hn22 ?kn22; (case hn22 => (simp -implicitDefEqProofs (disch := first | decide | assumption | (try simp only [q_next, s_put_next]) <;> omega | exact pd_ (by kernel_rfl) | fail) only [sxM, Nat.reduceAdd, reduceCtorEq, Int.reduceToNat, Nat.reduceEqDiff, Int.reduceEq, Int.reduceLT, s_draw, s_ptEq, s_ptNe] <;> rfl)); (try (change Gets _ _ _ _ _ _; repeat refine Gets.seq ?_))
   refine Gets.ret Tryz.tabOk ?_
   exact fin_pure rfl (by simp (disch := decide) only [sxL, Tryz.f3, resultA]) ag hN trivial
end Go.Proofs
namespace Go.Proofs
open Go.ChangeShapes Go.WideShapes Go.ChangeAt Go.RowKit Go.Sx
set_option maxRecDepth 100000
theorem gFours : Tryz.prog.globalNamed "skald/crc.fours" = some 9 := by kernel_rfl
theorem tFours : (Tryz.prog.globals[9]?).map (·.type) = some 840 := by kernel_rfl
theorem uFours : Tryz.prog.underlying 840 = some (.array 16 281) := by kernel_rfl
theorem cU32 : Tryz.prog.cellsOf 281 = 1 := by kernel_rfl
theorem uU32 : Tryz.prog.underlying 281 = some (.int .u32) := by kernel_rfl
theorem gGlob : Nat.ble Tryz.tab.nglob 10 = true := by kernel_rfl
theorem gGet (x : Nat) (o : ABlk) (h : gH0.blks.get x = some o) : x = 9 ∧ o = .big 840 16 (crcFours.map fun x => AV.int .u32 x) := by
 unfold gH0 at h
 simp only at h
 rw [T.get_set] at h
 split at h
 ·rename_i h0
  exact ⟨h0, (Option.some.inj h).symm⟩
 ·simp [T.get_e] at h
def GlobAt (h : Heap) : Prop := h.blks.get 9 = some (.big 840 16 (crcFours.map fun x => AV.int .u32 x))
theorem gGlobAt : GlobAt gH0 := by
 unfold gH0 GlobAt
 simp only
 rw [T.get_set, if_pos rfl]
theorem gBase {l : List (String × DataW Unit)} {W : World} (hm : ("skald/crc.fours", DataW.agg (crcFours.map fun x => .lit (.int .u32 x))) ∈ l) (hL : laidMet Tryz.prog l W) : ∃ ρ, Base Tryz.tab W ρ gH0 := by
 obtain ⟨arr, el, h1, h2, h3⟩ := laid_nums (k := .u32) (xs := crcFours) hL (n := "skald/crc.fours") hm gFours tFours uFours cU32 uU32 (by simp [crcFours])
 have hR := start_arr (G := Tryz.tab) (H := gH0) (g := 9) (t := 840) (k := .u32) (xs := crcFours) (by show 9 < 10; omega) (ble_le gGlob) gGet h1 h2 h3
 refine ⟨_, hR, fun x o ho => ?_, fun x o ho => ?_, rfl, rfl⟩
 ·obtain ⟨rfl, _⟩ := gGet x o ho; show 9 < 10; omega
 ·obtain ⟨_, rfl⟩ := gGet x o ho; trivial
theorem works_to (h : Heap) (hG : GlobAt h) : CallTo Tryz.prog Tryz.tab 4 [] h [(.bool true, h)] :=
 CallTo.embed works_to0 rfl (by kernel_rfl) (ble_le gGlob) (fun b o ho => by
  obtain ⟨rfl, rfl⟩ := gGet b o ho
  exact ⟨by show 9 < 10; omega, by show ltL _ (crcFours.map fun x => AV.int .u32 x); simp only [crcFours, List.map_cons, List.map_nil]; exact ⟨trivial, trivial, trivial, trivial, trivial, trivial, trivial, trivial, trivial, trivial, trivial, trivial, trivial, trivial, trivial, trivial, trivial⟩⟩) trivial (fun b o ho => by
  obtain ⟨rfl, rfl⟩ := gGet b o ho
  exact hG)
theorem calls_true {W : World} {ρ : Env} {H : Heap} {f : FuncId} {args : List AV} (hB : Base Tryz.tab W ρ H) (ha : okL ρ (fun b => b < H.next) args) {H' : Heap} (h : CallTo Tryz.prog Tryz.tab f args H [(.bool true, H')]) :
  Calls Tryz.prog f (concL ρ args).toArray W fun e w' => e = .returned (.bool true) ∧ Below W.heap.size W w' := by
 refine (h.calls hB.rel ha).mono fun e w' ⟨p, hp, ρ', D', he, hR, hE⟩ => ?_
 rw [List.mem_singleton.1 hp] at he hR
 refine ⟨he, below_of (fun i o hi => ?_) ?_⟩
 ·exact (hR.rest i o (by rw [hE.sub.rest, hB.rest]; exact hi)).1
 ·have := hR.kin
  rw [hE.sub.orig, hB.orig] at this; exact this
theorem un3 : Tryz.prog.underlying 3 = some (.int .i64) := by kernel_rfl
theorem un2 : Tryz.prog.underlying 2 = some (.int .i64) := by kernel_rfl
theorem un9 : Tryz.prog.underlying 9 = some .string := by kernel_rfl
theorem un26 : Tryz.prog.underlying 26 = some (.int .u64) := by kernel_rfl
theorem un22 : Tryz.prog.underlying 22 = some (.slice 9) := by kernel_rfl
theorem un23 : Tryz.prog.underlying 23 = some (.slice 79) := by kernel_rfl
theorem ce9 : Tryz.prog.cellsOf 9 = 1 := by kernel_rfl
theorem ce79 : Tryz.prog.cellsOf 79 = 5 := by kernel_rfl
theorem lf25_is : leafs Tryz.prog 9 25 = some [3, 3, 22, 23] := by kernel_rfl
theorem lf79_is : leafs Tryz.prog 9 79 = some [2, 2, 2, 2, 2] := by kernel_rfl
section
variable {H₀ : Type} {enc : TypeId × Value → H₀} {W : World} {base : Nat} {sp : Nat → Bool} {held : Bool}
theorem int_of {u : TypeId} {c : Value} (hu : Tryz.prog.underlying u = some (.int .i64)) (h : ∃ m y, DataW.trod enc Tryz.prog W base sp held m u [c] = some y) : ∃ n, c = .int .i64 n := by
 obtain ⟨m, y, h⟩ := h
 obtain ⟨n, e, _⟩ := DataW.trod_int hu h
 exact ⟨n, by simpa using e⟩
theorem str_of {u : TypeId} {c : Value} (hu : Tryz.prog.underlying u = some .string) (h : ∃ m y, DataW.trod enc Tryz.prog W base sp held m u [c] = some y) : ∃ l : List UInt8, c = .string ⟨l.toArray⟩ := by
 obtain ⟨m, y, h⟩ := h
 obtain ⟨s, e, _⟩ := DataW.trod_string hu h
 refine ⟨s.data.toList, ?_⟩
 simp only [List.cons.injEq, and_true] at e
 rw [e]
theorem keys_lift {ρ : Env} {H : Heap} (hB : Base Tryz.tab W ρ H) (hg : Tryz.tab.nglob ≤ H.next) {n : Nat} {cs : List Value} {x : DataW H₀ × List MemPlace} (h : DataW.trod enc Tryz.prog W base sp held n 22 cs = some x) :
  ∃ ρ' H' av l, Base Tryz.tab W ρ' H' ∧ More ρ H ρ' H' ∧ concL ρ' [av] = cs ∧ okV ρ' (fun b => b < H'.next) av ∧ KeysAt H' av l := by
 obtain ⟨ρ', H', av, l, h1, h2, h3, h4, h5, _⟩ := row_lift (α := List UInt8) (f := keyC) (k := 1) (fun _ => rfl) (by omega) (R := fun _ _ => True) (fun _ _ _ _ _ _ => trivial)
  (fun ρ H hB hg n cs x hx => by
   obtain ⟨s, e, _⟩ := DataW.trod_string un9 hx
   refine ⟨ρ, H, s.data.toList, hB, .refl _ _, trivial, ⟨trivial, trivial⟩, ?_⟩
   rw [e]; rfl) un22 ce9 h hB hg
 exact ⟨ρ', H', av, l, h1, h2, h3, h4, h5⟩
theorem cnts_lift {ρ : Env} {H : Heap} (hB : Base Tryz.tab W ρ H) (hg : Tryz.tab.nglob ≤ H.next) {n : Nat} {cs : List Value} {x : DataW H₀ × List MemPlace} (h : DataW.trod enc Tryz.prog W base sp held n 23 cs = some x) :
  ∃ ρ' H' av l, Base Tryz.tab W ρ' H' ∧ More ρ H ρ' H' ∧ concL ρ' [av] = cs ∧ okV ρ' (fun b => b < H'.next) av ∧ CntsAt H' av l := by
 obtain ⟨ρ', H', av, l, h1, h2, h3, h4, h5, _⟩ := row_lift (α := CntV) (f := CntV.cells) (k := 5) (fun _ => rfl) (by omega) (R := fun _ _ => True) (fun _ _ _ _ _ _ => trivial)
  (fun ρ H hB hg n cs x hx => by
   have hf := leafs_fit 9 79 _ lf79_is n cs x hx
   obtain ⟨c0, cs, rfl, f0, hf⟩ := Fit.cons hf
   obtain ⟨c1, cs, rfl, f1, hf⟩ := Fit.cons hf
   obtain ⟨c2, cs, rfl, f2, hf⟩ := Fit.cons hf
   obtain ⟨c3, cs, rfl, f3, hf⟩ := Fit.cons hf
   obtain ⟨c4, cs, rfl, f4, hf⟩ := Fit.cons hf
   obtain rfl := Fit.nil hf
   obtain ⟨x0, rfl⟩ := int_of un2 f0
   obtain ⟨x1, rfl⟩ := int_of un2 f1
   obtain ⟨x2, rfl⟩ := int_of un2 f2
   obtain ⟨x3, rfl⟩ := int_of un2 f3
   obtain ⟨x4, rfl⟩ := int_of un2 f4
   exact ⟨ρ, H, ⟨x0, x1, x2, x3, x4⟩, hB, .refl _ _, trivial, ⟨trivial, trivial, trivial, trivial, trivial, trivial⟩, rfl⟩) un23 ce79 h hB hg
 exact ⟨ρ', H', av, l, h1, h2, h3, h4, h5⟩
theorem conf_lift {ρ : Env} {H : Heap} (hB : Base Tryz.tab W ρ H) (hg : Tryz.tab.nglob ≤ H.next) {n : Nat} {cs : List Value} {x : DataW H₀ × List MemPlace} (h : DataW.trod enc Tryz.prog W base sp held n 25 cs = some x) :
  ∃ (ρ' : Env) (H' : Heap) (m g : Int) (kv cv : AV) (ks : List (List UInt8)) (ds : List CntV), Base Tryz.tab W ρ' H' ∧ More ρ H ρ' H' ∧ concL ρ' (confC m g kv cv) = cs ∧ okL ρ' (fun b => b < H'.next) (confC m g kv cv) ∧ KeysAt H' kv ks ∧ CntsAt H' cv ds := by
 have hf := leafs_fit 9 25 _ lf25_is n cs x h
 obtain ⟨c0, cs, rfl, f0, hf⟩ := Fit.cons hf
 obtain ⟨c1, cs, rfl, f1, hf⟩ := Fit.cons hf
 obtain ⟨c2, cs, rfl, ⟨n2, y2, f2⟩, hf⟩ := Fit.cons hf
 obtain ⟨c3, cs, rfl, ⟨n3, y3, f3⟩, hf⟩ := Fit.cons hf
 obtain rfl := Fit.nil hf
 obtain ⟨m, rfl⟩ := int_of un3 f0
 obtain ⟨g, rfl⟩ := int_of un3 f1
 obtain ⟨ρ1, H1, kv, ks, B1, M1, e1, o1, k1⟩ := keys_lift hB hg f2
 obtain ⟨ρ2, H2, cv, ds, B2, M2, e2, o2, k2⟩ := cnts_lift B1 (Nat.le_trans hg M1.grows.next) f3
 have e1 : conc ρ1 kv = c2 := by simpa [concL] using e1
 have e2 : conc ρ2 cv = c3 := by simpa [concL] using e2
 have e1' : conc ρ2 kv = c2 := by rw [M2.sub.eq o1]; exact e1
 exact ⟨ρ2, H2, m, g, kv, cv, ks, ds, B2, M1.trans M2, by simp only [confC, concL, conc, e1', e2], ⟨trivial, trivial, M2.sub.ok o1, o2, trivial⟩, k1.grow B1.neat M2.grows, k2⟩
end
theorem i64_any {W : World} {r : Reach} {b : Nat} {v : Value} (hv : Value.okWide Tryz.prog W r b 3 v) : ∃ n, v = .int .i64 n := okWide_int un3 hv
theorem u64_any {W : World} {r : Reach} {b : Nat} {v : Value} (hv : Value.okWide Tryz.prog W r b 26 v) : ∃ n, v = .int .u64 n := okWide_int un26 hv
theorem u64_lift {H : Type} {enc : TypeId × Value → H} {W : World} {v : Value} {d : DataW H} {p : List MemPlace} (hv : ∃ n, v = .int .u64 n) (h : DataW.Trod enc Tryz.prog W 0 (fun _ => true) true 26 v d p) :
  ∃ n : Nat, v = .int .u64 (n : Int) ∧ n < 18446744073709551616 := by
 obtain ⟨fuel, h⟩ := h
 obtain ⟨n, rfl⟩ := hv
 obtain ⟨z, e1, _, e3⟩ := DataW.trod_int un26 h
 simp [Value.cells] at e1
 subst e1
 simp [Lit.wf, IntKind.min, IntKind.max, IntKind.signed, IntKind.bits] at e3
 obtain ⟨m, rfl⟩ := Int.eq_ofNat_of_zero_le (show 0 ≤ n by omega)
 exact ⟨m, rfl, by omega⟩
theorem pr_run {H : Heap} {ρ : Env} {W : World} (hB : Base Tryz.tab W ρ H) (hG : GlobAt H) (m g : Int) (kv cv : AV) (ks : List (List UInt8)) (ds : List CntV) (s : Nat) (cnt : Int) (hk : KeysAt H kv ks) (hc : CntsAt H cv ds) (hs : s < 18446744073709551616)
  (ho : okL ρ (fun b => b < H.next) (confC m g kv cv)) : Calls Tryz.prog 3 (concL ρ [.agg (confC m g kv cv), .int .u64 (s : Int), .int .i64 cnt]).toArray W fun e w' => e = .returned (.bool true) ∧ Below W.heap.size W w' :=
 calls_true hB ⟨ho, trivial, trivial, trivial⟩ (law_to m g kv cv ks ds s cnt H hB.neat hk hc hs fun h hg _ => works_to h (by
  show h.blks.get 9 = _
  rw [hg.get 9 (hB.neat _ _ hG)]; exact hG))
end Go.Proofs
