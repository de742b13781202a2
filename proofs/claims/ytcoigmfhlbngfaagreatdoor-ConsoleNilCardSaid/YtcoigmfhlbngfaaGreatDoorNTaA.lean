/-
  A console that is none says nothing; the law.
-/
import Derived.Test.YtcoigmfhlbngfaaGreatDoorNNtA
import Derived.Test.YtcoigmfhlbngfaaGreatDoorNSxI
set_option linter.unusedSimpArgs false
set_option linter.unusedVariables false
namespace Go.Proofs
open Go.Sx
set_option maxRecDepth 100000
def zcL : List AV := [.bool false, .int .i64 0, .int .i64 0, .nilslice, .nilslice, .nilptr, .nilslice]
theorem j8C : q6j Tryz.tab 31 [] = some (.agg zcL) := by kernel_rfl
theorem w1W : Tryz.tab.zero 9 = some (.str []) := by kernel_rfl
theorem k1p : Tryz.tab.zero 23 = some .nilptr := by kernel_rfl
def ZcAt (H : Heap) (c : AV) : Prop := c = .nilptr ∨ ∃ z, c = .ptr z 0 ∧ H.blks.get z = some (.cells 31 true zcL)
theorem ZcAt.grow {H H' : Heap} {c : AV} (h : ZcAt H c) (hN : Neat H) (hg : Grows H H') : ZcAt H' c := by
 rcases h with rfl | ⟨z, rfl, hb⟩
 ·exact .inl rfl
 ·exact .inr ⟨z, rfl, by rw [hg.get z (hN z _ hb)]; exact hb⟩
theorem pEn (c : Bool) : binA Tryz.tab .eql 23 c .nilptr .nilptr = some (.bool true) := by cases c <;> kernel_rfl
theorem pEp (c : Bool) (b : Nat) : binA Tryz.tab .eql 23 c (.ptr b 0) .nilptr = some (.bool false) := by cases c <;> kernel_rfl
theorem pNn (c : Bool) : binA Tryz.tab .neq 23 c .nilptr .nilptr = some (.bool false) := by cases c <;> kernel_rfl
theorem sNe (c : Bool) : binA Tryz.tab .neq 9 c (.str []) (.str []) = some (.bool false) := by cases c <;> kernel_rfl
theorem k1q (c : AV) (s : List UInt8) (H : Heap) (hN : Neat H) (hz : ZcAt H c) : CallTo Tryz.prog Tryz.tab 5 [c, .str s] H [(.str [], H)] := by
 refine z4j Tryz.tabOk Tryz.func5 rfl rfl ?_
 show Gets Tryz.prog Tryz.tab ⟨none, 44⟩ _ _ _
 repeat refine Gets.seq ?_
 have gp := Grows.push H (.cells 9 true [.str []])
 have nP : Neat (H.push (.cells 9 true [.str []])) := hN.push _
 have hb : (H.push (.cells 9 true [.str []])).blks.get H.next = _ := z0L H _
 have hnx := z1e H (.cells 9 true [.str []])
 refine g1_ @w1W ?_
 generalize H.push (.cells 9 true [.str []]) = K at gp nP hb hnx ⊢
 have hz' := hz.grow hN gp
 have hc : Sx.cellIn ((z0y K H.next (some (.cells 9 true [.str []]))).blks.get H.next) 0 = some (.str []) := by rw [z5G]; rfl
 have hs : z2r Tryz.tab K 9 (.ptr H.next 0) (.str []) = some (z0y K H.next (some (.cells 9 true [.str []]))) := j1G hb sz9 (by simp) rfl
 rcases hz' with rfl | ⟨z, rfl, hbz⟩
 ·refine g1_ @pEn ?_
  refine cT_ ?_
  refine g1_ hs ?_
  refine Gets.ret Tryz.tabOk ?_
  exact z5F rfl (by simp -implicitDefEqProofs (disch := first | exact d_ | fail) only [sxM, Nat.reduceAdd, reduceCtorEq, Int.reduceToNat, Nat.reduceEqDiff, Int.reduceEq, Int.reduceLT, Tryz.f5, z8M, z4k ia9, hc]) ⟨by rw [z0j]; exact gp.next, fun x hx => by rw [z1z _ _ _ (by omega)]; exact gp.get x hx⟩ hN trivial
 ·have f0 : cellIn (K.blks.get z) 0 = some (.bool false) := by rw [hbz]; rfl
  refine g1_ (y4_ @pEp @j4t (z4k ia4) f0) ?_
  refine cT_ ?_
  refine g1_ hs ?_
  refine Gets.ret Tryz.tabOk ?_
  exact z5F rfl (by simp -implicitDefEqProofs (disch := first | exact d_ | fail) only [sxM, Nat.reduceAdd, reduceCtorEq, Int.reduceToNat, Nat.reduceEqDiff, Int.reduceEq, Int.reduceLT, Tryz.f5, z8M, z4k ia9, hc]) ⟨by rw [z0j]; exact gp.next, fun x hx => by rw [z1z _ _ _ (by omega)]; exact gp.get x hx⟩ hN trivial
theorem j8D (c : AV) (H : Heap) (hN : Neat H) (hz : ZcAt H c) : CallTo Tryz.prog Tryz.tab 6 [c] H [(.nilptr, H)] := by
 refine z4j Tryz.tabOk Tryz.func6 rfl rfl ?_
 show Gets Tryz.prog Tryz.tab ⟨none, 28⟩ _ _ _
 repeat refine Gets.seq ?_
 rcases hz with rfl | ⟨z, rfl, hbz⟩
 ·refine g0_ ?_
  refine g1_ @pEn ?_
  refine cT_ ?_
  refine g0_ ?_
  refine Gets.ret Tryz.tabOk ?_
  exact z5F rfl (sr_ Tryz.f6.eq_1) (.refl _) hN trivial
 ·have f0 : cellIn (H.blks.get z) 0 = some (.bool false) := by rw [hbz]; rfl
  refine g0_ ?_
  refine g1_ (y4_ @pEp @j4t (z4k ia4) f0) ?_
  refine cT_ ?_
  refine g0_ ?_
  refine Gets.ret Tryz.tabOk ?_
  exact z5F rfl (sr_ Tryz.f6.eq_1) (.refl _) hN trivial
noncomputable def j4n (c : AV) (H : Heap) : Ov := by
 classical
 exact fun f args H' => if f = 5 ∧ (∃ x, args = [c, .str x]) ∧ H' = H then some [(.str [], H)] else none
theorem j4o {c : AV} {H : Heap} (hN : Neat H) (hz : ZcAt H c) : OvOk Tryz.prog Tryz.tab (j4n c H) := by
 intro f args H' outs h
 unfold j4n at h
 split at h
 ·rename_i hc
  obtain ⟨rfl, ⟨x, rfl⟩, rfl⟩ := hc
  simp only [Option.some.injEq] at h
  subst h
  exact k1q c x _ hN hz
 ·simp at h
theorem j4p (c : AV) (H : Heap) (x : List UInt8) : j4n c H 5 [c, .str x] H = some [(.str [], H)] := by
 unfold j4n
 exact if_pos ⟨rfl, ⟨x, rfl⟩, rfl⟩
theorem k1r (H : Heap) (z : Nat) : z1t Tryz.tab H 32 2 [(0, .nilptr), (1, .ptr z 0)] = some (.slice H.next 0 2 false 2, H.push (.cells 23 true [.nilptr, .ptr z 0])) := by
 show z0b (Sx.elemOf Tryz.tab 32) (fun e => z0b (Tryz.tab.size e) fun z' => z0b (Tryz.tab.zero e) fun zero =>
  bif Nat.ble (2 * z') 10000 then
   bif Nat.beq (len zero.cells) z' then z0b (q4p (fun i => some (i * z', z')) [(0, .nilptr), (1, .ptr z 0)] (z0T zero.cells 2)) (z1c H e 2 2) else none
  else none) = _
 rw [z3y ud32]
 show z0b (Tryz.tab.size 23) (fun z' => z0b (Tryz.tab.zero 23) fun zero =>
  bif Nat.ble (2 * z') 10000 then
   bif Nat.beq (len zero.cells) z' then z0b (q4p (fun i => some (i * z', z')) [(0, .nilptr), (1, .ptr z 0)] (z0T zero.cells 2)) (z1c H 23 2 2) else none
  else none) = _
 rw [sz23, k1p]
 show z1c H 23 2 2 [.nilptr, .ptr z 0] = _
 unfold z1c
 rw [z1L]; rfl
theorem k1s (s : List UInt8) (H : Heap) (hN : Neat H)
  (hW : ∀ h, Grows H h → Neat h → CallTo Tryz.prog Tryz.tab 4 [] h [(.bool true, h)]) :
  CallTo Tryz.prog Tryz.tab 3 [.str s] H [(.bool true, H)] := by
 refine z4j Tryz.tabOk Tryz.func3 rfl rfl ?_
 show Gets Tryz.prog Tryz.tab ⟨none, 40⟩ _ _ _
 repeat refine Gets.seq ?_
 by_cases hl : (1000 : Int) < (s.length : Int)
 ·refine g0_ ?_
  refine g1_ (y2_ (q6O ud9) hl) ?_
  refine cT_ ?_
  have qW := hW H (.refl _) hN
  refine o1_ (j0U z3R qW) @z9x ?_
  refine Gets.ret Tryz.tabOk ?_
  exact z5F rfl (sr_ Tryz.f3.eq_1) (.refl _) hN trivial
 ·refine g0_ ?_
  refine g1_ (y2_ (q6O ud9) hl) ?_
  refine cFs_ ?_
  have hzc : z0V zcL = true := rfl
  refine g0_ ?_
  refine g1_ (y4_ @j8C hzc @k1r (z5C ud32)) ?_
  refine Gets.ofS (fun tm h => tm.get 0 = some (.str s) ∧ tm.get 13 = some (.slice (H.next + 1) 0 2 false 2) ∧ tm.get 14 = some (.int .i64 2) ∧ tm.get 15 = some (.int .i64 0) ∧ h.blks.get H.next = some (.cells 31 true zcL) ∧ h.blks.get (H.next + 1) = some (.cells 23 true [.nilptr, .ptr H.next 0]) ∧ Grows H h ∧ Neat h)
   ⟨sx0_, sf1_ @z1e, sx0_, sx0_, fo_, fo_, ⟨fl_, fun b hb => fo_⟩, (by repeat' (first | exact hN | exact aN | exact bN | (refine Neat.push ?_ _) | (refine Neat.put ?_ (by ((try dsimp only); (try simp only [z1e, z0j]); omega)) _)))⟩ ?_
  rintro tm h1 ⟨i0, i13, i14, i15, az, al, ag1, aN1⟩
  generalize H.next = z at i13 az al
  refine Gets.uptoH 2 (fun i tm h => tm.get 0 = some (.str s) ∧ tm.get 13 = some (.slice (z + 1) 0 2 false 2) ∧ tm.get 14 = some (.int .i64 2) ∧ tm.get 15 = some (.int .i64 (i : Int)) ∧ h.blks.get z = some (.cells 31 true zcL) ∧ h.blks.get (z + 1) = some (.cells 23 true [.nilptr, .ptr z 0]) ∧ Grows H h ∧ Neat h)
   ⟨i0, i13, i14, i15, az, al, ag1, aN1⟩ ?_
  clear i0 i13 i14 i15 az al ag1 aN1
  clear tm
  rintro i tm h2 hi ⟨i0, i13, i14, i15, az, al, ag2, aN2⟩
  repeat refine Gets.seq ?_
  by_cases hlt : i < 2
  ·obtain ⟨c, hcl, hz⟩ : ∃ c, cellIn (h2.blks.get (z + 1)) (i * 1) = some c ∧ ZcAt h2 c := by
    rcases (by omega : i = 0 ∨ i = 1) with rfl | rfl
    ·exact ⟨.nilptr, by rw [al]; rfl, .inl rfl⟩
    ·exact ⟨.ptr z 0, by rw [al]; rfl, .inr ⟨z, rfl, az⟩⟩
   have hlt' : (i : Int) < 2 := by omega
   have v5 : z6k .i64 ((i : Int) + 1) = (i : Int) + 1 := k0f (by omega) (by omega)
   refine g1_ (y3_ i14 i15 hlt') ?_
   refine cTb_ ?_
   have hidx : z1M Tryz.tab 32 (.slice (z + 1) 0 2 false 2) (.int .i64 (i : Int)) = some (.ptr (z + 1) (0 + i * 1)) := by
    rw [z5h ud32 sz23, if_pos ⟨by omega, by omega⟩]; simp
   have hcl' : cellIn (h2.blks.get (z + 1)) (0 + i * 1) = some c := by rw [Nat.zero_add]; exact hcl
   refine g1_ (y6_ i13 i15 hidx hcl hcl' (z4k ia23)) ?_
   have r4 := j8D c h2 aN2 hz
   refine o1_ (j0U (j4o aN2 hz) r4) (y6_ @z9x @q3C @j4p i0 @sNe @pNn) ?_
   refine cFk_ ?_
   refine g1_ (y2_ i15 v5) ?_
   exact ⟨_, _, rfl, by omega, sx1_ i0, sx1_ i13, sx1_ i14, sx1_ @j7Q, az, al, ag2, aN2⟩
  ·have h9 : i = 2 := by omega
   subst h9
   refine g1_ (y2_ i14 i15) ?_
   refine cFx_ ?_
   have qW := hW h2 ag2 aN2
   refine o1_ (j0U z3R qW) @z9x ?_
   refine Gets.ret Tryz.tabOk ?_
   exact z5F rfl (sr_ Tryz.f3.eq_1) ag2 hN trivial
end Go.Proofs
