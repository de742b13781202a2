/-
  A cluster that is none refuses all; the rules; which operations are short; the law.
-/
import Derived.Test.YtdnkpdgncgjilaaGreatDoorNNtA
import Derived.Test.YtdnkpdgncgjilaaGreatDoorNSxI
set_option linter.unusedSimpArgs false
set_option linter.unusedVariables false
namespace Go.Proofs
open Go.Sx
set_option maxRecDepth 100000
def zcL : List AV := [.int .i64 0, .int .i64 0, .nilslice, .nilslice, .nilslice, .nilptr, .nilptr, .nilslice, .nilptr, .nilslice, .nilslice]
theorem v3h : Tryz.tab.zero 47 = some (.agg zcL) := by kernel_rfl
def ZcAt (H : Heap) (c : AV) : Prop := c = .nilptr ∨ ∃ z, c = .ptr z 0 ∧ H.blks.get z = some (.cells 47 true zcL)
theorem ZcAt.grow {H H' : Heap} {c : AV} (h : ZcAt H c) (hN : Neat H) (hg : Grows H H') : ZcAt H' c := by
 rcases h with rfl | ⟨z, rfl, hb⟩
 ·exact .inl rfl
 ·exact .inr ⟨z, rfl, by rw [hg.get z (hN z _ hb)]; exact hb⟩
theorem pNe (c : Bool) (b : Nat) : binA Tryz.tab .neq 32 c (.ptr b 0) .nilptr = some (.bool true) := by cases c <;> kernel_rfl
theorem pNn (c : Bool) : binA Tryz.tab .neq 32 c .nilptr .nilptr = some (.bool false) := by cases c <;> kernel_rfl
theorem pTn (c : Bool) : binA Tryz.tab .neq 39 c .nilptr .nilptr = some (.bool false) := by cases c <;> kernel_rfl
theorem z3n (c : AV) (H : Heap) (hN : Neat H) (hz : ZcAt H c) : CallTo Tryz.prog Tryz.tab 18 [c] H [(.bool false, H)] := by
 refine z0Q Tryz.tabOk Tryz.func18 rfl rfl ?_
 show Gets Tryz.prog Tryz.tab ⟨none, 12⟩ _ _ _
 repeat refine Gets.seq ?_
 rcases hz with rfl | ⟨z, rfl, hb⟩
 ·refine g0_ ?_
  refine g1_ pNn ?_
  refine Gets.ret Tryz.tabOk ?_
  exact z1S rfl (sr_ Tryz.f18.eq_1) (.refl _) hN trivial
 ·have f6 : z0H (H.blks.get z) 6 = some .nilptr := by rw [hb]; rfl
  refine g0_ ?_
  refine g1_ (y5_ pNe @k3G (z0D ia39) f6 pTn) ?_
  refine Gets.ret Tryz.tabOk ?_
  exact z1S rfl (sr_ Tryz.f18.eq_1) (.refl _) hN trivial
theorem k2V (c : AV) (n : Int) (H : Heap) (hN : Neat H) (hz : ZcAt H c) : CallTo Tryz.prog Tryz.tab 6 [c, .int .i64 n] H [(.tuple [.nilptr, .int .i64 1], H)] := by
 refine z0Q Tryz.tabOk Tryz.func6 rfl rfl ?_
 show Gets Tryz.prog Tryz.tab ⟨none, 25⟩ _ _ _
 repeat refine Gets.seq ?_
 have q := z3n c H hN hz
 refine g0_ ?_
 refine o1_ (z1x z0T q) @z1I ?_
 refine cT_ ?_
 refine g0_ ?_
 refine Gets.ret Tryz.tabOk ?_
 exact z6Q rfl (sr_ Tryz.f6.eq_1) (.refl _) hN ⟨trivial, trivial, trivial⟩
theorem w6q (c : AV) (n : Int) (H : Heap) (hN : Neat H) (hz : ZcAt H c) : CallTo Tryz.prog Tryz.tab 7 [c, .int .i64 n] H [(.tuple [.nilslice, .int .i64 1], H)] := by
 refine z0Q Tryz.tabOk Tryz.func7 rfl rfl ?_
 show Gets Tryz.prog Tryz.tab ⟨none, 50⟩ _ _ _
 repeat refine Gets.seq ?_
 have q := z3n c H hN hz
 refine g0_ ?_
 refine Gets.blk ?_
 repeat refine Gets.seq ?_
 refine o1_ (z1x z0T q) @z1I ?_
 refine cT_ ?_
 refine g0_ ?_
 refine Gets.ret Tryz.tabOk ?_
 exact z6L (z6Q rfl (sr_ Tryz.f7.eq_1) (.refl _) hN ⟨trivial, trivial, trivial⟩)
def cz5 : List AV := [.int .i64 0, .int .i64 0, .int .i64 0, .int .i64 0, .int .i64 0]
theorem j7L : Tryz.tab.zero 57 = some (.agg [.int .i64 0, .int .i64 0, .int .i64 0, .int .i64 0, .int .i64 0]) := by kernel_rfl
theorem j3B : z5O Tryz.tab 57 [] = some (.agg [.int .i64 0, .int .i64 0, .int .i64 0, .int .i64 0, .int .i64 0]) := by kernel_rfl
theorem j3C (e : TypeId) (x : Bool) (a b c d f : AV) : Sx.cellsIn (some (.cells e x [a, b, c, d, f])) 0 5 = some [a, b, c, d, f] := rfl
theorem j6M (c : AV) (s : List UInt8) (H : Heap) (hN : Neat H) (hz : ZcAt H c) : CallTo Tryz.prog Tryz.tab 8 [c, .str s] H [(.tuple [.agg [.int .i64 0, .int .i64 0, .int .i64 0, .int .i64 0, .int .i64 0], .int .i64 0, .int .i64 1], H)] := by
 refine z0Q Tryz.tabOk Tryz.func8 rfl rfl ?_
 show Gets Tryz.prog Tryz.tab ⟨none, 54⟩ _ _ _
 repeat refine Gets.seq ?_
 have gp := Grows.push H (.cells 57 true [.int .i64 0, .int .i64 0, .int .i64 0, .int .i64 0, .int .i64 0])
 have nP : Neat (H.push (.cells 57 true [.int .i64 0, .int .i64 0, .int .i64 0, .int .i64 0, .int .i64 0])) := hN.push _
 have hb : (H.push (.cells 57 true [.int .i64 0, .int .i64 0, .int .i64 0, .int .i64 0, .int .i64 0])).blks.get H.next = _ := z0F H _
 have hnx := z0x H (.cells 57 true [.int .i64 0, .int .i64 0, .int .i64 0, .int .i64 0, .int .i64 0])
 refine g1_ j7L ?_
 generalize H.push (.cells 57 true [.int .i64 0, .int .i64 0, .int .i64 0, .int .i64 0, .int .i64 0]) = K at gp nP hb hnx ⊢
 have q := z3n c K nP (hz.grow hN gp)
 have hs : z2i Tryz.tab K 57 (.ptr H.next 0) (.agg [.int .i64 0, .int .i64 0, .int .i64 0, .int .i64 0, .int .i64 0]) = some (z0y K H.next (some (.cells 57 true [.int .i64 0, .int .i64 0, .int .i64 0, .int .i64 0, .int .i64 0]))) := q0U hb sz57 rfl rfl (by simp)
 refine Gets.blk ?_
 repeat refine Gets.seq ?_
 refine o1_ (z1x z0T q) @z1I ?_
 refine cT_ ?_
 refine g1_ (y2_ j3B hs) ?_
 refine Gets.ret Tryz.tabOk ?_
 have hc : Sx.cellsIn ((z0y K H.next (some (.cells 57 true [.int .i64 0, .int .i64 0, .int .i64 0, .int .i64 0, .int .i64 0]))).blks.get H.next) 0 5 = some [.int .i64 0, .int .i64 0, .int .i64 0, .int .i64 0, .int .i64 0] := by rw [z4y]; exact j3C ..
 exact z6L (j2P rfl (by simp -implicitDefEqProofs (disch := first | exact d_ | fail) only [sxM, Nat.reduceAdd, reduceCtorEq, Int.reduceToNat, Nat.reduceEqDiff, Int.reduceEq, Int.reduceLT, Tryz.f8, z8P, z3G ia57 sz57, j3C, hc]) ⟨by rw [z0h]; exact gp.next, fun x hx => by rw [z1D _ _ _ (by omega)]; exact gp.get x hx⟩ hN ⟨⟨trivial, trivial, trivial, trivial, trivial, trivial⟩, trivial, trivial, trivial⟩)
theorem j3D (c : AV) (H : Heap) (hN : Neat H) (hz : ZcAt H c) : CallTo Tryz.prog Tryz.tab 10 [c] H [(.nilslice, H)] := by
 refine z0Q Tryz.tabOk Tryz.func10 rfl rfl ?_
 show Gets Tryz.prog Tryz.tab ⟨none, 11⟩ _ _ _
 repeat refine Gets.seq ?_
 have q := z3n c H hN hz
 refine g0_ ?_
 refine o1_ (z1x z0T q) @z1I ?_
 refine cT_ ?_
 refine g0_ ?_
 refine Gets.ret Tryz.tabOk ?_
 exact z1S rfl (sr_ Tryz.f10.eq_1) (.refl _) hN trivial
theorem q9n (c : AV) (H : Heap) (hN : Neat H) (hz : ZcAt H c) : CallTo Tryz.prog Tryz.tab 11 [c] H [(.nilslice, H)] := by
 refine z0Q Tryz.tabOk Tryz.func11 rfl rfl ?_
 show Gets Tryz.prog Tryz.tab ⟨none, 12⟩ _ _ _
 repeat refine Gets.seq ?_
 have q := z3n c H hN hz
 refine g0_ ?_
 refine o1_ (z1x z0T q) @z1I ?_
 refine cT_ ?_
 refine g0_ ?_
 refine Gets.ret Tryz.tabOk ?_
 exact z1S rfl (sr_ Tryz.f11.eq_1) (.refl _) hN trivial
theorem w6r (c : AV) (H : Heap) (hN : Neat H) (hz : ZcAt H c) : CallTo Tryz.prog Tryz.tab 12 [c] H [(.nilptr, H)] := by
 refine z0Q Tryz.tabOk Tryz.func12 rfl rfl ?_
 show Gets Tryz.prog Tryz.tab ⟨none, 11⟩ _ _ _
 repeat refine Gets.seq ?_
 have q := z3n c H hN hz
 refine g0_ ?_
 refine o1_ (z1x z0T q) @z1I ?_
 refine cT_ ?_
 refine g0_ ?_
 refine Gets.ret Tryz.tabOk ?_
 exact z1S rfl (sr_ Tryz.f12.eq_1) (.refl _) hN trivial
theorem j6N (c : AV) (H : Heap) (hN : Neat H) (hz : ZcAt H c) : CallTo Tryz.prog Tryz.tab 13 [c] H [(.bool false, H)] := by
 refine z0Q Tryz.tabOk Tryz.func13 rfl rfl ?_
 show Gets Tryz.prog Tryz.tab ⟨none, 13⟩ _ _ _
 repeat refine Gets.seq ?_
 have q := z3n c H hN hz
 refine g0_ ?_
 refine o1_ (z1x z0T q) @z1I ?_
 refine Gets.ret Tryz.tabOk ?_
 exact z1S rfl (sr_ Tryz.f13.eq_1) (.refl _) hN trivial
theorem k2W (c : AV) (H : Heap) (hN : Neat H) (hz : ZcAt H c) : CallTo Tryz.prog Tryz.tab 14 [c] H [(.nilptr, H)] := by
 refine z0Q Tryz.tabOk Tryz.func14 rfl rfl ?_
 show Gets Tryz.prog Tryz.tab ⟨none, 166⟩ _ _ _
 repeat refine Gets.seq ?_
 have q := z3n c H hN hz
 refine g0_ ?_
 refine o1_ (z1x z0T q) @z1I ?_
 refine cT_ ?_
 refine g0_ ?_
 refine Gets.ret Tryz.tabOk ?_
 exact z1S rfl (sr_ Tryz.f14.eq_1) (.refl _) hN trivial
end Go.Proofs
namespace Go.Proofs
open Go.Sx
set_option maxRecDepth 100000
theorem w6s : Tryz.tab.zero 98 = some (.agg [.nilFunc, .bool false, .bool false, .bool false, .bool false]) := by kernel_rfl
noncomputable def q7F (ps : List (Nat × AV)) : List AV := (z7W (fun i => some (i * 5, 5)) ps (z0M [AV.nilFunc, .bool false, .bool false, .bool false, .bool false] 13)).getD []
noncomputable def w6t (ps : List (Nat × AV)) : Bool := bif (z7W (fun i => some (i * 5, 5)) ps (z0M [AV.nilFunc, .bool false, .bool false, .bool false, .bool false] 13)).isSome then z0Y (q7F ps) else false
theorem k2X (ps : List (Nat × AV)) (H : Heap) (h : w6t ps = true) : z1c Tryz.tab H 94 13 ps = some (.slice H.next 0 13 false 13, H.push (.cells 98 true (q7F ps))) := by
 obtain ⟨h0, h1⟩ := z0f h
 obtain ⟨cells, hfill⟩ := Option.isSome_iff_exists.1 h0
 have hc : q7F ps = cells := by unfold q7F; rw [hfill]; rfl
 rw [hc] at h1 ⊢
 show z0b (Sx.elemOf Tryz.tab 94) (fun e => z0b (Tryz.tab.size e) fun z => z0b (Tryz.tab.zero e) fun zero =>
  bif Nat.ble (13 * z) 10000 then
   bif Nat.beq (len zero.cells) z then z0b (z7W (fun i => some (i * z, z)) ps (z0M zero.cells 13)) (z0N H e 13 13) else none
  else none) = _
 rw [z3c ud94]
 show z0b (Tryz.tab.size 98) (fun z => z0b (Tryz.tab.zero 98) fun zero =>
  bif Nat.ble (13 * z) 10000 then
   bif Nat.beq (len zero.cells) z then z0b (z7W (fun i => some (i * z, z)) ps (z0M zero.cells 13)) (z0N H 98 13 13) else none
  else none) = _
 rw [sz98, w6s]
 show z0b (z7W (fun i => some (i * 5, 5)) ps (z0M [AV.nilFunc, .bool false, .bool false, .bool false, .bool false] 13)) (z0N H 98 13 13) = _
 rw [hfill]
 show z0N H 98 13 13 cells = _
 unfold z0N
 rw [z1H, h1]; rfl
theorem bR0 (f : Nat) : z5O Tryz.tab 98 [(0, .func (.func f) [] [])] = some (.agg [.func (.func f) [] [], .bool false, .bool false, .bool false, .bool false]) := by kernel_rfl
theorem bR1 (f : Nat) : z5O Tryz.tab 98 [(0, .func (.func f) [] []), (1, .bool true)] = some (.agg [.func (.func f) [] [], .bool true, .bool false, .bool false, .bool false]) := by kernel_rfl
theorem bR2 (f : Nat) : z5O Tryz.tab 98 [(0, .func (.func f) [] []), (2, .bool true)] = some (.agg [.func (.func f) [] [], .bool false, .bool true, .bool false, .bool false]) := by kernel_rfl
theorem bR3 (f : Nat) : z5O Tryz.tab 98 [(0, .func (.func f) [] []), (1, .bool true), (3, .bool true)] = some (.agg [.func (.func f) [] [], .bool true, .bool false, .bool true, .bool false]) := by kernel_rfl
theorem bR4 (f : Nat) : z5O Tryz.tab 98 [(0, .func (.func f) [] []), (1, .bool true), (4, .bool true)] = some (.agg [.func (.func f) [] [], .bool true, .bool false, .bool false, .bool true]) := by kernel_rfl
theorem j6O (H : Heap) (hN : Neat H) : ∃ v K, CallTo Tryz.prog Tryz.tab 26 [] H [(v, K)] ∧ Grows H K ∧ Neat K := by
 obtain ⟨v, h, hg, hle, hc⟩ := q7D (R := fun _ h => Grows H h) Tryz.tabOk Tryz.func26 rfl rfl (args := []) (H := H) (by
  show GetsE Tryz.prog Tryz.tab ⟨none, 20⟩ _ _ _
  repeat refine GetsE.seq ?_
  refine g0x_ ?_
  refine g0x_ ?_
  refine g1x_ (y6_ bR0 bR1 bR2 bR3 bR4 k2X) ?_
  refine GetsE.ret Tryz.tabOk ?_
  exact j6J (vs := [.slice H.next 0 13 false 13]) (R := fun _ h => Grows H h) rfl (sr_ Tryz.f26.eq_1) (by rw [z0x]; omega) (by show H.next < _; rw [z0x]; omega) (Grows.push _ _))
 exact ⟨v, q0n H h, hc, ⟨hle, fun b hb => q2S hb hle (hg.get b hb)⟩, q4G _ _⟩
abbrev opL (k n m : Int) (key fr to nm : List UInt8) (r d : Int) (st : AV) : List AV := [.int .i64 k, .int .i64 n, .int .i64 m, .str key, .str fr, .str to, .str nm, .int .i64 r, .int .i64 d, st]
structure StepN where
 key : List UInt8
 delta : Int
def StepN.cells (s : StepN) : List AV := [.str s.key, .int .i64 s.delta]
abbrev q6A (H : Heap) (v : AV) (l : List StepN) : Prop := RowsAt 68 2 StepN.cells H v l
theorem w6u : Tryz.tab.zero 26 = some (.agg [.str [], .int .i64 0, .int .i64 0, .nilslice]) := by kernel_rfl
theorem v2m : ((1 : Nat) : Int) = 1 := rfl
set_option linter.defProp false
def w6v := y6_ @q3a @q6E @q9x @q9y (z0D ia9) (z6J ud9)
def w6w := y8_ @q3a @q6E @q9x @q9y @j6W @q6F (z0D ia9) (y2_ (z0D ia24) (z6J ud9))
def w6x := y5_ @q6F (z0D ia24) @k3F (z0D ia9) (z6J ud9)
theorem j6P (k n m : Int) (key fr to nm : List UInt8) (r d : Int) (st : AV) (l : List StepN) (b : Nat) (H : Heap) (hN : Neat H) (hb : H.blks.get b = some (.cells 28 true (opL k n m key fr to nm r d st))) (hs : q6A H st l) :
  ∃ q K, CallTo Tryz.prog Tryz.tab 4 [.slice b 0 1 false 1, .int .i64 1] H [(.bool q, K)] ∧ Grows H K ∧ Neat K := by
 have k1 := hs.one
 have hix : z1K Tryz.tab 30 (.slice b 0 1 false 1) (.int .i64 0) = some (.ptr b 0) := by
  rw [z3Q ud30 sz28, if_pos ⟨by omega, by omega⟩]; simp
 have hln : ∀ h, lenA Tryz.tab h 24 st = some (.int .i64 (l.length : Int)) := hs.len ud24
 obtain ⟨v, h, ⟨⟨q, rfl⟩, hg⟩, hle, hc⟩ := q7D (R := fun v h => (∃ q, v = .bool q) ∧ Grows H h) Tryz.tabOk Tryz.func4 rfl rfl (args := [.slice b 0 1 false 1, .int .i64 1]) (H := H) (by
  show GetsE Tryz.prog Tryz.tab ⟨none, 77⟩ _ _ _
  repeat refine GetsE.seq ?_
  refine g0x_ ?_
  refine g1x_ (z2t ud30) ?_
  refine GetsE.condF sx0_ (GetsE.skip Tryz.tabOk ?_)
  change GetsE _ _ _ _ _ _
  repeat refine GetsE.seq ?_
  refine g0x_ ?_
  refine GetsE.uptoH 1 (fun i tm h => tm.get 0 = some (.slice b 0 1 false 1) ∧ tm.get 5 = some (.int .i64 (i : Int)) ∧ Grows H h ∧ Neat h)
   ⟨sx0_, sx0_, .refl _, hN⟩ ?_
  rintro i tm h hi ⟨i0, i5, ag, aN⟩
  repeat refine GetsE.seq ?_
  have hbh : h.blks.get b = some (.cells 28 true (opL k n m key fr to nm r d st)) := by rw [ag.get b (hN b _ hb)]; exact hb
  have hsh := hs.grow hN ag
  have hbl := aN b _ hbh
  have v1 : z4Y .i64 (0 + 1) = 1 := by kernel_rfl
  rcases (by omega : i = 0 ∨ i = 1) with rfl | rfl
  ·refine g1x_ (y3_ i0 i5 (z2t ud30)) ?_
   refine GetsE.condT sx0_ (GetsE.skip Tryz.tabOk ?_)
   change GetsE _ _ _ _ _ _
   refine GetsE.seq (GetsE.blk ?_)
   repeat refine GetsE.seq ?_
   refine g1x_ (y8_ i0 i5 hbh hix @k3E (z3G ia26 sz26) @w6m (y4_ w6u k1 @stL @sz26)) ?_
   refine GetsE.ofS (fun tm h' => tm.get 0 = some (.slice b 0 1 false 1) ∧ tm.get 5 = some (.int .i64 0) ∧ tm.get 6 = some (.ptr h.next 0) ∧ h'.blks.get h.next = some (.cells 26 true [.str nm, .int .i64 r, .int .i64 d, st]) ∧ h'.blks.get b = some (.cells 28 true (opL k n m key fr to nm r d st)) ∧ Grows H h' ∧ Neat h')
    ⟨sx1_ i0, sx1_ i5, sx0_, fo_, by ((try simp (disch := first | assumption | omega | (try simp only [z1l, z0h]) <;> omega | fail) only [foL]); (try rfl)); exact hbh, ⟨by have := ag.next; ((try dsimp only); (try simp only [z0x, z0h]); omega), fun x hx => by have := ag.next; ((try simp (disch := first | assumption | omega | (try simp only [z1l, z0h]) <;> omega | fail) only [foL]); (try rfl)); exact ag.get x hx⟩, (by repeat' (first | exact hN | exact aN | exact bN | (refine Neat.push ?_ _) | (refine Neat.put ?_ (by ((try dsimp only); (try simp only [z0x, z0h]); omega)) _)))⟩ ?_
   have hd := aN
   clear i0 i5 hbh hsh
   clear tm
   rintro tm h' ⟨i0, i5, i6, ad, hbh, ag', aN'⟩
   have hsh := hs.grow hN ag'
   refine GetsE.midH (I := fun tm h2 => h2 = h' ∧ tm.get 0 = some (.slice b 0 1 false 1) ∧ tm.get 5 = some (.int .i64 0) ∧ tm.get 6 = some (.ptr h.next 0) ∧ ∃ q, tm.get 61 = some (.bool q) ∧ (q = false → l.length ≤ 10)) ?_ ?_
   ·by_cases h1 : 40 < (key.length : Int)
    ·refine g1x_ (y8_ i0 i5 hbh hix @q3a @q6E (z0D ia9) (y2_ (z6J ud9) h1)) ?_
     exact ⟨rfl, _, _, rfl, rfl, sx1_ i0, sx1_ i5, sx1_ i6, true, sx0_, fun e => Bool.noConfusion e⟩
    by_cases h2 : 40 < (fr.length : Int)
    ·refine g1x_ (y7_ i0 i5 hbh hix w6v h1 h2) ?_
     exact ⟨rfl, _, _, rfl, rfl, sx1_ i0, sx1_ i5, sx1_ i6, true, sx0_, fun e => Bool.noConfusion e⟩
    by_cases h3 : 40 < (to.length : Int)
    ·refine g1x_ (y8_ i0 i5 hbh hix w6v h1 h2 h3) ?_
     exact ⟨rfl, _, _, rfl, rfl, sx1_ i0, sx1_ i5, sx1_ i6, true, sx0_, fun e => Bool.noConfusion e⟩
    by_cases h4 : 40 < (nm.length : Int)
    ·refine g1x_ (y8_ i0 i5 i6 ad hbh hix @q3a (y8_ @q6E @q9x @q9y @j6W (z0D ia9) (z6J ud9) h1 (y3_ h2 h3 h4))) ?_
     exact ⟨rfl, _, _, rfl, rfl, sx1_ i0, sx1_ i5, sx1_ i6, true, sx0_, fun e => Bool.noConfusion e⟩
    by_cases h5 : 10 < (l.length : Int)
    ·refine g1x_ (y8_ i0 i5 i6 ad hbh hix w6w (y6_ hln h1 h2 h3 h4 h5)) ?_
     exact ⟨rfl, _, _, rfl, rfl, sx1_ i0, sx1_ i5, sx1_ i6, true, sx0_, fun e => Bool.noConfusion e⟩
    ·refine g1x_ (y8_ i0 i5 i6 ad hbh hix w6w (y6_ hln h1 h2 h3 h4 h5)) ?_
     exact ⟨rfl, _, _, rfl, rfl, sx1_ i0, sx1_ i5, sx1_ i6, false, sx0_, fun _ => by omega⟩
   clear i0 i5 i6
   clear tm
   rintro tm h2 ⟨rfl, i0, i5, i6, q, i61, hq⟩
   change GetsE _ _ _ _ _ _
   repeat refine GetsE.seq ?_
   cases q with
   | true =>
    refine GetsE.condT (sx1_ i61) ?_
    change GetsE _ _ _ _ _ _
    repeat refine GetsE.seq ?_
    refine g0x_ ?_
    refine GetsE.ret Tryz.tabOk ?_
    exact j6J (vs := [.bool false]) (R := fun v h => (∃ q, v = .bool q) ∧ Grows H h) rfl (sr_ Tryz.f4.eq_1) ag'.next trivial ⟨⟨_, rfl⟩, ag'⟩
   | false =>
    have hl10 := hq rfl
    refine GetsE.condF (sx1_ i61) (GetsE.skip Tryz.tabOk ?_)
    change GetsE _ _ _ _ _ _
    repeat refine GetsE.seq ?_
    refine g0x_ ?_
    refine GetsE.upto l.length (fun j tm => tm.get 0 = some (.slice b 0 1 false 1) ∧ tm.get 5 = some (.int .i64 0) ∧ tm.get 6 = some (.ptr h.next 0) ∧ tm.get 7 = some (.int .i64 (j : Int)))
     ⟨sx1_ i0, sx1_ i5, sx1_ i6, sx0_⟩ ?_
    clear i0 i5 i6 i61
    clear tm
    rintro j tm hj ⟨i0, i5, i6, i7⟩
    repeat refine GetsE.seq ?_
    by_cases hlt : (j : Int) < (l.length : Int)
    ·obtain ⟨a, ha⟩ : ∃ a, l[j]? = some a := ⟨_, List.getElem?_eq_getElem (by omega)⟩
     obtain ⟨sb, hxa, hca, -⟩ := hsh.row ud24 sz68 (fun _ => rfl) ha
     have hld : z0H (h2.blks.get sb) (j * 2) = some (.str a.key) := hca 0 (by omega)
     have v5 : z4Y .i64 ((j : Int) + 1) = (j : Int) + 1 := j2r (by omega) (by omega)
     refine g1x_ (y7_ i6 i7 ad @q6F (z0D ia24) hln hlt) ?_
     refine GetsE.condT sx0_ (GetsE.skip Tryz.tabOk ?_)
     change GetsE _ _ _ _ _ _
     refine GetsE.seq (GetsE.blk ?_)
     repeat refine GetsE.seq ?_
     by_cases h40 : 40 < (a.key.length : Int)
     ·refine g1x_ (y7_ i6 i7 ad w6x hxa hld h40) ?_
      refine GetsE.condT sx0_ ?_
      change GetsE _ _ _ _ _ _
      repeat refine GetsE.seq ?_
      refine g0x_ ?_
      refine GetsE.ret Tryz.tabOk ?_
      exact j6J (vs := [.bool false]) (R := fun v h => (∃ q, v = .bool q) ∧ Grows H h) rfl (sr_ Tryz.f4.eq_1) ag'.next trivial ⟨⟨_, rfl⟩, ag'⟩
     ·refine g1x_ (y7_ i6 i7 ad w6x hxa hld h40) ?_
      refine GetsE.condF sx0_ (GetsE.skip Tryz.tabOk ?_)
      change GetsE _ _ _ _ _ _
      refine g1x_ (y2_ i7 v5) ?_
      exact ⟨_, rfl, by omega, sx1_ i0, sx1_ i5, sx1_ i6, sx1_ @q6b⟩
    ·refine g1x_ (y7_ i6 i7 ad @q6F (z0D ia24) hln hlt) ?_
     refine GetsE.condF sx0_ (GetsE.exit Tryz.tabOk ?_)
     refine z3v ?_
     change GetsE _ _ _ _ _ _
     repeat refine GetsE.seq ?_
     refine g1x_ (y2_ i5 v1) ?_
     exact ⟨_, _, rfl, by omega, sx1_ i0, sx1_ v2m, ag', aN'⟩
  ·refine g1x_ (y3_ i0 i5 (z2t ud30)) ?_
   refine GetsE.condF sx0_ (GetsE.exit Tryz.tabOk ?_)
   refine z3v ?_
   change GetsE _ _ _ _ _ _
   repeat refine GetsE.seq ?_
   refine g0x_ ?_
   refine GetsE.ret Tryz.tabOk ?_
   exact j6J (vs := [.bool true]) (R := fun v h => (∃ q, v = .bool q) ∧ Grows H h) rfl (sr_ Tryz.f4.eq_1) ag.next trivial ⟨⟨_, rfl⟩, ag⟩)
 exact ⟨q, q0n H h, hc, ⟨hle, fun b hb => q2S hb hle (hg.get b hb)⟩, q4G _ _⟩
end Go.Proofs
namespace Go.Proofs
open Go.Sx
set_option maxRecDepth 100000
theorem t_c5 (H : Heap) (b off : Nat) (x y z w u : AV) : stC H b off [x, y, z, w, u] (some 5) = z3W H b off [x, y, z, w, u] (H.blks.get b) := rfl
theorem t_r5 (e : TypeId) (x : Bool) (a b c d f : AV) : Sx.cellsIn (some (.cells e x [a, b, c, d, f])) 0 5 = some [a, b, c, d, f] := rfl
theorem w6y {k n m : Int} {key fr to nm : List UInt8} {r d : Int} {st : AV} (h : z0E st = true) : z0Y (opL k n m key fr to nm r d st) = true := by
 simp (disch := decide) only [sxL, h]
theorem v2n (c : AV) (k n m : Int) (key fr to nm : List UInt8) (r d : Int) (st : AV) (H : Heap) (hN : Neat H) (hz : ZcAt H c) (k1 : z0E st = true) : CallTo Tryz.prog Tryz.tab 9 [c, .agg (opL k n m key fr to nm r d st)] H [(.int .i64 1, H)] := by
 refine z0Q Tryz.tabOk Tryz.func9 rfl rfl ?_
 show Gets Tryz.prog Tryz.tab ⟨none, 104⟩ _ _ _
 repeat refine Gets.seq ?_
 have hone := w6y (k := k) (n := n) (m := m) (key := key) (fr := fr) (to := to) (nm := nm) (r := r) (d := d) k1
 refine g1_ hone ?_
 refine Gets.ofH (fun h => Grows H h ∧ Neat h) ⟨.push _ _, hN.push _⟩ ?_
 rintro h ⟨ag, aN⟩
 obtain ⟨v, K, q1, bg, bN⟩ := j6O h aN
 refine o1_ (z1x z0T q1) @z1I ?_
 have kg := ag.trans bg
 have q := z3n c K bN (hz.grow hN kg)
 refine Gets.blk ?_
 repeat refine Gets.seq ?_
 refine o1_ (z1x z0T q) @z1I ?_
 refine cT_ ?_
 refine g0_ ?_
 refine Gets.ret Tryz.tabOk ?_
 exact z6L (z1S rfl (sr_ Tryz.f9.eq_1) kg hN trivial)
theorem w6z : Tryz.tab.zero 28 = some (.agg (opL 0 0 0 [] [] [] [] 0 0 .nilslice)) := by kernel_rfl
theorem v2o {H : Heap} {cs : List AV} (hl : cs.length = 10) (h1 : z0Y cs = true) : z1c Tryz.tab H 30 1 [(0, .agg cs)] = some (.slice H.next 0 1 false 1, H.push (.cells 28 true cs)) :=
 j3w ud30 sz28 w6z rfl (by decide) (by decide) _ hl h1
theorem w6A : Tryz.tab.zero 32 = some .nilptr := by kernel_rfl
theorem k2Y : z5O Tryz.tab 47 [] = some (.agg zcL) := by kernel_rfl
theorem w6B (H : Heap) (z : Nat) : z1c Tryz.tab H 48 2 [(0, .nilptr), (1, .ptr z 0)] = some (.slice H.next 0 2 false 2, H.push (.cells 32 true [.nilptr, .ptr z 0])) := by
 show z0b (Sx.elemOf Tryz.tab 48) (fun e => z0b (Tryz.tab.size e) fun z' => z0b (Tryz.tab.zero e) fun zero =>
  bif Nat.ble (2 * z') 10000 then
   bif Nat.beq (len zero.cells) z' then z0b (z7W (fun i => some (i * z', z')) [(0, .nilptr), (1, .ptr z 0)] (z0M zero.cells 2)) (z0N H e 2 2) else none
  else none) = _
 rw [z3c ud48]
 show z0b (Tryz.tab.size 32) (fun z' => z0b (Tryz.tab.zero 32) fun zero =>
  bif Nat.ble (2 * z') 10000 then
   bif Nat.beq (len zero.cells) z' then z0b (z7W (fun i => some (i * z', z')) [(0, .nilptr), (1, .ptr z 0)] (z0M zero.cells 2)) (z0N H 32 2 2) else none
  else none) = _
 rw [sz32, w6A]
 show z0N H 32 2 2 [.nilptr, .ptr z 0] = _
 unfold z0N
 rw [z1H]; rfl
theorem ndNn (c : Bool) : binA Tryz.tab .neq 49 c .nilptr .nilptr = some (.bool false) := by cases c <;> kernel_rfl
theorem bgNn (c : Bool) : binA Tryz.tab .neq 38 c .nilptr .nilptr = some (.bool false) := by cases c <;> kernel_rfl
theorem cnEq (c : Bool) : binA Tryz.tab .neq 57 c (.agg [.int .i64 0, .int .i64 0, .int .i64 0, .int .i64 0, .int .i64 0]) (.agg [.int .i64 0, .int .i64 0, .int .i64 0, .int .i64 0, .int .i64 0]) = some (.bool false) := by cases c <;> kernel_rfl
theorem w6C (k n m : Int) (key fr to nm : List UInt8) (r d : Int) (st : AV) (l : List StepN) (H : Heap) (hN : Neat H) (hs : q6A H st l)
  (hW : ∀ h, Grows H h → Neat h → CallTo Tryz.prog Tryz.tab 5 [] h [(.bool true, h)]) :
  CallTo Tryz.prog Tryz.tab 3 [.agg (opL k n m key fr to nm r d st)] H [(.bool true, H)] := by
 refine z0Q Tryz.tabOk Tryz.func3 rfl rfl ?_
 show Gets Tryz.prog Tryz.tab ⟨none, 116⟩ _ _ _
 repeat refine Gets.seq ?_
 have k1 := hs.one
 have hone := w6y (k := k) (n := n) (m := m) (key := key) (fr := fr) (to := to) (nm := nm) (r := r) (d := d) k1
 have hcl : (opL k n m key fr to nm r d st).length = 10 := rfl
 have t10 : ∀ e x, Sx.cellsIn (some (.cells e x (opL k n m key fr to nm r d st))) 0 10 = some (opL k n m key fr to nm r d st) := fun _ _ => rfl
 have hbs : ∀ H : Heap, z1c Tryz.tab H 30 1 [(0, .agg (opL k n m key fr to nm r d st))] = some (.slice H.next 0 1 false 1, H.push (.cells 28 true (opL k n m key fr to nm r d st))) := fun H => v2o hcl hone
 refine g1_ hone ?_
 refine Gets.ofH (fun h => h.blks.get H.next = some (.cells 28 true (opL k n m key fr to nm r d st)) ∧ Grows H h ∧ Neat h) ⟨fo_, .push _ _, hN.push _⟩ ?_
 rintro h ⟨a0, ag, aN⟩
 obtain ⟨q, K, q1, bg, bN⟩ := j6P k n m key fr to nm r d st l h.next (h.push (.cells 28 true (opL k n m key fr to nm r d st))) (aN.push _) (z0F _ _) (hs.grow hN (ag.trans (.push _ _)))
 have kg : Grows H K := (ag.trans (.push _ _)).trans bg
 have a0K : K.blks.get H.next = some (.cells 28 true (opL k n m key fr to nm r d st)) := by
  have hlt : H.next < h.next := aN _ _ a0
  rw [bg.get _ (by rw [z0x]; omega), z0R _ _ (by omega)]; exact a0
 refine o1_ (z1x z0T q1) (y5_ @z1I a0 (z3G ia28 sz28) t10 hbs) ?_
 clear q1 bg a0
 cases q with
 | false =>
  refine cT_ ?_
  have qW := hW K kg bN
  refine o1_ (z1x z0T qW) @z1I ?_
  refine Gets.ret Tryz.tabOk ?_
  exact z1S rfl (sr_ Tryz.f3.eq_1) kg hN trivial
 | true =>
  refine cFs_ ?_
  refine g0_ ?_
  have hzc : z0Y zcL = true := rfl
  refine g1_ (y3_ k2Y hzc w6B) ?_
  refine Gets.ofS (fun tm h => tm.get 1 = some (.ptr H.next 0) ∧ tm.get 4 = some (.slice (K.next + 1) 0 2 false 2) ∧ h.blks.get H.next = some (.cells 28 true (opL k n m key fr to nm r d st)) ∧ h.blks.get K.next = some (.cells 47 true zcL) ∧ h.blks.get (K.next + 1) = some (.cells 32 true [.nilptr, .ptr K.next 0]) ∧ Grows H h ∧ Neat h)
   ⟨sx0_, sf1_ @z0x, by have := bN _ _ a0K; ((try simp (disch := first | assumption | omega | (try simp only [z1l, z0h]) <;> omega | fail) only [foL]); (try rfl)); exact a0K, fo_, fo_, ⟨by have := kg.next; ((try dsimp only); (try simp only [z0x, z0h]); omega), fun b hb => by have := kg.next; ((try simp (disch := first | assumption | omega | (try simp only [z1l, z0h]) <;> omega | fail) only [foL]); (try rfl)); exact kg.get b hb⟩, (by repeat' (first | exact hN | exact aN | exact bN | (refine Neat.push ?_ _) | (refine Neat.put ?_ (by ((try dsimp only); (try simp only [z0x, z0h]); omega)) _)))⟩ ?_
  clear a0K kg
  rintro tm h1 ⟨i1, i4, a0, az, al, ag1, aN1⟩
  generalize K.next = z at i4 az al
  refine g0_ ?_
  refine Gets.uptoH 2 (fun i tm h => tm.get 1 = some (.ptr H.next 0) ∧ tm.get 4 = some (.slice (z + 1) 0 2 false 2) ∧ tm.get 5 = some (.int .i64 (i : Int)) ∧ h.blks.get H.next = some (.cells 28 true (opL k n m key fr to nm r d st)) ∧ h.blks.get z = some (.cells 47 true zcL) ∧ h.blks.get (z + 1) = some (.cells 32 true [.nilptr, .ptr z 0]) ∧ Grows H h ∧ Neat h)
   ⟨sx1_ i1, sx1_ i4, sx0_, a0, az, al, ag1, aN1⟩ ?_
  clear i1 i4 a0 az al ag1 aN1
  clear tm
  rintro i tm h2 hi ⟨i1, i4, i5, a0, az, al, ag2, aN2⟩
  repeat refine Gets.seq ?_
  by_cases hlt : i < 2
  ·obtain ⟨c, hcl, hz⟩ : ∃ c, z0H (h2.blks.get (z + 1)) (i * 1) = some c ∧ ZcAt h2 c := by
    rcases (by omega : i = 0 ∨ i = 1) with rfl | rfl
    ·exact ⟨.nilptr, by rw [al]; rfl, .inl rfl⟩
    ·exact ⟨.ptr z 0, by rw [al]; rfl, .inr ⟨z, rfl, az⟩⟩
   have hlt' : (i : Int) < 2 := by omega
   have v5 : z4Y .i64 ((i : Int) + 1) = (i : Int) + 1 := j2r (by omega) (by omega)
   refine g1_ (y4_ i4 i5 (z2t ud48) hlt') ?_
   refine cTb_ ?_
   have hidx : z1K Tryz.tab 48 (.slice (z + 1) 0 2 false 2) (.int .i64 (i : Int)) = some (.ptr (z + 1) (0 + i * 1)) := by
    rw [z3Q ud48 sz32, if_pos ⟨by omega, by omega⟩]; simp
   have hcl' : z0H (h2.blks.get (z + 1)) (0 + i * 1) = some c := by rw [Nat.zero_add]; exact hcl
   refine g1_ (y6_ i4 i5 hidx hcl hcl' (z0D ia32)) ?_
   have bN := aN2
   have r1 := k2V c n h2 aN2 hz
   have r2 := w6q c n h2 aN2 hz
   have r3 := j6M c key h2 aN2 hz
   refine o1_ (z1x z0T r1) (y5_ @z1I i1 a0 @j6V (z0D ia3)) ?_
   refine o1_ (z1x z0T r2) (y5_ @z1I i1 a0 @j6V (z0D ia3)) ?_
   refine o1_ (z1x z0T r3) (y8_ @z1I i1 a0 @q3a (z0D ia9) @j7L t_c5 (y3_ t_r5 @stL @sz57)) ?_
   refine Gets.ofS (fun tm h => tm.get 1 = some (.ptr H.next 0) ∧ tm.get 4 = some (.slice (z + 1) 0 2 false 2) ∧ tm.get 5 = some (.int .i64 (i : Int)) ∧ tm.get 6 = some c ∧ tm.get 7 = some .nilptr ∧ tm.get 8 = some (.int .i64 1) ∧ tm.get 9 = some .nilslice ∧ tm.get 10 = some (.int .i64 1) ∧ tm.get 11 = some (.ptr h2.next 0) ∧ tm.get 12 = some (.int .i64 0) ∧ tm.get 13 = some (.int .i64 1) ∧
     h.blks.get h2.next = some (.cells 57 true [.int .i64 0, .int .i64 0, .int .i64 0, .int .i64 0, .int .i64 0]) ∧ Grows h2 h ∧ Neat h)
    ⟨sx1_ i1, sx1_ i4, sx1_ i5, sx0_, sx0_, sx0_, sx0_, sx0_, sx0_, sx0_, sx0_, fo_, ⟨fl_, fun b hb => fo_⟩, (by repeat' (first | exact hN | exact aN | exact bN | (refine Neat.push ?_ _) | (refine Neat.put ?_ (by ((try dsimp only); (try simp only [z0x, z0h]); omega)) _)))⟩ ?_
   clear i1 i4 i5
   clear tm
   rintro tm h3 ⟨i1, i4, i5, i6, i7, i8, i9, i10, i11, i12, i13, ac, ag3, aN3⟩
   have hz3 := hz.grow aN2 ag3
   have a03 : h3.blks.get H.next = some (.cells 28 true (opL k n m key fr to nm r d st)) := by rw [ag3.get _ (aN2 _ _ a0)]; exact a0
   have p1 := v2n c k n m key fr to nm r d st h3 aN3 hz3 k1
   have p2 := j3D c h3 aN3 hz3
   have p3 := q9n c h3 aN3 hz3
   have p4 := w6r c h3 aN3 hz3
   have p5 := j6N c h3 aN3 hz3
   have p6 := k2W c h3 aN3 hz3
   refine o1_ (z1x (z1x (z1x (z1x (z1x (z1x z0T p1) p2) p3) p4) p5) p6) (y8_ @z1I @q4f i1 i6 i7 i8 i9 (y8_ i10 i11 i12 i13 ac a03 (z3G ia28 sz28) (y8_ (z3G ia57 sz57) t10 @j3C @j3B cnEq ndNn bgNn (y4_ @pNn (z5G ud53) (z5G ud61) (z5G ud43))))) ?_
   refine cFk_ ?_
   refine g1_ (y2_ i5 v5) ?_
   exact ⟨_, _, rfl, by omega, sx1_ i1, sx1_ i4, sx1_ @q6b, a03, by rw [ag3.get _ (aN2 _ _ az)]; exact az, by rw [ag3.get _ (aN2 _ _ al)]; exact al, ag2.trans ag3, aN3⟩
  ·have h9 : i = 2 := by omega
   subst h9
   refine g1_ (y3_ i4 i5 (z2t ud48)) ?_
   refine cFx_ ?_
   have qW := hW h2 ag2 aN2
   refine o1_ (z1x z0T qW) @z1I ?_
   refine Gets.ret Tryz.tabOk ?_
   exact z1S rfl (sr_ Tryz.f3.eq_1) ag2 hN trivial
end Go.Proofs
