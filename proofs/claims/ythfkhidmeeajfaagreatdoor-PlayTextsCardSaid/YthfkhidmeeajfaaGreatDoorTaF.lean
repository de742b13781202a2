/-
  The law's own code; the start and the arguments.
-/
import Derived.Test.YthfkhidmeeajfaaGreatDoorNtA
import Derived.Test.YthfkhidmeeajfaaGreatDoorTaC
import Derived.Test.YthfkhidmeeajfaaGreatDoorTaE
import Derived.Test.YthfkhidmeeajfaaGreatDoorPwA
import Derived.Test.YthfkhidmeeajfaaGreatDoorSxF
import Derived.Test.YthfkhidmeeajfaaGreatDoorSxH
import Derived.Test.YthfkhidmeeajfaaGreatDoorSxI
import Derived.ProofKit
import Derived.Lay
import Derived.LaidOnce
import Derived.SevenTiedAt
import Derived.Carry
set_option linter.unusedSimpArgs false
set_option linter.unusedVariables false
namespace Go.Proofs
open Go.Sx
set_option maxRecDepth 100000
set_option maxHeartbeats 1000000
set_option linter.defProp false
def k8U := y7_ @z0y @q2A @z7s @q5e (z0f ia36 sz36) (z0b ia9) (z0S ud9)
theorem k8V (v : AV) (l : List EvN) (H : Heap) (hN : Neat H) (hP : PowAt H) (hv : EvsAt H v l) (hr : ∀ x ∈ l, In64 x.r.err ∧ In64 x.r.num) (hw : CallTo Tryz.prog Tryz.tab 5 [] H [(.bool true, H)]) :
  CallTo Tryz.prog Tryz.tab 3 [v] H [(.bool true, H)] := by
 refine z0A Tryz.tabOk Tryz.func3 rfl rfl ?_
 show Gets Tryz.prog Tryz.tab ⟨none, 57⟩ _ _ _
 repeat refine Gets.seq ?_
 have hvo : z0P v = true := hv.1.one
 have hln : ∀ h, lenA Tryz.tab h 22 v = some (.int .i64 (l.length : Int)) := hv.1.len
 refine g0_ ?_
 by_cases hlong : 60 < (l.length : Int)
 ·refine g1_ (y2_ hln hlong) ?_
  refine cT_ ?_
  refine o1_ (z0e z0c hw) @z0y ?_
  refine Gets.ret Tryz.tabOk ?_
  exact z0v rfl (sr_ Tryz.f3.eq_1) (.refl _) hN trivial
 refine g1_ (y2_ hln hlong) ?_
 refine cFs_ ?_
 refine g0_ ?_
 refine Gets.upto l.length (fun i tm => tm.get 0 = some v ∧ tm.get 3 = some (vi (i : Int)) ∧ ∀ (j : Nat) (x : EvN), j < i → l[j]? = some x → EvSm x)
  ⟨sx0_, sx0_, fun j x hj => absurd hj (Nat.not_lt_zero _)⟩ ?_
 rintro i tm hi ⟨i0, i3, hok⟩
 repeat refine Gets.seq ?_
 by_cases hlt : (i : Int) < (l.length : Int)
 ·obtain ⟨x, hx⟩ : ∃ x, l[i]? = some x := ⟨_, List.getElem?_eq_getElem (by omega)⟩
  have hxm := List.mem_of_getElem? hx
  obtain ⟨rb, hidx, hcl, hcs⟩ := hv.1.row hx
  have hc2 : Sx.cellsIn (H.blks.get rb) (i * 29 + 2) 24 = some x.c.cells := hcs 2 24 (by omega)
  have hc28 : z1g (H.blks.get rb) (i * 29 + 26 + 2) = some (.str x.r.data) := hcl 28 (by omega)
  have v5 : z1V .i64 ((i : Int) + 1) = (i : Int) + 1 := z2C (by omega) (by omega)
  have q := j9R x.c H hN (hv.2 x hxm)
  refine g1_ (y4_ i0 i3 hln hlt) ?_
  refine cTb_ ?_
  cases hs : q6R x.c with
  | false =>
   rw [hs] at q
   refine o1_ (z0e z0c q) (y8_ @z0y i0 i3 hidx hc2 @q2A (z0f ia36 sz36) @z0N) ?_
   refine cT_ ?_
   refine o1_ (z0e z0c hw) @z0y ?_
   refine Gets.ret Tryz.tabOk ?_
   exact z0v rfl (sr_ Tryz.f3.eq_1) (.refl _) hN trivial
  | true =>
   rw [hs] at q
   by_cases hd : 2000 < (x.r.data.length : Int)
   ·refine o1_ (z0e z0c q) (y7_ k8U i0 i3 hidx hc2 hc28 hd) ?_
    refine cT_ ?_
    refine o1_ (z0e z0c hw) @z0y ?_
    refine Gets.ret Tryz.tabOk ?_
    exact z0v rfl (sr_ Tryz.f3.eq_1) (.refl _) hN trivial
   ·refine o1_ (z0e z0c q) (y7_ k8U i0 i3 hidx hc2 hc28 hd) ?_
    refine cFk_ ?_
    refine g1_ (y2_ i3 v5) ?_
    exact ⟨_, rfl, by omega, sx1_ i0, sx1_ @z2l, fun j y hj hy => by
     by_cases e : j = i
     ·subst e
      rw [hx] at hy
      cases hy
      exact ⟨j9P hs, (hr x hxm).1, (hr x hxm).2, by omega⟩
     ·exact hok j y (by omega) hy⟩
 ·have h9 : i = l.length := by omega
  subst h9
  have hall : ∀ x ∈ l, EvSm x := fun x hx => by
   obtain ⟨j, hj, rfl⟩ := List.getElem_of_mem hx
   exact hok j _ hj (List.getElem?_eq_getElem hj)
  have q1 := j9N v l H hN hP hv hall (by omega)
  have q2 := k0h v l H hN hv hall (by omega)
  generalize q4P l = te at q1 q2
  have e1 : sbeq te.1 te.1 = true := by rw [z3f]; simp
  refine g1_ (y4_ i0 i3 hln hlt) ?_
  refine cFx_ ?_
  refine o1_ (z0e z0c q1) (y2_ @z0y i0) ?_
  refine o1_ (z0e z0c q2) (y2_ @z0y i0) ?_
  refine o1b_ (z0e z0c hw) (y3_ @z0y e1 @eq_self.{1}) ?_
  refine Gets.ret Tryz.tabOk ?_
  exact z0v rfl (sr_ Tryz.f3.eq_1) (.refl _) hN trivial
end Go.Proofs
namespace Go.Proofs
open Go.ChangeShapes Go.WideShapes Go.ChangeAt Go.RowKit Go.Sx
set_option maxRecDepth 100000
abbrev q2c : ABlk := .big 825 16 (crcFours.map fun x => AV.int .u32 x)
abbrev k1d : ABlk := .fix 235 (Lib.pow10Tab.map fun x => AV.int .u64 x)
noncomputable def gH2 : Heap := ⟨10, (T.e.set 9 (some q2c)).set 0 (some k1d)⟩
theorem k8W : Tryz.prog.globalNamed "skald/crc.fours" = some 9 := by kernel_rfl
theorem k8X : (Tryz.prog.globals[9]?).map (·.type) = some 825 := by kernel_rfl
theorem k8Y : Tryz.prog.underlying 825 = some (.array 16 236) := by kernel_rfl
theorem cU32 : Tryz.prog.cellsOf 236 = 1 := by kernel_rfl
theorem uU32 : Tryz.prog.underlying 236 = some (.int .u32) := by kernel_rfl
theorem tPow : (Tryz.prog.globals[0]?).map (·.type) = some 235 := by kernel_rfl
theorem uPow : Tryz.prog.underlying 235 = some (.array Lib.pow10Tab.length 114) := by kernel_rfl
theorem cU64 : Tryz.prog.cellsOf 114 = 1 := by kernel_rfl
theorem uU64 : Tryz.prog.underlying 114 = some (.int .u64) := by kernel_rfl
theorem cPow : Tryz.prog.cellsOf 235 = Lib.pow10Tab.length := by kernel_rfl
theorem k4H : Nat.ble Tryz.tab.nglob 10 = true := by kernel_rfl
theorem k0i (x : Nat) (o : ABlk) (h : gH2.blks.get x = some o) : (x = 0 ∧ o = k1d) ∨ (x = 9 ∧ o = q2c) := by
 unfold gH2 at h
 simp only at h
 rw [T.get_set] at h
 split at h
 ·rename_i h0
  exact .inl ⟨h0, (Option.some.inj h).symm⟩
 ·rw [T.get_set] at h
  split at h
  ·rename_i h0
   exact .inr ⟨h0, (Option.some.inj h).symm⟩
  ·simp [T.get_e] at h
theorem k8Z : PowAt gH2 := by
 unfold PowAt gH2
 simp only
 rw [T.get_set, if_pos rfl]
theorem k4I : gH2.blks.get 9 = some q2c := by
 unfold gH2
 simp only
 rw [T.get_set, if_neg (by omega), T.get_set, if_pos rfl]
theorem w4H {l : List (String × DataW Unit)} {W : World} (hm : ("skald/crc.fours", DataW.agg (crcFours.map fun x => .lit (.int .u32 x))) ∈ l) (hp : ("internal/strconv.uint64pow10", DataW.agg (Lib.pow10Tab.map fun x => .lit (.int .u64 x))) ∈ l) (hL : laidMet Tryz.prog l W) : ∃ ρ, Base Tryz.tab W ρ gH2 := by
 obtain ⟨arr, el, h1, h2, h3⟩ := q5X (k := .u32) (xs := crcFours) hL (n := "skald/crc.fours") hm k8W k8X k8Y cU32 uU32 (by simp [crcFours])
 obtain ⟨el2, k1⟩ := j1J (k := .u64) (xs := Lib.pow10Tab) hL (n := "internal/strconv.uint64pow10") hp gPow tPow uPow cU64 uU64 (by simp [Lib.pow10Tab]) cPow
 have hR := j1K (G := Tryz.tab) (H := gH2) (W := W) (z2n k4H) (fun x o ho => by
  rcases k0i x o ho with ⟨rfl, _⟩ | ⟨rfl, _⟩ <;> (show _ < 10; omega)) (fun x o ho => by
  rcases k0i x o ho with ⟨rfl, rfl⟩ | ⟨rfl, rfl⟩
  ·exact .inr ⟨_, _, Lib.pow10Tab, _, rfl, k1⟩
  ·exact .inl ⟨_, _, crcFours, _, _, rfl, h1, h2, h3⟩)
 refine ⟨_, hR, fun x o ho => ?_, fun x o ho => ?_, rfl, rfl⟩
 ·rcases k0i x o ho with ⟨rfl, _⟩ | ⟨rfl, _⟩ <;> (show _ < 10; omega)
 ·rcases k0i x o ho with ⟨_, rfl⟩ | ⟨_, rfl⟩ <;> trivial
theorem k0j (h : Heap) (hG : h.blks.get 9 = some q2c) : CallTo Tryz.prog Tryz.tab 5 [] h [(.bool true, h)] := by
 have gGet : ∀ x o, gH0.blks.get x = some o → x = 9 ∧ o = q2c := fun x o h => by
  unfold gH0 at h
  simp only at h
  rw [T.get_set] at h
  split at h
  ·rename_i h0
   exact ⟨h0, (Option.some.inj h).symm⟩
  ·simp [T.get_e] at h
 exact CallTo.embed j2w rfl (by kernel_rfl) (z2n k4H) (fun b o ho => by
  obtain ⟨rfl, rfl⟩ := gGet b o ho
  exact ⟨by show 9 < 10; omega, by show ltL _ (crcFours.map fun x => AV.int .u32 x); simp [crcFours, ltL, ltV]⟩) trivial (fun b o ho => by
  obtain ⟨rfl, rfl⟩ := gGet b o ho
  exact hG)
end Go.Proofs
namespace Go.Proofs
open Go.ChangeShapes Go.WideShapes Go.ChangeAt Go.RowKit Go.Sx
set_option maxRecDepth 100000
theorem j2p {W : World} {ρ : Env} {H : Heap} {f : FuncId} {args : List AV} (hB : Base Tryz.tab W ρ H) (ha : okL ρ (fun b => b < H.next) args) {H' : Heap} (h : CallTo Tryz.prog Tryz.tab f args H [(.bool true, H')]) :
  Calls Tryz.prog f (concL ρ args).toArray W fun e w' => e = .returned (.bool true) ∧ Below W.heap.size W w' := by
 refine (h.calls hB.rel ha).mono fun e w' ⟨p, hp, ρ', D', he, hR, hE⟩ => ?_
 rw [List.mem_singleton.1 hp] at he hR
 refine ⟨he, j7Z (fun i o hi => ?_) ?_⟩
 ·exact (hR.rest i o (by rw [hE.sub.rest, hB.rest]; exact hi)).1
 ·have := hR.kin
  rw [hE.sub.orig, hB.orig] at this; exact this
theorem un3 : Tryz.prog.underlying 3 = some (.int .i64) := by kernel_rfl
theorem un2 : Tryz.prog.underlying 2 = some (.int .i64) := by kernel_rfl
theorem un4 : Tryz.prog.underlying 4 = some .bool := by kernel_rfl
theorem un9 : Tryz.prog.underlying 9 = some .string := by kernel_rfl
theorem un34 : Tryz.prog.underlying 34 = some (.int .i64) := by kernel_rfl
theorem un29 : Tryz.prog.underlying 29 = some (.slice 97) := by kernel_rfl
theorem un22 : Tryz.prog.underlying 22 = some (.slice 40) := by kernel_rfl
theorem ce97 : Tryz.prog.cellsOf 97 = 2 := by kernel_rfl
theorem ce40 : Tryz.prog.cellsOf 40 = 29 := by kernel_rfl
theorem k4J : q2x Tryz.prog 9 97 = some [9, 2] := by kernel_rfl
theorem k4K : q2x Tryz.prog 9 40 = some [3, 4, 3, 3, 3, 3, 3, 3, 9, 2, 3, 9, 9, 3, 9, 3, 3, 29, 3, 3, 3, 3, 4, 3, 34, 9, 34, 2, 9] := by kernel_rfl
section
variable {H₀ : Type} {enc : TypeId × Value → H₀} {W : World} {base : Nat} {sp : Nat → Bool} {held : Bool}
theorem z3d {u : TypeId} {c : Value} (hu : Tryz.prog.underlying u = some (.int .i64)) (h : ∃ m y, DataW.trod enc Tryz.prog W base sp held m u [c] = some y) : ∃ n, c = .int .i64 n ∧ In64 n := by
 obtain ⟨m, y, h⟩ := h
 obtain ⟨n, e, _, e3⟩ := DataW.trod_int hu h
 simp [Lit.wf, IntKind.min, IntKind.max, IntKind.signed, IntKind.bits] at e3
 exact ⟨n, by simpa using e, by omega, by omega⟩
theorem q2d {u : TypeId} {c : Value} (hu : Tryz.prog.underlying u = some .string) (h : ∃ m y, DataW.trod enc Tryz.prog W base sp held m u [c] = some y) : ∃ l : List UInt8, c = .string ⟨l.toArray⟩ := by
 obtain ⟨m, y, h⟩ := h
 obtain ⟨s, e, _⟩ := DataW.trod_string hu h
 refine ⟨s.data.toList, ?_⟩
 simp only [List.cons.injEq, and_true] at e
 rw [e]
theorem j6Q {u : TypeId} {c : Value} (hu : Tryz.prog.underlying u = some .bool) (h : ∃ m y, DataW.trod enc Tryz.prog W base sp held m u [c] = some y) : ∃ b, c = .bool b := by
 obtain ⟨m, y, h⟩ := h
 obtain ⟨b, e, _⟩ := DataW.trod_bool hu h
 exact ⟨b, by simpa using e⟩
theorem j2q {ρ : Env} {H : Heap} (hB : Base Tryz.tab W ρ H) (hg : Tryz.tab.nglob ≤ H.next) {n : Nat} {cs : List Value} {x : DataW H₀ × List MemPlace} (h : DataW.trod enc Tryz.prog W base sp held n 29 cs = some x) :
  ∃ ρ' H' av l, Base Tryz.tab W ρ' H' ∧ More ρ H ρ' H' ∧ concL ρ' [av] = cs ∧ okV ρ' (fun b => b < H'.next) av ∧ q4O H' av l := by
 obtain ⟨ρ', H', av, l, h1, h2, h3, h4, h5, _⟩ := q9S (α := StepN) (f := StepN.cells) (k := 2) (fun _ => rfl) (by omega) (R := fun _ _ => True) (fun _ _ _ _ _ _ => trivial)
  (fun ρ H hB hg n cs x hx => by
   have hf := q6r 9 97 _ k4J n cs x hx
   obtain ⟨c0, cs, rfl, f0, hf⟩ := Fit.cons hf
   obtain ⟨c1, cs, rfl, f1, hf⟩ := Fit.cons hf
   obtain rfl := Fit.nil hf
   obtain ⟨x0, rfl⟩ := q2d un9 f0
   obtain ⟨x1, rfl, _⟩ := z3d un2 f1
   exact ⟨ρ, H, ⟨x0, x1⟩, hB, .refl _ _, trivial, ⟨trivial, trivial, trivial⟩, rfl⟩) un29 ce97 h hB hg
 exact ⟨ρ', H', av, l, h1, h2, h3, h4, h5⟩
theorem k0k {ρ : Env} {H : Heap} (hB : Base Tryz.tab W ρ H) (hg : Tryz.tab.nglob ≤ H.next) {n : Nat} {cs : List Value} {x : DataW H₀ × List MemPlace} (h : DataW.trod enc Tryz.prog W base sp held n 22 cs = some x) :
  ∃ ρ' H' av l, Base Tryz.tab W ρ' H' ∧ More ρ H ρ' H' ∧ concL ρ' [av] = cs ∧ okV ρ' (fun b => b < H'.next) av ∧ RowsAt 40 29 EvN.cells H' av l ∧ (∀ x ∈ l, z1n H' x.c.d) ∧ ∀ x ∈ l, In64 x.r.err ∧ In64 x.r.num := by
 obtain ⟨ρ', H', av, l, h1, h2, h3, h4, h5, h6⟩ := q9S (α := EvN) (f := EvN.cells) (k := 29) j6A (by omega) (R := fun H x => z1n H x.c.d ∧ In64 x.r.err ∧ In64 x.r.num) (fun _ _ _ h hN hg => ⟨h.1.grow hN hg, h.2⟩)
  (fun ρ H hB hg n cs x hx => by
   have hf := q6r 9 40 _ k4K n cs x hx
   obtain ⟨c0, cs, rfl, f0, hf⟩ := Fit.cons hf
   obtain ⟨c1, cs, rfl, f1, hf⟩ := Fit.cons hf
   obtain ⟨c2, cs, rfl, f2, hf⟩ := Fit.cons hf
   obtain ⟨c3, cs, rfl, f3, hf⟩ := Fit.cons hf
   obtain ⟨c4, cs, rfl, f4, hf⟩ := Fit.cons hf
   obtain ⟨c5, cs, rfl, f5, hf⟩ := Fit.cons hf
   obtain ⟨c6, cs, rfl, f6, hf⟩ := Fit.cons hf
   obtain ⟨c7, cs, rfl, f7, hf⟩ := Fit.cons hf
   obtain ⟨c8, cs, rfl, f8, hf⟩ := Fit.cons hf
   obtain ⟨c9, cs, rfl, f9, hf⟩ := Fit.cons hf
   obtain ⟨c10, cs, rfl, f10, hf⟩ := Fit.cons hf
   obtain ⟨c11, cs, rfl, f11, hf⟩ := Fit.cons hf
   obtain ⟨c12, cs, rfl, f12, hf⟩ := Fit.cons hf
   obtain ⟨c13, cs, rfl, f13, hf⟩ := Fit.cons hf
   obtain ⟨c14, cs, rfl, f14, hf⟩ := Fit.cons hf
   obtain ⟨c15, cs, rfl, f15, hf⟩ := Fit.cons hf
   obtain ⟨c16, cs, rfl, f16, hf⟩ := Fit.cons hf
   obtain ⟨c17, cs, rfl, f17, hf⟩ := Fit.cons hf
   obtain ⟨c18, cs, rfl, f18, hf⟩ := Fit.cons hf
   obtain ⟨c19, cs, rfl, f19, hf⟩ := Fit.cons hf
   obtain ⟨c20, cs, rfl, f20, hf⟩ := Fit.cons hf
   obtain ⟨c21, cs, rfl, f21, hf⟩ := Fit.cons hf
   obtain ⟨c22, cs, rfl, f22, hf⟩ := Fit.cons hf
   obtain ⟨c23, cs, rfl, f23, hf⟩ := Fit.cons hf
   obtain ⟨c24, cs, rfl, f24, hf⟩ := Fit.cons hf
   obtain ⟨c25, cs, rfl, f25, hf⟩ := Fit.cons hf
   obtain ⟨c26, cs, rfl, f26, hf⟩ := Fit.cons hf
   obtain ⟨c27, cs, rfl, f27, hf⟩ := Fit.cons hf
   obtain ⟨c28, cs, rfl, f28, hf⟩ := Fit.cons hf
   obtain rfl := Fit.nil hf
   obtain ⟨x0, rfl, _⟩ := z3d un3 f0
   obtain ⟨x1, rfl⟩ := j6Q un4 f1
   obtain ⟨x2, rfl, _⟩ := z3d un3 f2
   obtain ⟨x3, rfl, _⟩ := z3d un3 f3
   obtain ⟨x4, rfl, _⟩ := z3d un3 f4
   obtain ⟨x5, rfl, _⟩ := z3d un3 f5
   obtain ⟨x6, rfl, _⟩ := z3d un3 f6
   obtain ⟨x7, rfl, _⟩ := z3d un3 f7
   obtain ⟨x8, rfl⟩ := q2d un9 f8
   obtain ⟨x9, rfl, _⟩ := z3d un2 f9
   obtain ⟨x10, rfl, _⟩ := z3d un3 f10
   obtain ⟨x11, rfl⟩ := q2d un9 f11
   obtain ⟨x12, rfl⟩ := q2d un9 f12
   obtain ⟨x13, rfl, _⟩ := z3d un3 f13
   obtain ⟨x14, rfl⟩ := q2d un9 f14
   obtain ⟨x15, rfl, _⟩ := z3d un3 f15
   obtain ⟨x16, rfl, _⟩ := z3d un3 f16
   obtain ⟨x18, rfl, _⟩ := z3d un3 f18
   obtain ⟨x19, rfl, _⟩ := z3d un3 f19
   obtain ⟨x20, rfl, _⟩ := z3d un3 f20
   obtain ⟨x21, rfl, _⟩ := z3d un3 f21
   obtain ⟨x22, rfl⟩ := j6Q un4 f22
   obtain ⟨x23, rfl, _⟩ := z3d un3 f23
   obtain ⟨x24, rfl, _⟩ := z3d un34 f24
   obtain ⟨x25, rfl⟩ := q2d un9 f25
   obtain ⟨x26, rfl, i26⟩ := z3d un34 f26
   obtain ⟨x27, rfl, i27⟩ := z3d un2 f27
   obtain ⟨x28, rfl⟩ := q2d un9 f28
   obtain ⟨n17, y17, f17⟩ := f17
   obtain ⟨ρ1, H1, av, ss, B1, M1, e1, o1, k1⟩ := j2q hB hg f17
   obtain rfl : conc ρ1 av = c17 := by simpa [concL] using e1
   exact ⟨ρ1, H1, ⟨x0, x1, ⟨x2, x3, x4, ⟨x5, x6, x7⟩, x8, x9, x10, x11, x12, x13, ⟨x14, x15, x16, av, ss⟩, ⟨⟨x18, x19, x20⟩, x21, x22, x23⟩, x24, x25⟩, ⟨x26, x27, x28⟩⟩, B1, M1, ⟨k1, i26, i27⟩,
    ⟨trivial, trivial, trivial, trivial, trivial, trivial, trivial, trivial, trivial, trivial, trivial, trivial, trivial, trivial, trivial, trivial, trivial, o1, trivial, trivial, trivial, trivial, trivial, trivial, trivial, trivial, trivial, trivial, trivial, trivial⟩, rfl⟩) un22 ce40 h hB hg
 exact ⟨ρ', H', av, l, h1, h2, h3, h4, h5, fun x hx => (h6 x hx).1, fun x hx => (h6 x hx).2⟩
end
theorem q8L {w : World} {r : Reach} {b : Nat} {t e : TypeId} {v : Value} (hu : Tryz.prog.underlying t = some (.slice e)) (h : Value.okWide Tryz.prog w r b t v) : v.cells = #[v] := by
 cases v <;> first | rfl | (exfalso; simp [Value.okWide, Cell.okWide, Cell.ok, hu] at h)
end Go.Proofs
namespace Go.Proofs
open Go.ChangeShapes Go.WideShapes Go.ChangeAt Go.RowKit Go.Sx
set_option maxRecDepth 100000
theorem k9a {W : World} {ρ : Env} (hB : Base Tryz.tab W ρ gH2) {H₀ : Type} {enc : TypeId × Value → H₀} {base : Nat} {sp : Nat → Bool} {held : Bool} {v0 : Value} (c0 : v0.cells = #[v0]) {n : Nat} {x : DataW H₀ × List MemPlace}
  (h0 : DataW.trod enc Tryz.prog W base sp held n 22 v0.cells.toList = some x) : Calls Tryz.prog 3 #[v0] W fun e w' => e = .returned (.bool true) ∧ Below W.heap.size W w' := by
 obtain ⟨ρ1, H1, a0, l, B1, M1, e0, k0, L1, D1, R1⟩ := k0k hB (z2n k4H) h0
 rw [c0] at e0
 have e0 : conc ρ1 a0 = v0 := by simpa [concL] using e0
 have := j2p B1 (args := [a0]) ⟨k0, trivial⟩ (k8V a0 l H1 B1.neat (k8Z.grow hB.neat M1.grows) ⟨.inl L1, D1⟩ R1 (k0j H1 (by rw [M1.grows.get 9 (by show 9 < 10; omega)]; exact k4I)))
 simpa only [concL, e0] using this
end Go.Proofs
