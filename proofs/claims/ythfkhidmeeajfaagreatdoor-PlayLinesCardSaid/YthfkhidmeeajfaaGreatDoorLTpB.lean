/-
  The start and the arguments.
-/
import Derived.Test.YthfkhidmeeajfaaGreatDoorLNtA
import Derived.Test.YthfkhidmeeajfaaGreatDoorLTaC
import Derived.Test.YthfkhidmeeajfaaGreatDoorLPwA
import Derived.Test.YthfkhidmeeajfaaGreatDoorLSxF
import Derived.Test.YthfkhidmeeajfaaGreatDoorLSxH
import Derived.Test.YthfkhidmeeajfaaGreatDoorLSxI
import Derived.ProofKit
import Derived.Lay
import Derived.LaidOnce
import Derived.SevenTiedAt
import Derived.Carry
import Derived.Test.YthfkhidmeeajfaaGreatDoorLTpA
set_option linter.unusedSimpArgs false
set_option linter.unusedVariables false
namespace Go.Proofs
open Go.ChangeShapes Go.WideShapes Go.ChangeAt Go.RowKit Go.Sx
set_option maxRecDepth 100000
abbrev q1b : ABlk := .big 825 16 (crcFours.map fun x => AV.int .u32 x)
abbrev j9P : ABlk := .fix 235 (Lib.pow10Tab.map fun x => AV.int .u64 x)
noncomputable def gH2 : Heap := ⟨10, (T.e.set 9 (some q1b)).set 0 (some j9P)⟩
theorem k7l : Tryz.prog.globalNamed "skald/crc.fours" = some 9 := by kernel_rfl
theorem k7m : (Tryz.prog.globals[9]?).map (·.type) = some 825 := by kernel_rfl
theorem k7n : Tryz.prog.underlying 825 = some (.array 16 236) := by kernel_rfl
theorem cU32 : Tryz.prog.cellsOf 236 = 1 := by kernel_rfl
theorem uU32 : Tryz.prog.underlying 236 = some (.int .u32) := by kernel_rfl
theorem tPow : (Tryz.prog.globals[0]?).map (·.type) = some 235 := by kernel_rfl
theorem uPow : Tryz.prog.underlying 235 = some (.array Lib.pow10Tab.length 114) := by kernel_rfl
theorem cU64 : Tryz.prog.cellsOf 114 = 1 := by kernel_rfl
theorem uU64 : Tryz.prog.underlying 114 = some (.int .u64) := by kernel_rfl
theorem cPow : Tryz.prog.cellsOf 235 = Lib.pow10Tab.length := by kernel_rfl
theorem j8W : Nat.ble Tryz.tab.nglob 10 = true := by kernel_rfl
theorem j8X (x : Nat) (o : ABlk) (h : gH2.blks.get x = some o) : (x = 0 ∧ o = j9P) ∨ (x = 9 ∧ o = q1b) := by
 unfold gH2 at h
 simp only at h
 rw [T.get_set] at h
 split at h
 ·rename_i h0
  exact .inl ⟨h0, (Option.some.inj h).symm⟩
 ·rw [T.get_set] at h
  split at h
  ·rename_i h0
   exact .inr ⟨h0, (Option.some.inj h).symm⟩
  ·simp [T.get_e] at h
theorem k7o : PowAt gH2 := by
 unfold PowAt gH2
 simp only
 rw [T.get_set, if_pos rfl]
theorem k3h : gH2.blks.get 9 = some q1b := by
 unfold gH2
 simp only
 rw [T.get_set, if_neg (by omega), T.get_set, if_pos rfl]
theorem w2T {l : List (String × DataW Unit)} {W : World} (hm : ("skald/crc.fours", DataW.agg (crcFours.map fun x => .lit (.int .u32 x))) ∈ l) (hp : ("internal/strconv.uint64pow10", DataW.agg (Lib.pow10Tab.map fun x => .lit (.int .u64 x))) ∈ l) (hL : laidMet Tryz.prog l W) : ∃ ρ, Base Tryz.tab W ρ gH2 := by
 obtain ⟨arr, el, h1, h2, h3⟩ := q4Z (k := .u32) (xs := crcFours) hL (n := "skald/crc.fours") hm k7l k7m k7n cU32 uU32 (by simp [crcFours])
 obtain ⟨el2, k1⟩ := j0M (k := .u64) (xs := Lib.pow10Tab) hL (n := "internal/strconv.uint64pow10") hp gPow tPow uPow cU64 uU64 (by simp [Lib.pow10Tab]) cPow
 have hR := j0N (G := Tryz.tab) (H := gH2) (W := W) (z1J j8W) (fun x o ho => by
  rcases j8X x o ho with ⟨rfl, _⟩ | ⟨rfl, _⟩ <;> (show _ < 10; omega)) (fun x o ho => by
  rcases j8X x o ho with ⟨rfl, rfl⟩ | ⟨rfl, rfl⟩
  ·exact .inr ⟨_, _, Lib.pow10Tab, _, rfl, k1⟩
  ·exact .inl ⟨_, _, crcFours, _, _, rfl, h1, h2, h3⟩)
 refine ⟨_, hR, fun x o ho => ?_, fun x o ho => ?_, rfl, rfl⟩
 ·rcases j8X x o ho with ⟨rfl, _⟩ | ⟨rfl, _⟩ <;> (show _ < 10; omega)
 ·rcases j8X x o ho with ⟨_, rfl⟩ | ⟨_, rfl⟩ <;> trivial
theorem j8Y (h : Heap) (hG : h.blks.get 9 = some q1b) : CallTo Tryz.prog Tryz.tab 5 [] h [(.bool true, h)] := by
 have gGet : ∀ x o, gH0.blks.get x = some o → x = 9 ∧ o = q1b := fun x o h => by
  unfold gH0 at h
  simp only at h
  rw [T.get_set] at h
  split at h
  ·rename_i h0
   exact ⟨h0, (Option.some.inj h).symm⟩
  ·simp [T.get_e] at h
 exact CallTo.embed j1B rfl (by kernel_rfl) (z1J j8W) (fun b o ho => by
  obtain ⟨rfl, rfl⟩ := gGet b o ho
  exact ⟨by show 9 < 10; omega, by show ltL _ (crcFours.map fun x => AV.int .u32 x); simp [crcFours, ltL, ltV]⟩) trivial (fun b o ho => by
  obtain ⟨rfl, rfl⟩ := gGet b o ho
  exact hG)
end Go.Proofs
namespace Go.Proofs
open Go.ChangeShapes Go.WideShapes Go.ChangeAt Go.RowKit Go.Sx
set_option maxRecDepth 100000
theorem j1o {W : World} {ρ : Env} {H : Heap} {f : FuncId} {args : List AV} (hB : Base Tryz.tab W ρ H) (ha : okL ρ (fun b => b < H.next) args) {H' : Heap} (h : CallTo Tryz.prog Tryz.tab f args H [(.bool true, H')]) :
  Calls Tryz.prog f (concL ρ args).toArray W fun e w' => e = .returned (.bool true) ∧ Below W.heap.size W w' := by
 refine (h.calls hB.rel ha).mono fun e w' ⟨p, hp, ρ', D', he, hR, hE⟩ => ?_
 rw [List.mem_singleton.1 hp] at he hR
 refine ⟨he, j7d (fun i o hi => ?_) ?_⟩
 ·exact (hR.rest i o (by rw [hE.sub.rest, hB.rest]; exact hi)).1
 ·have := hR.kin
  rw [hE.sub.orig, hB.orig] at this; exact this
theorem un3 : Tryz.prog.underlying 3 = some (.int .i64) := by kernel_rfl
theorem un2 : Tryz.prog.underlying 2 = some (.int .i64) := by kernel_rfl
theorem un4 : Tryz.prog.underlying 4 = some .bool := by kernel_rfl
theorem un9 : Tryz.prog.underlying 9 = some .string := by kernel_rfl
theorem un34 : Tryz.prog.underlying 34 = some (.int .i64) := by kernel_rfl
theorem un29 : Tryz.prog.underlying 29 = some (.slice 97) := by kernel_rfl
theorem un22 : Tryz.prog.underlying 22 = some (.slice 40) := by kernel_rfl
theorem ce97 : Tryz.prog.cellsOf 97 = 2 := by kernel_rfl
theorem ce40 : Tryz.prog.cellsOf 40 = 29 := by kernel_rfl
theorem k3i : q1x Tryz.prog 9 97 = some [9, 2] := by kernel_rfl
theorem k3j : q1x Tryz.prog 9 40 = some [3, 4, 3, 3, 3, 3, 3, 3, 9, 2, 3, 9, 9, 3, 9, 3, 3, 29, 3, 3, 3, 3, 4, 3, 34, 9, 34, 2, 9] := by kernel_rfl
section
variable {H₀ : Type} {enc : TypeId × Value → H₀} {W : World} {base : Nat} {sp : Nat → Bool} {held : Bool}
theorem z2M {u : TypeId} {c : Value} (hu : Tryz.prog.underlying u = some (.int .i64)) (h : ∃ m y, DataW.trod enc Tryz.prog W base sp held m u [c] = some y) : ∃ n, c = .int .i64 n ∧ In64 n := by
 obtain ⟨m, y, h⟩ := h
 obtain ⟨n, e, _, e3⟩ := DataW.trod_int hu h
 simp [Lit.wf, IntKind.min, IntKind.max, IntKind.signed, IntKind.bits] at e3
 exact ⟨n, by simpa using e, by omega, by omega⟩
theorem q1c {u : TypeId} {c : Value} (hu : Tryz.prog.underlying u = some .string) (h : ∃ m y, DataW.trod enc Tryz.prog W base sp held m u [c] = some y) : ∃ l : List UInt8, c = .string ⟨l.toArray⟩ := by
 obtain ⟨m, y, h⟩ := h
 obtain ⟨s, e, _⟩ := DataW.trod_string hu h
 refine ⟨s.data.toList, ?_⟩
 simp only [List.cons.injEq, and_true] at e
 rw [e]
theorem j5W {u : TypeId} {c : Value} (hu : Tryz.prog.underlying u = some .bool) (h : ∃ m y, DataW.trod enc Tryz.prog W base sp held m u [c] = some y) : ∃ b, c = .bool b := by
 obtain ⟨m, y, h⟩ := h
 obtain ⟨b, e, _⟩ := DataW.trod_bool hu h
 exact ⟨b, by simpa using e⟩
theorem j1p {ρ : Env} {H : Heap} (hB : Base Tryz.tab W ρ H) (hg : Tryz.tab.nglob ≤ H.next) {n : Nat} {cs : List Value} {x : DataW H₀ × List MemPlace} (h : DataW.trod enc Tryz.prog W base sp held n 29 cs = some x) :
  ∃ ρ' H' av l, Base Tryz.tab W ρ' H' ∧ More ρ H ρ' H' ∧ concL ρ' [av] = cs ∧ okV ρ' (fun b => b < H'.next) av ∧ q3R H' av l := by
 obtain ⟨ρ', H', av, l, h1, h2, h3, h4, h5, _⟩ := q8U (α := StepN) (f := StepN.cells) (k := 2) (fun _ => rfl) (by omega) (R := fun _ _ => True) (fun _ _ _ _ _ _ => trivial)
  (fun ρ H hB hg n cs x hx => by
   have hf := q5t 9 97 _ k3i n cs x hx
   obtain ⟨c0, cs, rfl, f0, hf⟩ := Fit.cons hf
   obtain ⟨c1, cs, rfl, f1, hf⟩ := Fit.cons hf
   obtain rfl := Fit.nil hf
   obtain ⟨x0, rfl⟩ := q1c un9 f0
   obtain ⟨x1, rfl, _⟩ := z2M un2 f1
   exact ⟨ρ, H, ⟨x0, x1⟩, hB, .refl _ _, trivial, ⟨trivial, trivial, trivial⟩, rfl⟩) un29 ce97 h hB hg
 exact ⟨ρ', H', av, l, h1, h2, h3, h4, h5⟩
theorem q9s {ρ : Env} {H : Heap} (hB : Base Tryz.tab W ρ H) (hg : Tryz.tab.nglob ≤ H.next) {n : Nat} {cs : List Value} {x : DataW H₀ × List MemPlace} (h : DataW.trod enc Tryz.prog W base sp held n 22 cs = some x) :
  ∃ ρ' H' av l, Base Tryz.tab W ρ' H' ∧ More ρ H ρ' H' ∧ concL ρ' [av] = cs ∧ okV ρ' (fun b => b < H'.next) av ∧ RowsAt 40 29 EvN.cells H' av l ∧ (∀ x ∈ l, z3D H' x.c.d) ∧ ∀ x ∈ l, In64 x.r.err ∧ In64 x.r.num := by
 obtain ⟨ρ', H', av, l, h1, h2, h3, h4, h5, h6⟩ := q8U (α := EvN) (f := EvN.cells) (k := 29) q5P (by omega) (R := fun H x => z3D H x.c.d ∧ In64 x.r.err ∧ In64 x.r.num) (fun _ _ _ h hN hg => ⟨h.1.grow hN hg, h.2⟩)
  (fun ρ H hB hg n cs x hx => by
   have hf := q5t 9 40 _ k3j n cs x hx
   obtain ⟨c0, cs, rfl, f0, hf⟩ := Fit.cons hf
   obtain ⟨c1, cs, rfl, f1, hf⟩ := Fit.cons hf
   obtain ⟨c2, cs, rfl, f2, hf⟩ := Fit.cons hf
   obtain ⟨c3, cs, rfl, f3, hf⟩ := Fit.cons hf
   obtain ⟨c4, cs, rfl, f4, hf⟩ := Fit.cons hf
   obtain ⟨c5, cs, rfl, f5, hf⟩ := Fit.cons hf
   obtain ⟨c6, cs, rfl, f6, hf⟩ := Fit.cons hf
   obtain ⟨c7, cs, rfl, f7, hf⟩ := Fit.cons hf
   obtain ⟨c8, cs, rfl, f8, hf⟩ := Fit.cons hf
   obtain ⟨c9, cs, rfl, f9, hf⟩ := Fit.cons hf
   obtain ⟨c10, cs, rfl, f10, hf⟩ := Fit.cons hf
   obtain ⟨c11, cs, rfl, f11, hf⟩ := Fit.cons hf
   obtain ⟨c12, cs, rfl, f12, hf⟩ := Fit.cons hf
   obtain ⟨c13, cs, rfl, f13, hf⟩ := Fit.cons hf
   obtain ⟨c14, cs, rfl, f14, hf⟩ := Fit.cons hf
   obtain ⟨c15, cs, rfl, f15, hf⟩ := Fit.cons hf
   obtain ⟨c16, cs, rfl, f16, hf⟩ := Fit.cons hf
   obtain ⟨c17, cs, rfl, f17, hf⟩ := Fit.cons hf
   obtain ⟨c18, cs, rfl, f18, hf⟩ := Fit.cons hf
   obtain ⟨c19, cs, rfl, f19, hf⟩ := Fit.cons hf
   obtain ⟨c20, cs, rfl, f20, hf⟩ := Fit.cons hf
   obtain ⟨c21, cs, rfl, f21, hf⟩ := Fit.cons hf
   obtain ⟨c22, cs, rfl, f22, hf⟩ := Fit.cons hf
   obtain ⟨c23, cs, rfl, f23, hf⟩ := Fit.cons hf
   obtain ⟨c24, cs, rfl, f24, hf⟩ := Fit.cons hf
   obtain ⟨c25, cs, rfl, f25, hf⟩ := Fit.cons hf
   obtain ⟨c26, cs, rfl, f26, hf⟩ := Fit.cons hf
   obtain ⟨c27, cs, rfl, f27, hf⟩ := Fit.cons hf
   obtain ⟨c28, cs, rfl, f28, hf⟩ := Fit.cons hf
   obtain rfl := Fit.nil hf
   obtain ⟨x0, rfl, _⟩ := z2M un3 f0
   obtain ⟨x1, rfl⟩ := j5W un4 f1
   obtain ⟨x2, rfl, _⟩ := z2M un3 f2
   obtain ⟨x3, rfl, _⟩ := z2M un3 f3
   obtain ⟨x4, rfl, _⟩ := z2M un3 f4
   obtain ⟨x5, rfl, _⟩ := z2M un3 f5
   obtain ⟨x6, rfl, _⟩ := z2M un3 f6
   obtain ⟨x7, rfl, _⟩ := z2M un3 f7
   obtain ⟨x8, rfl⟩ := q1c un9 f8
   obtain ⟨x9, rfl, _⟩ := z2M un2 f9
   obtain ⟨x10, rfl, _⟩ := z2M un3 f10
   obtain ⟨x11, rfl⟩ := q1c un9 f11
   obtain ⟨x12, rfl⟩ := q1c un9 f12
   obtain ⟨x13, rfl, _⟩ := z2M un3 f13
   obtain ⟨x14, rfl⟩ := q1c un9 f14
   obtain ⟨x15, rfl, _⟩ := z2M un3 f15
   obtain ⟨x16, rfl, _⟩ := z2M un3 f16
   obtain ⟨x18, rfl, _⟩ := z2M un3 f18
   obtain ⟨x19, rfl, _⟩ := z2M un3 f19
   obtain ⟨x20, rfl, _⟩ := z2M un3 f20
   obtain ⟨x21, rfl, _⟩ := z2M un3 f21
   obtain ⟨x22, rfl⟩ := j5W un4 f22
   obtain ⟨x23, rfl, _⟩ := z2M un3 f23
   obtain ⟨x24, rfl, _⟩ := z2M un34 f24
   obtain ⟨x25, rfl⟩ := q1c un9 f25
   obtain ⟨x26, rfl, i26⟩ := z2M un34 f26
   obtain ⟨x27, rfl, i27⟩ := z2M un2 f27
   obtain ⟨x28, rfl⟩ := q1c un9 f28
   obtain ⟨n17, y17, f17⟩ := f17
   obtain ⟨ρ1, H1, av, ss, B1, M1, e1, o1, k1⟩ := j1p hB hg f17
   obtain rfl : conc ρ1 av = c17 := by simpa [concL] using e1
   exact ⟨ρ1, H1, ⟨x0, x1, ⟨x2, x3, x4, ⟨x5, x6, x7⟩, x8, x9, x10, x11, x12, x13, ⟨x14, x15, x16, av, ss⟩, ⟨⟨x18, x19, x20⟩, x21, x22, x23⟩, x24, x25⟩, ⟨x26, x27, x28⟩⟩, B1, M1, ⟨k1, i26, i27⟩,
    ⟨trivial, trivial, trivial, trivial, trivial, trivial, trivial, trivial, trivial, trivial, trivial, trivial, trivial, trivial, trivial, trivial, trivial, o1, trivial, trivial, trivial, trivial, trivial, trivial, trivial, trivial, trivial, trivial, trivial, trivial⟩, rfl⟩) un22 ce40 h hB hg
 exact ⟨ρ', H', av, l, h1, h2, h3, h4, h5, fun x hx => (h6 x hx).1, fun x hx => (h6 x hx).2⟩
end
theorem q1d {w : World} {r : Reach} {b : Nat} {t e : TypeId} {v : Value} (hu : Tryz.prog.underlying t = some (.slice e)) (h : Value.okWide Tryz.prog w r b t v) : v.cells = #[v] := by
 cases v <;> first | rfl | (exfalso; simp [Value.okWide, Cell.okWide, Cell.ok, hu] at h)
end Go.Proofs
namespace Go.Proofs
open Go.ChangeShapes Go.WideShapes Go.ChangeAt Go.RowKit Go.Sx
set_option maxRecDepth 100000
theorem k7p {W : World} {ρ : Env} (hB : Base Tryz.tab W ρ gH2) {H₀ : Type} {enc : TypeId × Value → H₀} {base : Nat} {sp : Nat → Bool} {held : Bool} {v0 v1 : Value} (c0 : v0.cells = #[v0]) (c1 : v1.cells = #[v1]) {n n' : Nat} {x y : DataW H₀ × List MemPlace}
  (h0 : DataW.trod enc Tryz.prog W base sp held n 22 v0.cells.toList = some x) (h1 : DataW.trod enc Tryz.prog W base sp held n' 22 v1.cells.toList = some y) : Calls Tryz.prog 4 #[v0, v1] W fun e w' => e = .returned (.bool true) ∧ Below W.heap.size W w' := by
 obtain ⟨ρ1, H1, a0, l, B1, M1, e0, k0, L1, D1, R1⟩ := q9s hB (z1J j8W) h0
 obtain ⟨ρ2, H2, a1, m, B2, M2, e1, k1, L2, D2, R2⟩ := q9s B1 (Nat.le_trans (z1J j8W) M1.grows.next) h1
 rw [c0] at e0
 rw [c1] at e1
 have e0 : conc ρ1 a0 = v0 := by simpa [concL] using e0
 have e1 : conc ρ2 a1 = v1 := by simpa [concL] using e1
 have e0' : conc ρ2 a0 = v0 := by rw [M2.sub.eq k0]; exact e0
 have gg := M1.grows.trans M2.grows
 have := j1o B2 (args := [a0, a1]) ⟨M2.sub.ok k0, k1, trivial⟩ (k3g a0 a1 l m H2 B2.neat (k7o.grow hB.neat gg) (RowsAt.grow L1 B1.neat M2.grows) L2 (fun x hx => (D1 x hx).grow B1.neat M2.grows) D2 R1 R2
  fun K gK _ => j8Y K (by rw [(gg.trans gK).get 9 (by show 9 < 10; omega)]; exact k3h))
 simpa only [concL, e0', e1] using this
end Go.Proofs
