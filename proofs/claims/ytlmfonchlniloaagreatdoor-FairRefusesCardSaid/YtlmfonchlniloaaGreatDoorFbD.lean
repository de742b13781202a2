/-
  What the row lists gives the executor its start; arguments of 8 and 16 bits.
-/
import Derived.Test.YtlmfonchlniloaaGreatDoorFbT
import Derived.Test.YtlmfonchlniloaaGreatDoorFbC
import Derived.Test.YtlmfonchlniloaaGreatDoorSxF
import Derived.Test.YtlmfonchlniloaaGreatDoorSxH
import Derived.ProofKit
import Derived.Lay
import Derived.LaidOnce
import Derived.SevenTiedAt
import Derived.Carry
set_option linter.unusedSimpArgs false
set_option linter.unusedVariables false
namespace Go.Proofs
open Go.ChangeShapes Go.WideShapes Go.ChangeAt Go.RowKit Go.Sx
set_option maxRecDepth 100000
theorem gFours : Tryz.prog.globalNamed "skald/crc.fours" = some 9 := by kernel_rfl
theorem tFours : (Tryz.prog.globals[9]?).map (·.type) = some 838 := by kernel_rfl
theorem uFours : Tryz.prog.underlying 838 = some (.array 16 499) := by kernel_rfl
theorem cU32 : Tryz.prog.cellsOf 499 = 1 := by kernel_rfl
theorem uU32 : Tryz.prog.underlying 499 = some (.int .u32) := by kernel_rfl
theorem gGlob : Nat.ble Tryz.tab.nglob 10 = true := by kernel_rfl
theorem gGet (x : Nat) (o : ABlk) (h : gH0.blks.get x = some o) : x = 9 ∧ o = .big 838 16 (crcFours.map fun x => AV.int .u32 x) := by
  unfold gH0 at h
  simp only at h
  rw [T.get_set] at h
  split at h
  · rename_i h0
    exact ⟨h0, (Option.some.inj h).symm⟩
  · simp [T.get_e] at h
theorem gGlobAt : GlobAt gH0 := by
  unfold gH0 GlobAt
  simp only
  rw [T.get_set, if_pos rfl]
/-- the start: what the row lists -/
theorem gBase {l : List (String × DataW Unit)} {W : World} (hm : ("skald/crc.fours", DataW.agg (crcFours.map fun x => .lit (.int .u32 x))) ∈ l) (hL : laidMet Tryz.prog l W) : ∃ ρ, Base Tryz.tab W ρ gH0 := by
  obtain ⟨arr, el, h1, h2, h3⟩ := laid_nums (k := .u32) (xs := crcFours) hL (n := "skald/crc.fours") hm gFours tFours uFours cU32 uU32 (by simp [crcFours])
  have hR := start_arr (G := Tryz.tab) (H := gH0) (g := 9) (t := 838) (k := .u32) (xs := crcFours) (by show 9 < 10; omega) (ble_le gGlob) gGet h1 h2 h3
  refine ⟨_, hR, fun x o ho => ?_, fun x o ho => ?_, rfl, rfl⟩
  · obtain ⟨rfl, _⟩ := gGet x o ho; show 9 < 10; omega
  · obtain ⟨_, rfl⟩ := gGet x o ho; trivial
theorem works_to (h : Heap) (hG : GlobAt h) : CallTo Tryz.prog Tryz.tab 13 [] h [(.bool true, h)] :=
  CallTo.closed Tryz.tabOk works_true (ble_le gGlob) (fun b o ho => by
    obtain ⟨_, rfl⟩ := gGet b o ho
    exact ⟨trivial, by show ltL _ (crcFours.map fun x => AV.int .u32 x); simp only [crcFours, List.map_cons, List.map_nil]; exact ⟨trivial, trivial, trivial, trivial, trivial, trivial, trivial, trivial, trivial, trivial, trivial, trivial, trivial, trivial, trivial, trivial, trivial⟩⟩) (fun b o ho => by
    obtain ⟨rfl, rfl⟩ := gGet b o ho
    exact hG)
/-- WHAT A CALL DOES that comes to true and nothing else. -/
theorem calls_true {W : World} {ρ : Env} {H : Heap} {f : FuncId} {args : List AV} (hB : Base Tryz.tab W ρ H) (ha : okL ρ (fun b => b < H.next) args) {H' : Heap} (h : CallTo Tryz.prog Tryz.tab f args H [(.bool true, H')]) :
    Calls Tryz.prog f (concL ρ args).toArray W fun e w' => e = .returned (.bool true) ∧ Below W.heap.size W w' := by
  refine (h.calls hB.rel ha).mono fun e w' ⟨p, hp, ρ', D', he, hR, hE⟩ => ?_
  rw [List.mem_singleton.1 hp] at he hR
  refine ⟨he, below_of (fun i o hi => ?_) ?_⟩
  · exact (hR.rest i o (by rw [hE.sub.rest, hB.rest]; exact hi)).1
  · have := hR.kin
    rw [hE.sub.orig, hB.orig] at this; exact this
/-- the two arguments: numbers of 8 and of 16 bits -/
theorem uU8 : Tryz.prog.underlying 5 = some (.int .u8) := by kernel_rfl
theorem uU16 : Tryz.prog.underlying 22 = some (.int .u16) := by kernel_rfl
theorem i8_any {W : World} {r : Reach} {b : Nat} {v : Value} (hv : Value.okWide Tryz.prog W r b 5 v) : ∃ n, v = .int .u8 n := okWide_int uU8 hv
theorem i16_any {W : World} {r : Reach} {b : Nat} {v : Value} (hv : Value.okWide Tryz.prog W r b 22 v) : ∃ n, v = .int .u16 n := okWide_int uU16 hv
theorem i8_lift {H : Type} {enc : TypeId × Value → H} {W : World} {v : Value} {d : DataW H} {p : List MemPlace} (hv : ∃ n, v = .int .u8 n) (h : DataW.Trod enc Tryz.prog W 0 (fun _ => true) true 5 v d p) :
    ∃ n, v = .int .u8 n ∧ 0 ≤ n ∧ n ≤ 255 := by
  obtain ⟨fuel, h⟩ := h
  obtain ⟨n, rfl⟩ := hv
  obtain ⟨z, e1, _, e3⟩ := DataW.trod_int uU8 h
  simp [Value.cells] at e1
  subst e1
  simp [Lit.wf, IntKind.min, IntKind.max, IntKind.signed, IntKind.bits] at e3
  exact ⟨_, rfl, by omega, by omega⟩
theorem i16_lift {H : Type} {enc : TypeId × Value → H} {W : World} {v : Value} {d : DataW H} {p : List MemPlace} (hv : ∃ n, v = .int .u16 n) (h : DataW.Trod enc Tryz.prog W 0 (fun _ => true) true 22 v d p) :
    ∃ n, v = .int .u16 n ∧ U n := by
  obtain ⟨fuel, h⟩ := h
  obtain ⟨n, rfl⟩ := hv
  obtain ⟨z, e1, _, e3⟩ := DataW.trod_int uU16 h
  simp [Value.cells] at e1
  subst e1
  simp [Lit.wf, IntKind.min, IntKind.max, IntKind.signed, IntKind.bits] at e3
  exact ⟨_, rfl, by omega, by omega⟩
end Go.Proofs
