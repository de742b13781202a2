/-
  What the row lists gives the executor its start; an argument that is six numbers of 16 bits.
-/
import Derived.Test.YthkfnldaeihmiaaGreatDoorFbB
import Derived.Test.YthkfnldaeihmiaaGreatDoorFbC
import Derived.Test.YthkfnldaeihmiaaGreatDoorSxF
import Derived.Test.YthkfnldaeihmiaaGreatDoorSxH
import Derived.ProofKit
import Derived.Lay
import Derived.LaidOnce
import Derived.SevenTiedAt
import Derived.Carry
set_option linter.unusedSimpArgs false
set_option linter.unusedVariables false
namespace Go.Proofs
open Go.ChangeShapes Go.WideShapes Go.ChangeAt Go.RowKit Go.Sx
set_option maxRecDepth 100000
theorem gFours : Tryz.prog.globalNamed "skald/crc.fours" = some 9 := by kernel_rfl
theorem tFours : (Tryz.prog.globals[9]?).map (·.type) = some 841 := by kernel_rfl
theorem uFours : Tryz.prog.underlying 841 = some (.array 16 502) := by kernel_rfl
theorem cU32 : Tryz.prog.cellsOf 502 = 1 := by kernel_rfl
theorem uU32 : Tryz.prog.underlying 502 = some (.int .u32) := by kernel_rfl
theorem gGlob : Nat.ble Tryz.tab.nglob 10 = true := by kernel_rfl
theorem gGet (x : Nat) (o : ABlk) (h : gH0.blks.get x = some o) : x = 9 ∧ o = .big 841 16 (crcFours.map fun x => AV.int .u32 x) := by
  unfold gH0 at h
  simp only at h
  rw [T.get_set] at h
  split at h
  · rename_i h0
    exact ⟨h0, (Option.some.inj h).symm⟩
  · simp [T.get_e] at h
theorem gGlobAt : GlobAt gH0 := by
  unfold gH0 GlobAt
  simp only
  rw [T.get_set, if_pos rfl]
/-- the start: what the row lists -/
theorem gBase {l : List (String × DataW Unit)} {W : World} (hm : ("skald/crc.fours", DataW.agg (crcFours.map fun x => .lit (.int .u32 x))) ∈ l) (hL : laidMet Tryz.prog l W) : ∃ ρ, Base Tryz.tab W ρ gH0 := by
  obtain ⟨arr, el, h1, h2, h3⟩ := laid_nums (k := .u32) (xs := crcFours) hL (n := "skald/crc.fours") hm gFours tFours uFours cU32 uU32 (by simp [crcFours])
  have hR := start_arr (G := Tryz.tab) (H := gH0) (g := 9) (t := 841) (k := .u32) (xs := crcFours) (by show 9 < 10; omega) (ble_le gGlob) gGet h1 h2 h3
  refine ⟨_, hR, fun x o ho => ?_, fun x o ho => ?_, rfl, rfl⟩
  · obtain ⟨rfl, _⟩ := gGet x o ho; show 9 < 10; omega
  · obtain ⟨_, rfl⟩ := gGet x o ho; trivial
theorem works_to (h : Heap) (hG : GlobAt h) : CallTo Tryz.prog Tryz.tab 10 [] h [(.bool true, h)] :=
  CallTo.closed Tryz.tabOk works_true (ble_le gGlob) (fun b o ho => by
    obtain ⟨_, rfl⟩ := gGet b o ho
    exact ⟨trivial, by show ltL _ (crcFours.map fun x => AV.int .u32 x); simp only [crcFours, List.map_cons, List.map_nil]; exact ⟨trivial, trivial, trivial, trivial, trivial, trivial, trivial, trivial, trivial, trivial, trivial, trivial, trivial, trivial, trivial, trivial, trivial⟩⟩) (fun b o ho => by
    obtain ⟨rfl, rfl⟩ := gGet b o ho
    exact hG)
/-- WHAT A CALL DOES that comes to true and nothing else. -/
theorem calls_true {W : World} {ρ : Env} {H : Heap} {f : FuncId} {args : List AV} (hB : Base Tryz.tab W ρ H) (ha : okL ρ (fun b => b < H.next) args) {H' : Heap} (h : CallTo Tryz.prog Tryz.tab f args H [(.bool true, H')]) :
    Calls Tryz.prog f (concL ρ args).toArray W fun e w' => e = .returned (.bool true) ∧ Below W.heap.size W w' := by
  refine (h.calls hB.rel ha).mono fun e w' ⟨p, hp, ρ', D', he, hR, hE⟩ => ?_
  rw [List.mem_singleton.1 hp] at he hR
  refine ⟨he, below_of (fun i o hi => ?_) ?_⟩
  · exact (hR.rest i o (by rw [hE.sub.rest, hB.rest]; exact hi)).1
  · have := hR.kin
    rw [hE.sub.orig, hB.orig] at this; exact this
/-- an argument that is six numbers of 16 bits -/
theorem uArr : Tryz.prog.underlying 23 = some (.array 6 22) := by kernel_rfl
theorem cU16 : Tryz.prog.cellsOf 22 = 1 := by kernel_rfl
theorem cArr : Tryz.prog.cellsOf 23 = 6 := by kernel_rfl
theorem uU16 : Tryz.prog.underlying 22 = some (.int .u16) := by kernel_rfl
theorem wf_u16 {n : Int} (h : (Lit.int .u16 n).wf = true) : U n := by
  simp [Lit.wf, IntKind.min, IntKind.max, IntKind.signed, IntKind.bits] at h
  unfold U; omega
theorem ar_any {W : World} {r : Reach} {b : Nat} {v : Value} (hv : Value.okWide Tryz.prog W r b 23 v) : ∃ cs, v = .agg cs := by
  unfold Value.okWide at hv
  rw [uArr] at hv
  obtain ⟨cs, e, _⟩ := hv
  exact ⟨cs, e⟩
theorem ar_lift {H : Type} {enc : TypeId × Value → H} {W : World} {v : Value} {d : DataW H} {p : List MemPlace} (hv : ∃ cs, v = .agg cs) (h : DataW.Trod enc Tryz.prog W 0 (fun _ => true) true 23 v d p) :
    ∃ a b c d e f : Int, (U a ∧ U b ∧ U c ∧ U d ∧ U e ∧ U f) ∧ ∀ ρ : Env, conc ρ (arV a b c d e f) = v := by
  obtain ⟨n, h⟩ := h
  obtain ⟨xs, m, _, _, hl, hxl, hel⟩ := DataW.trod_array uArr h
  obtain ⟨cs, rfl⟩ := hv
  have hcs : (Value.agg cs).cells = cs := rfl
  rw [hcs] at hl hel
  rw [cArr] at hl
  have key : ∀ i, i < 6 → ∃ z, U z ∧ cs.toList[i]? = some (.int .u16 z) := fun i hi => by
    have h2 := hel i hi
    rw [cU16, List.getElem?_eq_getElem (by omega)] at h2
    obtain ⟨z, e1, _, e3⟩ := DataW.trod_int uU16 h2
    refine ⟨z, wf_u16 e3, ?_⟩
    have h4 : cs.toList[i]? = ((cs.toList.drop (i * 1)).take 1)[0]? := by simp
    rw [h4, e1]; rfl
  obtain ⟨a, ua, ha⟩ := key 0 (by omega)
  obtain ⟨b, ub, hb⟩ := key 1 (by omega)
  obtain ⟨c, uc, hc⟩ := key 2 (by omega)
  obtain ⟨d', ud, hd⟩ := key 3 (by omega)
  obtain ⟨e, ue, he⟩ := key 4 (by omega)
  obtain ⟨f, uf, hf⟩ := key 5 (by omega)
  refine ⟨a, b, c, d', e, f, ⟨ua, ub, uc, ud, ue, uf⟩, fun ρ => ?_⟩
  have : cs.toList = [.int .u16 a, .int .u16 b, .int .u16 c, .int .u16 d', .int .u16 e, .int .u16 f] := by
    apply List.ext_getElem?
    intro i
    match i with
    | 0 => simpa using ha
    | 1 => simpa using hb
    | 2 => simpa using hc
    | 3 => simpa using hd
    | 4 => simpa using he
    | 5 => simpa using hf
    | i + 6 => rw [List.getElem?_eq_none (by omega)]; rfl
  show Value.agg (concL ρ _).toArray = _
  congr 1
  apply Array.ext'
  rw [this]; rfl
end Go.Proofs
