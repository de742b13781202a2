/-
  What the row lists gives the executor its start; an argument that is a size.
-/
import Derived.Test.YthhodoinajbgmaaGreatDoorFbB
import Derived.Test.YthhodoinajbgmaaGreatDoorFbC
import Derived.Test.YthhodoinajbgmaaGreatDoorSxF
import Derived.Test.YthhodoinajbgmaaGreatDoorSxH
import Derived.ProofKit
import Derived.Lay
import Derived.LaidOnce
import Derived.SevenTiedAt
import Derived.Carry
set_option linter.unusedSimpArgs false
set_option linter.unusedVariables false
namespace Go.Proofs
open Go.ChangeShapes Go.WideShapes Go.ChangeAt Go.RowKit Go.Sx
set_option maxRecDepth 100000
theorem gFours : Tryz.prog.globalNamed "skald/crc.fours" = some 9 := by kernel_rfl
theorem tFours : (Tryz.prog.globals[9]?).map (·.type) = some 840 := by kernel_rfl
theorem uFours : Tryz.prog.underlying 840 = some (.array 16 501) := by kernel_rfl
theorem cU32 : Tryz.prog.cellsOf 501 = 1 := by kernel_rfl
theorem uU32 : Tryz.prog.underlying 501 = some (.int .u32) := by kernel_rfl
theorem gGlob : Nat.ble Tryz.tab.nglob 10 = true := by kernel_rfl
theorem gGet (x : Nat) (o : ABlk) (h : gH0.blks.get x = some o) : x = 9 ∧ o = .big 840 16 (crcFours.map fun x => AV.int .u32 x) := by
  unfold gH0 at h
  simp only at h
  rw [T.get_set] at h
  split at h
  · rename_i h0
    exact ⟨h0, (Option.some.inj h).symm⟩
  · simp [T.get_e] at h
theorem gGlobAt : GlobAt gH0 := by
  unfold gH0 GlobAt
  simp only
  rw [T.get_set, if_pos rfl]
/-- the start: what the row lists -/
theorem gBase {l : List (String × DataW Unit)} {W : World} (hm : ("skald/crc.fours", DataW.agg (crcFours.map fun x => .lit (.int .u32 x))) ∈ l) (hL : laidMet Tryz.prog l W) : ∃ ρ, Base Tryz.tab W ρ gH0 := by
  obtain ⟨arr, el, h1, h2, h3⟩ := laid_nums (k := .u32) (xs := crcFours) hL (n := "skald/crc.fours") hm gFours tFours uFours cU32 uU32 (by simp [crcFours])
  have hR := start_arr (G := Tryz.tab) (H := gH0) (g := 9) (t := 840) (k := .u32) (xs := crcFours) (by show 9 < 10; omega) (ble_le gGlob) gGet h1 h2 h3
  refine ⟨_, hR, fun x o ho => ?_, fun x o ho => ?_, rfl, rfl⟩
  · obtain ⟨rfl, _⟩ := gGet x o ho; show 9 < 10; omega
  · obtain ⟨_, rfl⟩ := gGet x o ho; trivial
theorem works_to (h : Heap) (hG : GlobAt h) : CallTo Tryz.prog Tryz.tab 14 [] h [(.bool true, h)] :=
  CallTo.closed Tryz.tabOk works_true (ble_le gGlob) (fun b o ho => by
    obtain ⟨_, rfl⟩ := gGet b o ho
    exact ⟨trivial, by show ltL _ (crcFours.map fun x => AV.int .u32 x); simp only [crcFours, List.map_cons, List.map_nil]; exact ⟨trivial, trivial, trivial, trivial, trivial, trivial, trivial, trivial, trivial, trivial, trivial, trivial, trivial, trivial, trivial, trivial, trivial⟩⟩) (fun b o ho => by
    obtain ⟨rfl, rfl⟩ := gGet b o ho
    exact hG)
/-- WHAT A CALL DOES that comes to true and nothing else. -/
theorem calls_true {W : World} {ρ : Env} {H : Heap} {f : FuncId} {args : List AV} (hB : Base Tryz.tab W ρ H) (ha : okL ρ (fun b => b < H.next) args) {H' : Heap} (h : CallTo Tryz.prog Tryz.tab f args H [(.bool true, H')]) :
    Calls Tryz.prog f (concL ρ args).toArray W fun e w' => e = .returned (.bool true) ∧ Below W.heap.size W w' := by
  refine (h.calls hB.rel ha).mono fun e w' ⟨p, hp, ρ', D', he, hR, hE⟩ => ?_
  rw [List.mem_singleton.1 hp] at he hR
  refine ⟨he, below_of (fun i o hi => ?_) ?_⟩
  · exact (hR.rest i o (by rw [hE.sub.rest, hB.rest]; exact hi)).1
  · have := hR.kin
    rw [hE.sub.orig, hB.orig] at this; exact this
/-- an argument that is a size -/
def fieldsOf (o : Option TypeDesc) : Option (List (Nat × Nat)) := match o with
  | some (.struct fs) => some (fs.toList.map fun f => (f.type, f.offset))
  | _ => none
theorem fields_some {o : Option TypeDesc} {l : List (Nat × Nat)} (h : fieldsOf o = some l) : ∃ fs : Array Field, o = some (.struct fs) ∧ fs.toList.map (fun f => (f.type, f.offset)) = l := by
  unfold fieldsOf at h
  split at h
  · rename_i fs
    exact ⟨fs, rfl, by simpa using h⟩
  · simp at h
theorem uSize : ∃ fs : Array Field, Tryz.prog.underlying 23 = some (.struct fs) ∧ fs.toList.map (fun f => (f.type, f.offset)) = [(3, 0), (3, 1), (3, 2), (3, 3), (3, 4), (3, 5)] := fields_some (by kernel_rfl)
theorem cInt : Tryz.prog.cellsOf 3 = 1 := by kernel_rfl
theorem cSize : Tryz.prog.cellsOf 23 = 6 := by kernel_rfl
theorem uInt : Tryz.prog.underlying 3 = some (.int .i64) := by kernel_rfl
theorem sz_any {W : World} {r : Reach} {b : Nat} {v : Value} (hv : Value.okWide Tryz.prog W r b 23 v) : ∃ cs, v = .agg cs := by
  obtain ⟨fs, u1, _⟩ := uSize
  unfold Value.okWide at hv
  rw [u1] at hv
  obtain ⟨cs, e, _⟩ := hv
  exact ⟨cs, e⟩
theorem sz_lift {H : Type} {enc : TypeId × Value → H} {W : World} {v : Value} {d : DataW H} {p : List MemPlace} (hv : ∃ cs, v = .agg cs) (h : DataW.Trod enc Tryz.prog W 0 (fun _ => true) true 23 v d p) :
    ∃ a b c d e f : Int, ∀ ρ : Env, conc ρ (szV a b c d e f) = v := by
  obtain ⟨n, h⟩ := h
  obtain ⟨fs, u1, u2⟩ := uSize
  obtain ⟨xs, m, _, _, hl, hxl, hel⟩ := DataW.trod_struct u1 h
  obtain ⟨cs, rfl⟩ := hv
  have hcs : (Value.agg cs).cells = cs := rfl
  rw [hcs] at hl hel
  rw [cSize] at hl
  have hfl : fs.toList.length = 6 := by have := congrArg List.length u2; simpa using this
  have hfs : fs.size = 6 := by rw [← hfl]; rfl
  have key : ∀ i, i < 6 → ∃ z, cs.toList[i]? = some (.int .i64 z) := fun i hi => by
    have hlt : i < fs.size := by omega
    have h1 : (fs.toList.map (fun f => (f.type, f.offset)))[i]? = some (fs[i].type, fs[i].offset) := by
      rw [List.getElem?_map, Array.getElem?_toList, Array.getElem?_eq_getElem hlt]; rfl
    rw [u2] at h1
    have h2 := hel i fs[i] (Array.getElem?_eq_getElem hlt)
    have h3 : fs[i].type = 3 ∧ fs[i].offset = i := by
      match i, hi with
      | 0, _ | 1, _ | 2, _ | 3, _ | 4, _ | 5, _ => simp at h1; exact ⟨h1.1.symm, h1.2.symm⟩
    rw [h3.1, h3.2, cInt, List.getElem?_eq_getElem (by omega)] at h2
    obtain ⟨z, e1, _, _⟩ := DataW.trod_int uInt h2
    refine ⟨z, ?_⟩
    have h4 : cs.toList[i]? = ((cs.toList.drop i).take 1)[0]? := by simp
    rw [h4, e1]; rfl
  obtain ⟨a, ha⟩ := key 0 (by omega)
  obtain ⟨b, hb⟩ := key 1 (by omega)
  obtain ⟨c, hc⟩ := key 2 (by omega)
  obtain ⟨d', hd⟩ := key 3 (by omega)
  obtain ⟨e, he⟩ := key 4 (by omega)
  obtain ⟨f, hf⟩ := key 5 (by omega)
  refine ⟨a, b, c, d', e, f, fun ρ => ?_⟩
  have : cs.toList = [.int .i64 a, .int .i64 b, .int .i64 c, .int .i64 d', .int .i64 e, .int .i64 f] := by
    apply List.ext_getElem?
    intro i
    match i with
    | 0 => simpa using ha
    | 1 => simpa using hb
    | 2 => simpa using hc
    | 3 => simpa using hd
    | 4 => simpa using he
    | 5 => simpa using hf
    | i + 6 => rw [List.getElem?_eq_none (by omega)]; rfl
  show Value.agg (concL ρ _).toArray = _
  congr 1
  apply Array.ext'
  rw [this]; rfl
end Go.Proofs
