/-
  The start and the argument.
-/
import Derived.Test.YtcoigmfhlbngfaaGreatDoorNNtA
import Derived.Test.YtcoigmfhlbngfaaGreatDoorNTaA
import Derived.Test.YtcoigmfhlbngfaaGreatDoorNPwE
import Derived.Test.YtcoigmfhlbngfaaGreatDoorNSxF
import Derived.Test.YtcoigmfhlbngfaaGreatDoorNSxH
import Derived.ProofKit
import Derived.Lay
import Derived.LaidOnce
import Derived.SevenTiedAt
import Derived.Carry
set_option linter.unusedSimpArgs false
set_option linter.unusedVariables false
namespace Go.Proofs
open Go.ChangeShapes Go.WideShapes Go.ChangeAt Go.RowKit Go.Sx
set_option maxRecDepth 100000
def foursR : List Int := [0, 498536548, 997073096, 651767980, 1994146192, 1802195444, 1303535960, 1342533948, 3988292384, 4027552580, 3604390888, 3412177804, 2607071920, 2262029012, 2685067896, 3183342108]
theorem g11 : ckH0.blks.get 11 = some (.big 915 16 (foursR.map fun x => AV.int .u32 x)) := by kernel_rfl
theorem w1X : ((List.range 14).filter fun b => (ckH0.blks.get b).isSome) = [11] := by kernel_rfl
theorem j4q : ckH0.next = 14 := by kernel_rfl
theorem gAt (x : Nat) (o : ABlk) (h : ckH0.blks.get x = some o) : x = 11 := by
 have hx := z6N q0Z x o h
 rw [j4q] at hx
 have hm : x ∈ (List.range 14).filter fun b => (ckH0.blks.get b).isSome := List.mem_filter.2 ⟨List.mem_range.2 hx, by rw [h]; rfl⟩
 rw [w1X] at hm
 exact List.mem_singleton.1 hm
theorem gGet (x : Nat) (o : ABlk) (h : ckH0.blks.get x = some o) : x = 11 ∧ o = .big 915 16 (foursR.map fun x => AV.int .u32 x) := by
 have e := gAt x o h
 subst e
 rw [g11] at h
 exact ⟨rfl, (Option.some.inj h).symm⟩
theorem k1t : Tryz.prog.globalNamed "skald/crc.fours" = some 11 := by kernel_rfl
theorem k1u : (Tryz.prog.globals[11]?).map (·.type) = some 915 := by kernel_rfl
theorem k1v : Tryz.prog.underlying 915 = some (.array 16 289) := by kernel_rfl
theorem cU32 : Tryz.prog.cellsOf 289 = 1 := by kernel_rfl
theorem uU32 : Tryz.prog.underlying 289 = some (.int .u32) := by kernel_rfl
theorem un9 : Tryz.prog.underlying 9 = some .string := by kernel_rfl
theorem k1w : Nat.ble Tryz.tab.nglob 14 = true := by kernel_rfl
theorem w1Y {l : List (String × DataW Unit)} {W : World} (hm : ("skald/crc.fours", DataW.agg (foursR.map fun x => .lit (.int .u32 x))) ∈ l) (hL : laidMet Tryz.prog l W) : ∃ ρ, Base Tryz.tab W ρ ckH0 := by
 obtain ⟨arr, el, h1, h2, h3⟩ := q3t (k := .u32) (xs := foursR) hL (n := "skald/crc.fours") hm k1t k1u k1v cU32 uU32 (by simp [foursR])
 have hR := j0D (G := Tryz.tab) (H := ckH0) (g := 11) (t := 915) (k := .u32) (xs := foursR) (by rw [j4q]; omega) (by rw [j4q]; exact z1h k1w) gGet h1 h2 h3
 refine ⟨_, hR, z6N q0Z, fun x o ho => ?_, rfl, rfl⟩
 obtain ⟨_, rfl⟩ := gGet x o ho; trivial
theorem q7c {n : Nat} : ∀ l : List AV, (∀ v ∈ l, ltV n v) → ltL n l
 | [], _ => trivial
 | a :: l, h => ⟨h a (List.mem_cons_self ..), q7c l fun v hv => h v (List.mem_cons_of_mem _ hv)⟩
theorem j4r (h : Heap) (hs : ∀ b o, ckH0.blks.get b = some o → h.blks.get b = some o) : CallTo Tryz.prog Tryz.tab 4 [] h [(.bool true, h)] :=
 CallTo.embed q8E rfl (by kernel_rfl) (by rw [j4q]; exact z1h k1w) (fun b o ho => ⟨z6N q0Z b o ho, by
  obtain ⟨_, rfl⟩ := gGet b o ho
  exact q7c _ fun v hv => by obtain ⟨x, _, rfl⟩ := List.mem_map.1 hv; trivial⟩) trivial hs
theorem q8x {W : World} {ρ : Env} {H : Heap} {f : FuncId} {args : List AV} (hB : Base Tryz.tab W ρ H) (ha : okL ρ (fun b => b < H.next) args) {H' : Heap} (h : CallTo Tryz.prog Tryz.tab f args H [(.bool true, H')]) :
  Calls Tryz.prog f (concL ρ args).toArray W fun e w' => e = .returned (.bool true) ∧ Below W.heap.size W w' := by
 refine (h.calls hB.rel ha).mono fun e w' ⟨p, hp, ρ', D', he, hR, hE⟩ => ?_
 rw [List.mem_singleton.1 hp] at he hR
 refine ⟨he, j3v (fun i o hi => ?_) ?_⟩
 ·exact (hR.rest i o (by rw [hE.sub.rest, hB.rest]; exact hi)).1
 ·have := hR.kin
  rw [hE.sub.orig, hB.orig] at this; exact this
theorem j8E {W : World} {b : Nat} {v : Value} (hv : Value.okWide Tryz.prog W .any b 9 v) : ∃ s : List UInt8, v = .string ⟨s.toArray⟩ := by
 obtain ⟨s, rfl⟩ := okWide_string un9 hv
 exact ⟨s.data.toList, rfl⟩
theorem k1x {W : World} {ρ : Env} (hB : Base Tryz.tab W ρ ckH0) {v0 : Value} (hv : ∃ s : List UInt8, v0 = .string ⟨s.toArray⟩) :
  Calls Tryz.prog 3 #[v0] W fun e w' => e = .returned (.bool true) ∧ Below W.heap.size W w' := by
 obtain ⟨s, rfl⟩ := hv
 exact q8x hB (args := [.str s]) ⟨trivial, trivial⟩ (k1s s ckH0 hB.neat fun h hg _ => j4r h fun b o ho => by
  rw [hg.get b (hB.neat b o ho)]; exact ho)
end Go.Proofs
