/-
  The start and the argument.
-/
import Derived.Test.YtdnkpdgncgjilaaGreatDoorNNtA
import Derived.Test.YtdnkpdgncgjilaaGreatDoorNTaA
import Derived.Test.YtdnkpdgncgjilaaGreatDoorNPwJ
import Derived.Test.YtdnkpdgncgjilaaGreatDoorNSxI
import Derived.Test.YtdnkpdgncgjilaaGreatDoorNSxH
import Derived.ProofKit
import Derived.Lay
import Derived.LaidOnce
import Derived.SevenTiedAt
import Derived.Carry
set_option linter.unusedSimpArgs false
set_option linter.unusedVariables false
namespace Go.Proofs
open Go.Sx
set_option maxRecDepth 100000
def kindsR : List (List Lit) := [[.string [], .int .i64 0, .int .i64 0, .int .i64 0, .int .i64 0], [.string [112, 114, 101, 112, 97, 114, 101], .int .i64 3, .int .i64 4096, .int .i64 0, .int .i64 0], [.string [112, 114, 111, 109, 105, 115, 101], .int .i64 21, .int .i64 0, .int .i64 0, .int .i64 4096], [.string [114, 101, 106, 101, 99, 116], .int .i64 1, .int .i64 0, .int .i64 0, .int .i64 0], [.string [97, 99, 99, 101, 112, 116], .int .i64 11, .int .i64 4095, .int .i64 0, .int .i64 0], [.string [97, 99, 99, 101, 112, 116, 101, 100], .int .i64 3, .int .i64 4095, .int .i64 0, .int .i64 0], [.string [99, 104, 111, 115, 101, 110], .int .i64 10, .int .i64 4095, .int .i64 0, .int .i64 0], [.string [98, 101, 97, 116], .int .i64 5, .int .i64 0, .int .i64 0, .int .i64 4096], [.string [102, 101, 116, 99, 104], .int .i64 2, .int .i64 4096, .int .i64 0, .int .i64 0], [.string [115, 110, 97, 112], .int .i64 12, .int .i64 0, .int .i64 1, .int .i64 4096], [.string [97, 115, 107], .int .i64 12, .int .i64 0, .int .i64 1, .int .i64 2147483647], [.string [97, 110, 115, 119, 101, 114], .int .i64 12, .int .i64 0, .int .i64 1, .int .i64 2147483647]]
def phasesR : List Int := [0, 1, 3, 2]
def foursR : List Int := [0, 498536548, 997073096, 651767980, 1994146192, 1802195444, 1303535960, 1342533948, 3988292384, 4027552580, 3604390888, 3412177804, 2607071920, 2262029012, 2685067896, 3183342108]
def followR : List (DataW Unit) := [.nil, .iface "func" (.lit (.string [40, 115, 107, 97, 108, 100, 47, 115, 97, 103, 97, 46, 83, 97, 103, 97, 41, 46, 102, 111, 114, 119, 97, 114, 100])), .iface "func" (.lit (.string [40, 115, 107, 97, 108, 100, 47, 115, 97, 103, 97, 46, 83, 97, 103, 97, 41, 46, 102, 114, 101, 101])), .iface "func" (.lit (.string [40, 115, 107, 97, 108, 100, 47, 115, 97, 103, 97, 46, 83, 97, 103, 97, 41, 46, 117, 110, 100, 111]))]
def litA : Lit → AV
 | .int k n => .int k n
 | .string s => .str s
 | _ => .bool false
theorem z8p {n : Nat} : ∀ l : List AV, (∀ v ∈ l, ltV n v) → ltL n l
 | [], _ => trivial
 | a :: l, h => ⟨h a (List.mem_cons_self ..), z8p l fun v hv => h v (List.mem_cons_of_mem _ hv)⟩
theorem g2 : cnH0.blks.get 2 = some (.big 596 phasesR.length (phasesR.map fun x => AV.int .i64 x)) := by kernel_rfl
theorem g4 : cnH0.blks.get 4 = some (.big 665 (kindsR.flatMap fun r => r.map litA).length (kindsR.flatMap fun r => r.map litA)) := by kernel_rfl
theorem g6 : cnH0.blks.get 6 = some (.big 779 4 [.nilFunc, .func (.func 871) [] [], .func (.func 872) [] [], .func (.func 873) [] []]) := by kernel_rfl
theorem g7 : cnH0.blks.get 7 = some (.big 805 foursR.length (foursR.map fun x => AV.int .u32 x)) := by kernel_rfl
theorem v2p : cnH0.blks.get 0 = none ∧ cnH0.blks.get 1 = none ∧ cnH0.blks.get 3 = none ∧ cnH0.blks.get 5 = none ∧ cnH0.blks.get 8 = none ∧ cnH0.blks.get 9 = none := ⟨by kernel_rfl, by kernel_rfl, by kernel_rfl, by kernel_rfl, by kernel_rfl, by kernel_rfl⟩
theorem j6T : cnH0.next = 10 := by kernel_rfl
theorem gAt (x : Nat) (o : ABlk) (h : cnH0.blks.get x = some o) : x = 2 ∨ x = 4 ∨ x = 6 ∨ x = 7 := by
 have hx := z5K q1i x o h
 rw [j6T] at hx
 obtain ⟨n0, n1, n3, n5, n8, n9⟩ := v2p
 rcases (by omega : x = 0 ∨ x = 1 ∨ x = 2 ∨ x = 3 ∨ x = 4 ∨ x = 5 ∨ x = 6 ∨ x = 7 ∨ x = 8 ∨ x = 9) with rfl | rfl | rfl | rfl | rfl | rfl | rfl | rfl | rfl | rfl
 ·rw [n0] at h; simp at h
 ·rw [n1] at h; simp at h
 ·exact .inl rfl
 ·rw [n3] at h; simp at h
 ·exact .inr (.inl rfl)
 ·rw [n5] at h; simp at h
 ·exact .inr (.inr (.inl rfl))
 ·exact .inr (.inr (.inr rfl))
 ·rw [n8] at h; simp at h
 ·rw [n9] at h; simp at h
theorem k3a : Nat.ble Tryz.tab.nglob 10 = true := by kernel_rfl
theorem gn2 : Tryz.prog.globalNamed "skald/saga.phases" = some 2 := by kernel_rfl
theorem gn4 : Tryz.prog.globalNamed "skald/msg.kinds" = some 4 := by kernel_rfl
theorem gn6 : Tryz.prog.globalNamed "skald/saga.follow" = some 6 := by kernel_rfl
theorem gn7 : Tryz.prog.globalNamed "skald/crc.fours" = some 7 := by kernel_rfl
theorem gt2 : (Tryz.prog.globals[2]?).map (·.type) = some 596 := by kernel_rfl
theorem gt4 : (Tryz.prog.globals[4]?).map (·.type) = some 665 := by kernel_rfl
theorem gt6 : (Tryz.prog.globals[6]?).map (·.type) = some 779 := by kernel_rfl
theorem gt7 : (Tryz.prog.globals[7]?).map (·.type) = some 805 := by kernel_rfl
theorem gu2 : Tryz.prog.underlying 596 = some (.array phasesR.length 3) := by kernel_rfl
theorem gu4 : Tryz.prog.underlying 665 = some (.array kindsR.length 539) := by kernel_rfl
theorem gu6 : Tryz.prog.underlying 779 = some (.array followR.length 778) := by kernel_rfl
theorem gu7 : Tryz.prog.underlying 805 = some (.array foursR.length 569) := by kernel_rfl
theorem gc3 : Tryz.prog.cellsOf 3 = 1 := by kernel_rfl
theorem gcK : Tryz.prog.cellsOf 539 = 5 := by kernel_rfl
theorem gcF : Tryz.prog.cellsOf 778 = 1 := by kernel_rfl
theorem gcA : Tryz.prog.cellsOf 779 = followR.length := by kernel_rfl
theorem gcU : Tryz.prog.cellsOf 569 = 1 := by kernel_rfl
theorem gi3 : Tryz.prog.underlying 3 = some (.int .i64) := by kernel_rfl
theorem giU : Tryz.prog.underlying 569 = some (.int .u32) := by kernel_rfl
theorem fn1 : Tryz.prog.funcNamed "(skald/saga.Saga).forward" = some 871 := by kernel_rfl
theorem fn2 : Tryz.prog.funcNamed "(skald/saga.Saga).free" = some 872 := by kernel_rfl
theorem fn3 : Tryz.prog.funcNamed "(skald/saga.Saga).undo" = some 873 := by kernel_rfl
theorem w6G : ∀ r ∈ kindsR, r.length = 5 := by decide
noncomputable def kFs : Array Field := match Tryz.prog.underlying 539 with
 | some (.struct fs) => fs
 | _ => #[]
theorem gsK : Tryz.prog.underlying 539 = some (.struct kFs) := by kernel_rfl
theorem kF0 : (kFs[0]?).map (fun f => (f.offset, f.type)) = some (0, 9) := by kernel_rfl
theorem kF1 : (kFs[1]?).map (fun f => (f.offset, f.type)) = some (1, 3) := by kernel_rfl
theorem kF2 : (kFs[2]?).map (fun f => (f.offset, f.type)) = some (2, 3) := by kernel_rfl
theorem kF3 : (kFs[3]?).map (fun f => (f.offset, f.type)) = some (3, 3) := by kernel_rfl
theorem kF4 : (kFs[4]?).map (fun f => (f.offset, f.type)) = some (4, 3) := by kernel_rfl
theorem gc9 : Tryz.prog.cellsOf 9 = 1 := by kernel_rfl
theorem gi9 : Tryz.prog.underlying 9 = some .string := by kernel_rfl
theorem v2q {j t : Nat} (h : (kFs[j]?).map (fun f => (f.offset, f.type)) = some (j, t)) : ∃ f, kFs[j]? = some f ∧ f.offset = j ∧ f.type = t := by
 obtain ⟨f, h1, h2⟩ := Option.map_eq_some_iff.1 h
 simp only [Prod.mk.injEq] at h2
 exact ⟨f, h1, h2.1, h2.2⟩
theorem q7G : ∀ r ∈ kindsR, ∃ s a b c d, r = [.string s, .int .i64 a, .int .i64 b, .int .i64 c, .int .i64 d] := by
 intro r hr
 simp only [kindsR, List.mem_cons, List.not_mem_nil, or_false] at hr
 rcases hr with rfl | rfl | rfl | rfl | rfl | rfl | rfl | rfl | rfl | rfl | rfl | rfl <;> exact ⟨_, _, _, _, _, rfl⟩
theorem w6H : ∀ r ∈ kindsR, ∀ (j : Nat) (x : Lit), r[j]? = some x → ∃ f, kFs[j]? = some f ∧ f.offset = j ∧ Tryz.prog.cellsOf f.type = 1 ∧ j6K Tryz.prog f.type x := by
 intro r hr j x hx
 obtain ⟨s, a, b, c, d, rfl⟩ := q7G r hr
 have fin : ∀ {i t : Nat}, (kFs[i]?).map (fun f => (f.offset, f.type)) = some (i, t) → Tryz.prog.cellsOf t = 1 → j6K Tryz.prog t x → ∃ f, kFs[i]? = some f ∧ f.offset = i ∧ Tryz.prog.cellsOf f.type = 1 ∧ j6K Tryz.prog f.type x := fun h1 h2 h3 => by
  obtain ⟨f, e1, e2, e3⟩ := v2q h1
  exact ⟨f, e1, e2, by rw [e3]; exact h2, by rw [e3]; exact h3⟩
 match j, hx with
 | 0, hx => simp only [List.getElem?_cons_zero, Option.some.injEq] at hx; subst hx; exact fin kF0 gc9 gi9
 | 1, hx => simp only [List.getElem?_cons_succ, List.getElem?_cons_zero, Option.some.injEq] at hx; subst hx; exact fin kF1 gc3 gi3
 | 2, hx => simp only [List.getElem?_cons_succ, List.getElem?_cons_zero, Option.some.injEq] at hx; subst hx; exact fin kF2 gc3 gi3
 | 3, hx => simp only [List.getElem?_cons_succ, List.getElem?_cons_zero, Option.some.injEq] at hx; subst hx; exact fin kF3 gc3 gi3
 | 4, hx => simp only [List.getElem?_cons_succ, List.getElem?_cons_zero, Option.some.injEq] at hx; subst hx; exact fin kF4 gc3 gi3
 | n + 5, hx => simp at hx
theorem w6I : ∀ (ρ : Env), ∀ r ∈ kindsR, ∀ x ∈ r, conc ρ (litA x) = litV x := by
 intro ρ r hr x hx
 obtain ⟨s, a, b, c, d, rfl⟩ := q7G r hr
 simp only [List.mem_cons, List.not_mem_nil, or_false] at hx
 rcases hx with rfl | rfl | rfl | rfl | rfl <;> rfl
theorem nm1 : "(skald/saga.Saga).forward".toUTF8.data.toList = [40, 115, 107, 97, 108, 100, 47, 115, 97, 103, 97, 46, 83, 97, 103, 97, 41, 46, 102, 111, 114, 119, 97, 114, 100] := by decide
theorem nm2 : "(skald/saga.Saga).free".toUTF8.data.toList = [40, 115, 107, 97, 108, 100, 47, 115, 97, 103, 97, 46, 83, 97, 103, 97, 41, 46, 102, 114, 101, 101] := by decide
theorem nm3 : "(skald/saga.Saga).undo".toUTF8.data.toList = [40, 115, 107, 97, 108, 100, 47, 115, 97, 103, 97, 46, 83, 97, 103, 97, 41, 46, 117, 110, 100, 111] := by decide
noncomputable def ffD : TypeDesc := (Tryz.prog.underlying 778).getD .bool
theorem gdF : ∃ d, Tryz.prog.underlying 778 = some d ∧ q2W d = true := ⟨ffD, by kernel_rfl, by kernel_rfl⟩
theorem v2r {ρ : Env} {D : Nat → Prop} : ∀ r ∈ kindsR, ∀ x ∈ r, okV ρ D (litA x) := by
 intro r hr x hx
 obtain ⟨s, a, b, c, d, rfl⟩ := q7G r hr
 simp only [List.mem_cons, List.not_mem_nil, or_false] at hx
 rcases hx with rfl | rfl | rfl | rfl | rfl <;> trivial
theorem v2s {l : List (String × DataW Unit)} {W : World} (h2 : ("skald/saga.phases", DataW.agg (phasesR.map fun x => .lit (.int .i64 x))) ∈ l) (h4 : ("skald/msg.kinds", DataW.agg (kindsR.map fun r => .agg (r.map .lit))) ∈ l)
  (h7 : ("skald/crc.fours", DataW.agg (foursR.map fun x => .lit (.int .u32 x))) ∈ l) (hL : laidMet Tryz.prog l W) (hF : funcsAt Tryz.prog W "skald/saga.follow" (.agg followR)) : ∃ ρ, Base Tryz.tab W ρ cnH0 := by
 obtain ⟨a2, e2, p1, p2, p3⟩ := z9t (k := .i64) (xs := phasesR) hL (n := "skald/saga.phases") h2 gn2 gt2 gu2 gc3 gi3 (by simp [phasesR])
 obtain ⟨a7, e7, q1, q2, q3⟩ := z9t (k := .u32) (xs := foursR) hL (n := "skald/crc.fours") h7 gn7 gt7 gu7 gcU giU (by simp [foursR])
 obtain ⟨a4, e4, z4, k1, k2⟩ := j3z (rows := kindsR) hL h4 gn4 gt4 gu4 gsK gcK w6H
 obtain ⟨a6, e6, z6, m6, ys, f1, f2, f3, f4⟩ := q9m hF gn6 gt6 gu6 gcF gcA
 obtain ⟨d6, u6, i6⟩ := gdF
 have hR := j3A (G := Tryz.tab) (H := cnH0) (W := W) (by rw [j6T]; exact z1k k3a) (fun x o ho => by
  rcases gAt x o ho with rfl | rfl | rfl | rfl
  ·rw [g2] at ho; cases ho
   refine ⟨_, phasesR.map fun x => AV.int .i64 x, e2, a2, (0, 0), by rw [List.length_map], z0w.2 fun v hv => ?_, p1, fun i y hy => ?_⟩
   ·obtain ⟨x, _, rfl⟩ := List.mem_map.1 hv; trivial
   ·rw [List.getElem?_map] at hy
    obtain ⟨z, hz, rfl⟩ := Option.map_eq_some_iff.1 hy
    exact p3 i z hz
  ·rw [g4] at ho; cases ho
   refine ⟨_, kindsR.flatMap fun r => r.map litA, e4, a4, z4, rfl, z0w.2 fun v hv => ?_, k1, fun i y hy => ?_⟩
   ·obtain ⟨r, hr, hv⟩ := List.mem_flatMap.1 hv
    obtain ⟨x, hx, rfl⟩ := List.mem_map.1 hv
    exact v2r r hr x hx
   ·obtain ⟨q, j, r, x, rfl, hj, hr, hx, rfl⟩ := j6L w6G hy
    rw [w6I _ r (List.mem_of_getElem? hr) x (List.mem_of_getElem? hx)]
    exact k2 q j r x hr hx hj
  ·rw [g6] at ho; cases ho
   refine ⟨_, [.nilFunc, .func (.func 871) [] [], .func (.func 872) [] [], .func (.func 873) [] []], e6, a6, z6, rfl, ⟨trivial, ⟨trivial, trivial, trivial⟩, ⟨trivial, trivial, trivial⟩, ⟨trivial, trivial, trivial⟩, trivial⟩, f1, fun i y hy => ?_⟩
   have hy4 : i < 4 := (List.getElem?_eq_some_iff.1 hy).1
   obtain ⟨v, hv, ht⟩ := f4 i hy4
   have hyl : i < ys.length := by rw [f3]; exact hy4
   rw [List.getElem?_eq_getElem hyl] at ht
   have hm : (ys.map (·.1))[i]? = (DataW.funcsOutAll followR)[i]? := by rw [f2]
   rw [List.getElem?_map, List.getElem?_eq_getElem hyl, Option.map_some] at hm
   rw [hv]
   rcases (by omega : i = 0 ∨ i = 1 ∨ i = 2 ∨ i = 3) with rfl | rfl | rfl | rfl
   ·simp only [List.getElem?_cons_zero, Option.some.injEq] at hy; subst hy
    have hm : some (ys[0]'hyl).1 = some .nil := hm
    rcases q4J u6 i6 ht with ⟨h1, _⟩ | h1
    ·rw [h1]; rfl
    ·rw [h1] at hm; simp at hm
   ·simp only [List.getElem?_cons_succ, List.getElem?_cons_zero, Option.some.injEq] at hy; subst hy
    have hm : some (ys[1]'hyl).1 = some (.held [40, 115, 107, 97, 108, 100, 47, 115, 97, 103, 97, 46, 83, 97, 103, 97, 41, 46, 102, 111, 114, 119, 97, 114, 100]) := hm
    rw [z9Q u6 i6 ht (Option.some.inj hm) (z9R nm1) fn1]; rfl
   ·simp only [List.getElem?_cons_succ, List.getElem?_cons_zero, Option.some.injEq] at hy; subst hy
    have hm : some (ys[2]'hyl).1 = some (.held [40, 115, 107, 97, 108, 100, 47, 115, 97, 103, 97, 46, 83, 97, 103, 97, 41, 46, 102, 114, 101, 101]) := hm
    rw [z9Q u6 i6 ht (Option.some.inj hm) (z9R nm2) fn2]; rfl
   ·simp only [List.getElem?_cons_succ, List.getElem?_cons_zero, Option.some.injEq] at hy; subst hy
    have hm : some (ys[3]'hyl).1 = some (.held [40, 115, 107, 97, 108, 100, 47, 115, 97, 103, 97, 46, 83, 97, 103, 97, 41, 46, 117, 110, 100, 111]) := hm
    rw [z9Q u6 i6 ht (Option.some.inj hm) (z9R nm3) fn3]; rfl
  ·rw [g7] at ho; cases ho
   refine ⟨_, foursR.map fun x => AV.int .u32 x, e7, a7, (0, 0), by rw [List.length_map], z0w.2 fun v hv => ?_, q1, fun i y hy => ?_⟩
   ·obtain ⟨x, _, rfl⟩ := List.mem_map.1 hv; trivial
   ·rw [List.getElem?_map] at hy
    obtain ⟨z, hz, rfl⟩ := Option.map_eq_some_iff.1 hy
    exact q3 i z hz)
 refine ⟨_, hR, z5K q1i, fun x o ho => ?_, rfl, rfl⟩
 rcases gAt x o ho with rfl | rfl | rfl | rfl
 ·rw [g2] at ho; cases ho; trivial
 ·rw [g4] at ho; cases ho; trivial
 ·rw [g6] at ho; cases ho; trivial
 ·rw [g7] at ho; cases ho; trivial
theorem j6U (h : Heap) (hs : ∀ b o, cnH0.blks.get b = some o → h.blks.get b = some o) : CallTo Tryz.prog Tryz.tab 5 [] h [(.bool true, h)] :=
 CallTo.embed j0m rfl (by kernel_rfl) (by rw [j6T]; exact z1k k3a) (fun b o ho => ⟨z5K q1i b o ho, by
  rcases gAt b o ho with rfl | rfl | rfl | rfl
  ·rw [g2] at ho; cases ho; exact z8p _ fun v hv => by obtain ⟨x, _, rfl⟩ := List.mem_map.1 hv; trivial
  ·rw [g4] at ho; cases ho; exact z8p _ fun v hv => by
    obtain ⟨r, hr, hv⟩ := List.mem_flatMap.1 hv
    obtain ⟨x, hx, rfl⟩ := List.mem_map.1 hv
    obtain ⟨s, a, b, c, d, rfl⟩ := q7G r hr
    simp only [List.mem_cons, List.not_mem_nil, or_false] at hx
    rcases hx with rfl | rfl | rfl | rfl | rfl <;> trivial
  ·rw [g6] at ho; cases ho; exact ⟨trivial, ⟨trivial, trivial⟩, ⟨trivial, trivial⟩, ⟨trivial, trivial⟩, trivial⟩
  ·rw [g7] at ho; cases ho; exact z8p _ fun v hv => by obtain ⟨x, _, rfl⟩ := List.mem_map.1 hv; trivial⟩) trivial hs
end Go.Proofs
namespace Go.Proofs
open Go.ChangeShapes Go.WideShapes Go.ChangeAt Go.RowKit Go.Sx
set_option maxRecDepth 100000
theorem q9o {W : World} {ρ : Env} {H : Heap} {f : FuncId} {args : List AV} (hB : Base Tryz.tab W ρ H) (ha : okL ρ (fun b => b < H.next) args) {H' : Heap} (h : CallTo Tryz.prog Tryz.tab f args H [(.bool true, H')]) :
  Calls Tryz.prog f (concL ρ args).toArray W fun e w' => e = .returned (.bool true) ∧ Below W.heap.size W w' := by
 refine (h.calls hB.rel ha).mono fun e w' ⟨p, hp, ρ', D', he, hR, hE⟩ => ?_
 rw [List.mem_singleton.1 hp] at he hR
 refine ⟨he, j5U (fun i o hi => ?_) ?_⟩
 ·exact (hR.rest i o (by rw [hE.sub.rest, hB.rest]; exact hi)).1
 ·have := hR.kin
  rw [hE.sub.orig, hB.orig] at this; exact this
theorem un3 : Tryz.prog.underlying 3 = some (.int .i64) := by kernel_rfl
theorem un2 : Tryz.prog.underlying 2 = some (.int .i64) := by kernel_rfl
theorem un9 : Tryz.prog.underlying 9 = some .string := by kernel_rfl
theorem un24 : Tryz.prog.underlying 24 = some (.slice 68) := by kernel_rfl
theorem ce68 : Tryz.prog.cellsOf 68 = 2 := by kernel_rfl
theorem k3b : q0l Tryz.prog 9 68 = some [9, 2] := by kernel_rfl
theorem k3c : q0l Tryz.prog 9 28 = some [3, 3, 3, 9, 9, 9, 9, 3, 3, 24] := by kernel_rfl
section
variable {H₀ : Type} {enc : TypeId × Value → H₀} {W : World} {base : Nat} {sp : Nat → Bool} {held : Bool}
theorem q1b {u : TypeId} {c : Value} (hu : Tryz.prog.underlying u = some (.int .i64)) (h : ∃ m y, DataW.trod enc Tryz.prog W base sp held m u [c] = some y) : ∃ n, c = .int .i64 n := by
 obtain ⟨m, y, h⟩ := h
 obtain ⟨n, e, _⟩ := DataW.trod_int hu h
 exact ⟨n, by simpa using e⟩
theorem q4K {u : TypeId} {c : Value} (hu : Tryz.prog.underlying u = some .string) (h : ∃ m y, DataW.trod enc Tryz.prog W base sp held m u [c] = some y) : ∃ l : List UInt8, c = .string ⟨l.toArray⟩ := by
 obtain ⟨m, y, h⟩ := h
 obtain ⟨s, e, _⟩ := DataW.trod_string hu h
 refine ⟨s.data.toList, ?_⟩
 simp only [List.cons.injEq, and_true] at e
 rw [e]
theorem q9p {ρ : Env} {H : Heap} (hB : Base Tryz.tab W ρ H) (hg : Tryz.tab.nglob ≤ H.next) {n : Nat} {cs : List Value} {x : DataW H₀ × List MemPlace} (h : DataW.trod enc Tryz.prog W base sp held n 24 cs = some x) :
  ∃ ρ' H' av l, Base Tryz.tab W ρ' H' ∧ More ρ H ρ' H' ∧ concL ρ' [av] = cs ∧ okV ρ' (fun b => b < H'.next) av ∧ q6A H' av l := by
 obtain ⟨ρ', H', av, l, h1, h2, h3, h4, h5, _⟩ := j6C (α := StepN) (f := StepN.cells) (k := 2) (fun _ => rfl) (by omega) (R := fun _ _ => True) (fun _ _ _ _ _ _ => trivial)
  (fun ρ H hB hg n cs x hx => by
   have hf := q4t 9 68 _ k3b n cs x hx
   obtain ⟨c0, cs, rfl, f0, hf⟩ := Fit.cons hf
   obtain ⟨c1, cs, rfl, f1, hf⟩ := Fit.cons hf
   obtain rfl := Fit.nil hf
   obtain ⟨x0, rfl⟩ := q4K un9 f0
   obtain ⟨x1, rfl⟩ := q1b un2 f1
   exact ⟨ρ, H, ⟨x0, x1⟩, hB, .refl _ _, trivial, ⟨trivial, trivial, trivial⟩, rfl⟩) un24 ce68 h hB hg
 exact ⟨ρ', H', av, l, h1, h2, h3, h4, h5⟩
theorem w6J {ρ : Env} (hB : Base Tryz.tab W ρ cnH0) {v0 : Value} (hv : ∃ cs, v0 = .agg cs) {n : Nat} {x : DataW H₀ × List MemPlace} (h0 : DataW.trod enc Tryz.prog W base sp held n 28 v0.cells.toList = some x) :
  Calls Tryz.prog 3 #[v0] W fun e w' => e = .returned (.bool true) ∧ Below W.heap.size W w' := by
 obtain ⟨cs, rfl⟩ := hv
 have hcs : (Value.agg cs).cells = cs := rfl
 rw [hcs] at h0
 have hf := q4t 9 28 _ k3c n cs.toList x h0
 generalize hl : cs.toList = ls at hf
 obtain ⟨c0, ls, rfl, f0, hf⟩ := Fit.cons hf
 obtain ⟨c1, ls, rfl, f1, hf⟩ := Fit.cons hf
 obtain ⟨c2, ls, rfl, f2, hf⟩ := Fit.cons hf
 obtain ⟨c3, ls, rfl, f3, hf⟩ := Fit.cons hf
 obtain ⟨c4, ls, rfl, f4, hf⟩ := Fit.cons hf
 obtain ⟨c5, ls, rfl, f5, hf⟩ := Fit.cons hf
 obtain ⟨c6, ls, rfl, f6, hf⟩ := Fit.cons hf
 obtain ⟨c7, ls, rfl, f7, hf⟩ := Fit.cons hf
 obtain ⟨c8, ls, rfl, f8, hf⟩ := Fit.cons hf
 obtain ⟨c9, ls, rfl, f9, hf⟩ := Fit.cons hf
 obtain rfl := Fit.nil hf
 obtain ⟨x0, rfl⟩ := q1b un3 f0
 obtain ⟨x1, rfl⟩ := q1b un3 f1
 obtain ⟨x2, rfl⟩ := q1b un3 f2
 obtain ⟨x3, rfl⟩ := q4K un9 f3
 obtain ⟨x4, rfl⟩ := q4K un9 f4
 obtain ⟨x5, rfl⟩ := q4K un9 f5
 obtain ⟨x6, rfl⟩ := q4K un9 f6
 obtain ⟨x7, rfl⟩ := q1b un3 f7
 obtain ⟨x8, rfl⟩ := q1b un3 f8
 obtain ⟨n9, y9, f9⟩ := f9
 obtain ⟨ρ1, H1, av, ss, B1, M1, e1, o1, k1⟩ := q9p hB (by rw [j6T]; exact z1k k3a) f9
 obtain rfl : conc ρ1 av = c9 := by simpa [concL] using e1
 have hs : ∀ h, Grows H1 h → Neat h → CallTo Tryz.prog Tryz.tab 5 [] h [(.bool true, h)] := fun h hg _ => j6U h fun b o ho => by
  have g1 := M1.grows.get b (hB.neat b o ho)
  have g2 := hg.get b (B1.neat b o (g1.trans ho))
  exact g2.trans (g1.trans ho)
 have := q9o B1 (args := [.agg (opL x0 x1 x2 x3 x4 x5 x6 x7 x8 av)]) ⟨⟨trivial, trivial, trivial, trivial, trivial, trivial, trivial, trivial, trivial, o1, trivial⟩, trivial⟩ (w6C x0 x1 x2 x3 x4 x5 x6 x7 x8 av ss H1 B1.neat k1 hs)
 have e : (concL ρ1 [.agg (opL x0 x1 x2 x3 x4 x5 x6 x7 x8 av)]).toArray = #[Value.agg cs] := by
  show #[Value.agg (concL ρ1 (opL x0 x1 x2 x3 x4 x5 x6 x7 x8 av)).toArray] = _
  have e2 : (concL ρ1 (opL x0 x1 x2 x3 x4 x5 x6 x7 x8 av)).toArray = cs := by
   apply Array.ext'
   rw [hl]; rfl
  rw [e2]
 rw [e] at this
 exact this
end
end Go.Proofs
