/-
  Fields of a kind; check and text of a command; the text of events; what is looked at.
-/
import Derived.Test.YthfkhidmeeajfaaGreatDoorLNtA
import Derived.Test.YthfkhidmeeajfaaGreatDoorLTaB
import Derived.Test.YthfkhidmeeajfaaGreatDoorLSxI
set_option linter.unusedSimpArgs false
set_option linter.unusedVariables false
namespace Go.Proofs
open Go.Sx
set_option maxRecDepth 100000
def j5m (K : Heap) (v : AV) (l : List Fld) : Prop := ∃ rows : List (List AV), rows.length = l.length ∧ (∀ r ∈ rows, r.length = 5) ∧ CellsAt 109 (fun r => r) K v rows ∧ ∀ (i : Nat) (fs : List AV) (F : Fld), rows[i]? = some fs → l[i]? = some F → FldOk K fs F
abbrev f5 (r : List AV) : List AV := if r.length = 5 then r else List.replicate 5 .nilptr
theorem k6R (r : List AV) : (f5 r).length = 5 := by unfold f5; split <;> simp [*]
theorem j9K : ∀ {rows : List (List AV)}, (∀ r ∈ rows, r.length = 5) → (rows.flatMap f5) = rows.flatMap fun r => r
  | [], _ => rfl
  | r :: l, h => by
    rw [List.flatMap_cons, List.flatMap_cons, j9K fun x hx => h x (List.mem_cons_of_mem _ hx), show f5 r = r from if_pos (h r (List.mem_cons_self ..))]
theorem q5L {H : Heap} {v : AV} {rows : List (List AV)} (h : CellsAt 109 (fun r => r) H v rows) (h5 : ∀ r ∈ rows, r.length = 5) {i : Nat} {fs : List AV} (hfs : rows[i]? = some fs) :
    ∃ b, z1e Tryz.tab 100 v (.int .i64 (i : Int)) = some (.ptr b (i * 5)) ∧ Sx.cellsIn (H.blks.get b) (i * 5) 5 = some fs := by
  have h' : CellsAt 109 f5 H v rows := by
    rcases h with h | ⟨b, q, c, x, h1, h2⟩
    · exact .inl h
    · exact .inr ⟨b, q, c, x, h1, by rw [j9K h5]; exact h2⟩
  obtain ⟨b, h1, -, h3⟩ := h'.row k0H z4c k6R hfs
  have h3 := h3 0 5 (by omega)
  have e : f5 fs = fs := if_pos (h5 fs (List.mem_of_getElem? hfs))
  rw [e, List.drop_zero, List.take_of_length_le (by rw [h5 fs (List.mem_of_getElem? hfs)]; omega)] at h3
  exact ⟨b, h1, h3⟩
def z1C (H : Heap) (k : Int) : Prop := match z6r k with
  | none => CallTo Tryz.prog Tryz.tab 39 [vi k] H [(.tuple [.str [], .nilslice, .bool false], H)]
  | some (w, l) => ∃ v K, CallTo Tryz.prog Tryz.tab 39 [vi k] H [(.tuple [.str w, v, .bool true], K)] ∧ Grows H K ∧ Neat K ∧ j5m K v l
theorem FldOk.len {k : Heap} {fs : List AV} {F : Fld} (h : FldOk k fs F) : fs.length = 5 := by
  obtain ⟨a, b, c, d, e, x, y, z, u, v, rfl, _⟩ := h; rfl
theorem FldOk.one {k : Heap} {fs : List AV} {F : Fld} (h : FldOk k fs F) : z0W fs = true := by
  obtain ⟨a, b, c, d, e, x, y, z, u, v, rfl, _⟩ := h; rfl
theorem q3Y {H : Heap} {e n : Nat} {l : List AV} (h : z0W l = true) : z0K H e n n l = some (.slice H.next 0 n false n, H.push (.cells e true l)) := by
  unfold z0K
  rw [z1t, h]; rfl
theorem bsK2 (H : Heap) (a0 a1 a2 a3 a4 b0 b1 b2 b3 b4 : AV) : z0N Tryz.tab H 100 2 [(0, .agg [a0, a1, a2, a3, a4]), (1, .agg [b0, b1, b2, b3, b4])] = z0K H 109 2 2 [a0, a1, a2, a3, a4, b0, b1, b2, b3, b4] := by kernel_rfl
theorem bs2 {r0 r1 : List AV} {F0 F1 : Fld} {k0 k1 : Heap} (h0 : FldOk k0 r0 F0) (h1 : FldOk k1 r1 F1) (H : Heap) : z0N Tryz.tab H 100 2 [(0, .agg r0), (1, .agg r1)] = some (.slice H.next 0 2 false 2, H.push (.cells 109 true ([r0, r1].flatMap fun r => r))) := by
  obtain ⟨_, _, _, _, _, _, _, _, _, _, rfl, _⟩ := h0
  obtain ⟨_, _, _, _, _, _, _, _, _, _, rfl, _⟩ := h1
  rw [bsK2, q3Y (by rfl)]; rfl
theorem bsK3 (H : Heap) (a0 a1 a2 a3 a4 b0 b1 b2 b3 b4 c0 c1 c2 c3 c4 : AV) : z0N Tryz.tab H 100 3 [(0, .agg [a0, a1, a2, a3, a4]), (1, .agg [b0, b1, b2, b3, b4]), (2, .agg [c0, c1, c2, c3, c4])] = z0K H 109 3 3 [a0, a1, a2, a3, a4, b0, b1, b2, b3, b4, c0, c1, c2, c3, c4] := by kernel_rfl
theorem bs3 {r0 r1 r2 : List AV} {F0 F1 F2 : Fld} {k0 k1 k2 : Heap} (h0 : FldOk k0 r0 F0) (h1 : FldOk k1 r1 F1) (h2 : FldOk k2 r2 F2) (H : Heap) : z0N Tryz.tab H 100 3 [(0, .agg r0), (1, .agg r1), (2, .agg r2)] = some (.slice H.next 0 3 false 3, H.push (.cells 109 true ([r0, r1, r2].flatMap fun r => r))) := by
  obtain ⟨_, _, _, _, _, _, _, _, _, _, rfl, _⟩ := h0
  obtain ⟨_, _, _, _, _, _, _, _, _, _, rfl, _⟩ := h1
  obtain ⟨_, _, _, _, _, _, _, _, _, _, rfl, _⟩ := h2
  rw [bsK3, q3Y (by rfl)]; rfl
theorem j8t (H : Heap) (hN : Neat H) : z1C H 0 := by
  refine ⟨.nilslice, H, ?_, .refl _, hN, [], rfl, (fun _ h => absurd h List.not_mem_nil), .inl ⟨rfl, rfl⟩, (fun i fs F h => by simp at h)⟩
  refine z0I Tryz.tabOk z0d (n := 20) ?_
  clear hN
  exact co_ (y3_ k3N Tryz.f39.eq_1 @eq_self.{1})
set_option linter.defProp false
def z7a := y2_ k3N Tryz.f39.eq_1
theorem j8u (H : Heap) (hN : Neat H) : z1C H 1 := by
  obtain ⟨f0, K0, c0, F0, l0, g0, n0⟩ := k2O H hN
  obtain ⟨f1, K1, c1, F1, l1, g1, n1⟩ := j5l K0 n0
  obtain ⟨f2, K2, c2, F2, l2, g2, n2⟩ := j5i K1 n1
  have hF2 := F2
  have hF1 := F1.grow g2
  have hF0 := F0.grow (g1.trans g2)
  have hb := bs3 F0 F1 F2 K2
  refine ⟨.slice K2.next 0 3 false 3, K2.push (.cells 109 true ([f0, f1, f2].flatMap fun r => r)), ?_, ((g0.trans g1).trans g2).trans (.push _ _), n2.push _, [f0, f1, f2], rfl, ?_, .inr ⟨K2.next, false, 3, true, rfl, z0q _ _⟩, ?_⟩
  · refine z0I Tryz.tabOk (ov := (ptO (ptO (ptO noOv 69 [] H [(.agg f0, K0)]) 70 [] K0 [(.agg f1, K1)]) 71 [] K1 [(.agg f2, K2)])) (z0g (z0g (z0g z0d c0) c1) c2) (n := 20) ?_
    clear c0 F0 l0 g0 n0 c1 F1 l1 g1 n1 c2 F2 l2 g2 n2 hF0 hF1 hF2 hN
    exact co_ (y2_ z7a hb)
  · intro r hr
    simp only [List.mem_cons, List.mem_nil_iff, or_false] at hr
    rcases hr with rfl | rfl | rfl
    · exact F0.len
    · exact F1.len
    · exact F2.len
  · intro i fs F h h'
    match i, h, h' with
    | 0, h, h' => simp at h h'; subst h; subst h'; exact hF0.grow (.push _ _)
    | 1, h, h' => simp at h h'; subst h; subst h'; exact hF1.grow (.push _ _)
    | 2, h, h' => simp at h h'; subst h; subst h'; exact hF2.grow (.push _ _)
    | _ + 3, h, h' => simp at h
theorem j8v (H : Heap) (hN : Neat H) : z1C H 2 := by
  obtain ⟨f0, K0, c0, F0, l0, g0, n0⟩ := z8a H hN
  obtain ⟨f1, K1, c1, F1, l1, g1, n1⟩ := j5l K0 n0
  have hF1 := F1
  have hF0 := F0.grow g1
  have hb := bs2 F0 F1 K1
  refine ⟨.slice K1.next 0 2 false 2, K1.push (.cells 109 true ([f0, f1].flatMap fun r => r)), ?_, (g0.trans g1).trans (.push _ _), n1.push _, [f0, f1], rfl, ?_, .inr ⟨K1.next, false, 2, true, rfl, z0q _ _⟩, ?_⟩
  · refine z0I Tryz.tabOk (ov := (ptO (ptO noOv 72 [] H [(.agg f0, K0)]) 70 [] K0 [(.agg f1, K1)])) (z0g (z0g z0d c0) c1) (n := 20) ?_
    clear c0 F0 l0 g0 n0 c1 F1 l1 g1 n1 hF0 hF1 hN
    exact co_ (y2_ z7a hb)
  · intro r hr
    simp only [List.mem_cons, List.mem_nil_iff, or_false] at hr
    rcases hr with rfl | rfl
    · exact F0.len
    · exact F1.len
  · intro i fs F h h'
    match i, h, h' with
    | 0, h, h' => simp at h h'; subst h; subst h'; exact hF0.grow (.push _ _)
    | 1, h, h' => simp at h h'; subst h; subst h'; exact hF1.grow (.push _ _)
    | _ + 2, h, h' => simp at h
theorem j8w (H : Heap) (hN : Neat H) : z1C H 3 := by
  obtain ⟨f0, K0, c0, F0, l0, g0, n0⟩ := q9l H hN
  obtain ⟨f1, K1, c1, F1, l1, g1, n1⟩ := q0X K0 n0
  have hF1 := F1
  have hF0 := F0.grow g1
  have hb := bs2 F0 F1 K1
  refine ⟨.slice K1.next 0 2 false 2, K1.push (.cells 109 true ([f0, f1].flatMap fun r => r)), ?_, (g0.trans g1).trans (.push _ _), n1.push _, [f0, f1], rfl, ?_, .inr ⟨K1.next, false, 2, true, rfl, z0q _ _⟩, ?_⟩
  · refine z0I Tryz.tabOk (ov := (ptO (ptO noOv 73 [] H [(.agg f0, K0)]) 74 [] K0 [(.agg f1, K1)])) (z0g (z0g z0d c0) c1) (n := 20) ?_
    clear c0 F0 l0 g0 n0 c1 F1 l1 g1 n1 hF0 hF1 hN
    exact co_ (y2_ z7a hb)
  · intro r hr
    simp only [List.mem_cons, List.mem_nil_iff, or_false] at hr
    rcases hr with rfl | rfl
    · exact F0.len
    · exact F1.len
  · intro i fs F h h'
    match i, h, h' with
    | 0, h, h' => simp at h h'; subst h; subst h'; exact hF0.grow (.push _ _)
    | 1, h, h' => simp at h h'; subst h; subst h'; exact hF1.grow (.push _ _)
    | _ + 2, h, h' => simp at h
theorem j8x (H : Heap) (hN : Neat H) : z1C H 4 := by
  obtain ⟨f0, K0, c0, F0, l0, g0, n0⟩ := q9l H hN
  obtain ⟨f1, K1, c1, F1, l1, g1, n1⟩ := q0X K0 n0
  obtain ⟨f2, K2, c2, F2, l2, g2, n2⟩ := q9m K1 n1
  have hF2 := F2
  have hF1 := F1.grow g2
  have hF0 := F0.grow (g1.trans g2)
  have hb := bs3 F0 F1 F2 K2
  refine ⟨.slice K2.next 0 3 false 3, K2.push (.cells 109 true ([f0, f1, f2].flatMap fun r => r)), ?_, ((g0.trans g1).trans g2).trans (.push _ _), n2.push _, [f0, f1, f2], rfl, ?_, .inr ⟨K2.next, false, 3, true, rfl, z0q _ _⟩, ?_⟩
  · refine z0I Tryz.tabOk (ov := (ptO (ptO (ptO noOv 73 [] H [(.agg f0, K0)]) 74 [] K0 [(.agg f1, K1)]) 75 [] K1 [(.agg f2, K2)])) (z0g (z0g (z0g z0d c0) c1) c2) (n := 20) ?_
    clear c0 F0 l0 g0 n0 c1 F1 l1 g1 n1 c2 F2 l2 g2 n2 hF0 hF1 hF2 hN
    exact co_ (y2_ z7a hb)
  · intro r hr
    simp only [List.mem_cons, List.mem_nil_iff, or_false] at hr
    rcases hr with rfl | rfl | rfl
    · exact F0.len
    · exact F1.len
    · exact F2.len
  · intro i fs F h h'
    match i, h, h' with
    | 0, h, h' => simp at h h'; subst h; subst h'; exact hF0.grow (.push _ _)
    | 1, h, h' => simp at h h'; subst h; subst h'; exact hF1.grow (.push _ _)
    | 2, h, h' => simp at h h'; subst h; subst h'; exact hF2.grow (.push _ _)
    | _ + 3, h, h' => simp at h
theorem j5n (H : Heap) (hN : Neat H) : z1C H 11 := by
  obtain ⟨f0, K0, c0, F0, l0, g0, n0⟩ := z8a H hN
  obtain ⟨f1, K1, c1, F1, l1, g1, n1⟩ := q3X K0 n0
  obtain ⟨f2, K2, c2, F2, l2, g2, n2⟩ := k2P K1 n1
  have hF2 := F2
  have hF1 := F1.grow g2
  have hF0 := F0.grow (g1.trans g2)
  have hb := bs3 F0 F1 F2 K2
  refine ⟨.slice K2.next 0 3 false 3, K2.push (.cells 109 true ([f0, f1, f2].flatMap fun r => r)), ?_, ((g0.trans g1).trans g2).trans (.push _ _), n2.push _, [f0, f1, f2], rfl, ?_, .inr ⟨K2.next, false, 3, true, rfl, z0q _ _⟩, ?_⟩
  · refine z0I Tryz.tabOk (ov := (ptO (ptO (ptO noOv 72 [] H [(.agg f0, K0)]) 76 [] K0 [(.agg f1, K1)]) 77 [] K1 [(.agg f2, K2)])) (z0g (z0g (z0g z0d c0) c1) c2) (n := 20) ?_
    clear c0 F0 l0 g0 n0 c1 F1 l1 g1 n1 c2 F2 l2 g2 n2 hF0 hF1 hF2 hN
    exact co_ (y2_ z7a hb)
  · intro r hr
    simp only [List.mem_cons, List.mem_nil_iff, or_false] at hr
    rcases hr with rfl | rfl | rfl
    · exact F0.len
    · exact F1.len
    · exact F2.len
  · intro i fs F h h'
    match i, h, h' with
    | 0, h, h' => simp at h h'; subst h; subst h'; exact hF0.grow (.push _ _)
    | 1, h, h' => simp at h h'; subst h; subst h'; exact hF1.grow (.push _ _)
    | 2, h, h' => simp at h h'; subst h; subst h'; exact hF2.grow (.push _ _)
    | _ + 3, h, h' => simp at h
theorem j5o (H : Heap) (hN : Neat H) : z1C H 12 := by
  obtain ⟨f0, K0, c0, F0, l0, g0, n0⟩ := z8a H hN
  obtain ⟨f1, K1, c1, F1, l1, g1, n1⟩ := q3X K0 n0
  have hF1 := F1
  have hF0 := F0.grow g1
  have hb := bs2 F0 F1 K1
  refine ⟨.slice K1.next 0 2 false 2, K1.push (.cells 109 true ([f0, f1].flatMap fun r => r)), ?_, (g0.trans g1).trans (.push _ _), n1.push _, [f0, f1], rfl, ?_, .inr ⟨K1.next, false, 2, true, rfl, z0q _ _⟩, ?_⟩
  · refine z0I Tryz.tabOk (ov := (ptO (ptO noOv 72 [] H [(.agg f0, K0)]) 76 [] K0 [(.agg f1, K1)])) (z0g (z0g z0d c0) c1) (n := 20) ?_
    clear c0 F0 l0 g0 n0 c1 F1 l1 g1 n1 hF0 hF1 hN
    exact co_ (y2_ z7a hb)
  · intro r hr
    simp only [List.mem_cons, List.mem_nil_iff, or_false] at hr
    rcases hr with rfl | rfl
    · exact F0.len
    · exact F1.len
  · intro i fs F h h'
    match i, h, h' with
    | 0, h, h' => simp at h h'; subst h; subst h'; exact hF0.grow (.push _ _)
    | 1, h, h' => simp at h h'; subst h; subst h'; exact hF1.grow (.push _ _)
    | _ + 2, h, h' => simp at h
theorem j5p (H : Heap) (hN : Neat H) : z1C H 13 := by
  obtain ⟨f0, K0, c0, F0, l0, g0, n0⟩ := z8a H hN
  obtain ⟨f1, K1, c1, F1, l1, g1, n1⟩ := q3X K0 n0
  have hF1 := F1
  have hF0 := F0.grow g1
  have hb := bs2 F0 F1 K1
  refine ⟨.slice K1.next 0 2 false 2, K1.push (.cells 109 true ([f0, f1].flatMap fun r => r)), ?_, (g0.trans g1).trans (.push _ _), n1.push _, [f0, f1], rfl, ?_, .inr ⟨K1.next, false, 2, true, rfl, z0q _ _⟩, ?_⟩
  · refine z0I Tryz.tabOk (ov := (ptO (ptO noOv 72 [] H [(.agg f0, K0)]) 76 [] K0 [(.agg f1, K1)])) (z0g (z0g z0d c0) c1) (n := 20) ?_
    clear c0 F0 l0 g0 n0 c1 F1 l1 g1 n1 hF0 hF1 hN
    exact co_ (y2_ z7a hb)
  · intro r hr
    simp only [List.mem_cons, List.mem_nil_iff, or_false] at hr
    rcases hr with rfl | rfl
    · exact F0.len
    · exact F1.len
  · intro i fs F h h'
    match i, h, h' with
    | 0, h, h' => simp at h h'; subst h; subst h'; exact hF0.grow (.push _ _)
    | 1, h, h' => simp at h h'; subst h; subst h'; exact hF1.grow (.push _ _)
    | _ + 2, h, h' => simp at h
theorem j5q (H : Heap) (hN : Neat H) : z1C H 14 := by
  obtain ⟨f0, K0, c0, F0, l0, g0, n0⟩ := z8a H hN
  obtain ⟨f1, K1, c1, F1, l1, g1, n1⟩ := q0X K0 n0
  obtain ⟨f2, K2, c2, F2, l2, g2, n2⟩ := j5j K1 n1
  have hF2 := F2
  have hF1 := F1.grow g2
  have hF0 := F0.grow (g1.trans g2)
  have hb := bs3 F0 F1 F2 K2
  refine ⟨.slice K2.next 0 3 false 3, K2.push (.cells 109 true ([f0, f1, f2].flatMap fun r => r)), ?_, ((g0.trans g1).trans g2).trans (.push _ _), n2.push _, [f0, f1, f2], rfl, ?_, .inr ⟨K2.next, false, 3, true, rfl, z0q _ _⟩, ?_⟩
  · refine z0I Tryz.tabOk (ov := (ptO (ptO (ptO noOv 72 [] H [(.agg f0, K0)]) 74 [] K0 [(.agg f1, K1)]) 78 [] K1 [(.agg f2, K2)])) (z0g (z0g (z0g z0d c0) c1) c2) (n := 20) ?_
    clear c0 F0 l0 g0 n0 c1 F1 l1 g1 n1 c2 F2 l2 g2 n2 hF0 hF1 hF2 hN
    exact co_ (y2_ z7a hb)
  · intro r hr
    simp only [List.mem_cons, List.mem_nil_iff, or_false] at hr
    rcases hr with rfl | rfl | rfl
    · exact F0.len
    · exact F1.len
    · exact F2.len
  · intro i fs F h h'
    match i, h, h' with
    | 0, h, h' => simp at h h'; subst h; subst h'; exact hF0.grow (.push _ _)
    | 1, h, h' => simp at h h'; subst h; subst h'; exact hF1.grow (.push _ _)
    | 2, h, h' => simp at h h'; subst h; subst h'; exact hF2.grow (.push _ _)
    | _ + 3, h, h' => simp at h
theorem j5r (H : Heap) (hN : Neat H) : z1C H 15 := by
  obtain ⟨f0, K0, c0, F0, l0, g0, n0⟩ := j8s H hN
  obtain ⟨f1, K1, c1, F1, l1, g1, n1⟩ := k2Q K0 n0
  obtain ⟨f2, K2, c2, F2, l2, g2, n2⟩ := q9m K1 n1
  have hF2 := F2
  have hF1 := F1.grow g2
  have hF0 := F0.grow (g1.trans g2)
  have hb := bs3 F0 F1 F2 K2
  refine ⟨.slice K2.next 0 3 false 3, K2.push (.cells 109 true ([f0, f1, f2].flatMap fun r => r)), ?_, ((g0.trans g1).trans g2).trans (.push _ _), n2.push _, [f0, f1, f2], rfl, ?_, .inr ⟨K2.next, false, 3, true, rfl, z0q _ _⟩, ?_⟩
  · refine z0I Tryz.tabOk (ov := (ptO (ptO (ptO noOv 79 [] H [(.agg f0, K0)]) 80 [] K0 [(.agg f1, K1)]) 75 [] K1 [(.agg f2, K2)])) (z0g (z0g (z0g z0d c0) c1) c2) (n := 20) ?_
    clear c0 F0 l0 g0 n0 c1 F1 l1 g1 n1 c2 F2 l2 g2 n2 hF0 hF1 hF2 hN
    exact co_ (y2_ z7a hb)
  · intro r hr
    simp only [List.mem_cons, List.mem_nil_iff, or_false] at hr
    rcases hr with rfl | rfl | rfl
    · exact F0.len
    · exact F1.len
    · exact F2.len
  · intro i fs F h h'
    match i, h, h' with
    | 0, h, h' => simp at h h'; subst h; subst h'; exact hF0.grow (.push _ _)
    | 1, h, h' => simp at h h'; subst h; subst h'; exact hF1.grow (.push _ _)
    | 2, h, h' => simp at h h'; subst h; subst h'; exact hF2.grow (.push _ _)
    | _ + 3, h, h' => simp at h
theorem j5s (k : Int) (hk : z6r k = none) (H : Heap) (hN : Neat H) : z1C H k := by
  unfold z1C
  rw [hk]
  show CallTo Tryz.prog Tryz.tab 39 [vi k] H [(.tuple [.str [], .nilslice, .bool false], H)]
  have e : ¬ k = 0 ∧ ¬ k = 1 ∧ ¬ k = 2 ∧ ¬ k = 3 ∧ ¬ k = 4 ∧ ¬ k = 11 ∧ ¬ k = 12 ∧ ¬ k = 13 ∧ ¬ k = 14 ∧ ¬ k = 15 := by
    unfold z6r at hk
    refine ⟨?_, ?_, ?_, ?_, ?_, ?_, ?_, ?_, ?_, ?_⟩ <;> (rintro rfl; simp at hk)
  obtain ⟨e0, e1, e2, e3, e4, e11, e12, e13, e14, e15⟩ := e
  refine z0I Tryz.tabOk z0d (n := 20) ?_
  clear hN hk
  exact co_ z7a
theorem q5M (k : Int) (H : Heap) (hN : Neat H) : z1C H k := by
  by_cases h0 : k = 0
  · rw [h0]; exact j8t H hN
  by_cases h1 : k = 1
  · rw [h1]; exact j8u H hN
  by_cases h2 : k = 2
  · rw [h2]; exact j8v H hN
  by_cases h3 : k = 3
  · rw [h3]; exact j8w H hN
  by_cases h4 : k = 4
  · rw [h4]; exact j8x H hN
  by_cases h11 : k = 11
  · rw [h11]; exact j5n H hN
  by_cases h12 : k = 12
  · rw [h12]; exact j5o H hN
  by_cases h13 : k = 13
  · rw [h13]; exact j5p H hN
  by_cases h14 : k = 14
  · rw [h14]; exact j5q H hN
  by_cases h15 : k = 15
  · rw [h15]; exact j5r H hN
  exact j5s k (by unfold z6r; simp only [h0, h1, h2, h3, h4, h11, h12, h13, h14, h15, if_false]) H hN
end Go.Proofs
namespace Go.Proofs
open Go.Sx
set_option maxRecDepth 100000
def z2T (F : Fld) : Prop := ∀ m, CmdSm m → CmdSm (F.cl m) ∧ ∀ h, z3D h m.d → z3D h (F.cl m).d
theorem j5t : z2T fCall := fun _ hm => ⟨⟨hm.key, hm.fr, hm.to, hm.dn, hm.dl, hm.dk, hm.data⟩, fun _ hd => hd⟩
theorem j5u : z2T fSaga := fun _ hm => ⟨⟨hm.key, hm.fr, hm.to, hm.dn, hm.dl, hm.dk, hm.data⟩, fun _ hd => hd⟩
theorem j5v : z2T fMove := fun _ hm => ⟨⟨hm.key, hm.fr, hm.to, hm.dn, hm.dl, hm.dk, hm.data⟩, fun _ hd => hd⟩
theorem j1d : z2T fGroup := fun _ hm => ⟨⟨hm.key, hm.fr, hm.to, hm.dn, hm.dl, hm.dk, hm.data⟩, fun _ hd => hd⟩
theorem j8y : z2T fKey := fun _ hm => ⟨⟨Nat.zero_le _, hm.fr, hm.to, hm.dn, hm.dl, hm.dk, hm.data⟩, fun _ hd => hd⟩
theorem j5w : z2T fData := fun _ hm => ⟨⟨hm.key, hm.fr, hm.to, hm.dn, hm.dl, hm.dk, Nat.zero_le _⟩, fun _ hd => hd⟩
theorem j8z : z2T fEff := fun _ hm => ⟨⟨hm.key, hm.fr, hm.to, hm.dn, hm.dl, hm.dk, hm.data⟩, fun _ hd => hd⟩
theorem j1e : z2T fDelta := fun _ hm => ⟨⟨hm.key, hm.fr, hm.to, hm.dn, hm.dl, hm.dk, hm.data⟩, fun _ hd => hd⟩
theorem j1f : z2T fRange := fun _ hm => ⟨⟨hm.key, Nat.zero_le _, Nat.zero_le _, hm.dn, hm.dl, hm.dk, hm.data⟩, fun _ hd => hd⟩
theorem j8A : z2T fDef := fun _ hm => ⟨⟨hm.key, hm.fr, hm.to, Nat.zero_le _, Nat.zero_le _, fun _ hs => absurd hs List.not_mem_nil, hm.data⟩, fun _ _ => .inl ⟨.inl rfl, rfl⟩⟩
theorem j5x : z2T fItem := fun _ hm => ⟨⟨hm.key, hm.fr, hm.to, hm.dn, hm.dl, hm.dk, hm.data⟩, fun _ hd => hd⟩
theorem j8B : z2T fRes := fun _ hm => ⟨⟨hm.key, hm.fr, hm.to, hm.dn, hm.dl, hm.dk, hm.data⟩, fun _ hd => hd⟩
theorem q5N {k : Int} {w : z0D} {l : List Fld} (h : z6r k = some (w, l)) : (∀ F ∈ l, z2T F) ∧ l.length ≤ 3 := by
  unfold z6r at h
  repeat' split at h
  all_goals first
    | (simp at h; done)
    | (simp only [Option.some.injEq, Prod.mk.injEq] at h
       obtain ⟨rfl, rfl⟩ := h
       exact ⟨by simp [j5t, j5u, j5v, j1d, j8y, j5w, j8z, j1e, j1f, j8A, j5x, j8B], by decide⟩)
theorem z8C : ∀ {l : List Fld} {c : CmdN}, (∀ F ∈ l, z2T F) → CmdSm c → CmdSm (z2n l c) ∧ ∀ h, z3D h c.d → z3D h (z2n l c).d
  | [], _, _, hs => ⟨hs, fun _ hd => hd⟩
  | F :: l, c, hl, hs => by
    obtain ⟨g1, g2⟩ := hl F (List.mem_cons_self ..) c hs
    obtain ⟨g3, g4⟩ := z8C (l := l) (fun G hG => hl G (List.mem_cons_of_mem _ hG)) g1
    exact ⟨g3, fun h hd => g4 h (g2 h hd)⟩
theorem j1g (c : CmdN) (H : Heap) (hN : Neat H) : ∃ w v b l K, CallTo Tryz.prog Tryz.tab 39 [vi c.kind] H [(.tuple [.str w, v, .bool b], K)] ∧ Grows H K ∧ Neat K ∧ j5m K v l ∧ (∀ F ∈ l, z2T F) ∧ l.length ≤ 3 ∧
    cmdB c = ((b && l.all fun f => f.ok c) && j4I (z2n l c) (cmdZ c.kind)) ∧ (b = true → cmdT c = z6q (w :: l.map fun f => f.tx c)) ∧ w.length ≤ 10 := by
  have h := q5M c.kind H hN
  unfold z1C at h
  unfold cmdB cmdT
  cases hk : z6r c.kind with
  | none =>
    rw [hk] at h
    exact ⟨[], .nilslice, false, [], H, h, .refl _, hN, ⟨[], rfl, fun _ h => absurd h List.not_mem_nil, .inl ⟨rfl, rfl⟩, fun i fs F h => by simp at h⟩, fun _ h => absurd h List.not_mem_nil, by simp, rfl, fun e => Bool.noConfusion e, by simp⟩
  | some x =>
    obtain ⟨w, l⟩ := x
    rw [hk] at h
    obtain ⟨v, K, h1, h2, h3, h4⟩ := h
    obtain ⟨g1, g2⟩ := q5N hk
    refine ⟨w, v, true, l, K, h1, h2, h3, h4, g1, g2, by rw [Bool.true_and], fun _ => rfl, ?_⟩
    unfold z6r at hk
    repeat' split at hk
    all_goals first
      | (simp at hk; done)
      | (simp only [Option.some.injEq, Prod.mk.injEq] at hk; obtain ⟨rfl, rfl⟩ := hk; decide)
abbrev cmd0 : List AV := [vi 0, vi 0, vi 0, vi 0, vi 0, vi 0, .str [], vi 0, vi 0, .str [], .str [], vi 0, .str [], vi 0, vi 0, .nilslice, vi 0, vi 0, vi 0, vi 0, .bool false, vi 0, vi 0, .str []]
theorem k6S : Tryz.tab.zero 36 = some (.agg cmd0) := by kernel_rfl
theorem k2R (k : Int) : z7y Tryz.tab 36 [(0, .int .i64 k)] = some (.agg (cmdZ k).cells) := by kernel_rfl
theorem w2Q {H : Heap} {b : Nat} {x : Bool} {c : CmdN} (hb : H.blks.get b = some (.cells 36 x cmd0)) (h1 : z0W c.cells = true) : z0P Tryz.tab H 36 (.ptr b 0) (.agg c.cells) = some (z0i H b (some (.cells 36 x c.cells))) :=
  z1s hb sz36 rfl h1 (fun e => by simp [AV.cells, CmdN.cells] at e) rfl
theorem j1h {l : List Fld} {i : Nat} {F : Fld} {c : CmdN} (h : l[i]? = some F) : z2n (l.take (i + 1)) c = F.cl (z2n (l.take i) c) := by
  unfold z2n
  rw [List.take_add_one, h, List.foldl_append]; rfl
theorem j8C {l : List Fld} {i : Nat} {F : Fld} {c : CmdN} (h : l[i]? = some F) : ((l.take (i + 1)).all fun f => f.ok c) = (((l.take i).all fun f => f.ok c) && F.ok c) := by
  rw [List.take_add_one, h, List.all_append]; simp
theorem j5y (c : CmdN) (H : Heap) (hN : Neat H) (hd : z3D H c.d) (hs : CmdSm c) : CallTo Tryz.prog Tryz.tab 38 [.agg c.cells] H [(vi (code (cmdB c) 2), H)] := by
  refine z0M Tryz.tabOk Tryz.func38 rfl rfl ?_
  show Gets Tryz.prog Tryz.tab ⟨none, 43⟩ _ _ _
  repeat refine Gets.seq ?_
  have o1 := z8B hd.one
  obtain ⟨w, v, b, l, K, hf, kg, kN, hv, hg, hl3, hB, -, -⟩ := j1g c (H.push (z0x c)) (hN.push _)
  rw [hB]
  obtain ⟨rows, r1, r2, r3, r4⟩ := hv
  have hvo := r3.one
  have hln : ∀ h, lenA Tryz.tab h 100 v = some (.int .i64 (l.length : Int)) := by rw [← r1]; exact r3.len k0H
  have hKn : H.next + 1 ≤ K.next := kg.next
  have aK : K.blks.get H.next = some (z0x c) := kg.some_ (hN.push _) (z0q _ _)
  refine g1_ o1 ?_
  refine o1_ (z0g z0d hf) (y4_ @z0B @q7R @ccL (z0c ia3)) ?_
  refine Gets.ofS (fun tm k => tm.get 1 = some (.ptr H.next 0) ∧ tm.get 4 = some v ∧ tm.get 5 = some (.bool b) ∧ k = K) ⟨sx0_, sx0_, sx0_, rfl⟩ ?_
  rintro tm k ⟨i1, i4, i5, rfl⟩
  have hst := w2Q (c := c) (x := true) (z0q k (.cells 36 true cmd0)) o1
  refine g1_ (y6_ i1 aK @ccL (z0o ia36 sz36) @k6S hst) ?_
  refine g1_ (y2_ i4 hln) ?_
  refine Gets.uptoH l.length (fun i tm m => tm.get 1 = some (.ptr H.next 0) ∧ tm.get 5 = some (.bool (b && (l.take i).all fun f => f.ok c)) ∧ tm.get 6 = some (.ptr k.next 0) ∧ tm.get 17 = some v ∧ tm.get 18 = some (vi (l.length : Int)) ∧ tm.get 19 = some (vi (i : Int)) ∧
      m.blks.get k.next = some (z0x (z2n (l.take i) c)) ∧ k.next + 1 ≤ m.next ∧ (∀ x, x < k.next → m.blks.get x = k.blks.get x) ∧ Neat m)
    ⟨sx1_ i1, sf1_ (y3_ i5 @List.take_zero.{0} @List.all_nil.{0}), sx0_, sx0_, sx0_, sx0_, fo_, fl_, fun x hx => fo_, Neat.put (kN.push _) (fl_) _⟩ ?_
  clear hst i1 i4 i5
  clear tm
  rintro i tm m hi ⟨i1, i5, i6, i17, i18, i19, ap, mx, mg, mN⟩
  repeat refine Gets.seq ?_
  have gm : Grows k m := ⟨by omega, mg⟩
  have am : m.blks.get H.next = some (z0x c) := by rw [mg _ (by omega)]; exact aK
  have gH : Grows H m := ⟨by omega, fun x hx => by rw [mg x (by omega), kg.get x (fl_), z0r _ _ (by omega)]⟩
  by_cases hlt : (i : Int) < (l.length : Int)
  · obtain ⟨F, hF⟩ : ∃ F, l[i]? = some F := ⟨_, List.getElem?_eq_getElem (by omega)⟩
    obtain ⟨fs, hfs⟩ : ∃ fs, rows[i]? = some fs := ⟨_, List.getElem?_eq_getElem (by omega)⟩
    obtain ⟨a1, a2, a3, a4, a5, x1, x2, x3, x4, x5, e0, hcall⟩ := r4 i fs F hfs hF
    have v5 : z3g .i64 ((i : Int) + 1) = (i : Int) + 1 := z3N (by omega) (by omega)
    obtain ⟨rb, hidx, hc5⟩ := q5L (r3.to fun b x y hb => gm.some_ kN hb) r2 hfs
    rw [e0] at hc5
    refine g1_ (y3_ i18 i19 hlt) ?_
    refine cTb_ ?_
    refine g1_ (y8_ i17 i19 hidx hc5 (z0o z6J z4c) @q0W @j5h (y3_ @stL @t_c5 @z4c)) ?_
    refine Gets.ofS (fun tm n => tm.get 1 = some (.ptr H.next 0) ∧ tm.get 5 = some (.bool (b && (l.take i).all fun f => f.ok c)) ∧ tm.get 6 = some (.ptr k.next 0) ∧ tm.get 8 = some (.ptr m.next 0) ∧ tm.get 17 = some v ∧ tm.get 18 = some (vi (l.length : Int)) ∧ tm.get 19 = some (vi (i : Int)) ∧
        n.blks.get m.next = some (.cells 109 true [.func (.func a1) [] x1, .func (.func a2) [] x2, .func (.func a3) [] x3, .func (.func a4) [] x4, .func (.func a5) [] x5]) ∧ Grows m n ∧ Neat n ∧ n.next = m.next + 1)
      ⟨sx1_ i1, sx1_ i5, sx1_ i6, sx0_, sx1_ i17, sx1_ i18, sx1_ i19, fo_, ⟨fl_, fun x hx => fo_⟩, Neat.put (mN.push _) (fl_) _, by simp only [z0n, z0f]⟩ ?_
    clear i1 i5 i6 i17 i18 i19
    clear tm
    rintro tm n ⟨i1, i5, i6, i8, i17, i18, i19, an, ng, nN, nx⟩
    have an0 : n.blks.get H.next = some (z0x c) := ng.some_ mN am
    have anp : n.blks.get k.next = some (z0x (z2n (l.take i) c)) := ng.some_ mN ap
    obtain ⟨s1, s2⟩ := z8C (l := l.take i) (fun F hF => hg F (List.mem_of_mem_take hF)) hs
    have hdn : z3D n c.d := hd.grow hN (gH.trans ng)
    obtain ⟨q1, -, -⟩ := hcall n (gm.trans ng) nN H.next c ⟨an0, hdn⟩ hs
    obtain ⟨-, -, q3⟩ := hcall n (gm.trans ng) nN k.next _ ⟨anp, s2 n hdn⟩ s1
    have e5 : (b && (l.take (i + 1)).all fun f => f.ok c) = ((b && (l.take i).all fun f => f.ok c) && F.ok c) := by rw [j8C hF, Bool.and_assoc]
    have key : ∀ tm : T AV, tm.get 1 = some (.ptr H.next 0) → tm.get 5 = some (.bool ((b && (l.take i).all fun f => f.ok c) && F.ok c)) → tm.get 17 = some v → tm.get 18 = some (vi (l.length : Int)) → tm.get 19 = some (vi ((i : Int) + 1)) → tm.get 6 = some (.ptr k.next 0) →
        ∃ tm' H', (⟨tm, z0i n k.next (some (z0x (F.cl (z2n (l.take i) c)))), []⟩ : St) = ⟨tm', H', []⟩ ∧ i < l.length ∧ (tm'.get 1 = some (.ptr H.next 0) ∧ tm'.get 5 = some (.bool (b && (l.take (i + 1)).all fun f => f.ok c)) ∧ tm'.get 6 = some (.ptr k.next 0) ∧ tm'.get 17 = some v ∧ tm'.get 18 = some (vi (l.length : Int)) ∧ tm'.get 19 = some (vi ((i + 1 : Nat) : Int)) ∧
          H'.blks.get k.next = some (z0x (z2n (l.take (i + 1)) c)) ∧ k.next + 1 ≤ H'.next ∧ (∀ x, x < k.next → H'.blks.get x = k.blks.get x) ∧ Neat H') := fun tm j1 j5 j17 j18 j19 j6 =>
      ⟨_, _, rfl, by omega, j1, by rw [e5]; exact j5, j6, j17, j18, by rw [z2s]; exact j19, by rw [j1h hF, z0J], by rw [z0f]; omega, fun x hx => by rw [z0l _ _ _ (by omega), ng.get x (by omega)]; exact mg x hx, Neat.put nN (by omega) _⟩
    clear e5 hcall hidx hc5 e0 hdn s1 s2 anp an0 am gH gm
    generalize (b && (l.take i).all fun f => f.ok c) = bb at i5 key
    cases bb
    · refine g1_ (y4_ i5 i1 i8 an) ?_
      refine o1_ (z0g z0d q3) (y6_ @z0B i6 i8 an @j1w (z0c k3M)) ?_
      refine g1_ (y2_ i19 v5) ?_
      exact key _ (sx1_ i1) sx0_ (sx1_ i17) (sx1_ i18) sx0_ (sx1_ i6)
    · rw [Bool.true_and] at key
      refine o1_ (z0g z0d q1) (y7_ @z0B i5 i1 i8 an @k0J (z0c k8Z)) ?_
      refine o1_ (z0g z0d q3) (y6_ @z0B i6 i8 an @j1w (z0c k3M)) ?_
      refine g1_ (y2_ i19 v5) ?_
      exact key _ (sx1_ i1) sx0_ (sx1_ i17) (sx1_ i18) sx0_ (sx1_ i6)
  · have h9 : i = l.length := by omega
    subst h9
    rw [List.take_length] at i5 ap
    obtain ⟨s1, s2⟩ := z8C hg hs
    have hdm : z3D m (z2n l c).d := s2 m (hd.grow hN gH)
    have q := j4W (z2n l c) (cmdZ c.kind) m mN hdm (.inl ⟨.inl rfl, rfl⟩) (by have := s1.dl; omega) (by show (0 : Nat) < 1000000; decide)
    refine g1_ (y3_ i18 i19 hlt) ?_
    refine cFx_ ?_
    clear hdm s1 s2
    generalize (b && l.all fun f => f.ok c) = bb at i5 ⊢
    cases bb
    · rw [Bool.false_and]
      refine g1_ i5 ?_
      refine cT_ ?_
      refine g0_ ?_
      refine Gets.ret Tryz.tabOk ?_
      exact z0v rfl (sf1_ (y2_ Tryz.f38.eq_1 @z4B)) gH hN trivial
    · rw [Bool.true_and]
      generalize j4I (z2n l c) (cmdZ c.kind) = cb at q ⊢
      refine o1_ (z0g z0d q) (y8_ @z0B i1 i5 i6 ap am @ccL (y4_ @q7R (z0c ia3) (z0o ia36 sz36) @k2R)) ?_
      cases cb
      · refine cT_ ?_
        refine g0_ ?_
        refine Gets.ret Tryz.tabOk ?_
        exact z0v rfl (sf1_ (y2_ Tryz.f38.eq_1 @z4B)) gH hN trivial
      · refine cFs_ ?_
        refine g0_ ?_
        refine Gets.ret Tryz.tabOk ?_
        exact z0v rfl (sf1_ (y2_ Tryz.f38.eq_1 @z4r)) gH hN trivial
end Go.Proofs
namespace Go.Proofs
open Go.Sx
set_option maxRecDepth 100000
theorem q9n {d : DefN} (h : defB d = true) : (defT d).length ≤ 400 := by
  obtain ⟨_, _, _, _, h5, _⟩ := z6G h
  have e : defT d = z6q (defW d d.ss.length) := by unfold defT defW; rw [List.take_length]
  rw [e]
  exact Nat.le_trans (z3E _) (q9j h _ h5)
def z4E (F : Fld) : Prop := ∀ c, CmdSm c → F.ok c = true → (F.tx c).length ≤ 1000
theorem j8D : z4E fCall := fun c _ h => Nat.le_trans (z0w (z2K h (by omega) (by omega))) (by omega)
theorem j8E : z4E fSaga := fun c _ h => Nat.le_trans (z0w (z2K h (by omega) (by omega))) (by omega)
theorem j8F : z4E fMove := fun c _ h => Nat.le_trans (z0w (z2K h (by omega) (by omega))) (by omega)
theorem j5z : z4E fGroup := fun c _ h => Nat.le_trans (z0w (z2K h (by omega) (by omega))) (by omega)
theorem k2S : z4E fRes := fun c _ h => Nat.le_trans (z0w (j5g h)) (by omega)
theorem k2T : z4E fKey := fun c hs _ => Nat.le_trans hs.key (by omega)
theorem j8G : z4E fData := fun c hs _ => by
  have := hs.data
  exact Nat.le_trans (z0w (n := (c.data.length : Int)) ⟨by omega, by omega⟩) (by omega)
theorem k2U : z4E fEff := fun c _ h => Nat.le_trans (z9v h) (by omega)
theorem j8H : z4E fItem := fun c _ h => Nat.le_trans (q0U h) (by omega)
theorem k2V : z4E fDef := fun c _ h => Nat.le_trans (q9n h) (by omega)
theorem j5A : z4E fDelta := fun c _ h => by
  have := z0w (q3U h)
  show (z9h c.delta).length ≤ 1000
  unfold z9h
  rw [List.length_append]
  split <;> simp <;> omega
theorem j5B : z4E fRange := fun c hs _ => by
  have h1 := hs.fr
  have h2 := hs.to
  show (z6Z c.fr c.to).length ≤ 1000
  unfold z6Z
  simp only [List.length_append, List.length_cons, List.length_nil]
  omega
theorem j8I {k : Int} {w : z0D} {l : List Fld} (h : z6r k = some (w, l)) : ∀ F ∈ l, z4E F := by
  unfold z6r at h
  repeat' split at h
  all_goals first
    | (simp at h; done)
    | (simp only [Option.some.injEq, Prod.mk.injEq] at h
       obtain ⟨rfl, rfl⟩ := h
       simp [j8D, j8E, j8F, j5z, k2T, j8G, k2U, j5A, j5B, k2V, j8H, k2S])
abbrev cmdW (w : z0D) (l : List Fld) (c : CmdN) (i : Nat) : List z0D := w :: (l.take i).map fun F => F.tx c
theorem j5C {c : CmdN} (hs : CmdSm c) : ∀ {l : List Fld}, (∀ F ∈ l, z4E F) → (∀ F ∈ l, F.ok c = true) → ((l.map fun F => F.tx c).map List.length).sum ≤ 1000 * l.length
  | [], _, _ => by simp
  | F :: l, h, h' => by
    have h1 := h F (List.mem_cons_self ..) c hs (h' F (List.mem_cons_self ..))
    have h2 := j5C hs (l := l) (fun G hG => h G (List.mem_cons_of_mem _ hG)) (fun G hG => h' G (List.mem_cons_of_mem _ hG))
    simp only [List.map_cons, List.sum_cons, List.length_cons]
    omega
theorem q5O (c : CmdN) (hs : CmdSm c) (hB : cmdB c = true) (H : Heap) (hN : Neat H) : ∃ w v l K, CallTo Tryz.prog Tryz.tab 39 [vi c.kind] H [(.tuple [.str w, v, .bool true], K)] ∧ Grows H K ∧ Neat K ∧ j5m K v l ∧ l.length ≤ 3 ∧
    cmdT c = z6q (cmdW w l c l.length) ∧ (∀ F ∈ l, F.ok c = true) ∧ z5M (cmdW w l c l.length) ≤ 5000 := by
  unfold cmdB at hB
  have h := q5M c.kind H hN
  unfold z1C at h
  cases hk : z6r c.kind with
  | none => rw [hk] at hB; simp at hB
  | some x =>
    obtain ⟨w, l⟩ := x
    rw [hk] at h hB
    simp only [Bool.and_eq_true, List.all_eq_true] at hB
    obtain ⟨v, K, h1, h2, h3, h4⟩ := h
    obtain ⟨g1, g2⟩ := q5N hk
    have g3 := j5C hs (j8I hk) hB.1
    refine ⟨w, v, l, K, h1, h2, h3, h4, g2, by unfold cmdT cmdW; rw [hk, List.take_length], hB.1, ?_⟩
    have hw : w.length ≤ 10 := by
      unfold z6r at hk
      repeat' split at hk
      all_goals first
        | (simp at hk; done)
        | (simp only [Option.some.injEq, Prod.mk.injEq] at hk; obtain ⟨rfl, rfl⟩ := hk; decide)
    unfold z5M cmdW
    rw [List.take_length]
    simp only [List.map_cons, List.sum_cons, List.length_cons, List.length_map]
    simp only [List.map_map] at g3 ⊢
    omega
theorem j8J (c : CmdN) (H : Heap) (hN : Neat H) (hP : PowAt H) (hd : z3D H c.d) (hs : CmdSm c) :
    CallTo Tryz.prog Tryz.tab 22 [.agg c.cells] H [(.tuple [.str (if cmdB c then cmdT c else []), vi (code (cmdB c) 2)], H)] := by
  refine z0M Tryz.tabOk Tryz.func22 rfl rfl ?_
  show Gets Tryz.prog Tryz.tab ⟨none, 40⟩ _ _ _
  repeat refine Gets.seq ?_
  have o1 := z8B hd.one
  have q0 := j5y c (H.push (z0x c)) (hN.push _) (hd.grow hN (.push _ _)) hs
  refine g1_ o1 ?_
  cases hB : cmdB c with
  | false =>
    rw [hB] at q0
    refine o1_ (z0g z0d q0) (y4_ @z0B @ccL (z0o ia36 sz36) @z4B) ?_
    refine g0_ ?_
    refine cT_ ?_
    refine g0_ ?_
    refine Gets.ret Tryz.tabOk ?_
    exact z2I rfl (sf1_ (y2_ Tryz.f22.eq_1 @z4B)) (.push _ _) hN ⟨trivial, trivial, trivial⟩
  | true =>
    rw [hB] at q0
    obtain ⟨w, v, l, K, hf, kg, kN, hv, hl3, hT, hok, hlen⟩ := q5O c hs hB (H.push (z0x c)) (hN.push _)
    rw [if_pos rfl, hT]
    obtain ⟨rows, r1, r2, r3, r4⟩ := hv
    have hvo := r3.one
    have hln : ∀ h, lenA Tryz.tab h 100 v = some (.int .i64 (l.length : Int)) := by rw [← r1]; exact r3.len k0H
    have hKn : H.next + 1 ≤ K.next := kg.next
    have aK : K.blks.get H.next = some (z0x c) := kg.some_ (hN.push _) (z0q _ _)
    have hPK : PowAt K := (hP.grow hN (.push _ _)).grow (hN.push _) kg
    refine o1_ (z0g z0d q0) (y4_ @z0B @ccL (z0o ia36 sz36) @z4r) ?_
    refine g0_ ?_
    refine cFs_ ?_
    refine o1_ (z0g z0d hf) (y4_ @z0B @q7R @ccL (z0c ia3)) ?_
    refine Gets.ofS (fun tm k => tm.get 1 = some (.ptr H.next 0) ∧ tm.get 5 = some (.str w) ∧ tm.get 6 = some v ∧ k = K) ⟨sx0_, sx0_, sx0_, rfl⟩ ?_
    clear q0 hf
    rintro tm k ⟨i1, i5, i6, rfl⟩
    refine g1_ (y2_ i5 @k2K) ?_
    refine g1_ (y2_ i6 hln) ?_
    refine Gets.uptoH l.length (fun i tm m => tm.get 1 = some (.ptr H.next 0) ∧ (∃ u, tm.get 8 = some u ∧ StrsG k.next m u (cmdW w l c i)) ∧ tm.get 25 = some v ∧ tm.get 26 = some (vi (l.length : Int)) ∧ tm.get 27 = some (vi (i : Int)) ∧
        k.next ≤ m.next ∧ (∀ x, x < k.next → m.blks.get x = k.blks.get x) ∧ Neat m)
      ⟨sx1_ i1, ⟨.slice k.next 0 1 false 1, sx0_, by simp, .inl ⟨k.next, Nat.le_refl _, by simp [cmdW], by simp only [cmdW, List.take_zero, List.map_nil, List.map_cons]; ((try simp (disch := first | assumption | omega | (try simp only [z1Y, z0f]) <;> omega | fail) only [foL]); (try rfl))⟩⟩, sx0_, sx0_, sx0_, fl_, fun x hx => fo_, kN.push _⟩ ?_
    clear i1 i5 i6
    clear tm
    rintro i tm m hi ⟨i1, ⟨u, i8, hu⟩, i25, i26, i27, mx, mg, mN⟩
    repeat refine Gets.seq ?_
    have gm : Grows k m := ⟨mx, mg⟩
    have am : m.blks.get H.next = some (z0x c) := by rw [mg _ (by omega)]; exact aK
    have gH : Grows H m := ⟨by omega, fun x hx => by rw [mg x (by omega), kg.get x (fl_), z0r _ _ (by omega)]⟩
    by_cases hlt : (i : Int) < (l.length : Int)
    · obtain ⟨F, hF⟩ : ∃ F, l[i]? = some F := ⟨_, List.getElem?_eq_getElem (by omega)⟩
      obtain ⟨fs, hfs⟩ : ∃ fs, rows[i]? = some fs := ⟨_, List.getElem?_eq_getElem (by omega)⟩
      obtain ⟨a1, a2, a3, a4, a5, x1, x2, x3, x4, x5, e0, hcall⟩ := r4 i fs F hfs hF
      have v5 : z3g .i64 ((i : Int) + 1) = (i : Int) + 1 := z3N (by omega) (by omega)
      obtain ⟨rb, hidx, hc5⟩ := q5L (r3.to fun b x y hb => gm.some_ kN hb) r2 hfs
      rw [e0] at hc5
      have huo := hu.one
      refine g1_ (y3_ i26 i27 hlt) ?_
      refine cTb_ ?_
      refine g1_ (y8_ i25 i27 hidx hc5 (z0o z6J z4c) @q0W @j5h (y3_ @stL @t_c5 @z4c)) ?_
      refine Gets.ofS (fun tm n => tm.get 1 = some (.ptr H.next 0) ∧ tm.get 8 = some u ∧ tm.get 10 = some (.ptr m.next 0) ∧ tm.get 25 = some v ∧ tm.get 26 = some (vi (l.length : Int)) ∧ tm.get 27 = some (vi (i : Int)) ∧
          n.blks.get m.next = some (.cells 109 true [.func (.func a1) [] x1, .func (.func a2) [] x2, .func (.func a3) [] x3, .func (.func a4) [] x4, .func (.func a5) [] x5]) ∧ Grows m n ∧ Neat n ∧ n.next = m.next + 1)
        ⟨sx1_ i1, sx1_ i8, sx0_, sx1_ i25, sx1_ i26, sx1_ i27, fo_, ⟨fl_, fun x hx => fo_⟩, Neat.put (mN.push _) (fl_) _, by simp only [z0n, z0f]⟩ ?_
      clear i1 i8 i25 i26 i27
      clear tm
      rintro tm n ⟨i1, i8, i10, i25, i26, i27, an, ng, nN, nx⟩
      have an0 : n.blks.get H.next = some (z0x c) := ng.some_ mN am
      have hdn : z3D n c.d := hd.grow hN (gH.trans ng)
      obtain ⟨-, q2, -⟩ := hcall n (gm.trans ng) nN H.next c ⟨an0, hdn⟩ hs
      have q2 := q2 (hok F (List.mem_of_getElem? hF)) (hPK.grow kN (gm.trans ng))
      obtain ⟨u', m', p1, p2, p3, p4, p5⟩ := q9i (n0 := k.next) (H := n.push (.cells 9 true [.str (F.tx c)])) (hu.to fun b x y hb hy => by
        rw [z0r _ _ (Nat.ne_of_lt (nN b _ (by rw [ng.get b (mN b _ hy)]; exact hy))), ng.get b (mN b _ hy)]; exact hy) (nN.push _) (by rw [z0n]; omega) (by simp; omega) (z0q _ _)
      have hdw : cmdW w l c i ++ [F.tx c] = cmdW w l c (i + 1) := by
        simp only [cmdW, List.cons_append]
        rw [List.take_add_one, hF]
        simp
      rw [hdw] at p2
      clear hcall hidx hc5 e0 hdn an0 am gH gm hu
      refine o1_ (z0g z0d q2) (y8_ @z0B i1 i8 i10 an @k0I (z0c k8V) (y3_ @k2K @q3A p1)) ?_
      refine g1_ (y2_ i27 v5) ?_
      exact ⟨_, _, rfl, by omega, sx1_ i1, ⟨u', sx0_, p2⟩, sx1_ i25, sx1_ i26, sx1_ @z2s, by rw [p4, z0n]; omega, fun x hx => by
        rw [p5 x hx, z0r _ _ (by omega), ng.get x (by omega)]; exact mg x hx, p3⟩
    · have h9 : i = l.length := by omega
      subst h9
      have q2 := q7D _ u m hu.strs (Nat.le_trans hlen (by omega))
      refine g1_ (y3_ i26 i27 hlt) ?_
      refine cFx_ ?_
      refine o1_ (z0g z0d q2) (y2_ @z0B i8) ?_
      refine Gets.ret Tryz.tabOk ?_
      exact z2I rfl (sf1_ (y2_ Tryz.f22.eq_1 @z4r)) gH hN ⟨trivial, trivial, trivial⟩
end Go.Proofs
namespace Go.Proofs
open Go.Sx
set_option maxRecDepth 100000
abbrev bBlk (a v : AV) : ABlk := .cells 71 true [a, v]
def BldAt (n0 : Nat) (H : Heap) (p : Nat) (s : z0D) : Prop := ∃ a v, H.blks.get p = some (bBlk a v) ∧ (a = .nilptr ∨ a = .ptr p 0) ∧ BufAt n0 5 H v s
theorem j5D (n0 p : Nat) (s : z0D) (H : Heap) (hN : Neat H) (hb : BldAt n0 H p s) : CallTo Tryz.prog Tryz.tab 19 [.ptr p 0] H [(vi (s.length : Int), H)] := by
  obtain ⟨a, v, h0, -, h2⟩ := hb
  have hln : ∀ h, lenA Tryz.tab h 69 v = some (.int .i64 (s.length : Int)) := h2.len ud69
  refine z0k (n := 20) Tryz.tabOk z0d (H' := H) ?_ (.refl _) hN trivial
  clear hN h2
  exact co_ (y4_ k8U Tryz.f19.eq_1 @q7Q (z0c ia69))
theorem k6T (i : Nat) (v : Value) : orB (z1q (.tmp i)) (z1q (.const v)) = true := rfl
theorem k6U (i j : Nat) : orB (z1q (.tmp i)) (z1q (.tmp j)) = false := rfl
theorem k6V (p : Nat) : binA Tryz.tab .eql 68 true (.ptr p 0) .nilptr = some (.bool false) := by kernel_rfl
theorem k6W : binA Tryz.tab .eql 68 true .nilptr .nilptr = some (.bool true) := by kernel_rfl
theorem k6X (p : Nat) : binA Tryz.tab .neq 68 false (.ptr p 0) (.ptr p 0) = some (.bool false) := by
  have e : binA Tryz.tab .neq 68 false (.ptr p 0) (.ptr p 0) = z9a .neq (q6a p 0 p 0) := by kernel_rfl
  rw [e]
  unfold q6a
  rw [z1h rfl]; rfl
theorem j5E {H : Heap} {p : Nat} {a v : AV} (h0 : H.blks.get p = some (bBlk a v)) : z3b Tryz.tab H 71 (.ptr p 0) = some (.ptr p 0, H) := by
  show z0b (q4o H p 0) (fun e => bif Nat.beq e.1 71 then (z0b (Tryz.tab.size 71) fun z => bif Nat.beq z 0 then none else (bif Nat.ble z e.2 then some (AV.ptr p 0, H) else none)) else none) = _
  have e : q4o H p 0 = some (71, 2) := by unfold q4o; rw [h0]; rfl
  rw [e]
  show z0b (Tryz.tab.size 71) (fun z => bif Nat.beq z 0 then none else (bif Nat.ble z 2 then some (AV.ptr p 0, H) else none)) = _
  rw [show Tryz.tab.size 71 = some 2 by kernel_rfl]; rfl
theorem j8K {H : Heap} {p : Nat} {a v : AV} (h0 : H.blks.get p = some (bBlk a v)) : z5u Tryz.tab H 68 161 (.ptr p 0) = some (.ptr p 0, H) := by
  have e : z5u Tryz.tab H 68 161 (.ptr p 0) = z3b Tryz.tab H 71 (.ptr p 0) := by kernel_rfl
  rw [e, j5E h0]
theorem k2W {H : Heap} {p : Nat} {a v : AV} (h0 : H.blks.get p = some (bBlk a v)) : z5u Tryz.tab H 161 68 (.ptr p 0) = some (.ptr p 0, H) := by
  have e : z5u Tryz.tab H 161 68 (.ptr p 0) = z3b Tryz.tab H 71 (.ptr p 0) := by kernel_rfl
  rw [e, j5E h0]
theorem j1i (n p : Nat) (H : Heap) : z0b (Tryz.tab.funcs.get 81) (callFn (fnsO Tryz.tab noOv n) Tryz.tab [.ptr p 0] H) = none := by kernel_rfl
theorem j5F (df : List ADefer) : outs df none = none := rfl
theorem j8L {α : Type} (b : Option α) : orX none b = b := rfl
theorem j5G (p : Nat) (H : Heap) : extV Tryz.tab [.ptr p 0] H (.func (.func 81) [] []) = some [(.ptr p 0, H)] := by kernel_rfl
theorem j8M (p : Nat) (v : AV) (H : Heap) (h0 : H.blks.get p = some (bBlk (.ptr p 0) v)) : CallTo Tryz.prog Tryz.tab 40 [.ptr p 0] H [(.tuple [], H)] := by
  refine z0I Tryz.tabOk z0d (n := 20) ?_
  exact co_ (y8_ k3O Tryz.f40.eq_1 @one0 @j8Z (z0c ia68) @k6T @k6U (y2_ @k6V @k6X))
theorem j8N (p : Nat) (v : AV) (hv : z0H v = true) (H : Heap) (h0 : H.blks.get p = some (bBlk .nilptr v)) : CallTo Tryz.prog Tryz.tab 40 [.ptr p 0] H [(.tuple [], z0i H p (some (bBlk (.ptr p 0) v)))] := by
  have c1 := j8K h0
  have c2 := k2W h0
  refine z0I Tryz.tabOk z0d (n := 20) ?_
  exact co_ (y8_ k3O Tryz.f40.eq_1 @one0 @j8Z (z0c ia68) @stL @sz68 (y8_ @k6T @k6U @k6W @k6a @j1i @j5F @j8L @j5G))
end Go.Proofs
namespace Go.Proofs
open Go.Sx
set_option maxRecDepth 100000
theorem ty5 : ∃ i, Tryz.tab.types.get 5 = some i ∧ i.size = 1 ∧ Nat.ble i.bytes 100000 = true := ⟨Tryz.t5, by kernel_rfl, by kernel_rfl, by kernel_rfl⟩
theorem w2R : Tryz.tab.zero 5 = some (.int .u8 0) := by kernel_rfl
theorem j8O (n0 p : Nat) (s : z0D) (H : Heap) (hN : Neat H) (hp : p < n0) (hb : BldAt n0 H p s) : ∃ v H1, CallTo Tryz.prog Tryz.tab 40 [.ptr p 0] H [(.tuple [], H1)] ∧ H1.blks.get p = some (bBlk (.ptr p 0) v) ∧ BufAt n0 5 H1 v s ∧ H1.next = H.next ∧ (∀ x, x ≠ p → H1.blks.get x = H.blks.get x) ∧ Neat H1 := by
  obtain ⟨a, v, h0, ha, h2⟩ := hb
  rcases ha with rfl | rfl
  · refine ⟨v, _, j8N p v h2.one H h0, z0J _ _ _, h2.to fun b y hb hy => ?_, z0f _ _ _, fun x hx => z0l _ _ _ hx, Neat.put hN (hN _ _ h0) _⟩
    rw [z0l _ _ _ (by omega)]; exact hy
  · exact ⟨v, H, j8M p v H h0, h0, h2, rfl, fun _ _ => rfl, hN⟩
theorem j5H (n0 p : Nat) (s u : z0D) (H : Heap) (hN : Neat H) (hp : p < n0) (hn : n0 ≤ H.next) (hb : BldAt n0 H p s) (hl : s.length + u.length ≤ 1000000) (hne : u ≠ []) :
    ∃ H', CallTo Tryz.prog Tryz.tab 23 [.ptr p 0, .str u] H [(.tuple [vi (u.length : Int), .nilIface], H')] ∧ BldAt n0 H' p (s ++ u) ∧ Neat H' ∧ H.next ≤ H'.next ∧ ∀ x, x < n0 → x ≠ p → H'.blks.get x = H.blks.get x := by
  obtain ⟨v, H1, q, h0, h2, hx, hg, hN1⟩ := j8O n0 p s H hN hp hb
  obtain ⟨i, t1, t2, t3⟩ := ty5
  obtain ⟨v', K, e1, b1, kN, kx, kg⟩ := k2x (t := 69) (ts := 9) ud69 ud9 t1 t2 t3 w2R rfl h2 hN1 (by omega) hl hne
  have k0 : K.blks.get p = some (bBlk (.ptr p 0) v) := by rw [kg p hp]; exact h0
  have vo := b1.one
  refine ⟨z0i K p (some (bBlk (.ptr p 0) v')), ?_, ⟨.ptr p 0, v', z0J _ _ _, .inr rfl, b1.to fun b y hb hy => by rw [z0l _ _ _ (by omega)]; exact hy⟩, Neat.put kN (kN _ _ k0) _, by rw [z0f]; omega, fun x hx hxp => by rw [z0l _ _ _ hxp, kg x hx, hg x hxp]⟩
  refine z0I Tryz.tabOk (ov := ptO noOv 40 [.ptr p 0] H [(.tuple [], H1)]) (z0g z0d q) (n := 20) ?_
  clear q h2 hN1 b1 kN hN hb hg kg
  exact co_ (y8_ k8W Tryz.f23.eq_1 @q7Q (z0c ia69) @q3A @stL @sz69 (z0Q ud9))
theorem j1j (s : z0D) : z4J (z0E s) = some s := by
  induction s with
  | nil => rfl
  | cons c s ih =>
    show z2E (q4n (z7w c)) (z4J (z0E s)) = _
    rw [ih]
    have e : q4n (z7w c) = some c := by
      show some (UInt8.ofNat c.toNat) = _
      simp
    rw [e]; rfl
theorem j5I (s : z0D) : z1N AV.beq (z0E s) (z0E s) = true := z4z AV.beq_refl' _
theorem k2X {H : Heap} {d : Nat} {s : z0D} (hb : H.blks.get d = some (.cells 5 false (z0E s))) (hl : s.length ≤ 1000000000) (hne : s ≠ []) :
    z3V Tryz.tab H [112, 3] [.ptr d 0, .int .i64 (s.length : Int)] = some (.str s, z6L H d) := by
  obtain ⟨n, hn⟩ : ∃ n, s.length = n + 1 := ⟨s.length - 1, by have := List.length_pos_iff.2 hne; omega⟩
  rw [hn]
  show q2I Tryz.tab H 112 d 0 (n + 1) (H.blks.get d) = _
  rw [hb]
  show z0b (z0b (Tryz.tab.und 112) q6h) (fun u => bif Nat.beq u 5 then
      (z0b (Tryz.tab.size 5) fun z => bif Nat.beq z 1 then (bif Nat.ble (n + 1) 1000000000 then (z0b (z3R (z5p (z0E s) 0) (n + 1)) fun cs => z0b (z4J cs) fun s => bif z1N AV.beq (z0E s) cs then some (AV.str s, z6L H d) else none) else none) else none) else none) = _
  rw [show Tryz.tab.und 112 = some (.pointer 5) by kernel_rfl]
  show z0b (Tryz.tab.size 5) (fun z => bif Nat.beq z 1 then (bif Nat.ble (n + 1) 1000000000 then (z0b (z3R (z5p (z0E s) 0) (n + 1)) fun cs => z0b (z4J cs) fun s => bif z1N AV.beq (z0E s) cs then some (AV.str s, z6L H d) else none) else none) else none) = _
  rw [show Tryz.tab.size 5 = some 1 by kernel_rfl]
  show (bif Nat.ble (n + 1) 1000000000 then (z0b (z3R (z5p (z0E s) 0) (n + 1)) fun cs => z0b (z4J cs) fun s => bif z1N AV.beq (z0E s) cs then some (AV.str s, z6L H d) else none) else none) = _
  rw [show Nat.ble (n + 1) 1000000000 = true by rw [Nat.ble_eq]; omega, cond_true, z1Z, z1I, List.drop_zero, if_pos (by rw [z5m]; omega), List.take_of_length_le (by rw [z5m]; omega)]
  show z0b (z4J (z0E s)) (fun s' => bif z1N AV.beq (z0E s') (z0E s) then some (AV.str s', z6L H d) else none) = _
  rw [j1j]
  show (bif z1N AV.beq (z0E s) (z0E s) then some (AV.str s, z6L H d) else none) = _
  rw [j5I]; rfl
theorem z_sd (xs0 : List Operand) (ts : List TypeId) (tm : T AV) (H : Heap) : opN (.call { callee := .builtin .unsafeSliceData, args := xs0.toArray, argTypes := ts.toArray }) Tryz.tab tm H = z1i H (z0b (aevs Tryz.tab tm xs0) fun xs => z4W xs) := rfl
theorem z_us {F : Fns} {c : Ctx} (xs0 : List Operand) (ts : List TypeId) (tm : T AV) (df : List ADefer) (H : Heap) : opE (.call { callee := .builtin .unsafeString, args := xs0.toArray, argTypes := ts.toArray }) F Tryz.tab c tm df H = z0b (aevs Tryz.tab tm xs0) fun xs => out2 df (z3V Tryz.tab H ts xs) := rfl
theorem k6Y : z4W [.nilslice] = some .nilptr := rfl
theorem k2Y (d n : Nat) (hn : n ≠ 0) : z4W [.slice d 0 n true 0] = some (.ptr d 0) := by
  show (bif Nat.beq n 0 then none else some (AV.ptr d 0)) = _
  rw [z0Y hn]; rfl
theorem k6Z (t : TypeId) (ts : List TypeId) (H : Heap) : z3V Tryz.tab H (t :: ts) [.nilptr, .int .i64 0] = some (.str [], H) := rfl
theorem j1k (n0 p : Nat) (s : z0D) (H : Heap) (hN : Neat H) (hb : BldAt n0 H p s) (hl : s.length ≤ 1000000) : ∃ H', CallTo Tryz.prog Tryz.tab 25 [.ptr p 0] H [(.str s, H')] ∧ H'.next = H.next ∧ (∀ x, x < n0 → H'.blks.get x = H.blks.get x) ∧ Neat H' := by
  obtain ⟨a, v, h0, -, h2⟩ := hb
  have hln : ∀ h, lenA Tryz.tab h 69 v = some (.int .i64 (s.length : Int)) := h2.len ud69
  rcases h2 with ⟨rfl, rfl⟩ | ⟨d, hd, rfl, h3, h4⟩
  · refine ⟨H, ?_, rfl, fun _ _ => rfl, hN⟩
    refine z0M Tryz.tabOk Tryz.func25 rfl rfl ?_
    show Gets Tryz.prog Tryz.tab ⟨none, 14⟩ _ _ _
    repeat refine Gets.seq ?_
    refine g0_ ?_
    refine gk_ (ov := noOv) (z0d) [.rd 0, .rd 1, .rd 2, .rd 3, .rd 4, .rd 5, .rd 6, .rd 7, .rd 8, .rd 9, .lk 10 [], .rd 11] (hN) (y8_ h0 hln @q7Q (z0c ia69) @z_sd @z_us @k6Y (y3_ @k6Z @List.length_nil.{0} @Int.natCast_zero)) ?_
    refine Gets.ret Tryz.tabOk ?_
    exact z0v rfl (sr_ Tryz.f25.eq_1) (.refl _) hN trivial
  · have hu := k2X h3 (by omega) h4
    refine ⟨z6L H d, ?_, z0f _ _ _, fun x hx => z0l _ _ _ (by omega), z6p hN d⟩
    have hs0 : s.length ≠ 0 := by have := List.length_pos_iff.2 h4; omega
    have sd := k2Y d s.length hs0
    have hd' := hN _ _ h3
    refine z0M Tryz.tabOk Tryz.func25 rfl rfl ?_
    show Gets Tryz.prog Tryz.tab ⟨none, 14⟩ _ _ _
    repeat refine Gets.seq ?_
    refine g0_ ?_
    refine gk_ (ov := noOv) (z0d) [.rd 0, .rd 1, .rd 2, .rd 3, .rd 4, .rd 5, .rd 6, .rd 7, .rd 8, .rd 9, .lk 10 [], .rd 11] (hN) (y8_ h0 hln @q7Q (z0c ia69) @z_sd @z_us sd hu) ?_
    refine Gets.ret Tryz.tabOk ?_
    exact ⟨rfl, rfl, _, by simp (disch := decide) only [sxL, Tryz.f25, resultA]; rfl, _, List.mem_singleton.2 rfl, rfl, Nat.le_refl _, Nat.le_of_eq (z0f _ _ _).symm, fun b o ho => ⟨ho, .inl (by
      by_cases hbd : b = d
      · subst hbd
        rw [show (z6L H b, b).1.blks.get b = none from z0J _ _ _] at ho
        simp at ho
      · have ho' : H.blks.get b = some o := by rw [← z0l H d none hbd]; exact ho
        exact ⟨hN b o ho', ho'⟩)⟩, trivial⟩
end Go.Proofs
namespace Go.Proofs
open Go.Sx
set_option maxRecDepth 100000
structure EvSm (x : EvN) : Prop where
  c : CmdSm x.c
  err : In64 x.r.err
  num : In64 x.r.num
  data : x.r.data.length ≤ 2000
theorem q5P (x : EvN) : x.cells.length = 29 := rfl
def ERows (H : Heap) (v : AV) (l : List EvN) : Prop := RowsAt 40 29 EvN.cells H v l ∨ CellsAt 40 EvN.cells H v l
theorem ERows.one {H : Heap} {v : AV} {l : List EvN} (h : ERows H v l) : z0H v = true := h.elim (fun h => RowsAt.one h) fun h => CellsAt.one h
theorem ERows.len {H : Heap} {v : AV} {l : List EvN} (h : ERows H v l) (H' : Heap) : lenA Tryz.tab H' 22 v = some (.int .i64 (l.length : Int)) := h.elim (fun h => RowsAt.len h ud22 H') fun h => CellsAt.len h ud22 H'
theorem ERows.grow {H H' : Heap} {v : AV} {l : List EvN} (h : ERows H v l) (hN : Neat H) (hg : Grows H H') : ERows H' v l := h.elim (fun h => .inl (RowsAt.grow h hN hg)) fun h => .inr (h.to fun b x y hb => hg.some_ hN hb)
theorem ERows.row {H : Heap} {v : AV} {l : List EvN} (h : ERows H v l) {i : Nat} {a : EvN} (ha : l[i]? = some a) :
    ∃ b, z1e Tryz.tab 22 v (.int .i64 (i : Int)) = some (.ptr b (i * 29)) ∧ (∀ j, j < 29 → z1c (H.blks.get b) (i * 29 + j) = a.cells[j]?) ∧
      ∀ j r, j + r ≤ 29 → Sx.cellsIn (H.blks.get b) (i * 29 + j) r = some ((a.cells.drop j).take r) :=
  h.elim (fun h => RowsAt.row h ud22 sz40 q5P ha) fun h => CellsAt.row h ud22 sz40 q5P ha
def EvsAt (H : Heap) (v : AV) (l : List EvN) : Prop := ERows H v l ∧ ∀ x ∈ l, z3D H x.c.d
theorem EvsAt.grow {H H' : Heap} {v : AV} {l : List EvN} (h : EvsAt H v l) (hN : Neat H) (hg : Grows H H') : EvsAt H' v l := ⟨h.1.grow hN hg, fun x hx => (h.2 x hx).grow hN hg⟩
theorem q9o {x : EvN} (h : z0H x.c.d.st = true) : z0W x.cells = true := by
  have h1 := z8B h
  show z0W ([vi x.call, .bool x.reply] ++ x.c.cells ++ x.r.cells) = true
  refine z4a (z4a rfl h1) rfl
abbrev k2Z (x : EvN) : ABlk := .cells 40 true x.cells
theorem eg0 (x : EvN) : x.cells[0]? = some (vi x.call) := rfl
theorem eg1 (x : EvN) : x.cells[1]? = some (.bool x.reply) := rfl
theorem eg26 (x : EvN) : x.cells[26]? = some (vi x.r.err) := rfl
theorem eg27 (x : EvN) : x.cells[27]? = some (vi x.r.num) := rfl
theorem eg28 (x : EvN) : x.cells[28]? = some (.str x.r.data) := rfl
theorem egC (x : EvN) : Sx.cellsIn (some (.cells 40 true x.cells)) 2 24 = some x.c.cells := rfl
theorem egR (x : EvN) : Sx.cellsIn (some (.cells 40 true x.cells)) 26 3 = some [vi x.r.err, vi x.r.num, .str x.r.data] := rfl
set_option linter.defProp false in
def egL := And.intro (And.intro (And.intro @eg0 @eg1) (And.intro @eg26 @eg27)) (And.intro @eg28 (And.intro @egC @egR))
abbrev ev0 : List AV := [vi 0, .bool false] ++ cmd0 ++ [vi 0, vi 0, .str []]
abbrev ev0x : List AV := [vi 0, .bool false, vi 0, vi 0, vi 0, vi 0, vi 0, vi 0, .str [], vi 0, vi 0, .str [], .str [], vi 0, .str [], vi 0, vi 0, .nilslice, vi 0, vi 0, vi 0, vi 0, .bool false, vi 0, vi 0, .str [], vi 0, vi 0, .str []]
theorem j5J : Tryz.tab.zero 40 = some (.agg ev0x) := by kernel_rfl
theorem stEv {H : Heap} {b : Nat} {x : EvN} (hb : H.blks.get b = some (.cells 40 true ev0x)) (h1 : z0W x.cells = true) : z0P Tryz.tab H 40 (.ptr b 0) (.agg x.cells) = some (z0i H b (some (k2Z x))) :=
  z1s hb sz40 rfl h1 (fun e => by simp [AV.cells, EvN.cells] at e) rfl
theorem w2S (H : Heap) (a b c d e : z0D) : z0N Tryz.tab H 51 5 [(0, .str a), (1, .str b), (2, .str c), (3, .str d), (4, .str e)] = some (.slice H.next 0 5 false 5, H.push (.cells 9 true [.str a, .str b, .str c, .str d, .str e])) := by
  have e1 : z0N Tryz.tab H 51 5 [(0, .str a), (1, .str b), (2, .str c), (3, .str d), (4, .str e)] = z0K H 9 5 5 [.str a, .str b, .str c, .str d, .str e] := by kernel_rfl
  rw [e1, q3Y rfl]
theorem q0Y (l : List EvN) (x : EvN) : z1j (l ++ [x]) = z1j l ++ z4t x := by unfold z1j; rw [List.map_append, List.flatten_append]; simp
theorem q5Q {α : Type} {l : List α} {i : Nat} {x : α} (h : l[i]? = some x) : l.take (i + 1) = l.take i ++ [x] := by rw [List.take_add_one, h]; rfl
structure WrOk (l : List EvN) (i : Nat) (o : Bool) (W : z0D) : Prop where
  eq : o = false → W = z1j (l.take i)
  long : o = true → 65536 < (z1j (l.take i)).length
  le : W.length ≤ (z1j (l.take i)).length
theorem WrOk.skip {l : List EvN} {i : Nat} {o : Bool} {W : z0D} (h : WrOk l i o W) {x : EvN} (hx : l[i]? = some x) (ho : o = true ∨ 65536 < W.length) : WrOk l (i + 1) true W := by
  have h1 : 65536 < (z1j (l.take i)).length := ho.elim h.long fun hw => Nat.lt_of_lt_of_le hw h.le
  have h2 : (z1j (l.take (i + 1))).length = (z1j (l.take i)).length + (z4t x).length := by rw [q5Q hx, q0Y, List.length_append]
  exact ⟨fun e => Bool.noConfusion e, fun _ => by omega, by have := h.le; omega⟩
theorem WrOk.put {l : List EvN} {i : Nat} {W : z0D} (h : WrOk l i false W) {x : EvN} (hx : l[i]? = some x) : WrOk l (i + 1) false (W ++ z4t x) := by
  have h2 : z1j (l.take (i + 1)) = z1j (l.take i) ++ z4t x := by rw [q5Q hx, q0Y]
  exact ⟨fun _ => by rw [h2, h.eq rfl], fun e => Bool.noConfusion e, by rw [h2, List.length_append, List.length_append]; have := h.le; omega⟩
theorem q9p {c : CmdN} (hs : CmdSm c) (hB : cmdB c = true) : (cmdT c).length ≤ 5000 := by
  obtain ⟨w, v, l, K, -, -, -, -, -, h1, -, h2⟩ := q5O c hs hB ⟨0, .e⟩ (fun b o h => by simp [T.get_e] at h)
  rw [h1]
  exact Nat.le_trans (z3E _) h2
theorem q5R {x : EvN} (hx : EvSm x) (hb : evB x = true) : (z4t x).length ≤ 6000 ∧ z4t x ≠ [] := by
  refine ⟨?_, by unfold z4t; simp⟩
  simp only [evB, Bool.and_eq_true, decide_eq_true_eq] at hb
  obtain ⟨⟨h1, h2⟩, -⟩ := hb
  have l1 := z0w (n := x.call) ⟨by omega, by omega⟩
  have l2 := z0w hx.err
  have l3 := z0w hx.num
  have l4 := z0w (n := (x.r.data.length : Int)) (by have := hx.data; exact ⟨by omega, by omega⟩)
  have key : (evT x).length ≤ 5900 := by
    unfold evT
    cases x.reply with
    | true =>
      rw [if_pos rfl]
      refine Nat.le_trans (z3E _) ?_
      simp only [z5M, List.map_cons, List.map_nil, List.sum_cons, List.sum_nil, List.length_cons, List.length_nil]
      omega
    | false =>
      rw [if_neg (by simp)]
      refine Nat.le_trans (z3E _) ?_
      have l5 : (if cmdB x.c then cmdT x.c else [63]).length ≤ 5000 := by
        cases hB : cmdB x.c with
        | true => rw [if_pos rfl]; exact q9p hx.c hB
        | false => rw [if_neg (by simp)]; simp
      simp only [z5M, List.map_cons, List.map_nil, List.sum_cons, List.sum_nil, List.length_cons, List.length_nil]
      omega
  unfold z4t
  rw [List.length_append]
  simp only [List.length_cons, List.length_nil]
  omega
theorem j1l {l : List EvN} (h : ∀ x ∈ l, (z4t x).length ≤ 6000) : (z1j l).length ≤ 6000 * l.length := by
  induction l with
  | nil => simp [z1j]
  | cons x l ih =>
    have e : z1j (x :: l) = z4t x ++ z1j l := rfl
    have h1 := h x (List.mem_cons_self ..)
    have h2 := ih fun y hy => h y (List.mem_cons_of_mem _ hy)
    rw [e, List.length_append, List.length_cons]
    omega
end Go.Proofs
namespace Go.Proofs
open Go.Sx
set_option maxRecDepth 100000
set_option maxHeartbeats 1000000
theorem k7a : Tryz.tab.zero 71 = some (.agg [.nilptr, .nilslice]) := by kernel_rfl
theorem BldAt.grow {n0 p : Nat} {s : z0D} {H H' : Heap} (h : BldAt n0 H p s) (hN : Neat H) (hg : Grows H H') : BldAt n0 H' p s := by
  obtain ⟨a, v, h0, h1, h2⟩ := h
  exact ⟨a, v, hg.some_ hN h0, h1, h2.to fun b y _ hy => hg.some_ hN hy⟩
theorem BldAt.lt {n0 p : Nat} {s : z0D} {H : Heap} (h : BldAt n0 H p s) (hN : Neat H) : p < H.next := by
  obtain ⟨a, v, h0, _⟩ := h
  exact hN _ _ h0
theorem k7b (x : EvN) : evB x = (!decide (x.call < 1) && !decide (2000 < x.call) && (!x.reply || repB x.r)) := by
  unfold evB
  rw [nle, nle]
theorem j5K {l : List EvN} {x : EvN} {i : Nat} (hx : l[i]? = some x) (h : evB x = false) : q1z l = ([], 2) := by
  unfold q1z
  rw [if_neg]
  intro e
  have := List.all_eq_true.1 e x (List.mem_of_getElem? hx)
  rw [h] at this
  exact Bool.noConfusion this
theorem j5L {l : List EvN} (h : ∀ (j : Nat) (x : EvN), j < l.length → l[j]? = some x → evB x = true) : q1z l = if 65536 < (z1j l).length then ([], 11) else (z1j l, 0) := by
  unfold q1z
  rw [if_pos]
  exact List.all_eq_true.2 fun x hx => by
    obtain ⟨j, hj, rfl⟩ := List.getElem_of_mem hx
    exact h j _ hj (List.getElem?_eq_getElem hj)
theorem j5M {H : Heap} {b n : Nat} {l : List z0D} (hn : n = l.length) (h : H.blks.get b = some (.cells 9 true (l.map fun s => .str s))) : StrsAt H (.slice b 0 n false n) l := by
  subst hn
  exact .inr ⟨b, false, _, true, rfl, fun _ => Nat.le_refl _, h⟩
structure WrEnd (l : List EvN) (o : Bool) (W : z0D) : Prop where
  eq' : o = false → W = z1j l
  long' : o = true → 65536 < (z1j l).length
theorem WrOk.fin {l : List EvN} {o : Bool} {W : z0D} (h : WrOk l l.length o W) : WrEnd l o W := by
  have e : l.take l.length = l := List.take_length
  exact ⟨fun hh => by rw [h.eq hh, e], fun hh => by have := h.long hh; rwa [e] at this⟩
theorem q3Z (v : AV) (l : List EvN) (H : Heap) (hN : Neat H) (hP : PowAt H) (hv : EvsAt H v l) (hs : ∀ x ∈ l, EvSm x) (hl : l.length ≤ 60) :
    CallTo Tryz.prog Tryz.tab 7 [v] H [(.tuple [.str (q1z l).1, vi (q1z l).2], H)] := by
  refine z0M Tryz.tabOk Tryz.func7 rfl rfl ?_
  show Gets Tryz.prog Tryz.tab ⟨none, 85⟩ _ _ _
  repeat refine Gets.seq ?_
  have hvo : z0H v = true := hv.1.one
  have hln : ∀ h, lenA Tryz.tab h 22 v = some (.int .i64 (l.length : Int)) := hv.1.len
  refine g0_ ?_
  refine g1_ @k7a ?_
  refine g0_ ?_
  refine g1_ hln ?_
  refine Gets.uptoH l.length (fun i tm m => tm.get 4 = some (.ptr H.next 0) ∧ (∃ o W, tm.get 5 = some (.bool o) ∧ BldAt (H.next + 1) m H.next W ∧ WrOk l i o W) ∧ tm.get 11 = some v ∧ tm.get 12 = some (vi (l.length : Int)) ∧ tm.get 13 = some (vi (i : Int)) ∧
      (∀ (j : Nat) (x : EvN), j < i → l[j]? = some x → evB x = true) ∧ H.next + 1 ≤ m.next ∧ (∀ x, x < H.next → m.blks.get x = H.blks.get x) ∧ Neat m)
    ⟨sx0_, ⟨false, [], sx0_, ⟨.nilptr, .nilslice, fo_, .inl rfl, .inl ⟨rfl, rfl⟩⟩, ⟨fun _ => by simp [z1j], fun e => Bool.noConfusion e, by simp⟩⟩, sx0_, sx0_, sx0_, fun j x hj => absurd hj (Nat.not_lt_zero _), Nat.le_of_eq (z0n _ _).symm, fun x hx => fo_, hN.push _⟩ ?_
  rintro i tm m hi ⟨i4, ⟨o, W, i5, hb, hw⟩, i11, i12, i13, hok, mx, mg, mN⟩
  repeat refine Gets.seq ?_
  have gm : Grows H m := ⟨by omega, mg⟩
  by_cases hlt : (i : Int) < (l.length : Int)
  · obtain ⟨x, hx⟩ : ∃ x, l[i]? = some x := ⟨_, List.getElem?_eq_getElem (by omega)⟩
    have hxm := List.mem_of_getElem? hx
    have hsx := hs x hxm
    obtain ⟨rb, hidx, -, hc⟩ := (hv.grow hN gm).1.row hx
    have hc29 : Sx.cellsIn (m.blks.get rb) (i * 29) 29 = some x.cells := hc 0 29 (by omega)
    have hdx : z3D m x.c.d := (hv.grow hN gm).2 x hxm
    have evo := q9o hdx.one
    have hst := stEv (x := x) (z0q m (.cells 40 true ev0x)) evo
    have v5 : z3g .i64 ((i : Int) + 1) = (i : Int) + 1 := z3N (by omega) (by omega)
    refine g1_ (y3_ i12 i13 hlt) ?_
    refine cTb_ ?_
    refine g1_ (y7_ i11 i13 hidx hc29 (z0o ia40 sz40) @j5J hst) ?_
    refine Gets.ofS (fun tm n => tm.get 4 = some (.ptr H.next 0) ∧ tm.get 5 = some (.bool o) ∧ tm.get 7 = some (.ptr m.next 0) ∧ tm.get 11 = some v ∧ tm.get 12 = some (vi (l.length : Int)) ∧ tm.get 13 = some (vi (i : Int)) ∧ n.blks.get m.next = some (k2Z x) ∧ Grows m n ∧ Neat n)
      ⟨sx1_ i4, sx1_ i5, sx0_, sx1_ i11, sx1_ i12, sx1_ i13, fo_, ⟨fl_, fun x hx => fo_⟩, Neat.put (mN.push _) (fl_) _⟩ ?_
    clear i4 i5 i11 i12 i13 hst hc hc29 hidx
    clear tm
    rintro tm n ⟨i4, i5, i7, i11, i12, i13, an, ng, nN⟩
    have gn : Grows H n := gm.trans ng
    have q := j4M x.r n nN
    refine Gets.midH (I := fun tm h' => h' = n ∧ tm.get 4 = some (.ptr H.next 0) ∧ tm.get 5 = some (.bool o) ∧ tm.get 7 = some (.ptr m.next 0) ∧ tm.get 11 = some v ∧ tm.get 12 = some (vi (l.length : Int)) ∧ tm.get 13 = some (vi (i : Int)) ∧ tm.get 34 = some (.bool (!evB x))) ?_ ?_
    · rw [k7b]
      by_cases c1 : x.call < 1
      · refine g1_ (y7_ i7 an @egL @q1C (z0c ia3) c1 @z1X) ?_
        exact ⟨rfl, _, _, rfl, rfl, sx1_ i4, sx1_ i5, sx1_ i7, sx1_ i11, sx1_ i12, sx1_ i13, sx1_ c1⟩
      by_cases c2 : 2000 < x.call
      · refine g1_ (y8_ i7 an @egL @q1C (z0c ia3) c1 c2 @z1X) ?_
        exact ⟨rfl, _, _, rfl, rfl, sx1_ i4, sx1_ i5, sx1_ i7, sx1_ i11, sx1_ i12, sx1_ i13, sx1_ (y2_ c1 c2)⟩
      cases hr : x.reply with
      | false =>
        refine g1_ (y8_ i7 an @egL hr @q1C @q7P (z0c ia3) (y3_ (z0c ia4) c1 c2)) ?_
        exact ⟨rfl, _, _, rfl, rfl, sx1_ i4, sx1_ i5, sx1_ i7, sx1_ i11, sx1_ i12, sx1_ i13, sx1_ (y2_ c1 c2)⟩
      | true =>
        cases hrb : repB x.r with
        | false =>
          rw [hrb] at q
          refine o1_ (z0g z0d q) (y8_ @z0B i7 an @egL hr @q1C @q7P (y7_ @q7M (z0c ia3) (z0c ia4) (z0o ia38 sz38) c1 c2 @z4B)) ?_
          exact ⟨rfl, _, _, rfl, rfl, sx1_ i4, sx1_ i5, sx1_ i7, sx1_ i11, sx1_ i12, sx1_ i13, sx1_ (y2_ c1 c2)⟩
        | true =>
          rw [hrb] at q
          refine o1_ (z0g z0d q) (y8_ @z0B i7 an @egL hr @q1C @q7P (y7_ @q7M (z0c ia3) (z0c ia4) (z0o ia38 sz38) c1 c2 @z4r)) ?_
          exact ⟨rfl, _, _, rfl, rfl, sx1_ i4, sx1_ i5, sx1_ i7, sx1_ i11, sx1_ i12, sx1_ i13, sx1_ (y2_ c1 c2)⟩
    clear i4 i5 i7 i11 i12 i13
    clear tm
    rintro tm h' ⟨rfl, i4, i5, i7, i11, i12, i13, i34⟩
    change Gets _ _ _ _ _ _
    repeat refine Gets.seq ?_
    cases hE : evB x with
    | false =>
      rw [hE] at i34
      rw [j5K hx hE]
      refine cT_ (hv := sx1_ i34) ?_
      refine g0_ ?_
      refine Gets.ret Tryz.tabOk ?_
      exact z2I rfl (sr_ Tryz.f7.eq_1) gn hN ⟨trivial, trivial, trivial⟩
    | true =>
      rw [hE] at i34
      refine cFs_ (hv := sx1_ i34) ?_
      have keep : ∀ (tm : T AV) (k : Heap) (o' : Bool) (W' : z0D), tm.get 4 = some (.ptr H.next 0) → tm.get 5 = some (.bool o') → tm.get 11 = some v → tm.get 12 = some (vi (l.length : Int)) → tm.get 13 = some (vi ((i : Int) + 1)) → BldAt (H.next + 1) k H.next W' → WrOk l (i + 1) o' W' → H.next + 1 ≤ k.next →
          (∀ x, x < H.next → k.blks.get x = H.blks.get x) → Neat k → ∃ tm' H', (⟨tm, k, []⟩ : St) = ⟨tm', H', []⟩ ∧ i < l.length ∧ (tm'.get 4 = some (.ptr H.next 0) ∧ (∃ o W, tm'.get 5 = some (.bool o) ∧ BldAt (H.next + 1) H' H.next W ∧ WrOk l (i + 1) o W) ∧ tm'.get 11 = some v ∧ tm'.get 12 = some (vi (l.length : Int)) ∧ tm'.get 13 = some (vi ((i + 1 : Nat) : Int)) ∧
          (∀ (j : Nat) (x : EvN), j < i + 1 → l[j]? = some x → evB x = true) ∧ H.next + 1 ≤ H'.next ∧ (∀ x, x < H.next → H'.blks.get x = H.blks.get x) ∧ Neat H') := fun tm k o' W' j4 j5 j11 j12 j13 jb jw jn jg jN =>
        ⟨_, _, rfl, by omega, j4, ⟨o', W', j5, jb, jw⟩, j11, j12, by rw [z2s]; exact j13, fun j y hj hy => by
          by_cases e : j = i
          · subst e
            rw [hx] at hy
            cases hy
            exact hE
          · exact hok j y (by omega) hy, jn, jg, jN⟩
      have hbn := hb.grow mN ng
      have qlen := j5D _ _ _ h' nN hbn
      have nx : H.next + 1 ≤ h'.next := Nat.le_trans mx ng.next
      have hWl : W.length ≤ 6000 * i := by
        refine Nat.le_trans hw.le (Nat.le_trans (j1l fun y hy => ?_) (Nat.mul_le_mul_left _ (by rw [List.length_take]; omega)))
        obtain ⟨j, hj, rfl⟩ := List.getElem_of_mem hy
        have hj' : j < i := by rw [List.length_take] at hj; omega
        have e : l[j]? = some (l.take i)[j] := by rw [List.getElem_take]; exact List.getElem?_eq_getElem (by omega)
        exact (q5R (hs _ (List.mem_of_getElem? e)) (hok j _ hj' e)).1
      cases ho : o with
      | true =>
        rw [ho] at i5 hw
        refine g1_ i5 ?_
        refine g0_ ?_
        refine Gets.condT sx0_ (Gets.exit Tryz.tabOk ?_)
        refine z2v ?_
        change Gets _ _ _ _ _ _
        refine g1_ (y2_ i13 v5) ?_
        exact keep _ _ true W (sx1_ i4) sx0_ (sx1_ i11) (sx1_ i12) sx0_ hbn (hw.skip hx (.inl rfl)) nx gn.get nN
      | false =>
        rw [ho] at i5 hw
        by_cases hW : 65536 < (W.length : Int)
        · refine o1_ (z0g z0d qlen) (y4_ @z0B i4 i5 hW) ?_
          refine g0_ ?_
          refine Gets.condT sx0_ (Gets.exit Tryz.tabOk ?_)
          refine z2v ?_
          change Gets _ _ _ _ _ _
          refine g1_ (y2_ i13 v5) ?_
          exact keep _ _ true W (sx1_ i4) sx0_ (sx1_ i11) (sx1_ i12) sx0_ hbn (hw.skip hx (.inr (by omega))) nx gn.get nN
        · refine o1_ (z0g z0d qlen) (y4_ @z0B i4 i5 hW) ?_
          refine g0_ ?_
          refine cFs_ ?_
          refine Gets.ofS (fun tm k => k = h' ∧ tm.get 4 = some (.ptr H.next 0) ∧ tm.get 5 = some (.bool false) ∧ tm.get 7 = some (.ptr m.next 0) ∧ tm.get 11 = some v ∧ tm.get 12 = some (vi (l.length : Int)) ∧ tm.get 13 = some (vi (i : Int)))
            ⟨rfl, sx1_ i4, sx1_ i5, sx1_ i7, sx1_ i11, sx1_ i12, sx1_ i13⟩ ?_
          clear i4 i5 i7 i11 i12 i13 i34
          clear tm
          rintro tm n ⟨rfl, i4, i5, i7, i11, i12, i13⟩
          have hE' := hE
          simp only [evB, Bool.and_eq_true, decide_eq_true_eq] at hE'
          have hPn := hP.grow hN gn
          have n1 : In64 x.call := ⟨by omega, by omega⟩
          have n2 := hsx.err
          have n3 := hsx.num
          have n4 : In64 (x.r.data.length : Int) := by have := hsx.data; exact ⟨by omega, by omega⟩
          have lt := nN _ _ an
          refine gk_ (ov := z4M (z4M noOv 20 ovI) 21 ovF) (z2b (z2b z0d z7X) j4P) [.rd 0, .rd 1, .rd 3, .rd 4, .rd 5, .rd 7, .rd 8, .rd 9, .rd 11, .rd 12, .rd 13, .rd 14, .sm 2, .sm 6, .sm 10, .sm 15, .rd 16, .rd 17] (nN) (y8_ (z5O hPn n1) (z5O hPn n2) (z5O hPn n4) (j4O hPn n3) i7 an @egL (y8_ @q1C @q7M @j1u @j1v @q7N (z0c ia3) (z0c ia34) (y4_ (z0c ia2) (z0c ia9) (z0Q ud9) @w2S))) ?_
          refine Gets.ofS (fun tm k => tm.get 4 = some (.ptr H.next 0) ∧ tm.get 5 = some (.bool false) ∧ tm.get 7 = some (.ptr m.next 0) ∧ tm.get 8 = some (.slice n.next 0 5 false 5) ∧ tm.get 11 = some v ∧ tm.get 12 = some (vi (l.length : Int)) ∧ tm.get 13 = some (vi (i : Int)) ∧
              k.blks.get n.next = some (.cells 9 true [.str (z0U x.call), .str [114, 101, 112, 108, 121], .str (z0U x.r.err), .str (z0U x.r.num), .str (z0U x.r.data.length)]) ∧ Grows n k ∧ Neat k)
            ⟨sx1_ i4, sx1_ i5, sx1_ i7, sx0_, sx1_ i11, sx1_ i12, sx1_ i13, fo_, .push _ _, nN.push _⟩ ?_
          clear i4 i5 i7 i11 i12 i13
          clear tm
          rintro tm k ⟨i4, i5, i7, i8, i11, i12, i13, as5, kg, kN⟩
          have ak : k.blks.get m.next = some (k2Z x) := kg.some_ nN an
          have hPk := hPn.grow nN kg
          have hdk : z3D k x.c.d := (hdx.grow mN ng).grow nN kg
          refine g1_ (y5_ i7 ak @egL @q7P (z0c ia4)) ?_
          refine Gets.midH (I := fun tm k' => ∃ w ws, tm.get 8 = some w ∧ StrsAt k' w ws ∧ z6q ws = evT x ∧ z5M ws ≤ 6000 ∧ tm.get 4 = some (.ptr H.next 0) ∧ tm.get 5 = some (.bool false) ∧ tm.get 11 = some v ∧ tm.get 12 = some (vi (l.length : Int)) ∧ tm.get 13 = some (vi (i : Int)) ∧ Grows k k' ∧ Neat k') ?_ ?_
          · have l1 := z0w n1
            have l2 := z0w n2
            have l3 := z0w n3
            have l4 := z0w n4
            cases hr : x.reply with
            | true =>
              refine Gets.condF (sx1_ hr) (Gets.skip Tryz.tabOk ?_)
              exact ⟨rfl, _, _, rfl, .slice n.next 0 5 false 5, [z0U x.call, [114, 101, 112, 108, 121], z0U x.r.err, z0U x.r.num, z0U x.r.data.length], sx1_ i8, j5M rfl as5, by unfold evT; rw [if_pos hr], by
                simp only [z5M, List.map_cons, List.map_nil, List.sum_cons, List.sum_nil, List.length_cons, List.length_nil]
                omega, sx1_ i4, sx1_ i5, sx1_ i11, sx1_ i12, sx1_ i13, .refl _, kN⟩
            | false =>
              have qT := j8J x.c k kN hPk hdk hsx.c
              have hix : z1e Tryz.tab 51 (.slice n.next 0 5 false 5) (.int .i64 0) = some (.ptr n.next 0) := by
                rw [z2W ud51 sz9, if_pos ⟨by omega, by omega⟩]; simp
              refine cT_ (hv := sx1_ hr) ?_
              have fin : ∀ (tm : T AV) (u : z0D), u = (if cmdB x.c then cmdT x.c else [63]) → tm.get 8 = some (.slice k.next 0 3 false 3) → tm.get 4 = some (.ptr H.next 0) → tm.get 5 = some (.bool false) → tm.get 11 = some v → tm.get 12 = some (vi (l.length : Int)) → tm.get 13 = some (vi (i : Int)) →
                  ∃ w ws, tm.get 8 = some w ∧ StrsAt (k.push (.cells 9 true [.str (z0U x.call), .str [99, 97, 108, 108], .str u])) w ws ∧ z6q ws = evT x ∧ z5M ws ≤ 6000 ∧ tm.get 4 = some (.ptr H.next 0) ∧ tm.get 5 = some (.bool false) ∧ tm.get 11 = some v ∧ tm.get 12 = some (vi (l.length : Int)) ∧ tm.get 13 = some (vi (i : Int)) ∧ Grows k (k.push (.cells 9 true [.str (z0U x.call), .str [99, 97, 108, 108], .str u])) ∧ Neat (k.push (.cells 9 true [.str (z0U x.call), .str [99, 97, 108, 108], .str u])) := fun tm u hu j8 j4 j5 j11 j12 j13 => by
                have lu : u.length ≤ 5000 := by
                  rw [hu]
                  cases hB : cmdB x.c with
                  | true => rw [if_pos rfl]; exact q9p hsx.c hB
                  | false => rw [if_neg (by simp)]; simp
                exact ⟨_, [z0U x.call, [99, 97, 108, 108], u], j8, j5M rfl (z0q _ _), by unfold evT; rw [hr, if_neg (by simp), hu], by
                  simp only [z5M, List.map_cons, List.map_nil, List.sum_cons, List.sum_nil, List.length_cons, List.length_nil]
                  omega, j4, j5, j11, j12, j13, .push _ _, kN.push _⟩
              cases hB : cmdB x.c with
              | true =>
                rw [hB, if_pos rfl] at qT fin
                refine o1_ (z0g z0d qT) (y7_ @z0B i7 ak @egL @q7L (z0o ia36 sz36) @z4r) ?_
                refine g0_ ?_
                refine cFk_ ?_
                refine g1_ (y5_ i8 hix as5 (z0c ia9) @k2L) ?_
                exact ⟨rfl, _, _, rfl, fin _ _ rfl sx0_ (sx1_ i4) (sx1_ i5) (sx1_ i11) (sx1_ i12) (sx1_ i13)⟩
              | false =>
                rw [hB, if_neg (by simp)] at qT fin
                refine o1_ (z0g z0d qT) (y7_ @z0B i7 ak @egL @q7L (z0o ia36 sz36) @z4B) ?_
                refine g0_ ?_
                refine Gets.condT sx0_ ?_
                change Gets _ _ _ _ _ _
                refine g0_ ?_
                refine g1_ (y5_ i8 hix as5 (z0c ia9) @k2L) ?_
                exact ⟨rfl, _, _, rfl, fin _ _ rfl sx0_ (sx1_ i4) (sx1_ i5) (sx1_ i11) (sx1_ i12) (sx1_ i13)⟩
          clear i4 i5 i7 i8 i11 i12 i13
          clear tm
          rintro tm k' ⟨w, ws, i8, hws, hj, hlb, i4, i5, i11, i12, i13, kg', kN'⟩
          change Gets _ _ _ _ _ _
          repeat refine Gets.seq ?_
          have q1 := q7D ws w k' hws (by omega)
          rw [hj] at q1
          have le : (evT x).length ≤ 6000 := by rw [← hj]; exact Nat.le_trans (z3E _) hlb
          have c1 : catO (evT x) [10] = some (.str (z4t x)) := q0T (by simp; omega)
          obtain ⟨ll, lne⟩ := q5R hsx hE
          have gk : Grows n k' := kg.trans kg'
          obtain ⟨K, q2, b2, N2, x2, g2⟩ := j5H _ _ W (z4t x) k' kN' (Nat.lt_succ_self _) (Nat.le_trans nx gk.next) (hbn.grow nN gk) (by omega) lne
          have hwo := hws.one
          refine o1_ (z0g (z0g z0d q2) q1) (y6_ @z0B @z3P i4 i8 @q3S c1) ?_
          refine g1_ (y2_ i13 v5) ?_
          exact keep _ K false (W ++ z4t x) (sx1_ i4) (sx1_ i5) (sx1_ i11) (sx1_ i12) sx0_ b2 (hw.put hx) (Nat.le_trans (Nat.le_trans nx gk.next) x2) (fun y hy => by rw [g2 y (by omega) (by omega), gk.get y (by omega)]; exact gn.get y hy) N2
  · have h9 : i = l.length := by omega
    subst h9
    rw [j5L hok]
    have hw' := hw.fin
    have qlen := j5D _ _ _ m mN hb
    refine g1_ (y3_ i12 i13 hlt) ?_
    refine cFx_ ?_
    cases ho : o with
    | true =>
      rw [ho] at i5 hw'
      rw [if_pos (hw'.long' rfl)]
      refine g1_ (y2_ i5 @z1X) ?_
      refine cT_ ?_
      refine g0_ ?_
      refine Gets.ret Tryz.tabOk ?_
      exact z2I rfl (sr_ Tryz.f7.eq_1) gm hN ⟨trivial, trivial, trivial⟩
    | false =>
      rw [ho] at i5 hw'
      have eW := hw'.eq' rfl
      by_cases hW : 65536 < (W.length : Int)
      · rw [if_pos (by rw [← eW]; omega)]
        refine o1_ (z0g z0d qlen) (y4_ @z0B i4 i5 hW) ?_
        refine cT_ ?_
        refine g0_ ?_
        refine Gets.ret Tryz.tabOk ?_
        exact z2I rfl (sr_ Tryz.f7.eq_1) gm hN ⟨trivial, trivial, trivial⟩
      · rw [if_neg (by rw [← eW]; omega), ← eW]
        obtain ⟨K, qs, k1, k2, k3⟩ := j1k _ _ _ m mN hb (by omega)
        refine o1_ (z0g z0d qlen) (y4_ @z0B i4 i5 hW) ?_
        refine cFs_ ?_
        refine o1_ (z0g z0d qs) (y2_ @z0B i4) ?_
        refine Gets.ret Tryz.tabOk ?_
        exact z2I rfl (sr_ Tryz.f7.eq_1) ⟨by show H.next ≤ K.next; omega, fun x hx => by show K.blks.get x = _; rw [k2 x (by omega)]; exact mg x hx⟩ hN ⟨trivial, trivial, trivial⟩
end Go.Proofs
namespace Go.Proofs
open Go.Sx
set_option maxRecDepth 100000
set_option maxHeartbeats 1000000
theorem leN (n k : Nat) : decide (n ≤ k) = !decide ((k : Int) < (n : Int)) := by
  rw [← decide_not]
  exact decide_eq_decide.2 (by omega)
def q5S (d : DefN) : Bool := !decide (20 < (d.ss.length : Int)) && !decide (40 < (d.name.length : Int)) && d.ss.all fun s => decide (s.key.length ≤ 40)
set_option linter.defProp false
def k3a := y6_ @z6P @z7t (z0c ia9) (z0c ia29) (z0Q ud9) @z1X
def k7c := y5_ @z7t @q1D (z0c ia29) (z0c ia9) (z0Q ud9)
theorem j8P (d : DefN) (H : Heap) (hN : Neat H) (hd : z3D H d) : CallTo Tryz.prog Tryz.tab 17 [.agg (dfL d)] H [(.bool (q5S d), H)] := by
  refine z0M Tryz.tabOk Tryz.func17 rfl rfl ?_
  show Gets Tryz.prog Tryz.tab ⟨none, 29⟩ _ _ _
  repeat refine Gets.seq ?_
  have k1 := hd.one
  have hln : ∀ h, lenA Tryz.tab h 29 d.st = some (.int .i64 (d.ss.length : Int)) := hd.len ud29
  refine g1_ k1 ?_
  refine Gets.ofH (fun h => h.blks.get H.next = some (.cells 31 true (dfL d)) ∧ Grows H h ∧ Neat h) ⟨fo_, .push _ _, hN.push _⟩ ?_
  rintro h ⟨a0, ag, aN⟩
  have hdh := hd.grow hN ag
  unfold q5S
  by_cases c1 : 20 < (d.ss.length : Int)
  · rw [show decide (20 < (d.ss.length : Int)) = true by simp [c1], Bool.not_true, Bool.false_and, Bool.false_and]
    refine g1_ (y4_ a0 k3a hln c1) ?_
    refine cT_ ?_
    refine g0_ ?_
    refine Gets.ret Tryz.tabOk ?_
    exact z0v rfl (sr_ Tryz.f17.eq_1) ag hN trivial
  rw [show decide (20 < (d.ss.length : Int)) = false by simp [c1], Bool.not_false, Bool.true_and]
  by_cases c2 : 40 < (d.name.length : Int)
  · rw [show decide (40 < (d.name.length : Int)) = true by simp [c2], Bool.not_true, Bool.false_and]
    refine g1_ (y5_ a0 k3a hln c1 c2) ?_
    refine cT_ ?_
    refine g0_ ?_
    refine Gets.ret Tryz.tabOk ?_
    exact z0v rfl (sr_ Tryz.f17.eq_1) ag hN trivial
  rw [show decide (40 < (d.name.length : Int)) = false by simp [c2], Bool.not_false, Bool.true_and]
  refine g1_ (y5_ a0 k3a hln c1 c2) ?_
  refine cFs_ ?_
  refine g0_ ?_
  refine Gets.upto d.ss.length (fun i tm => tm.get 1 = some (.ptr H.next 0) ∧ tm.get 3 = some (vi (i : Int)) ∧ ∀ (j : Nat) (s : StepN), j < i → d.ss[j]? = some s → s.key.length ≤ 40)
    ⟨sx0_, sx0_, fun j s hj => absurd hj (Nat.not_lt_zero _)⟩ ?_
  rintro i tm hi ⟨i1, i3, hok⟩
  repeat refine Gets.seq ?_
  by_cases hlt : (i : Int) < (d.ss.length : Int)
  · obtain ⟨s, hs⟩ : ∃ s, d.ss[i]? = some s := ⟨_, List.getElem?_eq_getElem (by omega)⟩
    obtain ⟨b, hidx, hcl, -⟩ := RowsAt.row hdh ud29 sz97 (fun _ => rfl) hs
    have hk0 : z1c (h.blks.get b) (i * 2) = some (.str s.key) := hcl 0 (by omega)
    have v5 : z3g .i64 ((i : Int) + 1) = (i : Int) + 1 := z3N (by omega) (by omega)
    refine g1_ (y7_ i1 i3 a0 @z7t (z0c ia29) hln hlt) ?_
    refine cTb_ ?_
    by_cases c3 : 40 < (s.key.length : Int)
    · have ha : (d.ss.all fun s => decide (s.key.length ≤ 40)) = false := by
        rw [Bool.eq_false_iff]
        intro e
        have := List.all_eq_true.1 e s (List.mem_of_getElem? hs)
        simp only [decide_eq_true_eq] at this
        omega
      rw [ha]
      refine g1_ (y7_ i1 i3 a0 k7c hidx hk0 c3) ?_
      refine cT_ ?_
      refine g0_ ?_
      refine Gets.ret Tryz.tabOk ?_
      exact z0v rfl (sr_ Tryz.f17.eq_1) ag hN trivial
    · refine g1_ (y7_ i1 i3 a0 k7c hidx hk0 c3) ?_
      refine cFk_ ?_
      refine g1_ (y2_ i3 v5) ?_
      exact ⟨_, rfl, by omega, sx1_ i1, sx1_ @z2s, fun j y hj hy => by
        by_cases e : j = i
        · subst e
          rw [hs] at hy
          cases hy
          omega
        · exact hok j y (by omega) hy⟩
  · have h9 : i = d.ss.length := by omega
    subst h9
    have ha : (d.ss.all fun s => decide (s.key.length ≤ 40)) = true := List.all_eq_true.2 fun s hs => by
      obtain ⟨j, hj, rfl⟩ := List.getElem_of_mem hs
      exact decide_eq_true (hok j _ hj (List.getElem?_eq_getElem hj))
    rw [ha]
    refine g1_ (y7_ i1 i3 a0 @z7t (z0c ia29) hln hlt) ?_
    refine cFx_ ?_
    refine g0_ ?_
    refine Gets.ret Tryz.tabOk ?_
    exact z0v rfl (sr_ Tryz.f17.eq_1) ag hN trivial
def q5T (c : CmdN) : Bool := !decide (2000 < (c.data.length : Int)) && !decide (100 < (c.key.length : Int)) && !decide (100 < (c.fr.length : Int)) && !decide (100 < (c.to.length : Int)) && q5S c.d
theorem j8Q {c : CmdN} (h : q5T c = true) : CmdSm c := by
  simp only [q5T, q5S, Bool.and_eq_true, Bool.not_eq_true', decide_eq_false_iff_not, List.all_eq_true, decide_eq_true_eq] at h
  obtain ⟨⟨⟨⟨h1, h2⟩, h3⟩, h4⟩, ⟨h5, h6⟩, h7⟩ := h
  exact ⟨by omega, by omega, by omega, by omega, by omega, h7, by omega⟩
def j8R := y8_ get6 Tryz.f6.eq_1 @q2u @q7O @q1B @z9x @z9y (y4_ @ccL (z0c ia9) (z0Q ud9) @z1X)
theorem j8S (c : CmdN) (H : Heap) (hN : Neat H) (hd : z3D H c.d) : CallTo Tryz.prog Tryz.tab 6 [.agg c.cells] H [(.bool (q5T c), H)] := by
  have o1 := z8B hd.one
  have q := j8P c.d (H.push (z0x c)) (hN.push _) (hd.grow hN (.push _ _))
  refine z0k (n := 20) Tryz.tabOk (ov := ptO noOv 17 [.agg (dfL c.d)] (H.push (z0x c)) [(.bool (q5S c.d), H.push (z0x c))]) (z0g z0d q) (H' := H.push (z0x c)) ?_ (.push _ _) hN trivial
  clear hN hd q
  unfold q5T
  by_cases c1 : 2000 < (c.data.length : Int)
  · simp only [c1, decide_true, Bool.not_true, Bool.false_and]
    exact co_ j8R
  by_cases c2 : 100 < (c.key.length : Int)
  · simp only [c1, c2, decide_true, decide_false, Bool.not_true, Bool.not_false, Bool.false_and, Bool.true_and]
    exact co_ j8R
  by_cases c3 : 100 < (c.fr.length : Int)
  · simp only [c1, c2, c3, decide_true, decide_false, Bool.not_true, Bool.not_false, Bool.false_and, Bool.true_and]
    exact co_ j8R
  by_cases c4 : 100 < (c.to.length : Int)
  · simp only [c1, c2, c3, c4, decide_true, decide_false, Bool.not_true, Bool.not_false, Bool.false_and, Bool.true_and]
    exact co_ j8R
  · simp only [c1, c2, c3, c4, decide_false, Bool.not_false, Bool.true_and]
    exact co_ (y8_ get6 Tryz.f6.eq_1 @q2u @q7O @q1B @q4e @z9x (y6_ @z9y @ccL (z0c ia9) (z0o ia31 sz31) (z0Q ud9) @z1X))
end Go.Proofs
