/-
  The arguments of the law as the executor sees them; the chapter's examples work.
-/
import Derived.Test.YtdadmlonndnppaaGreatDoorOrA
import Derived.Test.YtdadmlonndnppaaGreatDoorSxH
import Derived.Test.YtdadmlonndnppaaGreatDoorMgF
import Derived.Test.YtdadmlonndnppaaGreatDoorSxTab
import Derived.Test.YtdadmlonndnppaaGreatDoorSxG
set_option linter.unusedSimpArgs false
set_option linter.unusedVariables false
namespace Go.Sx
open Go Go.RowKit
section
variable {H₀ : Type} {enc : TypeId × Value → H₀} {P : Program} {G : Tab} {W : World} {base : Nat} {sp : Nat → Bool} {held : Bool}
theorem add_block (a : Addr) (n : Nat) : (a.add n).block = a.block := by unfold Addr.add; split <;> rfl
theorem add_off (a : Addr) (n : Nat) : (a.add n).off = a.off + n := by
  unfold Addr.add
  split
  · rename_i h; rw [h]; rfl
  · rfl
theorem add_add (a : Addr) (m n : Nat) : (a.add m).add n = a.add (m + n) := by
  unfold Addr.add
  by_cases hm : m = 0
  · subst hm; simp
  · by_cases hn : n = 0
    · subst hn; simp
    · rw [if_neg hm, if_neg hn, if_neg (by omega)]
      simp only
      congr 1; omega
theorem cells_at {a : Addr} {k : Nat} {cs : List Value} (h : W.cells? base a k = some cs) : cs.length = k ∧ ∀ j, j < k → W.cell? (a.add j) = cs[j]? := by
  unfold World.cells? at h
  split at h
  · exact ⟨by simpa using mapM_some_length h, fun j hj => mapM_some_get h j j (by simp [hj])⟩
  · simp at h
theorem concL_at {ρ : Env} {l : List AV} {cs : List Value} (h : concL ρ l = cs) (i : Nat) : cs[i]? = l[i]?.map (conc ρ) := by
  rw [← h, concL_eq, List.getElem?_map]
theorem row_lift {α : Type} {e k : Nat} {f : α → List AV} (hf : ∀ a, (f a).length = k) (hk : 0 < k) {R : Heap → α → Prop} (hR : ∀ (H H' : Heap) (a : α), R H a → Neat H → Grows H H' → R H' a)
    (helem : ∀ (ρ : Env) (H : Heap), Base G W ρ H → G.nglob ≤ H.next → ∀ (n : Nat) (cs : List Value) (x : DataW H₀ × List MemPlace), DataW.trod enc P W base sp held n e cs = some x →
      ∃ ρ' H' a, Base G W ρ' H' ∧ More ρ H ρ' H' ∧ R H' a ∧ okL ρ' (fun b => b < H'.next) (f a) ∧ concL ρ' (f a) = cs)
    {t : TypeId} (ht : P.underlying t = some (.slice e)) (hc : P.cellsOf e = k) {n : Nat} {cs : List Value} {x : DataW H₀ × List MemPlace} (h : DataW.trod enc P W base sp held n t cs = some x)
    {ρ : Env} {H : Heap} (hB : Base G W ρ H) (hg : G.nglob ≤ H.next) :
    ∃ ρ' H' av l, Base G W ρ' H' ∧ More ρ H ρ' H' ∧ concL ρ' [av] = cs ∧ okV ρ' (fun b => b < H'.next) av ∧ RowsAt e k f H' av l ∧ ∀ a ∈ l, R H' a := by
  rcases DataW.trod_slice ht h with ⟨rfl, _⟩ | ⟨a, len, cap, elems, rest, m, _, rfl, _, _, hlc, _, hel, hcells, _, _⟩
  · exact ⟨ρ, H, .nilslice, [], hB, .refl _ _, rfl, trivial, .inl ⟨.inl rfl, rfl⟩, fun a ha => by simp at ha⟩
  · by_cases h0 : len = 0
    · subst h0
      exact ⟨ρ, H, .odd a.block a.off a.spot cap, [], hB, .refl _ _, rfl, trivial, .inl ⟨.inr ⟨_, _, _, _, rfl⟩, rfl⟩, fun a ha => by simp at ha⟩
    · have hex : ∀ i, i < len → ∃ cs y, W.cells? base (a.add (i * k)) k = some cs ∧ DataW.trod enc P W base sp held m e cs = some y := fun i hi => by
        have := hcells i hi
        rw [hc, List.getElem?_eq_getElem (by omega)] at this
        obtain ⟨cs, h1, h2⟩ := Option.bind_eq_some_iff.1 this
        exact ⟨cs, _, h1, h2⟩
      obtain ⟨cs0, y0, hcs0, _⟩ := hex 0 (by omega)
      obtain ⟨hl0, hat0⟩ := cells_at hcs0
      have hc0 := hat0 0 hk
      rw [add_add, Nat.zero_mul, Nat.zero_add] at hc0
      have e0 : a.add 0 = a := by simp [Addr.add]
      rw [e0, List.getElem?_eq_getElem (by omega)] at hc0
      obtain ⟨hspot, arr, el, fz, harr, _⟩ := cell_some hc0
      have harrAt : ∀ i j cs, W.cells? base (a.add (i * k)) k = some cs → j < k → arr[a.off + (i * k + j)]? = cs[j]? := fun i j cs h1 hj => by
        obtain ⟨hl, hat⟩ := cells_at h1
        have h2 := hat j hj
        rw [add_add, List.getElem?_eq_getElem (by omega)] at h2
        obtain ⟨_, c, t, f, h3, h4⟩ := cell_some h2
        rw [add_block, harr] at h3
        simp only [Option.some.injEq, Obj.cells.injEq] at h3
        rw [add_off, ← h3.1] at h4
        rw [h4, List.getElem?_eq_getElem (by omega)]
      have key : ∀ q, q ≤ len → ∃ (ρ' : Env) (H' : Heap) (l : List α), l.length = q ∧ Base G W ρ' H' ∧ More ρ H ρ' H' ∧ (∀ a ∈ l, R H' a) ∧ okL ρ' (fun b => b < H'.next) (l.flatMap f) ∧ ∀ j v, (l.flatMap f)[j]? = some v → arr[a.off + j]? = some (conc ρ' v) := by
        intro q
        induction q with
        | zero => intro _; exact ⟨ρ, H, [], rfl, hB, .refl _ _, fun a ha => by simp at ha, trivial, fun j v hv => by simp at hv⟩
        | succ q ih =>
          intro hq
          obtain ⟨ρ', H', l, hl, hB', hM, hRl, hok, hv⟩ := ih (by omega)
          obtain ⟨cs, y, hcs, hy⟩ := hex q (by omega)
          obtain ⟨ρ'', H'', b, hB'', hM', hRb, hokb, hcb⟩ := helem ρ' H' hB' (Nat.le_trans hg hM.grows.next) m cs y hy
          have hfl : (l.flatMap f).length = q * k := by rw [flat_len hf, hl]
          refine ⟨ρ'', H'', l ++ [b], by simp [hl], hB'', hM.trans hM', fun a ha => ?_, ?_, fun j v hj => ?_⟩
          · rcases List.mem_append.1 ha with ha | ha
            · exact hR _ _ _ (hRl a ha) hB'.neat hM'.grows
            · rw [List.mem_singleton.1 ha]; exact hRb
          · rw [List.flatMap_append, okL_iff]
            intro v hv
            rcases List.mem_append.1 hv with hv | hv
            · exact hM'.sub.ok (okL_iff.1 hok v hv)
            · simp only [List.flatMap_cons, List.flatMap_nil, List.append_nil] at hv
              exact okL_iff.1 hokb v hv
          · rw [List.flatMap_append] at hj
            simp only [List.flatMap_cons, List.flatMap_nil, List.append_nil] at hj
            by_cases hjl : j < (l.flatMap f).length
            · rw [List.getElem?_append_left hjl] at hj
              rw [hv j v hj, hM'.sub.eq (okL_iff.1 hok v (List.mem_of_getElem? hj))]
            · rw [List.getElem?_append_right (by omega), hfl] at hj
              have hjk : j - q * k < k := by have := (List.getElem?_eq_some_iff.1 hj).1; rw [hf] at this; exact this
              have := harrAt q (j - q * k) cs hcs hjk
              rw [show q * k + (j - q * k) = j by omega] at this
              rw [this, concL_at hcb, hj]; rfl
      obtain ⟨ρ', H', l, hl, hB', hM, hRl, hok, hv⟩ := key len (Nat.le_refl _)
      have hfl : (l.flatMap f).length = len * k := by rw [flat_len hf, hl]
      have hpos : 0 < len * k := Nat.mul_pos (by omega) hk
      have hsz : a.off + (l.flatMap f).length ≤ arr.size := by
        have hlast := hv (len * k - 1) _ (List.getElem?_eq_getElem (by omega))
        have := (Array.getElem?_eq_some_iff.1 hlast).1
        omega
      obtain ⟨ρ'', hB'', hM', hb1, hb2⟩ := hB'.big (Nat.le_trans hg hM.grows.next) hok harr hsz hv e
      refine ⟨ρ'', _, .slice H'.next 0 len false cap, l, hB'', hM.trans hM', ?_, ⟨Nat.lt_succ_self _, fun h => by simp at h⟩, .inr ⟨H'.next, cap, by rw [hl], ?_⟩, fun b hb => hR _ _ _ (hRl b hb) hB'.neat hM'.grows⟩
      · have : a = ⟨a.block, a.off, none⟩ := by rw [← hspot]
        simp only [concL, conc, hb1, hb2, Nat.add_zero]
        rw [this]; rfl
      · rw [s_push_same, hfl, hl]
end
end Go.Sx

namespace Go.Proofs
open Go Go.Sx Go.RowKit
set_option maxRecDepth 100000
/-! The arguments, as the executor sees them. -/
theorem un2 : Tryz.prog.underlying 2 = some (.int .i64) := by kernel_rfl
theorem un3 : Tryz.prog.underlying 3 = some (.int .i64) := by kernel_rfl
theorem un28 : Tryz.prog.underlying 28 = some (.int .i64) := by kernel_rfl
theorem un4 : Tryz.prog.underlying 4 = some .bool := by kernel_rfl
theorem un9 : Tryz.prog.underlying 9 = some .string := by kernel_rfl
theorem un38 : Tryz.prog.underlying 38 = some (.slice 95) := by kernel_rfl
theorem un33 : Tryz.prog.underlying 33 = some (.slice 44) := by kernel_rfl
theorem un22 : Tryz.prog.underlying 22 = some (.slice 33) := by kernel_rfl
theorem un23 : Tryz.prog.underlying 23 = some (.slice 51) := by kernel_rfl
theorem ce95 : Tryz.prog.cellsOf 95 = 2 := by kernel_rfl
theorem ce44 : Tryz.prog.cellsOf 44 = 24 := by kernel_rfl
theorem ce33 : Tryz.prog.cellsOf 33 = 1 := by kernel_rfl
theorem ce51 : Tryz.prog.cellsOf 51 = 29 := by kernel_rfl
def lf44 : List TypeId := [3, 3, 3, 3, 3, 3, 9, 2, 3, 9, 9, 3, 9, 3, 3, 38, 3, 3, 3, 3, 4, 3, 28, 9]
theorem lf95_is : leafs Tryz.prog 9 95 = some [9, 2] := by kernel_rfl
theorem lf44_is : leafs Tryz.prog 9 44 = some lf44 := by kernel_rfl
theorem lf51_is : leafs Tryz.prog 9 51 = some (3 :: 4 :: (lf44 ++ [28, 2, 9])) := by kernel_rfl
section
variable {H₀ : Type} {enc : TypeId × Value → H₀} {W : World} {base : Nat} {sp : Nat → Bool} {held : Bool}
theorem int_of {u : TypeId} {c : Value} (hu : Tryz.prog.underlying u = some (.int .i64)) (h : ∃ m y, DataW.trod enc Tryz.prog W base sp held m u [c] = some y) : ∃ n, c = .int .i64 n := by
  obtain ⟨m, y, h⟩ := h
  obtain ⟨n, e, _⟩ := DataW.trod_int hu h
  exact ⟨n, by simpa using e⟩
theorem bool_of {u : TypeId} {c : Value} (hu : Tryz.prog.underlying u = some .bool) (h : ∃ m y, DataW.trod enc Tryz.prog W base sp held m u [c] = some y) : ∃ b, c = .bool b := by
  obtain ⟨m, y, h⟩ := h
  obtain ⟨n, e, _⟩ := DataW.trod_bool hu h
  exact ⟨n, by simpa using e⟩
theorem str_of {u : TypeId} {c : Value} (hu : Tryz.prog.underlying u = some .string) (h : ∃ m y, DataW.trod enc Tryz.prog W base sp held m u [c] = some y) : ∃ l : List UInt8, c = .string ⟨l.toArray⟩ := by
  obtain ⟨m, y, h⟩ := h
  obtain ⟨s, e, _⟩ := DataW.trod_string hu h
  refine ⟨s.data.toList, ?_⟩
  simp only [List.cons.injEq, and_true] at e
  rw [e]
theorem fit_split {P : Program} : ∀ {ts ts' : List TypeId} {cs : List Value}, Fit enc P W base sp held (ts ++ ts') cs → ∃ c1 c2, cs = c1 ++ c2 ∧ Fit enc P W base sp held ts c1 ∧ Fit enc P W base sp held ts' c2
  | [], _, cs, h => ⟨[], cs, rfl, trivial, h⟩
  | u :: ts, ts', cs, h => by
    obtain ⟨c, cs', rfl, h1, h2⟩ := Fit.cons h
    obtain ⟨c1, c2, rfl, h3, h4⟩ := fit_split h2
    exact ⟨c :: c1, c2, rfl, ⟨h1, h3⟩, h4⟩
def stepC (a : List UInt8 × Int) : List AV := [.str a.1, .int .i64 a.2]
theorem steps_lift {n : Nat} {cs : List Value} {x : DataW H₀ × List MemPlace} (h : DataW.trod enc Tryz.prog W base sp held n 38 cs = some x) {ρ : Env} {H : Heap} (hB : Base Tryz.tab W ρ H) (hg : Tryz.tab.nglob ≤ H.next) :
    ∃ ρ' H' av ks, Base Tryz.tab W ρ' H' ∧ More ρ H ρ' H' ∧ concL ρ' [av] = cs ∧ okV ρ' (fun b => b < H'.next) av ∧ StepsAt H' av ks := by
  obtain ⟨ρ', H', av, l, h1, h2, h3, h4, h5, _⟩ := row_lift (α := List UInt8 × Int) (f := stepC) (k := 2) (fun _ => rfl) (by omega) (R := fun _ _ => True) (fun _ _ _ _ _ _ => trivial)
    (fun ρ H hB hg n cs x hx => by
      have hf := leafs_fit 9 95 _ lf95_is n cs x hx
      obtain ⟨c0, cs, rfl, f0, hf⟩ := Fit.cons hf
      obtain ⟨c1, cs, rfl, f1, hf⟩ := Fit.cons hf
      obtain rfl := Fit.nil hf
      obtain ⟨s, rfl⟩ := str_of un9 f0
      obtain ⟨d, rfl⟩ := int_of un2 f1
      exact ⟨ρ, H, (s, d), hB, .refl _ _, trivial, ⟨trivial, trivial, trivial⟩, rfl⟩) un38 ce95 h hB hg
  refine ⟨ρ', H', av, l.map (·.1), h1, h2, h3, h4, ?_⟩
  rcases h5 with ⟨h5, rfl⟩ | ⟨b, c, h5, h6⟩
  · exact .inl ⟨h5, rfl⟩
  · refine .inr ⟨b, c, l.flatMap stepC, by rw [h5, List.length_map], by rw [h6, List.length_map, Nat.mul_comm], by rw [flat_len (k := 2) (fun _ => rfl), List.length_map, Nat.mul_comm], fun i k hk => ?_⟩
    rw [List.getElem?_map] at hk
    obtain ⟨a, ha, rfl⟩ := Option.map_eq_some_iff.1 hk
    have := flat_at (f := stepC) (k := 2) (fun _ => rfl) (i := i) (j := 0) ha (by omega)
    rw [show 2 * i = i * 2 + 0 by omega, this]; rfl

theorem cmd_lift {cs : List Value} (hf : Fit enc Tryz.prog W base sp held lf44 cs) {ρ : Env} {H : Heap} (hB : Base Tryz.tab W ρ H) (hg : Tryz.tab.nglob ≤ H.next) :
    ∃ ρ' H' c ks, Base Tryz.tab W ρ' H' ∧ More ρ H ρ' H' ∧ StepsAt H' (CmdV.steps c) ks ∧ okL ρ' (fun b => b < H'.next) c.cells ∧ concL ρ' c.cells = cs := by
  obtain ⟨c0, cs, rfl, f0, hf⟩ := Fit.cons hf
  obtain ⟨c1, cs, rfl, f1, hf⟩ := Fit.cons hf
  obtain ⟨c2, cs, rfl, f2, hf⟩ := Fit.cons hf
  obtain ⟨c3, cs, rfl, f3, hf⟩ := Fit.cons hf
  obtain ⟨c4, cs, rfl, f4, hf⟩ := Fit.cons hf
  obtain ⟨c5, cs, rfl, f5, hf⟩ := Fit.cons hf
  obtain ⟨c6, cs, rfl, f6, hf⟩ := Fit.cons hf
  obtain ⟨c7, cs, rfl, f7, hf⟩ := Fit.cons hf
  obtain ⟨c8, cs, rfl, f8, hf⟩ := Fit.cons hf
  obtain ⟨c9, cs, rfl, f9, hf⟩ := Fit.cons hf
  obtain ⟨c10, cs, rfl, f10, hf⟩ := Fit.cons hf
  obtain ⟨c11, cs, rfl, f11, hf⟩ := Fit.cons hf
  obtain ⟨c12, cs, rfl, f12, hf⟩ := Fit.cons hf
  obtain ⟨c13, cs, rfl, f13, hf⟩ := Fit.cons hf
  obtain ⟨c14, cs, rfl, f14, hf⟩ := Fit.cons hf
  obtain ⟨c15, cs, rfl, f15, hf⟩ := Fit.cons hf
  obtain ⟨c16, cs, rfl, f16, hf⟩ := Fit.cons hf
  obtain ⟨c17, cs, rfl, f17, hf⟩ := Fit.cons hf
  obtain ⟨c18, cs, rfl, f18, hf⟩ := Fit.cons hf
  obtain ⟨c19, cs, rfl, f19, hf⟩ := Fit.cons hf
  obtain ⟨c20, cs, rfl, f20, hf⟩ := Fit.cons hf
  obtain ⟨c21, cs, rfl, f21, hf⟩ := Fit.cons hf
  obtain ⟨c22, cs, rfl, f22, hf⟩ := Fit.cons hf
  obtain ⟨c23, cs, rfl, f23, hf⟩ := Fit.cons hf
  obtain rfl := Fit.nil hf
  obtain ⟨x0, rfl⟩ := int_of un3 f0
  obtain ⟨x1, rfl⟩ := int_of un3 f1
  obtain ⟨x2, rfl⟩ := int_of un3 f2
  obtain ⟨x3, rfl⟩ := int_of un3 f3
  obtain ⟨x4, rfl⟩ := int_of un3 f4
  obtain ⟨x5, rfl⟩ := int_of un3 f5
  obtain ⟨x6, rfl⟩ := str_of un9 f6
  obtain ⟨x7, rfl⟩ := int_of un2 f7
  obtain ⟨x8, rfl⟩ := int_of un3 f8
  obtain ⟨x9, rfl⟩ := str_of un9 f9
  obtain ⟨x10, rfl⟩ := str_of un9 f10
  obtain ⟨x11, rfl⟩ := int_of un3 f11
  obtain ⟨x12, rfl⟩ := str_of un9 f12
  obtain ⟨x13, rfl⟩ := int_of un3 f13
  obtain ⟨x14, rfl⟩ := int_of un3 f14
  obtain ⟨x16, rfl⟩ := int_of un3 f16
  obtain ⟨x17, rfl⟩ := int_of un3 f17
  obtain ⟨x18, rfl⟩ := int_of un3 f18
  obtain ⟨x19, rfl⟩ := int_of un3 f19
  obtain ⟨x20, rfl⟩ := bool_of un4 f20
  obtain ⟨x21, rfl⟩ := int_of un3 f21
  obtain ⟨x22, rfl⟩ := int_of un28 f22
  obtain ⟨x23, rfl⟩ := str_of un9 f23
  obtain ⟨n, y, f15⟩ := f15
  obtain ⟨ρ', H', av, ks, h1, h2, h3, h4, h5⟩ := steps_lift f15 hB hg
  refine ⟨ρ', H', ⟨x0, x1, x2, x3, x4, x5, x6, x7, x8, x9, x10, x11, x12, x13, x14, av, x16, x17, x18, x19, x20, x21, x22, x23⟩, ks, h1, h2, h5, ⟨trivial, trivial, trivial, trivial, trivial, trivial, trivial, trivial, trivial, trivial, trivial, trivial, trivial, trivial, trivial, h4, trivial, trivial, trivial, trivial, trivial, trivial, trivial, trivial, trivial⟩, ?_⟩
  have h3 : conc ρ' av = c15 := by simpa [concL] using h3
  simp only [CmdV.cells, concL, conc, h3]
theorem log_elem {ρ : Env} {H : Heap} (hB : Base Tryz.tab W ρ H) (hg : Tryz.tab.nglob ≤ H.next) (n : Nat) (cs : List Value) (x : DataW H₀ × List MemPlace) (hx : DataW.trod enc Tryz.prog W base sp held n 44 cs = some x) :
    ∃ (ρ' : Env) (H' : Heap) (a : CmdK), Base Tryz.tab W ρ' H' ∧ More ρ H ρ' H' ∧ StepsAt H' a.cmd.steps a.keys ∧ okL ρ' (fun b => b < H'.next) a.cells ∧ concL ρ' a.cells = cs := by
  obtain ⟨ρ', H', c, ks, h1, h2, h3, h4, h5⟩ := cmd_lift (leafs_fit 9 44 _ lf44_is n cs x hx) hB hg
  exact ⟨ρ', H', ⟨c, ks⟩, h1, h2, h3, h4, h5⟩
theorem logs_elem {ρ : Env} {H : Heap} (hB : Base Tryz.tab W ρ H) (hg : Tryz.tab.nglob ≤ H.next) (n : Nat) (cs : List Value) (x : DataW H₀ × List MemPlace) (hx : DataW.trod enc Tryz.prog W base sp held n 33 cs = some x) :
    ∃ (ρ' : Env) (H' : Heap) (a : LogV), Base Tryz.tab W ρ' H' ∧ More ρ H ρ' H' ∧ LogAt H' a ∧ okL ρ' (fun b => b < H'.next) a.cells ∧ concL ρ' a.cells = cs := by
  obtain ⟨ρ', H', av, l, h1, h2, h3, h4, h5, h6⟩ := row_lift (f := CmdK.cells) (k := 24) CmdK.len (by omega) (R := fun H a => StepsAt H a.cmd.steps a.keys) (fun _ _ _ h hN hg => h.grow hN hg) (fun ρ H hB hg n cs x hx => log_elem hB hg n cs x hx) un33 ce44 hx hB hg
  exact ⟨ρ', H', ⟨av, l⟩, h1, h2, ⟨h5, h6⟩, ⟨h4, trivial⟩, h3⟩
theorem logs_lift {ρ : Env} {H : Heap} (hB : Base Tryz.tab W ρ H) (hg : Tryz.tab.nglob ≤ H.next) {n : Nat} {cs : List Value} {x : DataW H₀ × List MemPlace} (hx : DataW.trod enc Tryz.prog W base sp held n 22 cs = some x) :
    ∃ ρ' H' av l, Base Tryz.tab W ρ' H' ∧ More ρ H ρ' H' ∧ concL ρ' [av] = cs ∧ okV ρ' (fun b => b < H'.next) av ∧ LogsAt H' av l := by
  obtain ⟨ρ', H', av, l, h1, h2, h3, h4, h5, h6⟩ := row_lift (f := LogV.cells) (k := 1) LogV.len (by omega) (R := LogAt) (fun _ _ _ h hN hg => h.grow hN hg) (fun ρ H hB hg n cs x hx => logs_elem hB hg n cs x hx) un22 ce33 hx hB hg
  exact ⟨ρ', H', av, l, h1, h2, h3, h4, h5, h6⟩
theorem ev_elem {ρ : Env} {H : Heap} (hB : Base Tryz.tab W ρ H) (hg : Tryz.tab.nglob ≤ H.next) (n : Nat) (cs : List Value) (x : DataW H₀ × List MemPlace) (hx : DataW.trod enc Tryz.prog W base sp held n 51 cs = some x) :
    ∃ (ρ' : Env) (H' : Heap) (a : EvV), Base Tryz.tab W ρ' H' ∧ More ρ H ρ' H' ∧ StepsAt H' a.cmd.steps a.keys ∧ okL ρ' (fun b => b < H'.next) a.cells ∧ concL ρ' a.cells = cs := by
  have hf := leafs_fit 9 51 _ lf51_is n cs x hx
  obtain ⟨c0, cs, rfl, f0, hf⟩ := Fit.cons hf
  obtain ⟨c1, cs, rfl, f1, hf⟩ := Fit.cons hf
  obtain ⟨cc, cs, rfl, fc, hf⟩ := fit_split hf
  obtain ⟨c2, cs, rfl, f2, hf⟩ := Fit.cons hf
  obtain ⟨c3, cs, rfl, f3, hf⟩ := Fit.cons hf
  obtain ⟨c4, cs, rfl, f4, hf⟩ := Fit.cons hf
  obtain rfl := Fit.nil hf
  obtain ⟨x0, rfl⟩ := int_of un3 f0
  obtain ⟨x1, rfl⟩ := bool_of un4 f1
  obtain ⟨x2, rfl⟩ := int_of un28 f2
  obtain ⟨x3, rfl⟩ := int_of un2 f3
  obtain ⟨x4, rfl⟩ := str_of un9 f4
  obtain ⟨ρ', H', c, ks, h1, h2, h3, h4, h5⟩ := cmd_lift fc hB hg
  refine ⟨ρ', H', ⟨x0, x1, c, ks, x2, x3, x4⟩, h1, h2, h3, ⟨trivial, trivial, ?_⟩, ?_⟩
  · rw [okL_iff]
    intro v hv
    rcases List.mem_append.1 hv with hv | hv
    · exact okL_iff.1 h4 v hv
    · have h3 : okL ρ' (fun b => b < H'.next) [.int .i64 x2, .int .i64 x3, .str x4] := ⟨trivial, trivial, trivial, trivial⟩
      exact okL_iff.1 h3 v hv
  · have : concL ρ' (c.cells ++ [.int .i64 x2, .int .i64 x3, .str x4]) = cc ++ [.int .i64 x2, .int .i64 x3, .string ⟨x4.toArray⟩] := by
      rw [← h5]; simp only [concL_eq, List.map_append]; rfl
    show conc ρ' (.int .i64 x0) :: conc ρ' (.bool x1) :: concL ρ' (c.cells ++ [.int .i64 x2, .int .i64 x3, .str x4]) = _
    rw [this]; rfl
theorem evs_lift {ρ : Env} {H : Heap} (hB : Base Tryz.tab W ρ H) (hg : Tryz.tab.nglob ≤ H.next) {n : Nat} {cs : List Value} {x : DataW H₀ × List MemPlace} (hx : DataW.trod enc Tryz.prog W base sp held n 23 cs = some x) :
    ∃ ρ' H' av l, Base Tryz.tab W ρ' H' ∧ More ρ H ρ' H' ∧ concL ρ' [av] = cs ∧ okV ρ' (fun b => b < H'.next) av ∧ EvsAt H' av l := by
  obtain ⟨ρ', H', av, l, h1, h2, h3, h4, h5, h6⟩ := row_lift (f := EvV.cells) (k := 29) EvV.len (by omega) (R := fun H a => StepsAt H a.cmd.steps a.keys) (fun _ _ _ h hN hg => h.grow hN hg) (fun ρ H hB hg n cs x hx => ev_elem hB hg n cs x hx) un23 ce51 hx hB hg
  exact ⟨ρ', H', av, l, h1, h2, h3, h4, h5, h6⟩
end
end Go.Proofs

namespace Go.Proofs
open Go.Sx
set_option maxRecDepth 100000
set_option maxHeartbeats 0
noncomputable def gH0 : Heap := ⟨10, (T.e.set 0 (some (.big 27 1 [.slice 9 0 5 false 5]))).set 9 (some (.big 3 5 [.int .i64 2, .int .i64 11, .int .i64 12, .int .i64 13, .int .i64 14]))⟩
theorem works_true : trueO ((fns Tryz.tab 2000).call 8 [] gH0) = true := by kernel_rfl
end Go.Proofs
