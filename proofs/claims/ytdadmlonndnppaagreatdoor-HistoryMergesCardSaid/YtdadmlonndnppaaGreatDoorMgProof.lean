/-
  HistoryMerges returns true for every input, from every start that holds what the row lists: no other condition.
-/
import Derived.Test.YtdadmlonndnppaaGreatDoorMgG
import Derived.Test.YtdadmlonndnppaaGreatDoorRows
import Derived.ProofKit
import Derived.Lay
import Derived.LaidOnce
import Derived.SevenTiedAt
import Derived.Carry
import Derived.Test.YtdadmlonndnppaaGreatDoorMgH
import Derived.Test.YtdadmlonndnppaaGreatDoorMgI
import Derived.Test.YtdadmlonndnppaaGreatDoorSxF
set_option linter.unusedSimpArgs false
set_option linter.unusedVariables false
namespace Go.Proofs.YtdadmlonndnppaaGreatDoor
open Go.ChangeShapes Go.WideShapes Go.ChangeAt Go.RowKit Go.Sx
set_option maxRecDepth 100000
theorem gKinds : Tryz.prog.globalNamed "skald/history.kinds" = some 0 := by kernel_rfl
theorem tKinds : (Tryz.prog.globals[0]?).map (·.type) = some 27 := by kernel_rfl
theorem uKinds : Tryz.prog.underlying 27 = some (.slice 3) := by kernel_rfl
theorem cKinds : Tryz.prog.cellsOf 3 = 1 := by kernel_rfl
theorem uInt : Tryz.prog.underlying 3 = some (.int .i64) := by kernel_rfl
theorem gGlob : Nat.ble Tryz.tab.nglob 9 = true := by kernel_rfl
theorem gGet (x : Nat) (o : ABlk) (h : gH0.blks.get x = some o) : (x = 0 ∧ o = .big 27 1 [.slice 9 0 5 false 5]) ∨ (x = 9 ∧ o = .big 3 5 ([2, 11, 12, 13, 14].map fun x => AV.int .i64 x)) := by
  unfold gH0 at h
  simp only at h
  rw [T.get_set] at h
  split at h
  · rename_i h0
    exact .inr ⟨h0, (Option.some.inj h).symm⟩
  · rw [T.get_set] at h
    split at h
    · rename_i h0
      exact .inl ⟨h0, (Option.some.inj h).symm⟩
    · simp [T.get_e] at h
theorem gGlobAt : GlobAt gH0 := by
  unfold gH0 GlobAt
  simp only
  exact ⟨by rw [T.get_set, if_neg (by omega), T.get_set, if_pos rfl], by rw [T.get_set, if_pos rfl]⟩
/-- the start: what the row lists -/
theorem gBase {l : List (String × DataW Unit)} {W : World} (hm : ("skald/history.kinds", DataW.slice ([2, 11, 12, 13, 14].map fun x => .lit (.int .i64 x)) []) ∈ l) (hL : laidMet Tryz.prog l W) : ∃ ρ, Base Tryz.tab W ρ gH0 := by
  obtain ⟨b, off, el, arr, el', h1, h2, h3, h4, h5⟩ := laid_ints (k := .i64) (xs := [2, 11, 12, 13, 14]) hL (n := "skald/history.kinds") hm gKinds tKinds uKinds cKinds uInt (by simp)
  have hR := start_rel (G := Tryz.tab) (H := gH0) (g := 0) (n := 9) (t := 27) (e := 3) (k := .i64) (xs := [2, 11, 12, 13, 14]) (by omega) (ble_le gGlob) rfl gGet h1 h2 h3 h4 h5
  have e : (fun x => x ≤ 9) = fun x => x < gH0.next := by funext x; exact propext Nat.lt_succ_iff.symm
  rw [e] at hR
  refine ⟨_, hR, fun x o ho => ?_, fun x o ho => ?_, rfl, rfl⟩
  · rcases gGet x o ho with ⟨rfl, _⟩ | ⟨rfl, _⟩ <;> (show _ < 10; omega)
  · rcases gGet x o ho with ⟨_, rfl⟩ | ⟨_, rfl⟩ <;> trivial
theorem works_to (h : Heap) (hG : GlobAt h) : CallTo Tryz.prog Tryz.tab 8 [] h [(.bool true, h)] :=
  CallTo.closed Tryz.tabOk works_true (Nat.le_trans (ble_le gGlob) (by show 9 ≤ 10; omega)) (fun b o ho => by
    rcases gGet b o ho with ⟨_, rfl⟩ | ⟨_, rfl⟩
    · exact ⟨trivial, by show 9 < 10; omega, trivial⟩
    · exact ⟨trivial, trivial, trivial, trivial, trivial, trivial, trivial⟩) (fun b o ho => by
    rcases gGet b o ho with ⟨rfl, rfl⟩ | ⟨rfl, rfl⟩
    · exact hG.1
    · exact hG.2)
/-- WHAT A CALL DOES that comes to true and nothing else. -/
theorem calls_true {W : World} {ρ : Env} {H : Heap} {f : FuncId} {args : List AV} (hB : Base Tryz.tab W ρ H) (ha : okL ρ (fun b => b < H.next) args) {H' : Heap} (h : CallTo Tryz.prog Tryz.tab f args H [(.bool true, H')]) :
    Calls Tryz.prog f (concL ρ args).toArray W fun e w' => e = .returned (.bool true) ∧ Below W.heap.size W w' := by
  refine (h.calls hB.rel ha).mono fun e w' ⟨p, hp, ρ', D', he, hR, hE⟩ => ?_
  rw [List.mem_singleton.1 hp] at he hR
  refine ⟨he, below_of (fun i o hi => ?_) ?_⟩
  · exact (hR.rest i o (by rw [hE.sub.rest, hB.rest]; exact hi)).1
  · have := hR.kin
    rw [hE.sub.orig, hB.orig] at this; exact this
end Go.Proofs.YtdadmlonndnppaaGreatDoor

namespace Go.Proofs.YtdadmlonndnppaaGreatDoor
open Go.ChangeShapes Go.WideShapes Go.ChangeAt Go.RowKit Go.Sx
theorem Tryz.own : ownKnob Tryz.prog.godebug = none := by kernel_rfl
theorem slice_cells {P : Program} {w : World} {r : Reach} {b : Nat} {t e : TypeId} {v : Value} (hu : P.underlying t = some (.slice e)) (h : Value.okWide P w r b t v) : v.cells = #[v] := by
  cases v <;> first | rfl | (exfalso; simp [Value.okWide, Cell.okWide, Cell.ok, hu] at h)
theorem cap_of {H : Type} {enc : TypeId × Value → H} {W : World} {base : Nat} {sp : Nat → Bool} {held : Bool} {m : Nat} {cs : List Value} {x : DataW H × List MemPlace} (h : DataW.trod enc Tryz.prog W base sp held m 23 cs = some x) {ρ : Env} {av : AV} (e : concL ρ [av] = cs) :
    ∀ b o n c, av = .slice b o n false c → n ≤ c := by
  intro b o n c hav
  subst hav
  rcases DataW.trod_slice un23 h with ⟨hcs, _⟩ | ⟨a, len, cap, _, _, _, _, hcs, _, _, hl, _⟩
  · rw [← e] at hcs
    simp [concL, conc] at hcs
  · rw [← e] at hcs
    simp only [concL, conc, List.cons.injEq, Value.slice.injEq, and_true] at hcs
    have h1 := hcs.2.1
    have h2 := hcs.2.2
    simp only [Bool.false_eq_true, if_false] at h2
    omega
theorem mg_calls {H : Type} {enc : TypeId × Value → H} {W : World} (hL : laidMet Tryz.prog Rows.historyMergesRow.laid W) {v0 v1 : Value} {d0 d1 : DataW H} {p0 p1 : List MemPlace} (c0 : v0.cells = #[v0]) (c1 : v1.cells = #[v1])
    (h0 : DataW.Trod enc Tryz.prog W 0 (fun _ => true) true 22 v0 d0 p0) (h1 : DataW.Trod enc Tryz.prog W 0 (fun _ => true) true 23 v1 d1 p1) : Calls Tryz.prog 3 #[v0, v1] W fun e w' => e = .returned (.bool true) ∧ Below W.heap.size W w' := by
  obtain ⟨ρ, hB⟩ := gBase (l := Rows.historyMergesRow.laid) (by
    show _ ∈ Rows.historyMergesRow.laid
    unfold Rows.historyMergesRow
    exact .tail _ (.tail _ (.tail _ (.tail _ (.head _))))) hL
  have hg : Tryz.tab.nglob ≤ gH0.next := Nat.le_trans (ble_le gGlob) (by show 9 ≤ 10; omega)
  obtain ⟨n0, h0⟩ := h0
  obtain ⟨n1, h1⟩ := h1
  obtain ⟨ρ1, H1, a0, l, B1, M1, e0, k0, L1⟩ := logs_lift hB hg h0
  obtain ⟨ρ2, H2, a1, evs, B2, M2, e1, k1, E2⟩ := evs_lift B1 (Nat.le_trans hg M1.grows.next) h1
  have e1a := e1
  rw [c0] at e0
  rw [c1] at e1
  have e0 : conc ρ1 a0 = v0 := by simpa [concL] using e0
  have e1 : conc ρ2 a1 = v1 := by simpa [concL] using e1
  have e0' : conc ρ2 a0 = v0 := by rw [M2.sub.eq k0]; exact e0
  have hG : GlobAt H2 := gGlobAt.grow hB.neat (M1.grows.trans M2.grows)
  have := calls_true B2 (args := [a0, a1]) ⟨M2.sub.ok k0, k1, trivial⟩ (merges_run works_to H2 a0 a1 l evs (L1.grow B1.neat M2.grows) E2 (cap_of h1 e1a) hG B2.neat)
  simpa only [concL, e0', e1] using this
set_option maxRecDepth 100000 in
theorem mg_lifted (os : Os) (started : os.Started) (H : Type) (enc : TypeId × Value → H) :
    ReturnsInHanded {} Tryz.checked os 3 .any (fun w args => (Rows.historyMergesSpec.pre enc Tryz.prog Tryz.f3 [] false w args ∧ laidMetH Tryz.prog Rows.historyMergesRow.laid w) ∧ sizedMet enc Tryz.prog Tryz.f3 (OpenSpec.ofChange Rows.historyMergesSpec) false w args)
      (Rows.historyMergesSpec.post enc Tryz.prog Tryz.f3 false true false false) := by
  refine returnsInHanded_of_change_and (C := Tryz.checked) (X := fun w _ => laidMetH Tryz.prog Rows.historyMergesRow.laid w) (fun _ _ _ hh h => h.of_heap hh) Tryz.own started (by kernel_rfl) Tryz.func3
    (ChangeSpec.witness_shaped (enc := enc) (C := Tryz.checked) (os := os) (X := fun w _ => laidMetH Tryz.prog Rows.historyMergesRow.laid w) false (World.laidAll Tryz.prog os Rows.historyMergesRow.laid) #[.slice none 0 0, .slice none 0 0] 8 (World.laidAll_os _ _ _)
      (World.shaped_of_ZipB (by kernel_rfl) (by kernel_rfl)) (by kernel_rfl) (by kernel_rfl) (by kernel_rfl)
      (by rw [MakeChecks.laidMetH_plain _ _ _ (by kernel_rfl)]; exact laidMet_laidAll _ (by kernel_rfl) (by kernel_rfl))) ?_
  intro W base args ds gs before hval0 hW _ _ hL _
  have hval : ∀ (j : Nat) t v, Tryz.f3.params[j]? = some t → args[j]? = some v → Value.okWide Tryz.prog W .any base t v := hval0
  have hW' := hW
  obtain ⟨p, q, hA0, hV, rfl, _, _⟩ := hW
  have hA : DataW.TrodAll enc Tryz.prog W 0 (fun _ => true) true Tryz.f3.params.toList args.toList ds p := hA0
  rw [Tryz.params3] at hA hval
  have hL := hL
  rw [MakeChecks.laidMetH_plain _ _ _ (by kernel_rfl)] at hL
  obtain ⟨v0, v1, d0, d1, p0, p1, rfl, rfl, rfl, h0, h1⟩ := trodAll_two hA
  obtain ⟨rfl, rfl⟩ := trodVars_none hV
  simp only [List.append_nil] at hW'
  have hlt : ∀ x ∈ p0 ++ p1, x.block < W.heap.size := fun x hx => by simpa using hW'.lt x hx
  refine (mg_calls hL (slice_cells un22 (hval 0 22 v0 rfl rfl)) (slice_cells un23 (hval 1 23 v1 rfl rfl)) h0 h1).mono fun e W' ⟨he, hb⟩ => ?_
  subst he
  exact ⟨_, rfl, _, _, _, [], _, [], hW', trodAll_mk1 (shut_bool Tryz.underlying4 _),
    trodAll_mk2 (Below.trod mgJ2 (by kernel_rfl) (of_decide_eq_true (by kernel_rfl)) h0 hb fun x hx => hlt x (List.mem_append.2 (.inl hx))) (Below.trod mgJ2 (by kernel_rfl) (of_decide_eq_true (by kernel_rfl)) h1 hb fun x hx => hlt x (List.mem_append.2 (.inr hx))),
    rfl, hb.frame _, fun h => by cases h⟩

set_option maxRecDepth 100000 in
theorem mg_closed : joinedFacts Tryz.prog 3 Tryz.f3 Rows.historyMergesSpec Rows.historyMergesRow = true :=
  joinedFacts_mk mgJ1 mgJ2 mgJ3 mgJ4 mgJ5 mgJ6 mgJ7 mgJ8 mgJ9 mgJ10 mgJ11 mgJ12 mgJ13 mgJ14 mgJ15 mgJ16 mgJ17 mgJ18 mgJ19 mgJ20 mgJ21 mgJ22 mgJ23 mgJ24 mgJ25 mgJ26 mgJ27 mgJ28 mgJ29 mgJ30 mgJ31 mgJ32
theorem mg_named : Tryz.prog.funcNamed Rows.historyMergesRow.func = some 3 := by kernel_rfl
theorem mg_inst : Tryz.f3.isInstance Tryz.prog Rows.historyMergesRow.origin Rows.historyMergesRow.targs := of_decide_eq_true (by kernel_rfl)
theorem mg_wrap : Tryz.f3.isWrapper Tryz.prog Rows.historyMergesRow.wrapper Rows.historyMergesRow.mainSum := by
  unfold Func.isWrapper; first | (rw [if_pos (by decide +kernel)]; kernel_rfl) | (rw [if_neg (by decide +kernel)]; exact ⟨rfl, rfl⟩)

theorem mg_holds : Rows.HistoryMergesSaid :=
  OpenClaim.holds_of_wide 3 Tryz.f3 rfl rfl rfl rfl rfl rfl rfl ⟨rfl, rfl, rfl, rfl, rfl⟩ rfl rfl rfl rfl rfl mg_named Tryz.func3 mg_closed mg_inst mg_wrap
    (fun os started H enc _ => mg_lifted os started H enc)

end Go.Proofs.YtdadmlonndnppaaGreatDoor
