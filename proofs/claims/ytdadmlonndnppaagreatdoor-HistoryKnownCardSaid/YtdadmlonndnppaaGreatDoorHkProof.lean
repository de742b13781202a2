/-
  HistoryKnown returns true from every start that holds what the row lists: no other condition.
-/
import Derived.Test.YtdadmlonndnppaaGreatDoorHkA
import Derived.Test.YtdadmlonndnppaaGreatDoorHkB
import Derived.Test.YtdadmlonndnppaaGreatDoorHkC
import Derived.Test.YtdadmlonndnppaaGreatDoorHkD
import Derived.Test.YtdadmlonndnppaaGreatDoorHkE
import Derived.Test.YtdadmlonndnppaaGreatDoorSxTab
import Derived.Test.YtdadmlonndnppaaGreatDoorSxF
import Derived.Test.YtdadmlonndnppaaGreatDoorHkF
import Derived.Test.YtdadmlonndnppaaGreatDoorHkG
import Derived.Test.YtdadmlonndnppaaGreatDoorRows
import Derived.ProofKit
import Derived.Lay
import Derived.LaidOnce
import Derived.SevenTiedAt
namespace Go.Proofs.YtdadmlonndnppaaGreatDoor
open Go.ChangeShapes Go.WideShapes Go.ChangeAt Go.RowKit Go.Sx

theorem Tryz.own : ownKnob Tryz.prog.godebug = none := by kernel_rfl
theorem gKinds : Tryz.prog.globalNamed "skald/history.kinds" = some 0 := by kernel_rfl
theorem tKinds : (Tryz.prog.globals[0]?).map (·.type) = some 27 := by kernel_rfl
theorem uKinds : Tryz.prog.underlying 27 = some (.slice 3) := by kernel_rfl
theorem cKinds : Tryz.prog.cellsOf 3 = 1 := by kernel_rfl
theorem uInt : Tryz.prog.underlying 3 = some (.int .i64) := by kernel_rfl
theorem hkCtx : hkC = ⟨none, Tryz.f5.ntmps⟩ := by kernel_rfl
theorem hkBodyIs : Tryz.f5.body = some hkBody := by kernel_rfl
theorem hkGlob : Nat.ble Tryz.tab.nglob 9 = true := by kernel_rfl

theorem hkGet (x : Nat) (o : ABlk) (h : hkH0.blks.get x = some o) : (x = 0 ∧ o = .big 27 1 [.slice 9 0 5 false 5]) ∨ (x = 9 ∧ o = .big 3 5 ([2, 11, 12, 13, 14].map fun x => AV.int .i64 x)) := by
  unfold hkH0 at h
  simp only at h
  rw [T.get_n] at h
  split at h
  · rename_i h0
    exact .inl ⟨h0, (Option.some.inj h).symm⟩
  · split at h
    · rw [T.get_n] at h
      split at h
      · simp at h
      · split at h
        · simp [T.get_e] at h
        · rw [T.get_n] at h
          split at h
          · simp at h
          · split at h
            · rw [T.get_n] at h
              split at h
              · refine .inr ⟨by omega, (Option.some.inj h).symm⟩
              · split at h <;> simp [T.get_e] at h
            · simp [T.get_e] at h
    · simp [T.get_e] at h

theorem hk_rel {W : World} (hL : laidMet Tryz.prog Rows.historyKnownRow.laid W) : ∃ b off, HRel Tryz.tab (startEnv W 9 b off) (fun x => x ≤ 9) W hkH0 := by
  obtain ⟨b, off, el, arr, el', h1, h2, h3, h4, h5⟩ := laid_ints (k := .i64) (xs := [2, 11, 12, 13, 14]) hL (n := "skald/history.kinds") (by
    show _ ∈ Rows.historyKnownRow.laid
    unfold Rows.historyKnownRow
    exact .tail _ (.tail _ (.tail _ (.tail _ (.head _))))) gKinds tKinds uKinds cKinds uInt (by simp)
  exact ⟨b, off, start_rel (g := 0) (n := 9) (t := 27) (e := 3) (k := .i64) (xs := [2, 11, 12, 13, 14]) (by omega) (ble_le hkGlob) rfl hkGet h1 h2 h3 h4 h5⟩

/-- WHAT THE CALL DOES. -/
theorem hk_calls {W : World} (hL : laidMet Tryz.prog Rows.historyKnownRow.laid W) : Calls Tryz.prog 5 #[] W fun e w' => e = .returned (.bool true) ∧ Below W.heap.size W w' := by
  obtain ⟨b, off, hR⟩ := hk_rel hL
  refine (call_true Tryz.tabOk (m := 3000) (f := 5) (fn := Tryz.f5) (body := hkBody) (rest := segTail 7 (segTail 12 (segTail 2 (segTail 4 hkBody)))) (s := hkS4) (c := hkC) Tryz.func5 hkBodyIs hkCtx
    (fun outs h => reach_seg Tryz.tabOk hk_seg1 (reach_seg Tryz.tabOk hk_seg2 (reach_seg Tryz.tabOk hk_seg3 (reach_seg Tryz.tabOk hk_seg4 h)))) hk_end hR).mono fun e w' h => ?_
  exact ⟨h.1, below_of h.2.1 h.2.2⟩

set_option maxRecDepth 100000 in
theorem hk_lifted (os : Os) (started : os.Started) (H : Type) (enc : TypeId × Value → H) :
    ReturnsInHanded {} Tryz.checked os 5 .any (fun w args => (Rows.historyKnownSpec.pre enc Tryz.prog Tryz.f5 [] false w args ∧ laidMetH Tryz.prog Rows.historyKnownRow.laid w) ∧ sizedMet enc Tryz.prog Tryz.f5 (OpenSpec.ofChange Rows.historyKnownSpec) false w args)
      (Rows.historyKnownSpec.post enc Tryz.prog Tryz.f5 false true false false) := by
  refine returnsInHanded_of_change_and (C := Tryz.checked) (X := fun w _ => laidMetH Tryz.prog Rows.historyKnownRow.laid w) (fun _ _ _ hh h => h.of_heap hh) Tryz.own started (by kernel_rfl) Tryz.func5
    (ChangeSpec.witness_shaped (enc := enc) (C := Tryz.checked) (os := os) (X := fun w _ => laidMetH Tryz.prog Rows.historyKnownRow.laid w) false (World.laidAll Tryz.prog os Rows.historyKnownRow.laid) #[] 8 (World.laidAll_os _ _ _)
      (World.shaped_of_ZipB (by kernel_rfl) (by kernel_rfl)) (by kernel_rfl) (by kernel_rfl) (by kernel_rfl)
      (by rw [MakeChecks.laidMetH_plain _ _ _ (by kernel_rfl)]; exact laidMet_laidAll _ (by kernel_rfl) (by kernel_rfl))) ?_
  intro W base args ds gs before hval0 hW _ _ hL _
  have hW' := hW
  obtain ⟨p, q, hA0, hV, rfl, _, _⟩ := hW
  have hA : DataW.TrodAll enc Tryz.prog W 0 (fun _ => true) true Tryz.f5.params.toList args.toList ds p := hA0
  rw [Tryz.params5] at hA
  have hL := hL
  rw [MakeChecks.laidMetH_plain _ _ _ (by kernel_rfl)] at hL
  obtain ⟨rfl, rfl, rfl⟩ := trodAll_none hA
  obtain ⟨rfl, rfl⟩ := trodVars_none hV
  refine (hk_calls hL).mono fun e W' ⟨he, hb⟩ => ?_
  subst he
  exact ⟨_, rfl, _, _, _, [], [], [], hW', trodAll_mk1 (shut_bool Tryz.underlying4 _), trodAll_mk0, rfl, hb.frame _, fun h => by cases h⟩

set_option maxRecDepth 100000 in
theorem hk_closed : joinedFacts Tryz.prog 5 Tryz.f5 Rows.historyKnownSpec Rows.historyKnownRow = true :=
  joinedFacts_mk hkJ1 hkJ2 hkJ3 hkJ4 hkJ5 hkJ6 hkJ7 hkJ8 hkJ9 hkJ10 hkJ11 hkJ12 hkJ13 hkJ14 hkJ15 hkJ16 hkJ17 hkJ18 hkJ19 hkJ20 hkJ21 hkJ22 hkJ23 hkJ24 hkJ25 hkJ26 hkJ27 hkJ28 hkJ29 hkJ30 hkJ31 hkJ32
theorem hk_named : Tryz.prog.funcNamed Rows.historyKnownRow.func = some 5 := by kernel_rfl
theorem hk_inst : Tryz.f5.isInstance Tryz.prog Rows.historyKnownRow.origin Rows.historyKnownRow.targs := of_decide_eq_true (by kernel_rfl)
theorem hk_wrap : Tryz.f5.isWrapper Tryz.prog Rows.historyKnownRow.wrapper Rows.historyKnownRow.mainSum := by
  unfold Func.isWrapper; first | (rw [if_pos (by decide +kernel)]; kernel_rfl) | (rw [if_neg (by decide +kernel)]; exact ⟨rfl, rfl⟩)

theorem hk_holds : Rows.HistoryKnownSaid :=
  OpenClaim.holds_of_wide 5 Tryz.f5 rfl rfl rfl rfl rfl rfl rfl ⟨rfl, rfl, rfl, rfl, rfl⟩ rfl rfl rfl rfl rfl hk_named Tryz.func5 hk_closed hk_inst hk_wrap
    (fun os started H enc _ => hk_lifted os started H enc)

end Go.Proofs.YtdadmlonndnppaaGreatDoor
