/-
  PlayTexts returns true for all arguments, from every start that holds what the row lists: no other condition.
-/
import Derived.Test.YthfkhidmeeajfaaGreatDoorTaF
import Derived.Test.YthfkhidmeeajfaaGreatDoorFbF
import Derived.Test.YthfkhidmeeajfaaGreatDoorFbG
import Derived.Test.YthfkhidmeeajfaaGreatDoorFbH
import Derived.Test.YthfkhidmeeajfaaGreatDoorFbI
import Derived.Test.YthfkhidmeeajfaaGreatDoorFbJ
import Derived.Test.YthfkhidmeeajfaaGreatDoorFbK
import Derived.Test.YthfkhidmeeajfaaGreatDoorSxF
import Derived.LaidHandle
import Derived.LaidSub
set_option linter.unusedSimpArgs false
set_option linter.unusedVariables false
namespace Go.Proofs.YthfkhidmeeajfaaGreatDoor
open Go.ChangeShapes Go.WideShapes Go.ChangeAt Go.RowKit Go.Sx
set_option maxRecDepth 100000
theorem Tryz.own : ownKnob Tryz.prog.godebug = none := by kernel_rfl
abbrev fbPlain : List (String × DataW Unit) := Rows.playTextsRow.laid.filter fun x => x.2.handleName?.isNone
theorem j7n : ("skald/crc.fours", DataW.agg (crcFours.map fun x => .lit (.int .u32 x))) ∈ fbPlain := by
 refine List.mem_filter.2 ⟨?_, rfl⟩
 show _ ∈ Rows.playTextsRow.laid
 unfold Rows.playTextsRow
 exact .tail _ (.tail _ (.tail _ (.tail _ (.head _))))
theorem k5g : ("internal/strconv.uint64pow10", DataW.agg (Lib.pow10Tab.map fun x => .lit (.int .u64 x))) ∈ fbPlain := by
 refine List.mem_filter.2 ⟨?_, rfl⟩
 show _ ∈ Rows.playTextsRow.laid
 unfold Rows.playTextsRow
 exact .tail _ (.tail _ (.head _))
theorem j7o {H : Type} {enc : TypeId × Value → H} {W : World} (hL : laidMet Tryz.prog fbPlain W) {v0 : Value} {d0 : DataW H} {p0 : List MemPlace} (c0 : v0.cells = #[v0])
  (h0 : DataW.Trod enc Tryz.prog W 0 (fun _ => true) true 22 v0 d0 p0) : Calls Tryz.prog 3 #[v0] W fun e w' => e = .returned (.bool true) ∧ Below W.heap.size W w' := by
 obtain ⟨ρ, hB⟩ := w4H j7n k5g hL
 obtain ⟨n0, h0⟩ := h0
 exact k9a hB c0 h0
noncomputable def j7p (w : World) (g : Nat) (cs : Array Value) : World :=
 { w with heap := w.heap.modify g fun o => match o with | .cells _ t f => .cells cs t f | o => o }
noncomputable def q2z (os : Os) : World := j7p (World.holding Tryz.prog os ⟨#[], #[], []⟩) 8 #[.nilFunc, .func (.func 907) #[] #[], .func (.func 908) #[] #[], .func (.func 909) #[] #[]]
noncomputable def z4W (os : Os) : World := (q2z os).layVars Tryz.prog fbPlain
theorem j0r (os : Os) : (z4W os).os = os := World.layVars_os _ _ _
theorem k5h (os : Os) (args : Array Value) (hf : (q2z os).layFits Tryz.prog fbPlain [] = true) (hi : (q2z os).layIfaces Tryz.prog fbPlain (z4W os) = true) : laidMet Tryz.prog fbPlain ((z4W os).forCall (fun _ _ => 0) ⟨#[], args, []⟩).memory := by
 have e1 : (fbPlain.filter fun x => (fbPlain.map (·.1)).contains x.1) = fbPlain := List.filter_eq_self.2 fun x hx => List.contains_iff_mem.2 (List.mem_map.2 ⟨x, hx, rfl⟩)
 have e2 : (fbPlain.filter fun x => !(fbPlain.map (·.1)).contains x.1) = [] := List.filter_eq_nil_iff.2 fun x hx => by rw [List.contains_iff_mem.2 (List.mem_map.2 ⟨x, hx, rfl⟩)]; simp
 have h : laidMet Tryz.prog fbPlain (z4W os) := laidMet_layVars (w0 := q2z os) (fbPlain.map (·.1)) [] (by rw [e1]; rfl) (by rw [e1]; exact hf) (by rw [e1]; exact hi) (by rw [e2]; exact LaidIn.none)
 exact h.of_heap (by simp [World.memory, World.forCall, Input.heap])
theorem fbS1 (os : Os) : (q2z os).layFits Tryz.prog fbPlain [] = true := by kernel_rfl
theorem fbS2 (os : Os) : (q2z os).layIfaces Tryz.prog fbPlain (z4W os) = true := by kernel_rfl
theorem w0s (os : Os) (args : Array Value) (enc : TypeId × Value → List UInt8) : z5i enc Tryz.prog ((z4W os).forCall (fun _ _ => 0) ⟨#[], args, []⟩).memory 8 ((funcsListed Rows.playTextsRow.laid).map (·.1)) = some [DataW.agg [.nil, .held (enc (801, .func (.func 907) #[] #[])), .held (enc (801, .func (.func 908) #[] #[])), .held (enc (801, .func (.func 909) #[] #[]))]] := by kernel_rfl
theorem fbS3 (os : Os) (args : Array Value) : funcsRun Tryz.prog ((z4W os).forCall (fun _ _ => 0) ⟨#[], args, []⟩).memory 8 ((funcsListed Rows.playTextsRow.laid).map (·.1)) = some ((funcsListed Rows.playTextsRow.laid).map (·.2.funcsOut)) := by
 rw [z6o, w0s, q5b, q5c, q5d]
 kernel_rfl
theorem fbS4 (os : Os) (args : Array Value) : (Rows.playTextsRow.laid.filter fun x => x.2.handleName?.isSome && x.2.funcsIn?.isNone).all (handleAtB Tryz.prog ((z4W os).forCall (fun _ _ => 0) ⟨#[], args, []⟩).memory) = true := by kernel_rfl
theorem k1R (os : Os) (args : Array Value) : laidMetH Tryz.prog Rows.playTextsRow.laid ((z4W os).forCall (fun _ _ => 0) ⟨#[], args, []⟩).memory :=
 laidMetH_of_parts3 (fuel := 8) (k5h os args (fbS1 os) (fbS2 os)) (fbS4 os args) (fbS3 os args)
end Go.Proofs.YthfkhidmeeajfaaGreatDoor
namespace Go.Proofs.YthfkhidmeeajfaaGreatDoor
open Go.ChangeShapes Go.WideShapes Go.ChangeAt Go.RowKit Go.Sx
set_option maxRecDepth 100000
theorem j2t (os : Os) (started : os.Started) (H : Type) (enc : TypeId × Value → H) :
  ReturnsInHanded {} Tryz.checked os 3 .any (fun w args => (Rows.playTextsSpec.pre enc Tryz.prog Tryz.f3 [] false w args ∧ laidMetH Tryz.prog Rows.playTextsRow.laid w) ∧ sizedMet enc Tryz.prog Tryz.f3 (OpenSpec.ofChange Rows.playTextsSpec) false w args)
   (Rows.playTextsSpec.post enc Tryz.prog Tryz.f3 false true false false) := by
 refine returnsInHanded_of_change_and (C := Tryz.checked) (X := fun w _ => laidMetH Tryz.prog Rows.playTextsRow.laid w) (fun _ _ _ hh h => h.of_heap hh) Tryz.own started (by kernel_rfl) Tryz.func3
  (ChangeSpec.witness_shaped (enc := enc) (C := Tryz.checked) (os := os) (X := fun w _ => laidMetH Tryz.prog Rows.playTextsRow.laid w) false (z4W os) #[.slice none 0 0] 8 (j0r os)
   (World.shaped_of_ZipB (by kernel_rfl) (by kernel_rfl)) (by kernel_rfl) (by kernel_rfl) (by kernel_rfl)
   (k1R os _)) ?_
 intro W base args ds gs before hval0 hW _ _ hL _
 have hval : ∀ (j : Nat) t v, Tryz.f3.params[j]? = some t → args[j]? = some v → Value.okWide Tryz.prog W .any base t v := hval0
 have hW' := hW
 obtain ⟨p, q, hA0, hV, rfl, _, _⟩ := hW
 have hA : DataW.TrodAll enc Tryz.prog W 0 (fun _ => true) true Tryz.f3.params.toList args.toList ds p := hA0
 rw [Tryz.params3] at hA hval
 obtain ⟨v0, d0, rfl, rfl, h0⟩ := trodAll_one hA
 obtain ⟨rfl, rfl⟩ := trodVars_none hV
 simp only [List.append_nil] at hW'
 have hlt : ∀ x ∈ p, x.block < W.heap.size := fun x hx => by simpa using hW'.lt x hx
 refine (j7o (laidMetH_iff.1 hL).1 (q8L un22 (hval 0 22 v0 rfl rfl)) h0).mono fun e W' ⟨he, hb⟩ => ?_
 subst he
 exact ⟨_, rfl, _, _, _, [], _, [], hW', trodAll_mk1 (shut_bool Tryz.underlying4 _),
  trodAll_mk1 (Below.trod fbJ2 (by kernel_rfl) (of_decide_eq_true (by kernel_rfl)) h0 hb hlt),
  rfl, hb.frame _, fun h => by cases h⟩
theorem j2u : joinedFacts Tryz.prog 3 Tryz.f3 Rows.playTextsSpec Rows.playTextsRow = true :=
 q2o fbJ1 fbJ2 fbJ3 fbJ4 fbJ5 fbJ6 fbJ7 fbJ8 fbJ9 k9G k9H k9I k9J w0b w0c w0d w0e w0f w0g w0h w0i w0j k9Y w0k k9Z w0a w0l w0m w0n w0o w0p w0q
theorem q8M : Tryz.prog.funcNamed Rows.playTextsRow.func = some 3 := Go.Proofs.fbNLaw
theorem k1S : Tryz.f3.isInstance Tryz.prog Rows.playTextsRow.origin Rows.playTextsRow.targs := of_decide_eq_true (by kernel_rfl)
theorem k1T : Tryz.f3.isWrapper Tryz.prog Rows.playTextsRow.wrapper Rows.playTextsRow.mainSum := by
 unfold Func.isWrapper; first | (rw [if_pos (by decide +kernel)]; kernel_rfl) | (rw [if_neg (by decide +kernel)]; exact ⟨rfl, rfl⟩)
theorem j7q : Rows.PlayTextsSaid :=
 OpenClaim.holds_of_wide 3 Tryz.f3 rfl rfl rfl rfl rfl rfl rfl ⟨rfl, rfl, rfl, rfl, rfl⟩ rfl rfl rfl rfl rfl q8M Tryz.func3 j2u k1S k1T
  (fun os started H enc _ => j2t os started H enc)
end Go.Proofs.YthfkhidmeeajfaaGreatDoor
