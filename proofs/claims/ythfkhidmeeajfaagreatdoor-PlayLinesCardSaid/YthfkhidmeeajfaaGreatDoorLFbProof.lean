/-
  PlayLines returns true for all arguments, from every start that holds what the row lists: no other condition.
-/
import Derived.Test.YthfkhidmeeajfaaGreatDoorLTpB
import Derived.Test.YthfkhidmeeajfaaGreatDoorLFbF
import Derived.Test.YthfkhidmeeajfaaGreatDoorLFbG
import Derived.Test.YthfkhidmeeajfaaGreatDoorLFbH
import Derived.Test.YthfkhidmeeajfaaGreatDoorLFbI
import Derived.Test.YthfkhidmeeajfaaGreatDoorLFbJ
import Derived.Test.YthfkhidmeeajfaaGreatDoorLFbK
import Derived.Test.YthfkhidmeeajfaaGreatDoorLSxF
import Derived.LaidHandle
import Derived.LaidSub
set_option linter.unusedSimpArgs false
set_option linter.unusedVariables false
namespace Go.Proofs.YthfkhidmeeajfaaGreatDoor
open Go.ChangeShapes Go.WideShapes Go.ChangeAt Go.RowKit Go.Sx
set_option maxRecDepth 100000
theorem Tryz.own : ownKnob Tryz.prog.godebug = none := by kernel_rfl
abbrev fbPlain : List (String × DataW Unit) := Rows.playLinesRow.laid.filter fun x => x.2.handleName?.isNone
theorem j6r : ("skald/crc.fours", DataW.agg (crcFours.map fun x => .lit (.int .u32 x))) ∈ fbPlain := by
 refine List.mem_filter.2 ⟨?_, rfl⟩
 show _ ∈ Rows.playLinesRow.laid
 unfold Rows.playLinesRow
 exact .tail _ (.tail _ (.tail _ (.tail _ (.head _))))
theorem k3I : ("internal/strconv.uint64pow10", DataW.agg (Lib.pow10Tab.map fun x => .lit (.int .u64 x))) ∈ fbPlain := by
 refine List.mem_filter.2 ⟨?_, rfl⟩
 show _ ∈ Rows.playLinesRow.laid
 unfold Rows.playLinesRow
 exact .tail _ (.tail _ (.head _))
theorem j6s {H : Type} {enc : TypeId × Value → H} {W : World} (hL : laidMet Tryz.prog fbPlain W) {v0 v1 : Value} {d0 d1 : DataW H} {p0 p1 : List MemPlace} (c0 : v0.cells = #[v0]) (c1 : v1.cells = #[v1])
  (h0 : DataW.Trod enc Tryz.prog W 0 (fun _ => true) true 22 v0 d0 p0) (h1 : DataW.Trod enc Tryz.prog W 0 (fun _ => true) true 22 v1 d1 p1) : Calls Tryz.prog 4 #[v0, v1] W fun e w' => e = .returned (.bool true) ∧ Below W.heap.size W w' := by
 obtain ⟨ρ, hB⟩ := w2T j6r k3I hL
 obtain ⟨n0, h0⟩ := h0
 obtain ⟨n1, h1⟩ := h1
 exact k7p hB c0 c1 h0 h1
noncomputable def j6t (w : World) (g : Nat) (cs : Array Value) : World :=
 { w with heap := w.heap.modify g fun o => match o with | .cells _ t f => .cells cs t f | o => o }
noncomputable def q1A (os : Os) : World := j6t (World.holding Tryz.prog os ⟨#[], #[], []⟩) 8 #[.nilFunc, .func (.func 907) #[] #[], .func (.func 908) #[] #[], .func (.func 909) #[] #[]]
noncomputable def z4F (os : Os) : World := (q1A os).layVars Tryz.prog fbPlain
theorem q9u (os : Os) : (z4F os).os = os := World.layVars_os _ _ _
theorem k3J (os : Os) (args : Array Value) (hf : (q1A os).layFits Tryz.prog fbPlain [] = true) (hi : (q1A os).layIfaces Tryz.prog fbPlain (z4F os) = true) : laidMet Tryz.prog fbPlain ((z4F os).forCall (fun _ _ => 0) ⟨#[], args, []⟩).memory := by
 have e1 : (fbPlain.filter fun x => (fbPlain.map (·.1)).contains x.1) = fbPlain := List.filter_eq_self.2 fun x hx => List.contains_iff_mem.2 (List.mem_map.2 ⟨x, hx, rfl⟩)
 have e2 : (fbPlain.filter fun x => !(fbPlain.map (·.1)).contains x.1) = [] := List.filter_eq_nil_iff.2 fun x hx => by rw [List.contains_iff_mem.2 (List.mem_map.2 ⟨x, hx, rfl⟩)]; simp
 have h : laidMet Tryz.prog fbPlain (z4F os) := laidMet_layVars (w0 := q1A os) (fbPlain.map (·.1)) [] (by rw [e1]; rfl) (by rw [e1]; exact hf) (by rw [e1]; exact hi) (by rw [e2]; exact LaidIn.none)
 exact h.of_heap (by simp [World.memory, World.forCall, Input.heap])
theorem fbS1 (os : Os) : (q1A os).layFits Tryz.prog fbPlain [] = true := by kernel_rfl
theorem fbS2 (os : Os) : (q1A os).layIfaces Tryz.prog fbPlain (z4F os) = true := by kernel_rfl
theorem k8G (os : Os) (args : Array Value) (enc : TypeId × Value → List UInt8) : z4Q enc Tryz.prog ((z4F os).forCall (fun _ _ => 0) ⟨#[], args, []⟩).memory 8 ((funcsListed Rows.playLinesRow.laid).map (·.1)) = some [DataW.agg [.nil, .held (enc (801, .func (.func 907) #[] #[])), .held (enc (801, .func (.func 908) #[] #[])), .held (enc (801, .func (.func 909) #[] #[]))]] := by kernel_rfl
theorem fbS3 (os : Os) (args : Array Value) : funcsRun Tryz.prog ((z4F os).forCall (fun _ _ => 0) ⟨#[], args, []⟩).memory 8 ((funcsListed Rows.playLinesRow.laid).map (·.1)) = some ((funcsListed Rows.playLinesRow.laid).map (·.2.funcsOut)) := by
 rw [z5R, k8G, q4b, q4c, q4d]
 kernel_rfl
theorem fbS4 (os : Os) (args : Array Value) : (Rows.playLinesRow.laid.filter fun x => x.2.handleName?.isSome && x.2.funcsIn?.isNone).all (handleAtB Tryz.prog ((z4F os).forCall (fun _ _ => 0) ⟨#[], args, []⟩).memory) = true := by kernel_rfl
theorem k0D (os : Os) (args : Array Value) : laidMetH Tryz.prog Rows.playLinesRow.laid ((z4F os).forCall (fun _ _ => 0) ⟨#[], args, []⟩).memory :=
 laidMetH_of_parts3 (fuel := 8) (k3J os args (fbS1 os) (fbS2 os)) (fbS4 os args) (fbS3 os args)
end Go.Proofs.YthfkhidmeeajfaaGreatDoor
namespace Go.Proofs.YthfkhidmeeajfaaGreatDoor
open Go.ChangeShapes Go.WideShapes Go.ChangeAt Go.RowKit Go.Sx
set_option maxRecDepth 100000
theorem j1s (os : Os) (started : os.Started) (H : Type) (enc : TypeId × Value → H) :
  ReturnsInHanded {} Tryz.checked os 4 .any (fun w args => (Rows.playLinesSpec.pre enc Tryz.prog Tryz.f4 [] false w args ∧ laidMetH Tryz.prog Rows.playLinesRow.laid w) ∧ sizedMet enc Tryz.prog Tryz.f4 (OpenSpec.ofChange Rows.playLinesSpec) false w args)
   (Rows.playLinesSpec.post enc Tryz.prog Tryz.f4 false true false false) := by
 refine returnsInHanded_of_change_and (C := Tryz.checked) (X := fun w _ => laidMetH Tryz.prog Rows.playLinesRow.laid w) (fun _ _ _ hh h => h.of_heap hh) Tryz.own started (by kernel_rfl) Tryz.func4
  (ChangeSpec.witness_shaped (enc := enc) (C := Tryz.checked) (os := os) (X := fun w _ => laidMetH Tryz.prog Rows.playLinesRow.laid w) false (z4F os) #[.slice none 0 0, .slice none 0 0] 8 (q9u os)
   (World.shaped_of_ZipB (by kernel_rfl) (by kernel_rfl)) (by kernel_rfl) (by kernel_rfl) (by kernel_rfl)
   (k0D os _)) ?_
 intro W base args ds gs before hval0 hW _ _ hL _
 have hval : ∀ (j : Nat) t v, Tryz.f4.params[j]? = some t → args[j]? = some v → Value.okWide Tryz.prog W .any base t v := hval0
 have hW' := hW
 obtain ⟨p, q, hA0, hV, rfl, _, _⟩ := hW
 have hA : DataW.TrodAll enc Tryz.prog W 0 (fun _ => true) true Tryz.f4.params.toList args.toList ds p := hA0
 rw [Tryz.params4] at hA hval
 obtain ⟨v0, v1, d0, d1, p0, p1, rfl, rfl, rfl, h0, h1⟩ := trodAll_two hA
 obtain ⟨rfl, rfl⟩ := trodVars_none hV
 simp only [List.append_nil] at hW'
 have hlt : ∀ x ∈ p0 ++ p1, x.block < W.heap.size := fun x hx => by simpa using hW'.lt x hx
 refine (j6s (laidMetH_iff.1 hL).1 (q1d un22 (hval 0 22 v0 rfl rfl)) (q1d un22 (hval 1 22 v1 rfl rfl)) h0 h1).mono fun e W' ⟨he, hb⟩ => ?_
 subst he
 exact ⟨_, rfl, _, _, _, [], _, [], hW', trodAll_mk1 (shut_bool Tryz.underlying4 _),
  trodAll_mk2 (Below.trod fbJ2 (by kernel_rfl) (of_decide_eq_true (by kernel_rfl)) h0 hb fun x hx => hlt x (List.mem_append.2 (.inl hx))) (Below.trod fbJ2 (by kernel_rfl) (of_decide_eq_true (by kernel_rfl)) h1 hb fun x hx => hlt x (List.mem_append.2 (.inr hx))),
  rfl, hb.frame _, fun h => by cases h⟩
theorem j1t : joinedFacts Tryz.prog 4 Tryz.f4 Rows.playLinesSpec Rows.playLinesRow = true :=
 q1o fbJ1 fbJ2 fbJ3 fbJ4 fbJ5 fbJ6 fbJ7 fbJ8 fbJ9 k7U k7V k7W k7X k8p k8q k8r k8s k8t k8u k8v k8w k8x k8m k8y k8n k8o k8z k8A k8B k8C k8D k8E
theorem q7K : Tryz.prog.funcNamed Rows.playLinesRow.func = some 4 := Go.Proofs.fbNLaw
theorem k0E : Tryz.f4.isInstance Tryz.prog Rows.playLinesRow.origin Rows.playLinesRow.targs := of_decide_eq_true (by kernel_rfl)
theorem k0F : Tryz.f4.isWrapper Tryz.prog Rows.playLinesRow.wrapper Rows.playLinesRow.mainSum := by
 unfold Func.isWrapper; first | (rw [if_pos (by decide +kernel)]; kernel_rfl) | (rw [if_neg (by decide +kernel)]; exact ⟨rfl, rfl⟩)
theorem j6u : Rows.PlayLinesSaid :=
 OpenClaim.holds_of_wide 4 Tryz.f4 rfl rfl rfl rfl rfl rfl rfl ⟨rfl, rfl, rfl, rfl, rfl⟩ rfl rfl rfl rfl rfl q7K Tryz.func4 j1t k0E k0F
  (fun os started H enc _ => j1s os started H enc)
end Go.Proofs.YthfkhidmeeajfaaGreatDoor
