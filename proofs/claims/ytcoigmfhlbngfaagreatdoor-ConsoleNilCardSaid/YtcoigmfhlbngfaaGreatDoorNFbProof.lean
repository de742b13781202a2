/-
  ConsoleNil returns true for all arguments, from every start that holds what the row lists: no other condition.
-/
import Derived.Test.YtcoigmfhlbngfaaGreatDoorNTpB
import Derived.Test.YtcoigmfhlbngfaaGreatDoorNFbF
import Derived.Test.YtcoigmfhlbngfaaGreatDoorNFbG
import Derived.Test.YtcoigmfhlbngfaaGreatDoorNFbH
import Derived.Test.YtcoigmfhlbngfaaGreatDoorNFbI
import Derived.Test.YtcoigmfhlbngfaaGreatDoorNFbJ
import Derived.Test.YtcoigmfhlbngfaaGreatDoorNFbK
import Derived.Test.YtcoigmfhlbngfaaGreatDoorNSxF
import Derived.LaidHandle
import Derived.LaidSub
import Derived.Lib.LaidIn
set_option linter.unusedSimpArgs false
set_option linter.unusedVariables false
namespace Go.Proofs.YtcoigmfhlbngfaaGreatDoor
open Go.ChangeShapes Go.WideShapes Go.ChangeAt Go.RowKit Go.Sx
set_option maxRecDepth 100000
theorem Tryz.own : ownKnob Tryz.prog.godebug = none := by kernel_rfl
abbrev fbPlain : List (String × DataW Unit) := Rows.consoleNilRow.laid.filter fun x => x.2.handleName?.isNone
theorem k1z : ("skald/crc.fours", DataW.agg (foursR.map fun x => .lit (.int .u32 x))) ∈ fbPlain := by
 refine List.mem_filter.2 ⟨?_, rfl⟩
 show _ ∈ Rows.consoleNilRow.laid
 unfold Rows.consoleNilRow
 exact .tail _ (.tail _ (.tail _ (.tail _ (.tail _ (.tail _ (.head _))))))
theorem q8B : ("skald/crc.fours", DataW.agg (foursR.map fun x => .lit (.int .u32 x))) ∈ fbPlain := by
 refine List.mem_filter.2 ⟨?_, rfl⟩
 show _ ∈ Rows.consoleNilRow.laid
 unfold Rows.consoleNilRow
 exact .tail _ (.tail _ (.tail _ (.tail _ (.tail _ (.tail _ (.head _))))))
theorem j2x {W : World} (hL : laidMet Tryz.prog fbPlain W) {v0 : Value} (c0 : ∃ s : List UInt8, v0 = .string ⟨s.toArray⟩) : Calls Tryz.prog 3 #[v0] W fun e w' => e = .returned (.bool true) ∧ Below W.heap.size W w' := by
 obtain ⟨ρ, hB⟩ := w1Y q8B hL
 exact k1x hB c0
noncomputable def j2y (w : World) (g : Nat) (cs : Array Value) : World :=
 { w with heap := w.heap.modify g fun o => match o with | .cells _ t f => .cells cs t f | o => o }
abbrev fbErrs : List (String × DataW Unit) := [("strconv.ErrRange", Rows.laid_strconv_ErrRange), ("strconv.ErrSyntax", Rows.laid_strconv_ErrSyntax)]
abbrev fbGreat : List (String × DataW Unit) := fbPlain.filter fun x => !(x.1 == "strconv.ErrRange" || x.1 == "strconv.ErrSyntax")
def w2u (l : List UInt8) : Obj := .cells #[.string ⟨l.toArray⟩] 772 (0, 0)
noncomputable def w2v (os : Os) : World := World.holding Tryz.prog os ⟨#[w2u [118, 97, 108, 117, 101, 32, 111, 117, 116, 32, 111, 102, 32, 114, 97, 110, 103, 101], w2u [105, 110, 118, 97, 108, 105, 100, 32, 115, 121, 110, 116, 97, 120]], #[], []⟩
noncomputable def fbAt (os : Os) (k : Nat) : Value := .iface 770 (.pointer (some ⟨(World.settled Tryz.prog os).heap.size + k, 0, none⟩))
noncomputable def q0k (os : Os) : World := j2y (j2y (j2y (w2v os) 13 #[.nilFunc, .func (.func 1066) #[] #[], .func (.func 1067) #[] #[], .func (.func 1068) #[] #[]]) 8 #[fbAt os 0]) 7 #[fbAt os 1]
noncomputable def z3L (os : Os) : World := (q0k os).layVars Tryz.prog fbGreat
theorem q7e (os : Os) : (z3L os).os = os := World.layVars_os _ _ _
noncomputable def fbB (os : Os) : List Nat := [8, 7, (World.settled Tryz.prog os).heap.size, (World.settled Tryz.prog os).heap.size + 1]
theorem fbE1 : (fbPlain.filter fun x => (fbGreat.map (·.1)).contains x.1) = fbGreat := by kernel_rfl
theorem fbE2 : (fbPlain.filter fun x => !(fbGreat.map (·.1)).contains x.1) = fbErrs := by kernel_rfl
theorem w2w (os : Os) : (DataW.laidRun Tryz.prog (z3L os) 8 (fbErrs.map (·.1))).map (·.1) = some fbErrs := by kernel_rfl
theorem w2x (os : Os) : (DataW.laidRun Tryz.prog (z3L os) 8 (fbErrs.map (·.1))).map (fun x => nodupB (x.2.map MemPlace.codeOf)) = some true := by kernel_rfl
theorem w2y (os : Os) : (DataW.laidRun Tryz.prog (z3L os) 8 (fbErrs.map (·.1))).map (fun x => laidRowsB Tryz.prog (z3L os) x.2) = some true := by kernel_rfl
theorem w2z (os : Os) : (DataW.laidRun Tryz.prog (z3L os) 8 (fbErrs.map (·.1))).map (fun x => x.2.all fun p => (fbB os).contains p.block) = some true := by kernel_rfl
theorem j9h (os : Os) (args : Array Value) (hf : (q0k os).layFits Tryz.prog fbGreat (fbB os) = true) (hi : (q0k os).layIfaces Tryz.prog fbGreat (z3L os) = true) : laidMet Tryz.prog fbPlain ((z3L os).forCall (fun _ _ => 0) ⟨#[], args, []⟩).memory := by
 have h : laidMet Tryz.prog fbPlain (z3L os) := laidMet_layVars (w0 := q0k os) (fbGreat.map (·.1)) (fbB os) (by rw [fbE1, z3L]) (by rw [fbE1]; exact hf) (by rw [fbE1]; exact hi) (by rw [fbE2]; exact LaidIn.of_run (fbB os) 8 (w2w os) (w2x os) (w2y os) (w2z os))
 exact h.of_heap (by simp [World.memory, World.forCall, Input.heap])
theorem fbS1 (os : Os) : (q0k os).layFits Tryz.prog fbGreat (fbB os) = true := by kernel_rfl
theorem fbS2 (os : Os) : (q0k os).layIfaces Tryz.prog fbGreat (z3L os) = true := by kernel_rfl
theorem k2R (os : Os) (args : Array Value) (enc : TypeId × Value → List UInt8) : z3U enc Tryz.prog ((z3L os).forCall (fun _ _ => 0) ⟨#[], args, []⟩).memory 8 ((funcsListed Rows.consoleNilRow.laid).map (·.1)) = some [DataW.agg [.nil, .held (enc (994, .func (.func 1066) #[] #[])), .held (enc (994, .func (.func 1067) #[] #[])), .held (enc (994, .func (.func 1068) #[] #[]))]] := by kernel_rfl
theorem fbS3 (os : Os) (args : Array Value) : funcsRun Tryz.prog ((z3L os).forCall (fun _ _ => 0) ⟨#[], args, []⟩).memory 8 ((funcsListed Rows.consoleNilRow.laid).map (·.1)) = some ((funcsListed Rows.consoleNilRow.laid).map (·.2.funcsOut)) := by
 rw [z4M, k2R, q2x, q2y, q2z]
 kernel_rfl
theorem fbS4 (os : Os) (args : Array Value) : (Rows.consoleNilRow.laid.filter fun x => x.2.handleName?.isSome && x.2.funcsIn?.isNone).all (handleAtB Tryz.prog ((z3L os).forCall (fun _ _ => 0) ⟨#[], args, []⟩).memory) = true := by kernel_rfl
theorem j5Q (os : Os) (args : Array Value) : laidMetH Tryz.prog Rows.consoleNilRow.laid ((z3L os).forCall (fun _ _ => 0) ⟨#[], args, []⟩).memory :=
 laidMetH_of_parts3 (fuel := 8) (j9h os args (fbS1 os) (fbS2 os)) (fbS4 os args) (fbS3 os args)
end Go.Proofs.YtcoigmfhlbngfaaGreatDoor
namespace Go.Proofs.YtcoigmfhlbngfaaGreatDoor
open Go.ChangeShapes Go.WideShapes Go.ChangeAt Go.RowKit Go.Sx
set_option maxRecDepth 100000
theorem q8C (os : Os) (started : os.Started) (H : Type) (enc : TypeId × Value → H) :
  ReturnsInHanded {} Tryz.checked os 3 .any (fun w args => (Rows.consoleNilSpec.pre enc Tryz.prog Tryz.f3 [] false w args ∧ laidMetH Tryz.prog Rows.consoleNilRow.laid w) ∧ sizedMet enc Tryz.prog Tryz.f3 (OpenSpec.ofChange Rows.consoleNilSpec) false w args)
   (Rows.consoleNilSpec.post enc Tryz.prog Tryz.f3 false true false false) := by
 refine returnsInHanded_of_change_and (C := Tryz.checked) (X := fun w _ => laidMetH Tryz.prog Rows.consoleNilRow.laid w) (fun _ _ _ hh h => h.of_heap hh) Tryz.own started (by kernel_rfl) Tryz.func3
  (ChangeSpec.witness_shaped (enc := enc) (C := Tryz.checked) (os := os) (X := fun w _ => laidMetH Tryz.prog Rows.consoleNilRow.laid w) false (z3L os) #[.string ⟨#[]⟩] 8 (q7e os)
   (World.shaped_of_ZipB (by kernel_rfl) (by kernel_rfl)) (by kernel_rfl) (by kernel_rfl) (by kernel_rfl)
   (j5Q os _)) ?_
 intro W base args ds gs before hval0 hW _ _ hL _
 have hval : ∀ (j : Nat) t v, Tryz.f3.params[j]? = some t → args[j]? = some v → Value.okWide Tryz.prog W .any base t v := hval0
 have hW' := hW
 obtain ⟨p, q, hA0, hV, rfl, _, _⟩ := hW
 have hA : DataW.TrodAll enc Tryz.prog W 0 (fun _ => true) true Tryz.f3.params.toList args.toList ds p := hA0
 rw [Tryz.params3] at hA hval
 obtain ⟨v0, d0, rfl, rfl, h0⟩ := trodAll_one hA
 obtain ⟨rfl, rfl⟩ := trodVars_none hV
 simp only [List.append_nil] at hW'
 have hlt : ∀ x ∈ p, x.block < W.heap.size := fun x hx => by simpa using hW'.lt x hx
 refine (j2x (laidMetH_iff.1 hL).1 (j8E (hval 0 9 v0 rfl rfl))).mono fun e W' ⟨he, hb⟩ => ?_
 subst he
 exact ⟨_, rfl, _, _, _, [], _, [], hW', trodAll_mk1 (shut_bool Tryz.underlying4 _),
  trodAll_mk1 (Below.trod fbJ2 (by kernel_rfl) (of_decide_eq_true (by kernel_rfl)) h0 hb hlt),
  rfl, hb.frame _, fun h => by cases h⟩
theorem q8D : joinedFacts Tryz.prog 3 Tryz.f3 Rows.consoleNilSpec Rows.consoleNilRow = true :=
 q0a fbJ1 fbJ2 fbJ3 fbJ4 fbJ5 fbJ6 fbJ7 fbJ8 fbJ9 k2k k2l k2m k2n k2y k2z k2A k2B k2C k2D k2E k2F k2G k2v k2H k2w k2x k2I k2J k2K k2L k2M k2N
theorem q5V : Tryz.prog.funcNamed Rows.consoleNilRow.func = some 3 := Go.Proofs.fbNLaw
theorem j5R : Tryz.f3.isInstance Tryz.prog Rows.consoleNilRow.origin Rows.consoleNilRow.targs := of_decide_eq_true (by kernel_rfl)
theorem j5S : Tryz.f3.isWrapper Tryz.prog Rows.consoleNilRow.wrapper Rows.consoleNilRow.mainSum := by
 unfold Func.isWrapper; first | (rw [if_pos (by decide +kernel)]; kernel_rfl) | (rw [if_neg (by decide +kernel)]; exact ⟨rfl, rfl⟩)
theorem j2z : Rows.ConsoleNilSaid :=
 OpenClaim.holds_of_wide 3 Tryz.f3 rfl rfl rfl rfl rfl rfl rfl ⟨rfl, rfl, rfl, rfl, rfl⟩ rfl rfl rfl rfl rfl q5V Tryz.func3 q8D j5R j5S
  (fun os started H enc _ => q8C os started H enc)
end Go.Proofs.YtcoigmfhlbngfaaGreatDoor
