/-
  ClusterNil returns true for all arguments, from every start that holds what the row lists: no other condition.
-/
import Derived.Test.YtdnkpdgncgjilaaGreatDoorNTpB
import Derived.Test.YtdnkpdgncgjilaaGreatDoorNFbF
import Derived.Test.YtdnkpdgncgjilaaGreatDoorNFbG
import Derived.Test.YtdnkpdgncgjilaaGreatDoorNFbH
import Derived.Test.YtdnkpdgncgjilaaGreatDoorNFbI
import Derived.Test.YtdnkpdgncgjilaaGreatDoorNFbJ
import Derived.Test.YtdnkpdgncgjilaaGreatDoorNFbK
import Derived.Test.YtdnkpdgncgjilaaGreatDoorNSxF
import Derived.LaidHandle
import Derived.LaidSub
set_option linter.unusedSimpArgs false
set_option linter.unusedVariables false
namespace Go.Proofs.YtdnkpdgncgjilaaGreatDoor
open Go.ChangeShapes Go.WideShapes Go.ChangeAt Go.RowKit Go.Sx
set_option maxRecDepth 100000
theorem Tryz.own : ownKnob Tryz.prog.godebug = none := by kernel_rfl
abbrev fbPlain : List (String × DataW Unit) := Rows.clusterNilRow.laid.filter fun x => x.2.handleName?.isNone
theorem w6L : ("skald/crc.fours", DataW.agg (foursR.map fun x => .lit (.int .u32 x))) ∈ fbPlain := by
 refine List.mem_filter.2 ⟨?_, rfl⟩
 show _ ∈ Rows.clusterNilRow.laid
 unfold Rows.clusterNilRow
 exact .tail _ (.tail _ (.tail _ (.tail _ (.head _))))
theorem q9s : ("skald/saga.phases", DataW.agg (phasesR.map fun x => .lit (.int .i64 x))) ∈ fbPlain := by
 refine List.mem_filter.2 ⟨?_, rfl⟩
 show _ ∈ Rows.clusterNilRow.laid
 unfold Rows.clusterNilRow
 exact .tail _ (.tail _ (.tail _ (.tail _ (.tail _ (.tail _ (.head _))))))
theorem j4a : ("skald/msg.kinds", DataW.agg (kindsR.map fun r => .agg (r.map .lit))) ∈ fbPlain := by
 refine List.mem_filter.2 ⟨?_, rfl⟩
 show _ ∈ Rows.clusterNilRow.laid
 unfold Rows.clusterNilRow
 exact .tail _ (.tail _ (.tail _ (.tail _ (.tail _ (.head _)))))
theorem q9t : ("skald/crc.fours", DataW.agg (foursR.map fun x => .lit (.int .u32 x))) ∈ fbPlain := by
 refine List.mem_filter.2 ⟨?_, rfl⟩
 show _ ∈ Rows.clusterNilRow.laid
 unfold Rows.clusterNilRow
 exact .tail _ (.tail _ (.tail _ (.tail _ (.head _))))
noncomputable def cnOpFs : Array Field := match Tryz.prog.underlying 28 with
 | some (.struct fs) => fs
 | _ => #[]
theorem cnOpFsIs : Tryz.prog.underlying 28 = some (.struct cnOpFs) := by kernel_rfl
theorem cnOpAny {W : World} {r : Reach} {b : Nat} {v : Value} (hv : Value.okWide Tryz.prog W r b 28 v) : ∃ cs, v = .agg cs := by
 unfold Value.okWide at hv
 rw [cnOpFsIs] at hv
 obtain ⟨cs, e, _⟩ := hv
 exact ⟨cs, e⟩
theorem q9u : ("skald/saga.follow", DataW.iface "func table" (.agg followR)) ∈ Rows.clusterNilRow.laid := by
 unfold Rows.clusterNilRow
 exact .tail _ (.tail _ (.tail _ (.tail _ (.tail _ (.tail _ (.tail _ (.head _)))))))
theorem j4b {H : Type} {enc : TypeId × Value → H} {W : World} (hL : laidMetH Tryz.prog Rows.clusterNilRow.laid W) {v0 : Value} {d0 : DataW H} {p0 : List MemPlace} (c0 : ∃ cs, v0 = .agg cs)
  (h0 : DataW.Trod enc Tryz.prog W 0 (fun _ => true) true 28 v0 d0 p0) : Calls Tryz.prog 3 #[v0] W fun e w' => e = .returned (.bool true) ∧ Below W.heap.size W w' := by
 obtain ⟨ρ, hB⟩ := v2s q9s j4a q9t (laidMetH_iff.1 hL).1 (laidMetH.funcs hL q9u)
 obtain ⟨n0, h0⟩ := h0
 exact w6J hB c0 h0
noncomputable def j4c (w : World) (g : Nat) (cs : Array Value) : World :=
 { w with heap := w.heap.modify g fun o => match o with | .cells _ t f => .cells cs t f | o => o }
noncomputable def q0o (os : Os) : World := j4c (World.holding Tryz.prog os ⟨#[], #[], []⟩) 6 #[.nilFunc, .func (.func 871) #[] #[], .func (.func 872) #[] #[], .func (.func 873) #[] #[]]
noncomputable def z3T (os : Os) : World := (q0o os).layVars Tryz.prog fbPlain
theorem q7I (os : Os) : (z3T os).os = os := World.layVars_os _ _ _
theorem k3B (os : Os) (args : Array Value) (hf : (q0o os).layFits Tryz.prog fbPlain [] = true) (hi : (q0o os).layIfaces Tryz.prog fbPlain (z3T os) = true) : laidMet Tryz.prog fbPlain ((z3T os).forCall (fun _ _ => 0) ⟨#[], args, []⟩).memory := by
 have e1 : (fbPlain.filter fun x => (fbPlain.map (·.1)).contains x.1) = fbPlain := List.filter_eq_self.2 fun x hx => List.contains_iff_mem.2 (List.mem_map.2 ⟨x, hx, rfl⟩)
 have e2 : (fbPlain.filter fun x => !(fbPlain.map (·.1)).contains x.1) = [] := List.filter_eq_nil_iff.2 fun x hx => by rw [List.contains_iff_mem.2 (List.mem_map.2 ⟨x, hx, rfl⟩)]; simp
 have h : laidMet Tryz.prog fbPlain (z3T os) := laidMet_layVars (w0 := q0o os) (fbPlain.map (·.1)) [] (by rw [e1]; rfl) (by rw [e1]; exact hf) (by rw [e1]; exact hi) (by rw [e2]; exact LaidIn.none)
 exact h.of_heap (by simp [World.memory, World.forCall, Input.heap])
theorem fbS1 (os : Os) : (q0o os).layFits Tryz.prog fbPlain [] = true := by kernel_rfl
theorem fbS2 (os : Os) : (q0o os).layIfaces Tryz.prog fbPlain (z3T os) = true := by kernel_rfl
theorem w8b (os : Os) (args : Array Value) (enc : TypeId × Value → List UInt8) : z4c enc Tryz.prog ((z3T os).forCall (fun _ _ => 0) ⟨#[], args, []⟩).memory 8 ((funcsListed Rows.clusterNilRow.laid).map (·.1)) = some [DataW.agg [.nil, .held (enc (778, .func (.func 871) #[] #[])), .held (enc (778, .func (.func 872) #[] #[])), .held (enc (778, .func (.func 873) #[] #[]))]] := by kernel_rfl
theorem fbS3 (os : Os) (args : Array Value) : funcsRun Tryz.prog ((z3T os).forCall (fun _ _ => 0) ⟨#[], args, []⟩).memory 8 ((funcsListed Rows.clusterNilRow.laid).map (·.1)) = some ((funcsListed Rows.clusterNilRow.laid).map (·.2.funcsOut)) := by
 rw [z4X, w8b, q2X, q2Y, q2Z]
 kernel_rfl
theorem fbS4 (os : Os) (args : Array Value) : (Rows.clusterNilRow.laid.filter fun x => x.2.handleName?.isSome && x.2.funcsIn?.isNone).all (handleAtB Tryz.prog ((z3T os).forCall (fun _ _ => 0) ⟨#[], args, []⟩).memory) = true := by kernel_rfl
theorem j8A (os : Os) (args : Array Value) : laidMetH Tryz.prog Rows.clusterNilRow.laid ((z3T os).forCall (fun _ _ => 0) ⟨#[], args, []⟩).memory :=
 laidMetH_of_parts3 (fuel := 8) (k3B os args (fbS1 os) (fbS2 os)) (fbS4 os args) (fbS3 os args)
end Go.Proofs.YtdnkpdgncgjilaaGreatDoor
namespace Go.Proofs.YtdnkpdgncgjilaaGreatDoor
open Go.ChangeShapes Go.WideShapes Go.ChangeAt Go.RowKit Go.Sx
set_option maxRecDepth 100000
theorem q9v (os : Os) (started : os.Started) (H : Type) (enc : TypeId × Value → H) :
  ReturnsInHanded {} Tryz.checked os 3 .any (fun w args => (Rows.clusterNilSpec.pre enc Tryz.prog Tryz.f3 [] false w args ∧ laidMetH Tryz.prog Rows.clusterNilRow.laid w) ∧ sizedMet enc Tryz.prog Tryz.f3 (OpenSpec.ofChange Rows.clusterNilSpec) false w args)
   (Rows.clusterNilSpec.post enc Tryz.prog Tryz.f3 false true false false) := by
 refine returnsInHanded_of_change_and (C := Tryz.checked) (X := fun w _ => laidMetH Tryz.prog Rows.clusterNilRow.laid w) (fun _ _ _ hh h => h.of_heap hh) Tryz.own started (by kernel_rfl) Tryz.func3
  (ChangeSpec.witness_shaped (enc := enc) (C := Tryz.checked) (os := os) (X := fun w _ => laidMetH Tryz.prog Rows.clusterNilRow.laid w) false (z3T os) #[.agg #[.int .i64 0, .int .i64 0, .int .i64 0, .string ⟨#[]⟩, .string ⟨#[]⟩, .string ⟨#[]⟩, .string ⟨#[]⟩, .int .i64 0, .int .i64 0, .slice none 0 0]] 8 (q7I os)
   (World.shaped_of_ZipB (by kernel_rfl) (by kernel_rfl)) (by kernel_rfl) (by kernel_rfl) (by kernel_rfl)
   (j8A os _)) ?_
 intro W base args ds gs before hval0 hW _ _ hL _
 have hval : ∀ (j : Nat) t v, Tryz.f3.params[j]? = some t → args[j]? = some v → Value.okWide Tryz.prog W .any base t v := hval0
 have hW' := hW
 obtain ⟨p, q, hA0, hV, rfl, _, _⟩ := hW
 have hA : DataW.TrodAll enc Tryz.prog W 0 (fun _ => true) true Tryz.f3.params.toList args.toList ds p := hA0
 rw [Tryz.params3] at hA hval
 obtain ⟨v0, d0, rfl, rfl, h0⟩ := trodAll_one hA
 obtain ⟨rfl, rfl⟩ := trodVars_none hV
 simp only [List.append_nil] at hW'
 have hlt : ∀ x ∈ p, x.block < W.heap.size := fun x hx => by simpa using hW'.lt x hx
 refine (j4b hL (cnOpAny (hval 0 28 v0 rfl rfl)) h0).mono fun e W' ⟨he, hb⟩ => ?_
 subst he
 exact ⟨_, rfl, _, _, _, [], _, [], hW', trodAll_mk1 (shut_bool Tryz.underlying4 _),
  trodAll_mk1 (Below.trod fbJ2 (by kernel_rfl) (of_decide_eq_true (by kernel_rfl)) h0 hb hlt),
  rfl, hb.frame _, fun h => by cases h⟩
theorem q9w : joinedFacts Tryz.prog 3 Tryz.f3 Rows.clusterNilSpec Rows.clusterNilRow = true :=
 q0d fbJ1 fbJ2 fbJ3 fbJ4 fbJ5 fbJ6 fbJ7 fbJ8 fbJ9 w7p w7q w7r w7s w7K w7L w7M w7N w7O w7P w7Q w7R w7S w7H w7T w7I w7J w7U w7V w7W w7X w7Y w7Z
theorem q6D : Tryz.prog.funcNamed Rows.clusterNilRow.func = some 3 := Go.Proofs.fbNLaw
theorem j8B : Tryz.f3.isInstance Tryz.prog Rows.clusterNilRow.origin Rows.clusterNilRow.targs := of_decide_eq_true (by kernel_rfl)
theorem j8C : Tryz.f3.isWrapper Tryz.prog Rows.clusterNilRow.wrapper Rows.clusterNilRow.mainSum := by
 unfold Func.isWrapper; first | (rw [if_pos (by decide +kernel)]; kernel_rfl) | (rw [if_neg (by decide +kernel)]; exact ⟨rfl, rfl⟩)
theorem j4d : Rows.ClusterNilSaid :=
 OpenClaim.holds_of_wide 3 Tryz.f3 rfl rfl rfl rfl rfl rfl rfl ⟨rfl, rfl, rfl, rfl, rfl⟩ rfl rfl rfl rfl rfl q6D Tryz.func3 q9w j8B j8C
  (fun os started H enc _ => q9v os started H enc)
end Go.Proofs.YtdnkpdgncgjilaaGreatDoor
