/-
  PlayRandoms returns true for all arguments, from every start that holds what the row lists: no other condition.
-/
import Derived.Test.YtnhnepmjdgfelaaGreatDoorPaG
import Derived.Test.YtnhnepmjdgfelaaGreatDoorFbF
import Derived.Test.YtnhnepmjdgfelaaGreatDoorFbG
import Derived.Test.YtnhnepmjdgfelaaGreatDoorFbH
import Derived.Test.YtnhnepmjdgfelaaGreatDoorFbI
import Derived.Test.YtnhnepmjdgfelaaGreatDoorFbJ
import Derived.Test.YtnhnepmjdgfelaaGreatDoorFbK
import Derived.Test.YtnhnepmjdgfelaaGreatDoorSxF
import Derived.LaidHandle
import Derived.LaidSub
set_option linter.unusedSimpArgs false
set_option linter.unusedVariables false
set_option linter.deprecated false
namespace Go.Proofs.YtnhnepmjdgfelaaGreatDoor
open Go.ChangeShapes Go.WideShapes Go.ChangeAt Go.RowKit Go.Sx
set_option maxRecDepth 100000
theorem Tryz.own : ownKnob Tryz.prog.godebug = none := by kernel_rfl
abbrev fbPlain : List (String × DataW Unit) := Rows.playRandomsRow.laid.filter fun x => x.2.handleName?.isNone
theorem fb_fours : ("skald/crc.fours", DataW.agg (crcFours.map fun x => .lit (.int .u32 x))) ∈ fbPlain := by
 refine List.mem_filter.2 ⟨?_, rfl⟩
 show _ ∈ Rows.playRandomsRow.laid
 unfold Rows.playRandomsRow
 exact .tail _ (.tail _ (.tail _ (.tail _ (.head _))))
theorem fb_calls {H : Type} {enc : TypeId × Value → H} {W : World} (hL : laidMet Tryz.prog fbPlain W) {v0 v1 v2 : Value} {d0 d1 d2 : DataW H} {p0 p1 p2 : List MemPlace} (hv0 : ∃ cs, v0 = .agg cs) (hv1 : ∃ n, v1 = .int .u64 n) (hv2 : ∃ n, v2 = .int .i64 n)
  (h0 : DataW.Trod enc Tryz.prog W 0 (fun _ => true) true 25 v0 d0 p0) (h1 : DataW.Trod enc Tryz.prog W 0 (fun _ => true) true 26 v1 d1 p1) (h2 : DataW.Trod enc Tryz.prog W 0 (fun _ => true) true 3 v2 d2 p2) :
  Calls Tryz.prog 3 #[v0, v1, v2] W fun e w' => e = .returned (.bool true) ∧ Below W.heap.size W w' := by
 obtain ⟨ρ, hB⟩ := gBase fb_fours hL
 obtain ⟨s, rfl, hs⟩ := u64_lift hv1 h1
 obtain ⟨cnt, rfl⟩ := hv2
 obtain ⟨cs, rfl⟩ := hv0
 obtain ⟨n0, h0⟩ := h0
 obtain ⟨ρ', H', m, g, kv, cv, ks, ds, B, M, e, ok, hk, hc⟩ := conf_lift hB (ble_le gGlob) h0
 have e' : conc ρ' (.agg (confC m g kv cv)) = .agg cs := by
  show Value.agg (concL ρ' (confC m g kv cv)).toArray = _
  rw [e]
  show Value.agg (cs.toList).toArray = _
  rw [Array.toArray_toList]
 have hG : GlobAt H' := by
  show H'.blks.get 9 = _
  rw [M.grows.get 9 (by show 9 < 10; omega)]; exact gGlobAt
 have := pr_run B hG m g kv cv ks ds s cnt hk hc hs ok
 have e2 : (concL ρ' [.agg (confC m g kv cv), .int .u64 (s : Int), .int .i64 cnt]).toArray = #[.agg cs, .int .u64 (s : Int), .int .i64 cnt] := by
  show #[conc ρ' (.agg (confC m g kv cv)), .int .u64 (s : Int), .int .i64 cnt] = _
  rw [e']
 rw [e2] at this
 exact this
def fieldsOf (o : Option TypeDesc) : Option (List (Nat × Nat)) := match o with
 | some (.struct fs) => some (fs.toList.map fun f => (f.type, f.offset))
 | _ => none
theorem fields_some {o : Option TypeDesc} {l : List (Nat × Nat)} (h : fieldsOf o = some l) : ∃ fs : Array Field, o = some (.struct fs) ∧ fs.toList.map (fun f => (f.type, f.offset)) = l := by
 unfold fieldsOf at h
 split at h
 ·rename_i fs
  exact ⟨fs, rfl, by simpa using h⟩
 ·simp at h
theorem conf_any {W : World} {r : Reach} {b : Nat} {v : Value} (hv : Value.okWide Tryz.prog W r b 25 v) : ∃ cs, v = .agg cs := by
 obtain ⟨fs, u1, _⟩ := (fields_some (by kernel_rfl) : ∃ fs : Array Field, Tryz.prog.underlying 25 = some (.struct fs) ∧ fs.toList.map (fun f => (f.type, f.offset)) = [(3, 0), (3, 1), (22, 2), (23, 3)])
 unfold Value.okWide at hv
 rw [u1] at hv
 obtain ⟨cs, e, _⟩ := hv
 exact ⟨cs, e⟩
noncomputable def setCells (w : World) (g : Nat) (cs : Array Value) : World :=
 { w with heap := w.heap.modify g fun o => match o with | .cells _ t f => .cells cs t f | o => o }
noncomputable def fbBase (os : Os) : World := setCells (World.holding Tryz.prog os ⟨#[], #[], []⟩) 8 #[.nilFunc, .func (.func 901) #[] #[], .func (.func 902) #[] #[], .func (.func 903) #[] #[]]
noncomputable def fbBegin (os : Os) : World := (fbBase os).layVars Tryz.prog fbPlain
theorem fbBegin_os (os : Os) : (fbBegin os).os = os := World.layVars_os _ _ _
theorem fb_met (os : Os) (args : Array Value) (hf : (fbBase os).layFits Tryz.prog fbPlain [] = true) (hi : (fbBase os).layIfaces Tryz.prog fbPlain (fbBegin os) = true) : laidMet Tryz.prog fbPlain ((fbBegin os).forCall (fun _ _ => 0) ⟨#[], args, []⟩).memory := by
 have e1 : (fbPlain.filter fun x => (fbPlain.map (·.1)).contains x.1) = fbPlain := List.filter_eq_self.2 fun x hx => List.contains_iff_mem.2 (List.mem_map.2 ⟨x, hx, rfl⟩)
 have e2 : (fbPlain.filter fun x => !(fbPlain.map (·.1)).contains x.1) = [] := List.filter_eq_nil_iff.2 fun x hx => by rw [List.contains_iff_mem.2 (List.mem_map.2 ⟨x, hx, rfl⟩)]; simp
 have h : laidMet Tryz.prog fbPlain (fbBegin os) := laidMet_layVars (w0 := fbBase os) (fbPlain.map (·.1)) [] (by rw [e1]; rfl) (by rw [e1]; exact hf) (by rw [e1]; exact hi) (by rw [e2]; exact LaidIn.none)
 exact h.of_heap (by simp [World.memory, World.forCall, Input.heap])
theorem fbS1 (os : Os) : (fbBase os).layFits Tryz.prog fbPlain [] = true := by kernel_rfl
theorem fbS2 (os : Os) : (fbBase os).layIfaces Tryz.prog fbPlain (fbBegin os) = true := by kernel_rfl
theorem fbS3a (os : Os) (args : Array Value) (enc : TypeId × Value → List UInt8) : funcsRunE enc Tryz.prog ((fbBegin os).forCall (fun _ _ => 0) ⟨#[], args, []⟩).memory 8 ((funcsListed Rows.playRandomsRow.laid).map (·.1)) = some [DataW.agg [.nil, .held (enc (816, .func (.func 901) #[] #[])), .held (enc (816, .func (.func 902) #[] #[])), .held (enc (816, .func (.func 903) #[] #[]))]] := by kernel_rfl
theorem fbS3 (os : Os) (args : Array Value) : funcsRun Tryz.prog ((fbBegin os).forCall (fun _ _ => 0) ⟨#[], args, []⟩).memory 8 ((funcsListed Rows.playRandomsRow.laid).map (·.1)) = some ((funcsListed Rows.playRandomsRow.laid).map (·.2.funcsOut)) := by
 rw [funcsRunE_eq, fbS3a, fbTokForw, fbTokFree, fbTokUndo]
 kernel_rfl
theorem fbS4 (os : Os) (args : Array Value) : (Rows.playRandomsRow.laid.filter fun x => x.2.handleName?.isSome && x.2.funcsIn?.isNone).all (handleAtB Tryz.prog ((fbBegin os).forCall (fun _ _ => 0) ⟨#[], args, []⟩).memory) = true := by kernel_rfl
theorem fb_metH (os : Os) (args : Array Value) : laidMetH Tryz.prog Rows.playRandomsRow.laid ((fbBegin os).forCall (fun _ _ => 0) ⟨#[], args, []⟩).memory :=
 laidMetH_of_parts3 (fuel := 8) (fb_met os args (fbS1 os) (fbS2 os)) (fbS4 os args) (fbS3 os args)
end Go.Proofs.YtnhnepmjdgfelaaGreatDoor
namespace Go.Proofs.YtnhnepmjdgfelaaGreatDoor
open Go.ChangeShapes Go.WideShapes Go.ChangeAt Go.RowKit Go.Sx
set_option maxRecDepth 100000
theorem fb_lifted (os : Os) (started : os.Started) (H : Type) (enc : TypeId × Value → H) :
  ReturnsInHanded {} Tryz.checked os 3 .any (fun w args => (Rows.playRandomsSpec.pre enc Tryz.prog Tryz.f3 [] false w args ∧ laidMetH Tryz.prog Rows.playRandomsRow.laid w) ∧ sizedMet enc Tryz.prog Tryz.f3 (OpenSpec.ofChange Rows.playRandomsSpec) false w args)
   (Rows.playRandomsSpec.post enc Tryz.prog Tryz.f3 false true false false) := by
 refine returnsInHanded_of_change_and (C := Tryz.checked) (X := fun w _ => laidMetH Tryz.prog Rows.playRandomsRow.laid w) (fun _ _ _ hh h => h.of_heap hh) Tryz.own started (by kernel_rfl) Tryz.func3
  (ChangeSpec.witness_shaped (enc := enc) (C := Tryz.checked) (os := os) (X := fun w _ => laidMetH Tryz.prog Rows.playRandomsRow.laid w) false (fbBegin os) #[.agg #[.int .i64 0, .int .i64 0, .slice none 0 0, .slice none 0 0], .int .u64 0, .int .i64 0] 8 (fbBegin_os os)
   (World.shaped_of_ZipB (by kernel_rfl) (by kernel_rfl)) (by kernel_rfl) (by kernel_rfl) (by kernel_rfl)
   (fb_metH os _)) ?_
 intro W base args ds gs before hval0 hW _ _ hL _
 have hval : ∀ (j : Nat) t v, Tryz.f3.params[j]? = some t → args[j]? = some v → Value.okWide Tryz.prog W .any base t v := hval0
 have hW' := hW
 obtain ⟨p, q, hA0, hV, rfl, _, _⟩ := hW
 have hA : DataW.TrodAll enc Tryz.prog W 0 (fun _ => true) true Tryz.f3.params.toList args.toList ds p := hA0
 rw [Tryz.params3] at hA hval
 obtain ⟨v0, v1, v2, d0, d1, d2, p0, p1, p2, rfl, rfl, rfl, h0, h1, h2⟩ := trodAll_three hA
 obtain ⟨rfl, rfl⟩ := trodVars_none hV
 simp only [List.append_nil, List.append_assoc] at hW'
 have hlt : ∀ x ∈ p0 ++ (p1 ++ p2), x.block < W.heap.size := fun x hx => by simpa using hW'.lt x hx
 refine (fb_calls (laidMetH_iff.1 hL).1 (conf_any (hval 0 25 v0 rfl rfl)) (u64_any (hval 1 26 v1 rfl rfl)) (i64_any (hval 2 3 v2 rfl rfl)) h0 h1 h2).mono fun e W' ⟨he, hb⟩ => ?_
 subst he
 exact ⟨_, rfl, _, _, _, [], _, [], hW', trodAll_mk1 (shut_bool Tryz.underlying4 _),
  trodAll_mk3 (Below.trod fbJ2 (by kernel_rfl) (of_decide_eq_true (by kernel_rfl)) h0 hb fun x hx => hlt x (List.mem_append.2 (.inl hx))) (Below.trod fbJ2 (by kernel_rfl) (of_decide_eq_true (by kernel_rfl)) h1 hb fun x hx => hlt x (List.mem_append.2 (.inr (List.mem_append.2 (.inl hx))))) (Below.trod fbJ2 (by kernel_rfl) (of_decide_eq_true (by kernel_rfl)) h2 hb fun x hx => hlt x (List.mem_append.2 (.inr (List.mem_append.2 (.inr hx))))),
  rfl, hb.frame _, fun h => by cases h⟩
theorem fb_closed : joinedFacts Tryz.prog 3 Tryz.f3 Rows.playRandomsSpec Rows.playRandomsRow = true :=
 joinedFacts_mk fbJ1 fbJ2 fbJ3 fbJ4 fbJ5 fbJ6 fbJ7 fbJ8 fbJ9 fbJ10 fbJ11 fbJ12 fbJ13 fbJ14 fbJ15 fbJ16 fbJ17 fbJ18 fbJ19 fbJ20 fbJ21 fbJ22 fbJ23 fbJ24 fbJ25 fbJ26 fbJ27 fbJ28 fbJ29 fbJ30 fbJ31 fbJ32
theorem fb_named : Tryz.prog.funcNamed Rows.playRandomsRow.func = some 3 := Go.Proofs.fbNLaw
theorem fb_inst : Tryz.f3.isInstance Tryz.prog Rows.playRandomsRow.origin Rows.playRandomsRow.targs := of_decide_eq_true (by kernel_rfl)
theorem fb_wrap : Tryz.f3.isWrapper Tryz.prog Rows.playRandomsRow.wrapper Rows.playRandomsRow.mainSum := by
 unfold Func.isWrapper; first | (rw [if_pos (by decide +kernel)]; kernel_rfl) | (rw [if_neg (by decide +kernel)]; exact ⟨rfl, rfl⟩)
theorem fb_holds : Rows.PlayRandomsSaid :=
 OpenClaim.holds_of_wide 3 Tryz.f3 rfl rfl rfl rfl rfl rfl rfl ⟨rfl, rfl, rfl, rfl, rfl⟩ rfl rfl rfl rfl rfl fb_named Tryz.func3 fb_closed fb_inst fb_wrap
  (fun os started H enc _ => fb_lifted os started H enc)
end Go.Proofs.YtnhnepmjdgfelaaGreatDoor
