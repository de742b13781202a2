/-
  A closed call in a bigger memory; rubbish swept; outcomes merged.
-/
import Derived.Test.YtlmfonchlniloaaGreatDoorSxH
import Derived.Test.YtlmfonchlniloaaGreatDoorSxF
set_option linter.unusedSimpArgs false
set_option linter.unusedVariables false
namespace Go.Sx
open Go
section
variable {P : Program} {G : Tab}
/-! What is known may be forgotten; a call of which only a value is kept, where more is known than it needs; a block that a call does not know. -/
theorem Gets.lessH {c : Ctx} {x : Code} {tm : T AV} {df : List ADefer} {H H' : Heap} {Q : Ex → St → Prop} (hb : ∀ b o, H'.blks.get b = some o → H.blks.get b = some o) (hn : H'.next = H.next)
    (h : Gets P G c x ⟨tm, H', df⟩ Q) : Gets P G c x ⟨tm, H, df⟩ Q := fun ρ D w tmv dfv b k cs hS hR => by
  obtain ⟨e, s', h1, ρ', D', w', tm', df', g1, g2, g3⟩ := h ρ D w tmv dfv b k cs ⟨HRel.less hS.h hb (Nat.le_of_eq hn.symm), hS.t, hS.d⟩ hR
  exact ⟨e, s', h1, ρ', D', w', tm', df', g1, ⟨g2.sub, by have := g2.next; rw [← hn]; exact this, fun b hb => by have := g2.new b hb; rw [← hn]; exact this⟩, g3⟩

/-- every key is below a number -/
noncomputable def posB {α : Type} (v : Option α) (N : Nat) : Bool := match v with
  | none => true
  | some _ => Nat.blt 0 N
noncomputable def belowT {α : Type} (t : T α) : Nat → Bool := T.rec (motive := fun _ => Nat → Bool) (fun _ => true)
  (fun _ v _ l r N => bif posB v N then (bif l (N / 2) then r ((N - 1) / 2) else false) else false) t
theorem belowT_ok {α : Type} : ∀ {t : T α} {N k : Nat} {o : α}, belowT t N = true → t.get k = some o → k < N
  | .e, _, _, _, _, h => by rw [T.get_e] at h; simp at h
  | .n l v r, N, k, o, hb, h => by
    obtain ⟨h1, hb⟩ := band_true (a := posB v N) (b := bif belowT l (N / 2) then belowT r ((N - 1) / 2) else false) hb
    obtain ⟨h2, h3⟩ := band_true hb
    rw [T.get_n] at h
    by_cases hk0 : k = 0
    · rw [if_pos hk0] at h
      subst h
      have := blt_lt (show Nat.blt 0 N = true from h1)
      omega
    · rw [if_neg hk0] at h
      by_cases hm : k % 2 = 1
      · rw [if_pos hm] at h
        have := belowT_ok h2 h
        omega
      · rw [if_neg hm] at h
        have := belowT_ok h3 h
        omega
noncomputable def neatB (H : Heap) : Bool := belowT H.blks H.next
theorem neatB_ok {H : Heap} (h : neatB H = true) : Neat H := fun _ _ hb => belowT_ok h hb

/-- what stood is the same -/
noncomputable def sameTo (a b : T ABlk) (n : Nat) : Bool := Nat.rec true (fun i ih => bif optBeq ABlk.beq (a.get i) (b.get i) then ih else false) n
theorem sameTo_ok {a b : T ABlk} : ∀ {n : Nat}, sameTo a b n = true → ∀ i, i < n → a.get i = b.get i
  | 0, _, i, hi => by omega
  | n + 1, h, i, hi => by
    have h : (bif optBeq ABlk.beq (a.get n) (b.get n) then sameTo a b n else false) = true := h
    obtain ⟨h1, h2⟩ := band_true h
    by_cases e : i = n
    · subst e; exact optBeq_eq ABlk.beq_eq h1
    · exact sameTo_ok h2 i (by omega)
/-- values that lead nowhere -/
noncomputable def flatV : AV → Bool
  | .bool _ => true
  | .int _ _ => true
  | .str _ => true
  | .nilptr => true
  | .nilslice => true
  | .nilmap => true
  | .nilFunc => true
  | .nilIface => true
  | _ => false
noncomputable def flatL (l : List AV) : Bool := List.rec true (fun v _ ih => bif flatV v then ih else false) l
theorem flatV_ok {v : AV} (h : flatV v = true) (ρ : Env) (D : Nat → Prop) : okV ρ D v ∧ ∀ ρ', conc ρ' v = conc ρ v := by
  cases v <;> first | exact ⟨trivial, fun _ => rfl⟩ | (simp [flatV] at h)
theorem flatV_lt {v : AV} (h : flatV v = true) (N : Nat) : ltV N v := by
  cases v <;> first | trivial | (simp [flatV] at h)
theorem flatL_mem : ∀ {l : List AV}, flatL l = true → ∀ v ∈ l, flatV v = true
  | [], _, v, hv => by simp at hv
  | x :: l, h, v, hv => by
    have h : (bif flatV x then flatL l else false) = true := h
    obtain ⟨h1, h2⟩ := band_true h
    rcases List.mem_cons.1 hv with rfl | hv
    · exact h1
    · exact flatL_mem h2 v hv
theorem ltL_iff {N : Nat} : ∀ {l : List AV}, ltL N l ↔ ∀ v ∈ l, ltV N v
  | [] => ⟨fun _ v hv => by simp at hv, fun _ => trivial⟩
  | x :: l => ⟨fun h v hv => by
      rcases List.mem_cons.1 hv with rfl | hv
      · exact h.1
      · exact ltL_iff.1 h.2 v hv, fun h => ⟨h x List.mem_cons_self, ltL_iff.2 fun v hv => h v (List.mem_cons_of_mem _ hv)⟩⟩
theorem okL_flat {l : List AV} (h : flatL l = true) (ρ : Env) (D : Nat → Prop) : okL ρ D l ∧ ∀ ρ', concL ρ' l = concL ρ l :=
  ⟨okL_iff.2 fun v hv => (flatV_ok (flatL_mem h v hv) ρ D).1, fun ρ' => by
    rw [concL_eq, concL_eq]
    exact List.map_congr_left fun v hv => (flatV_ok (flatL_mem h v hv) ρ D).2 ρ'⟩
noncomputable def flatW : AV → Bool
  | .agg l => flatL l
  | v => flatV v
theorem flatW_ok {v : AV} (h : flatW v = true) (ρ : Env) (D : Nat → Prop) : okV ρ D v ∧ ∀ ρ', conc ρ' v = conc ρ v := by
  cases v
  case agg l => exact ⟨(okL_flat (show flatL l = true from h) ρ D).1, fun ρ' => by unfold conc; rw [(okL_flat (show flatL l = true from h) ρ D).2 ρ']⟩
  all_goals first | exact ⟨trivial, fun _ => rfl⟩ | (exact absurd (show (false : Bool) = true from h) (by simp))
noncomputable def flatWL (l : List AV) : Bool := List.rec true (fun v _ ih => bif flatW v then ih else false) l
theorem flatWL_mem : ∀ {l : List AV}, flatWL l = true → ∀ v ∈ l, flatW v = true
  | [], _, v, hv => by simp at hv
  | x :: l, h, v, hv => by
    have h : (bif flatW x then flatWL l else false) = true := h
    obtain ⟨h1, h2⟩ := band_true h
    rcases List.mem_cons.1 hv with rfl | hv
    · exact h1
    · exact flatWL_mem h2 v hv
theorem okL_flatW {l : List AV} (h : flatWL l = true) (ρ : Env) (D : Nat → Prop) : okL ρ D l ∧ ∀ ρ', concL ρ' l = concL ρ l :=
  ⟨okL_iff.2 fun v hv => (flatW_ok (flatWL_mem h v hv) ρ D).1, fun ρ' => by
    rw [concL_eq, concL_eq]
    exact List.map_congr_left fun v hv => (flatW_ok (flatWL_mem h v hv) ρ D).2 ρ'⟩
/-- a result of which nothing needs to be known but itself -/
noncomputable def flatR : AV → Bool
  | .tuple l => flatWL l
  | .agg l => flatL l
  | v => flatV v
theorem flatR_ok {v : AV} (h : flatR v = true) (ρ : Env) (D : Nat → Prop) : okV ρ D v ∧ ∀ ρ', conc ρ' v = conc ρ v := by
  cases v
  case tuple l => exact ⟨(okL_flatW (show flatWL l = true from h) ρ D).1, fun ρ' => by unfold conc; rw [(okL_flatW (show flatWL l = true from h) ρ D).2 ρ']⟩
  case agg l => exact ⟨(okL_flat (show flatL l = true from h) ρ D).1, fun ρ' => by unfold conc; rw [(okL_flat (show flatL l = true from h) ρ D).2 ρ']⟩
  all_goals first | exact ⟨trivial, fun _ => rfl⟩ | (exact absurd (show (false : Bool) = true from h) (by simp))
/-- every outcome is this value, and leaves what stood -/
noncomputable def onlyV (H0 : Heap) (v : AV) (l : List VH) : Bool := List.rec true (fun p _ ih => bif AV.beq p.1 v then (bif sameTo p.2.blks H0.blks H0.next then ih else false) else false) l
theorem onlyV_ok {H0 : Heap} {v : AV} : ∀ {l : List VH}, onlyV H0 v l = true → ∀ p ∈ l, p.1 = v ∧ ∀ i, i < H0.next → p.2.blks.get i = H0.blks.get i
  | [], _, p, hp => by simp at hp
  | x :: l, h, p, hp => by
    have h : (bif AV.beq x.1 v then (bif sameTo x.2.blks H0.blks H0.next then onlyV H0 v l else false) else false) = true := h
    obtain ⟨h1, h⟩ := band_true h
    obtain ⟨h2, h3⟩ := band_true h
    rcases List.mem_cons.1 hp with rfl | hp
    · exact ⟨AV.beq_eq _ _ h1, sameTo_ok h2⟩
    · exact onlyV_ok h3 p hp
theorem env_okE {b a c : Nat → Nat} {r r' : Nat → Obj → Prop} {o o' : World} {D : Nat → Prop} {e : AEntry} (h : okE ⟨b, a, c, r, o⟩ D e) : okE ⟨b, a, c, r', o'⟩ D e := ⟨env_ok _ h.1, env_ok _ h.2⟩
theorem env_concE {b a c : Nat → Nat} {r r' : Nat → Obj → Prop} {o o' : World} (e : AEntry) : concE ⟨b, a, c, r', o'⟩ e = concE ⟨b, a, c, r, o⟩ e := by
  unfold concE
  rw [env_conc (r := r) (r' := r') (o := o) (o' := o') e.key, env_conc (r := r) (r' := r') (o := o) (o' := o') e.val]
theorem env_brel {bl ba ca : Nat → Nat} {r r' : Nat → Obj → Prop} {g g' : World} {D : Nat → Prop} {w : World} {b : Nat} {N : Nat} {o : ABlk} (hn : ltB N o) (h : BRel G ⟨bl, ba, ca, r, g⟩ D w b o) : BRel G ⟨bl, ba, ca, r', g'⟩ D w b o := by
  cases o with
  | cells e ex l =>
    obtain ⟨h1, h2, arr, el, fz, h3, h4, h5, h6, h7⟩ := h
    exact ⟨env_okL l h1, h2, arr, el, fz, h3, h4, h5, fun i v hv => by rw [h6 i v hv]; exact congrArg some (env_conc v).symm, h7⟩
  | big e n z =>
    obtain ⟨h1, arr, el, fz, h3, h5, h6⟩ := h
    exact ⟨env_okL z h1, arr, el, fz, h3, h5, fun i v hi hv => by rw [h6 i v hi hv]; exact congrArg some (env_conc v).symm⟩
  | map es c =>
    obtain ⟨h1, es', h2, h3⟩ := h
    exact ⟨fun e he => env_okE (h1 e he), es', h2, by rw [h3]; exact List.map_congr_left fun e _ => (env_concE e).symm⟩
  | mapIter m s l p => exact h
  | strIter s p => exact h
  | loop r => exact hn.elim
  | deferred => exact h
/-- A CALL OF WHICH ONLY A VALUE IS KEPT, where more is known than it needs. -/
theorem CallTo.embed {f : FuncId} {args : List AV} {H0 : Heap} {l : List VH} {v : AV} (h : CallTo P G f args H0 l) (hv : flatR v = true) (hl : onlyV H0 v l = true) (hg : G.nglob ≤ H0.next) (hb : ∀ b o, H0.blks.get b = some o → b < H0.next ∧ ltB H0.next o)
    (ha : ltL H0.next args) {H : Heap} (hsub : ∀ b o, H0.blks.get b = some o → H.blks.get b = some o) : CallTo P G f args H [(v, H)] := by
  intro ρ D w kind cs hH hargs
  obtain ⟨bl, ba, ca, re, og⟩ := ρ
  have hR : HRel G ⟨bl, ba, ca, fun i o => w.heap[i]? = some o ∧ ∀ b, D b ∧ b < H0.next → bl b = i → StillB (H0.blks.get b), w⟩ (fun b => D b ∧ b < H0.next) w H0 := by
    refine ⟨fun b hb => hb.2, fun g hgl => ⟨⟨(hH.glob g hgl).1, Nat.lt_of_lt_of_le hgl hg⟩, (hH.glob g hgl).2⟩, fun b b' o o' hb1 hb2 ho ho' e => hH.inj b b' o o' hb1.1 hb2.1 (hsub b o ho) (hsub b' o' ho') e,
      fun b o hD ho => ?_, fun i o hi => ⟨hi.1, fun b hD e => hi.2 b hD e⟩, .refl _⟩
    have h1 := hH.blk b o hD.1 (hsub b o ho)
    have h2 : BRel G ⟨bl, ba, ca, re, og⟩ (fun b => D b ∧ b < H0.next) w b o := h1.move (h1.bok.cut (hb b o ho).2) ⟨fun b hb => hb.1, fun _ _ => rfl, fun _ _ => rfl, fun _ _ => rfl, rfl, rfl⟩ (.refl _ _) rfl rfl rfl
    exact env_brel (hb b o ho).2 h2
  obtain ⟨h0, p, hp, ρ', D', w', fr, h1, h2, h3, h4, h5, h6, h7, h8, fn, h9, h10⟩ := h _ _ w kind cs hR (env_okL args (okL_cut args hargs ha))
  obtain ⟨e1, e2⟩ := onlyV_ok hl p hp
  rw [env_concL (r := re) (o := og) args] at h4
  have hrest : ∀ (i : Nat) (o : Obj), (w.heap[i]? = some o ∧ ∀ b, D b ∧ b < H0.next → bl b = i → StillB (H0.blks.get b)) → w'.heap[i]? = some o := fun i o hi => (h1.rest i o (by rw [h2.sub.rest]; exact hi)).1
  have hkin : Kin w w' := by have := h1.kin; rw [h2.sub.orig] at this; exact this
  have hfl := flatR_ok hv ρ' D'
  refine ⟨h0, (v, H), List.mem_singleton.2 rfl, ⟨bl, ba, ca, re, og⟩, D, w', fr, ⟨hH.lt, hH.glob, hH.inj, fun b o hD ho => ?_, fun i o hi => ⟨?_, (hH.rest i o hi).2⟩, hH.kin.trans hkin⟩, .refl _ _ _, (flatR_ok hv _ _).1, h4, h5, h6, h7, h8, fn, h9, ?_⟩
  · have hb1 := hH.blk b o hD ho
    by_cases hex : ∀ b', D b' ∧ b' < H0.next → bl b' = bl b → StillB (H0.blks.get b')
    · refine hb1.sub (.refl _ _) hD ?_
      obtain ⟨x, hx⟩ : ∃ x, w.heap[bl b]? = some x := ⟨_, Array.getElem?_eq_getElem hb1.stands⟩
      exact (hrest _ x ⟨hx, hex⟩).trans hx.symm
    · obtain ⟨b', hh⟩ := Classical.not_forall.1 hex
      obtain ⟨hD', hh⟩ := Classical.not_imp.1 hh
      obtain ⟨hbl, hns⟩ := Classical.not_imp.1 hh
      cases ho' : H0.blks.get b' with
      | none => rw [ho'] at hns; exact absurd trivial hns
      | some o' =>
        rw [ho'] at hns
        rcases hH.inj b b' o o' hD hD'.1 ho (hsub b' o' ho') hbl.symm with rfl | ⟨_, hst⟩
        · have hoo : o = o' := by
            have := hsub b o' ho'
            rw [ho] at this
            exact Option.some.inj this
          subst hoo
          have hb2 := h1.blk b o (h2.sub.dom b hD') (by rw [e2 b hD'.2]; exact ho')
          have hb3 := (hR.blk b o hD' ho').bok
          have hb4 : BRel G ⟨bl, ba, ca, fun i o => w.heap[i]? = some o ∧ ∀ b, D b ∧ b < H0.next → bl b = i → StillB (H0.blks.get b), w⟩ D w' b o :=
            hb2.move hb3 h2.sub ⟨fun b hb => hb.1, fun _ _ => rfl, fun _ _ => rfl, fun _ _ => rfl, rfl, rfl⟩ (h2.sub.blk b hD').symm (h2.sub.base b hD').symm (h2.sub.cap b hD').symm
          exact env_brel (hb b o ho').2 hb4
        · exact absurd hst hns
  · refine hrest i o ⟨(hH.rest i o hi).1, fun b hD e => ?_⟩
    cases hc : H0.blks.get b with
    | none => trivial
    | some o' => have := (hH.rest i o hi).2 b hD.1 e; rw [hsub b o' hc] at this; exact this
  · rw [h10, e1, (flatR_ok hv ⟨bl, ba, ca, re, og⟩ D).2 ρ']
end
end Go.Sx

namespace Go.Sx
open Go
section
variable {P : Program} {G : Tab}
/-- what a closed call does to what it does not know: nothing -/
theorem CallTo.core {f : FuncId} {args : List AV} {H0 : Heap} {l : List VH} (h : CallTo P G f args H0 l) (hl : ∀ p ∈ l, ∀ i, i < H0.next → p.2.blks.get i = H0.blks.get i) (hg : G.nglob ≤ H0.next) (hb : ∀ b o, H0.blks.get b = some o → b < H0.next ∧ ltB H0.next o)
    (ha : ltL H0.next args) {H : Heap} (hsub : ∀ b o, H0.blks.get b = some o → H.blks.get b = some o) {bl ba ca : Nat → Nat} {re : Nat → Obj → Prop} {og : World} {D : Nat → Prop} {w : World} (kind : CallKind) (cs : List Frame)
    (hH : HRel G ⟨bl, ba, ca, re, og⟩ D w H) (hargs : okL ⟨bl, ba, ca, re, og⟩ D args) :
    (∃ fn body, P.funcs[f]? = some fn ∧ fn.body = some body ∧ (fn.name == "runtime.NumGoroutine") = false) ∧ ∃ p ∈ l, ∃ bl' ba' ca' re' og' D' w' fr, HRel G ⟨bl', ba', ca', re', og'⟩ D' w' p.2 ∧ okV ⟨bl', ba', ca', re', og'⟩ D' p.1 ∧
      (∀ b, D b ∧ b < H0.next → D' b ∧ bl' b = bl b ∧ ba' b = ba b ∧ ca' b = ca b) ∧ (∀ b, D' b → (D b ∧ b < H0.next) ∨ H0.next ≤ b) ∧ H0.next ≤ p.2.next ∧
      Steps P (lone (Frame.enter P f (concL ⟨bl, ba, ca, re, og⟩ args).toArray kind) cs w) (lone fr cs w') ∧ fr.fn = f ∧ fr.mode = .returning ∧ fr.defers = [] ∧ fr.kind = kind ∧
      (∃ fn, P.funcs[f]? = some fn ∧ (results fn fr.tmps).run P w' = .ok (conc ⟨bl', ba', ca', re', og'⟩ p.1) w') ∧
      (∀ b o, D b → H.blks.get b = some o → BRel G ⟨bl, ba, ca, re, og⟩ D w' b o) ∧ (∀ i o, re i o → w'.heap[i]? = some o) ∧ Kin w w' ∧
      (∀ b b' o o', D b → H.blks.get b = some o → H0.next ≤ b' → D' b' → p.2.blks.get b' = some o' → ¬ StillB (some o') → bl b ≠ bl' b') ∧
      (∀ i o b', re i o → D' b' → H0.next ≤ b' → bl' b' = i → StillB (p.2.blks.get b')) := by
  have hR : HRel G ⟨bl, ba, ca, fun i o => w.heap[i]? = some o ∧ ∀ b, D b ∧ b < H0.next → bl b = i → StillB (H0.blks.get b), w⟩ (fun b => D b ∧ b < H0.next) w H0 := by
    refine ⟨fun b hb => hb.2, fun g hgl => ⟨⟨(hH.glob g hgl).1, Nat.lt_of_lt_of_le hgl hg⟩, (hH.glob g hgl).2⟩, fun b b' o o' hb1 hb2 ho ho' e => hH.inj b b' o o' hb1.1 hb2.1 (hsub b o ho) (hsub b' o' ho') e,
      fun b o hD ho => ?_, fun i o hi => ⟨hi.1, fun b hD e => hi.2 b hD e⟩, .refl _⟩
    have h1 := hH.blk b o hD.1 (hsub b o ho)
    have h2 : BRel G ⟨bl, ba, ca, re, og⟩ (fun b => D b ∧ b < H0.next) w b o := h1.move (h1.bok.cut (hb b o ho).2) ⟨fun b hb => hb.1, fun _ _ => rfl, fun _ _ => rfl, fun _ _ => rfl, rfl, rfl⟩ (.refl _ _) rfl rfl rfl
    exact env_brel (hb b o ho).2 h2
  obtain ⟨h0, p, hp, ρ', D', w', fr, h1, h2, h3, h4, h5, h6, h7, h8, fn, h9, h10⟩ := h _ _ w kind cs hR (env_okL args (okL_cut args hargs ha))
  have e2 := hl p hp
  rw [env_concL (r := re) (o := og) args] at h4
  have hrest : ∀ (i : Nat) (o : Obj), (w.heap[i]? = some o ∧ ∀ b, D b ∧ b < H0.next → bl b = i → StillB (H0.blks.get b)) → w'.heap[i]? = some o ∧ ∀ b, D' b → ρ'.blk b = i → StillB (p.2.blks.get b) := fun i o hi => h1.rest i o (by rw [h2.sub.rest]; exact hi)
  have hkin : Kin w w' := by have := h1.kin; rw [h2.sub.orig] at this; exact this
  have hst : ∀ i o, re i o → w.heap[i]? = some o ∧ ∀ b, D b ∧ b < H0.next → bl b = i → StillB (H0.blks.get b) := fun i o hi => ⟨(hH.rest i o hi).1, fun b hD e => by
    cases hc : H0.blks.get b with
    | none => trivial
    | some o' => have := (hH.rest i o hi).2 b hD.1 e; rw [hsub b o' hc] at this; exact this⟩
  have hin : ∀ b o, D b → H.blks.get b = some o → (∀ b', D b' ∧ b' < H0.next → bl b' = bl b → StillB (H0.blks.get b')) ∨ ((D b ∧ b < H0.next) ∧ H0.blks.get b = some o ∧ ¬ StillB (some o)) := fun b o hD ho => by
    by_cases hex : ∀ b', D b' ∧ b' < H0.next → bl b' = bl b → StillB (H0.blks.get b')
    · exact .inl hex
    · obtain ⟨b', hh⟩ := Classical.not_forall.1 hex
      obtain ⟨hD', hh⟩ := Classical.not_imp.1 hh
      obtain ⟨hbl, hns⟩ := Classical.not_imp.1 hh
      cases ho' : H0.blks.get b' with
      | none => rw [ho'] at hns; exact absurd trivial hns
      | some o' =>
        rw [ho'] at hns
        rcases hH.inj b b' o o' hD hD'.1 ho (hsub b' o' ho') hbl.symm with rfl | ⟨_, hst⟩
        · have hoo : o = o' := by
            have := hsub b o' ho'
            rw [ho] at this
            exact Option.some.inj this
          subst hoo
          exact .inr ⟨hD', ho', hns⟩
        · exact absurd hst hns
  refine ⟨h0, p, hp, ρ'.blk, ρ'.base, ρ'.cap, ρ'.rest, ρ'.orig, D', w', fr, h1, h3, fun b hD => ⟨h2.sub.dom b hD, h2.sub.blk b hD, h2.sub.base b hD, h2.sub.cap b hD⟩, h2.new, h2.next, h4, h5, h6, h7, h8, ⟨fn, h9, h10⟩, fun b o hD ho => ?_,
    fun i o hi => (hrest i o (hst i o hi)).1, hkin, fun b b' o o' hD ho hlt hD' ho' hns e => ?_, fun i o b' hi hD' hlt e => (hrest i o (hst i o hi)).2 b' hD' e⟩
  · have hb1 := hH.blk b o hD ho
    rcases hin b o hD ho with hex | ⟨hD', ho', hns⟩
    · refine hb1.sub (.refl _ _) hD ?_
      obtain ⟨x, hx⟩ : ∃ x, w.heap[bl b]? = some x := ⟨_, Array.getElem?_eq_getElem hb1.stands⟩
      exact (hrest _ x ⟨hx, hex⟩).1.trans hx.symm
    · have hb2 := h1.blk b o (h2.sub.dom b hD') (by rw [e2 b hD'.2]; exact ho')
      have hb3 := (hR.blk b o hD' ho').bok
      have hb4 : BRel G ⟨bl, ba, ca, fun i o => w.heap[i]? = some o ∧ ∀ b, D b ∧ b < H0.next → bl b = i → StillB (H0.blks.get b), w⟩ D w' b o :=
        hb2.move hb3 h2.sub ⟨fun b hb => hb.1, fun _ _ => rfl, fun _ _ => rfl, fun _ _ => rfl, rfl, rfl⟩ (h2.sub.blk b hD').symm (h2.sub.base b hD').symm (h2.sub.cap b hD').symm
      exact env_brel (hb b o ho').2 hb4
  · rcases hin b o hD ho with hex | ⟨hDb, hob, _⟩
    · have hb1 := hH.blk b o hD ho
      obtain ⟨x, hx⟩ : ∃ x, w.heap[bl b]? = some x := ⟨_, Array.getElem?_eq_getElem hb1.stands⟩
      have := (hrest (bl b) x ⟨hx, hex⟩).2 b' hD' e.symm
      rw [ho'] at this
      exact hns this
    · rcases h1.inj b b' o o' (h2.sub.dom b hDb) hD' (by rw [e2 b hDb.2]; exact hob) ho' (by rw [h2.sub.blk b hDb]; exact e) with rfl | ⟨_, hs⟩
      · exact absurd hDb.2 (Nat.not_lt.2 hlt)
      · exact hns hs
end
end Go.Sx

namespace Go.Sx
open Go
section
variable {P : Program} {G : Tab}
/-- a closed call, where more is known: what it made is known too -/
theorem CallTo.union {f : FuncId} {args : List AV} {H0 H1 : Heap} {v : AV} (h : CallTo P G f args H0 [(v, H1)]) (hl : ∀ i, i < H0.next → H1.blks.get i = H0.blks.get i) (hg : G.nglob ≤ H0.next) (hb : ∀ b o, H0.blks.get b = some o → b < H0.next ∧ ltB H0.next o)
    (ha : ltL H0.next args) {H : Heap} (hsub : ∀ b o, H0.blks.get b = some o → H.blks.get b = some o) (hn : H.next = H0.next) (hnew : ∀ b o, H0.next ≤ b → H1.blks.get b = some o → ¬ StillB (some o) ∧ ltB H1.next o)
    {H' : Heap} (hu : ∀ b o, H'.blks.get b = some o → (b < H.next ∧ H.blks.get b = some o) ∨ (H.next ≤ b ∧ H1.blks.get b = some o)) (hn' : H'.next = H1.next) : CallTo P G f args H [(v, H')] := by
  intro ρ D w kind cs hH hargs
  obtain ⟨bl, ba, ca, re, og⟩ := ρ
  obtain ⟨h0, p, hp, bl', ba', ca', re', og', D', w', fr, h1, h3, hs, hD', hnx, h4, h5, h6, h7, h8, ⟨fn, h9, h10⟩, c1, c2, c3, c4, c5⟩ := h.core (fun p hp => by rw [List.mem_singleton.1 hp]; exact hl) hg hb ha hsub kind cs hH hargs
  obtain rfl := List.mem_singleton.1 hp
  have hlt : ∀ b, D b → b < H0.next := fun b hD => by rw [← hn]; exact hH.lt b hD
  have sub : Sub ⟨bl, ba, ca, re, og⟩ D ⟨bl', ba', ca', re, og⟩ D' := ⟨fun b hD => (hs b ⟨hD, hlt b hD⟩).1, fun b hD => (hs b ⟨hD, hlt b hD⟩).2.1, fun b hD => (hs b ⟨hD, hlt b hD⟩).2.2.1, fun b hD => (hs b ⟨hD, hlt b hD⟩).2.2.2, rfl, rfl⟩
  have old : ∀ b, D' b → b < H.next → D b := fun b hb1 hb2 => (hD' b hb1).elim (·.1) fun e => by omega
  have ble : ∀ b, D b → bl' b = bl b := fun b hD => (hs b ⟨hD, hlt b hD⟩).2.1
  refine ⟨h0, (v, H'), List.mem_singleton.2 rfl, ⟨bl', ba', ca', re, og⟩, D', w', fr, ⟨fun b hb1 => by show b < H'.next; rw [hn']; exact h1.lt b hb1, h1.glob, fun b b' o o' q1 q2 q3 q4 e => ?_, fun b o q1 q2 => ?_, fun i o hi => ⟨c2 i o hi, fun b q1 e => ?_⟩, hH.kin.trans c3⟩,
    ⟨sub, by show H.next ≤ H'.next; rw [hn', hn]; exact hnx, fun b hb1 => (hD' b hb1).imp (·.1) fun e => by rw [hn]; exact e⟩, env_ok _ h3, h4, h5, h6, h7, h8, fn, h9, ?_⟩
  · have e : bl' b = bl' b' := e
    rcases hu b o q3 with ⟨k1, k2⟩ | ⟨k1, k2⟩ <;> rcases hu b' o' q4 with ⟨j1, j2⟩ | ⟨j1, j2⟩
    · have Db := old b q1 k1
      have Db' := old b' q2 j1
      exact hH.inj b b' o o' Db Db' k2 j2 (by show bl b = bl b'; rw [← ble b Db, ← ble b' Db']; exact e)
    · have Db := old b q1 k1
      exact absurd (by rw [← ble b Db]; exact e) (c4 b b' o o' Db k2 (by omega) q2 j2 (hnew b' o' (by omega) j2).1)
    · have Db' := old b' q2 j1
      exact absurd (by rw [← ble b' Db']; exact e.symm) (c4 b' b o' o Db' j2 (by omega) q1 k2 (hnew b o (by omega) k2).1)
    · exact h1.inj b b' o o' q1 q2 k2 j2 e
  · rcases hu b o q2 with ⟨k1, k2⟩ | ⟨k1, k2⟩
    · have Db := old b q1 k1
      exact (c1 b o Db k2).sub sub Db rfl
    · exact env_brel (hnew b o (by omega) k2).2 (h1.blk b o q1 k2)
  · cases hc : H'.blks.get b with
    | none => trivial
    | some o' =>
      rcases hu b o' hc with ⟨k1, k2⟩ | ⟨k1, k2⟩
      · have Db := old b q1 k1
        have := (hH.rest i o hi).2 b Db (by show bl b = i; rw [← ble b Db]; exact e)
        rw [k2] at this; exact this
      · have := c5 i o b hi q1 (by omega) e
        rw [k2] at this; exact this
  · rw [h10]; exact congrArg (fun x => Result.ok x w') (env_conc v).symm
/-- a closed call that makes something, where more is known: nothing is known of what it made -/
theorem CallTo.embedPtr {f : FuncId} {args : List AV} {H0 : Heap} {l : List VH} {d off : Nat} (h : CallTo P G f args H0 l) (hl : onlyV H0 (.ptr d off) l = true) (hd : H0.next ≤ d) (hg : G.nglob ≤ H0.next) (hb : ∀ b o, H0.blks.get b = some o → b < H0.next ∧ ltB H0.next o)
    (ha : ltL H0.next args) {H : Heap} (hsub : ∀ b o, H0.blks.get b = some o → H.blks.get b = some o) (hN : Neat H) : CallTo P G f args H [(.ptr H.next off, ⟨H.next + 1, H.blks⟩)] := by
  intro ρ D w kind cs hH hargs
  obtain ⟨bl, ba, ca, re, og⟩ := ρ
  obtain ⟨h0, p, hp, bl', ba', ca', re', og', D', w', fr, h1, h3, hs, hD', hnx, h4, h5, h6, h7, h8, ⟨fn, h9, h10⟩, c1, c2, c3, c4, c5⟩ := h.core (fun p hp => (onlyV_ok hl p hp).2) hg hb ha hsub kind cs hH hargs
  have e1 := (onlyV_ok hl p hp).1
  have hne : ∀ b, D b → b ≠ H.next := fun b hD => Nat.ne_of_lt (hH.lt b hD)
  have sub : Sub ⟨bl, ba, ca, re, og⟩ D ⟨fun x => if x = H.next then bl' d else bl x, fun x => if x = H.next then ba' d else ba x, fun x => if x = H.next then ca' d else ca x, re, og⟩ (fun b => D b ∨ b = H.next) :=
    ⟨fun b hD => .inl hD, fun b hD => if_neg (hne b hD), fun b hD => if_neg (hne b hD), fun b hD => if_neg (hne b hD), rfl, rfl⟩
  have old : ∀ b o, (D b ∨ b = H.next) → H.blks.get b = some o → D b := fun b o q1 q2 => q1.elim id fun e => by have := hN b o q2; omega
  refine ⟨h0, (.ptr H.next off, ⟨H.next + 1, H.blks⟩), List.mem_singleton.2 rfl, ⟨fun x => if x = H.next then bl' d else bl x, fun x => if x = H.next then ba' d else ba x, fun x => if x = H.next then ca' d else ca x, re, og⟩, (fun b => D b ∨ b = H.next), w', fr,
    ⟨fun b hb1 => ?_, fun g hgl => ?_, fun b b' o o' q1 q2 q3 q4 e => ?_, fun b o q1 q2 => (c1 b o (old b o q1 q2) q2).sub sub (old b o q1 q2) rfl, fun i o hi => ⟨c2 i o hi, fun b q1 e => ?_⟩, hH.kin.trans c3⟩,
    ⟨sub, Nat.le_succ _, fun b hb1 => hb1.imp id fun e => Nat.le_of_eq e.symm⟩, .inr rfl, h4, h5, h6, h7, h8, fn, h9, ?_⟩
  · show b < H.next + 1
    rcases hb1 with h | h
    · exact Nat.lt_succ_of_lt (hH.lt b h)
    · omega
  · have := hH.glob g hgl
    exact ⟨.inl this.1, (if_neg (hne g this.1)).trans this.2.1, (if_neg (hne g this.1)).trans this.2.2⟩
  · have Db := old b o q1 q3
    have Db' := old b' o' q2 q4
    exact hH.inj b b' o o' Db Db' q3 q4 (by
      have e : (if b = H.next then bl' d else bl b) = (if b' = H.next then bl' d else bl b') := e
      rw [if_neg (hne b Db), if_neg (hne b' Db')] at e; exact e)
  · show StillB (H.blks.get b)
    cases hc : H.blks.get b with
    | none => trivial
    | some o' =>
      have Db := old b o' q1 hc
      have := (hH.rest i o hi).2 b Db (by
        have e : (if b = H.next then bl' d else bl b) = i := e
        rw [if_neg (hne b Db)] at e; exact e)
      rw [hc] at this; exact this
  · rw [h10, e1]
    show Result.ok (Value.pointer (some ⟨bl' d, ba' d + off, none⟩)) w' = .ok (.pointer (some ⟨if H.next = H.next then bl' d else bl H.next, (if H.next = H.next then ba' d else ba H.next) + off, none⟩)) w'
    rw [if_pos rfl, if_pos rfl]
end
end Go.Sx

namespace Go.Sx
open Go
section
variable {P : Program} {G : Tab}
/-! A call whose rubbish is swept, so that outcomes which differ in rubbish alone are one. -/
noncomputable def partsV (v : AV) : List AV := match v with
  | .tuple l => l
  | .agg l => l
  | v => [v]
noncomputable def keepRow (H : Heap) (H' : Heap) (v : AV) (t : T ABlk) : T ABlk := match v with
  | .slice b _ _ _ _ => (match H'.blks.get b with
    | some (.cells e x l) => bif Nat.ble H.next b then (bif flatL l then t.set b (some (.cells e x l)) else t) else t
    | _ => t)
  | _ => t
noncomputable def keepRows (H : Heap) (H' : Heap) (l : List AV) : T ABlk := List.rec H.blks (fun v _ ih => keepRow H H' v ih) l
noncomputable def gcBlk (H : Heap) (p : VH) : T ABlk := keepRows H p.2 (partsV p.1)
noncomputable def ltV1 (N : Nat) (v : AV) : Bool := match v with
  | .slice b _ _ _ _ => Nat.blt b N
  | v => flatV v
noncomputable def ltL1 (N : Nat) (l : List AV) : Bool := List.rec true (fun v _ ih => bif ltV1 N v then ih else false) l
noncomputable def ltV2 (N : Nat) (v : AV) : Bool := match v with
  | .tuple l => ltL1 N l
  | .agg l => ltL1 N l
  | v => ltV1 N v
theorem ltV1_ok {N : Nat} {v : AV} (h : ltV1 N v = true) : ltV N v := by
  cases v
  case slice b o l q c => exact blt_lt (show Nat.blt b N = true from h)
  all_goals first | trivial | (exact absurd (show (false : Bool) = true from h) (by simp))
theorem ltL1_ok {N : Nat} : ∀ {l : List AV}, ltL1 N l = true → ltL N l
  | [], _ => trivial
  | x :: l, h => by
    have h : (bif ltV1 N x then ltL1 N l else false) = true := h
    obtain ⟨h1, h2⟩ := band_true h
    exact ⟨ltV1_ok h1, ltL1_ok h2⟩
theorem ltV2_ok {N : Nat} {v : AV} (h : ltV2 N v = true) : ltV N v := by
  cases v
  case tuple l => exact ltL1_ok (show ltL1 N l = true from h)
  case agg l => exact ltL1_ok (show ltL1 N l = true from h)
  all_goals first | trivial | exact ltV1_ok h
noncomputable def gcOut (H : Heap) (p : VH) : Option VH := bif andL [Nat.ble H.next p.2.next, ltV2 p.2.next p.1, sameTo p.2.blks H.blks H.next] then some (p.1, ⟨p.2.next, gcBlk H p⟩) else none
theorem gcOut_cut {H : Heap} (hN : Neat H) {p q : VH} (h : gcOut H p = some q) : Cut H q p.1 p.2 := by
  unfold gcOut at h
  obtain ⟨h1, h⟩ := cond_some h
  have h1 := andL_ok h1
  simp only [List.mem_cons, List.not_mem_nil, or_false, forall_eq_or_imp, forall_eq] at h1
  obtain ⟨a1, a2, a3⟩ := h1
  simp only [Option.some.injEq] at h; subst h
  have old : ∀ b o, H.blks.get b = some o → p.2.blks.get b = some o ∧ ((b < H.next ∧ H.blks.get b = some o) ∨ ltB p.2.next o) := fun b o hb => ⟨by rw [sameTo_ok a3 b (hN b o hb)]; exact hb, .inl ⟨hN b o hb, hb⟩⟩
  refine ⟨rfl, Nat.le_refl _, ble_le a1, fun b o hb => ?_, ltV2_ok a2⟩
  have hb : (keepRows H p.2 (partsV p.1)).get b = some o := hb
  generalize partsV p.1 = l at hb
  induction l with
  | nil => exact old b o hb
  | cons v l ih =>
    have hb : (keepRow H p.2 v (keepRows H p.2 l)).get b = some o := hb
    unfold keepRow at hb
    split at hb
    · rename_i b' _ _ _ _ _
      split at hb
      · rename_i e x cs hrow
        cases c1 : Nat.ble H.next b'
        · rw [c1, cond_false] at hb; exact ih hb
        · rw [c1, cond_true] at hb
          cases c2 : flatL cs
          · rw [c2, cond_false] at hb; exact ih hb
          · rw [c2, cond_true, T.get_set] at hb
            by_cases e' : b = b'
            · rw [if_pos e'] at hb
              have hb := Option.some.inj hb
              rw [← hb, e']
              exact ⟨hrow, .inr (ltL_iff.2 fun v hv => flatV_lt (flatL_mem c2 v hv) _)⟩
            · rw [if_neg e'] at hb; exact ih hb
      · exact ih hb
    · exact ih hb
noncomputable def gcAll (H : Heap) (q : VH) (l : List VH) : Bool := List.rec true (fun p _ ih => bif (match gcOut H p with | some q' => outBeq q' q | none => false) then ih else false) l
theorem gcAll_ok {H : Heap} {q : VH} : ∀ {l : List VH}, gcAll H q l = true → ∀ p ∈ l, gcOut H p = some q
  | [], _, p, hp => by simp at hp
  | x :: l, h, p, hp => by
    have h : (bif (match gcOut H x with | some q' => outBeq q' q | none => false) then gcAll H q l else false) = true := h
    obtain ⟨h1, h2⟩ := band_true h
    rcases List.mem_cons.1 hp with rfl | hp
    · split at h1
      · rename_i q' hq
        rw [hq]
        unfold outBeq Heap.beq at h1
        obtain ⟨g1, g2⟩ := band_true h1
        obtain ⟨g3, g4⟩ := band_true g2
        have e1 := AV.beq_eq _ _ g1
        have e2 : q'.2.next = q.2.next := Nat.eq_of_beq_eq_true g3
        have e3 := T.beq_eq ABlk.beq_eq _ _ g4
        obtain ⟨v, n, t⟩ := q
        obtain ⟨v', n', t'⟩ := q'
        simp only at e1 e2 e3
        rw [e1, e2, e3]
      · simp at h1
    · exact gcAll_ok h2 p hp
noncomputable def ovGc (G : Tab) (n : Nat) (f : FuncId) (args : List AV) (H : Heap) : Option (List VH) :=
  bif neatB H then (match (fns G n).call f args H with
    | some (p :: l) => (match gcOut H p with
      | some q => bif gcAll H q l then some [q] else none
      | none => none)
    | _ => none) else none
theorem ovGc_ok (TT : TabOk P G) {n : Nat} {f : FuncId} (args : List AV) (H : Heap) (outs : List VH) (h : ovGc G n f args H = some outs) : CallTo P G f args H outs := by
  unfold ovGc at h
  obtain ⟨hN, h⟩ := cond_some h
  split at h
  · rename_i p l hr
    split at h
    · rename_i q hq
      obtain ⟨hl, h⟩ := cond_some h
      simp only [Option.some.injEq] at h; subst h
      have hc : CallTo P G f args H (p :: l) := fun ρ D w kind cs hH ha => (fns_sound TT n).call f args H _ hr ρ D w kind cs hH ha
      refine hc.cut fun x hx => ⟨q, List.mem_singleton.2 rfl, ?_⟩
      rcases List.mem_cons.1 hx with rfl | hx
      · exact gcOut_cut (neatB_ok hN) hq
      · exact gcOut_cut (neatB_ok hN) (gcAll_ok hl x hx)
    · simp at h
  · simp at h
/-- a call that the memory tells what comes of it, where one block stands -/
noncomputable def ovAt (b : Nat) (o : ABlk) (v : AV) (args : List AV) (H : Heap) : Option (List VH) := bif (match args with | [] => true | _ => false) then (bif optBeq ABlk.beq (H.blks.get b) (some o) then some [(v, H)] else none) else none
theorem ovAt_ok {f : FuncId} {b : Nat} {o : ABlk} {v : AV} (hf : ∀ H, H.blks.get b = some o → CallTo P G f [] H [(v, H)]) (args : List AV) (H : Heap) (outs : List VH) (h : ovAt b o v args H = some outs) : CallTo P G f args H outs := by
  unfold ovAt at h
  obtain ⟨h1, h⟩ := cond_some h
  obtain ⟨h2, h⟩ := cond_some h
  simp only [Option.some.injEq] at h; subst h
  cases args with
  | nil => exact hf H (optBeq_eq ABlk.beq_eq h2)
  | cons a l => simp at h1
end
end Go.Sx

namespace Go.Sx
open Go
mutual
def ltVB (N : Nat) : AV → Bool
  | .ptr b _ => Nat.blt b N
  | .slice b _ _ _ _ => Nat.blt b N
  | .map r => Nat.blt r N
  | .yld l => Nat.blt l N
  | .func _ x y => bif ltLB N x then ltLB N y else false
  | .iface _ v => ltVB N v
  | .agg cs => ltLB N cs
  | .tuple vs => ltLB N vs
  | _ => true
def ltLB (N : Nat) : List AV → Bool
  | [] => true
  | v :: l => bif ltVB N v then ltLB N l else false
end
mutual
theorem ltVB_ok {N : Nat} : ∀ v, ltVB N v = true → ltV N v
  | .bool _, _ => trivial
  | .int _ _, _ => trivial
  | .str _, _ => trivial
  | .ptr _ _, h => blt_lt h
  | .nilptr, _ => trivial
  | .slice _ _ _ _ _, h => blt_lt h
  | .nilslice, _ => trivial
  | .odd _ _ _ _, _ => trivial
  | .map _, h => blt_lt h
  | .nilmap, _ => trivial
  | .func _ x y, h => by
    have h : (bif ltLB N x then ltLB N y else false) = true := h
    obtain ⟨h1, h2⟩ := band_true h
    exact ⟨ltLB_ok x h1, ltLB_ok y h2⟩
  | .yld _, h => blt_lt h
  | .nilFunc, _ => trivial
  | .iface _ v, h => ltVB_ok v h
  | .nilIface, _ => trivial
  | .agg cs, h => ltLB_ok cs h
  | .tuple cs, h => ltLB_ok cs h
theorem ltLB_ok {N : Nat} : ∀ l, ltLB N l = true → ltL N l
  | [], _ => trivial
  | v :: l, h => by
    have h : (bif ltVB N v then ltLB N l else false) = true := h
    obtain ⟨h1, h2⟩ := band_true h
    exact ⟨ltVB_ok v h1, ltLB_ok l h2⟩
end
noncomputable def ltEB (N : Nat) (l : List AEntry) : Bool := List.rec true (fun e _ ih => bif ltVB N e.key then (bif ltVB N e.val then ih else false) else false) l
theorem ltEB_ok {N : Nat} : ∀ {l : List AEntry}, ltEB N l = true → ∀ e ∈ l, ltV N e.key ∧ ltV N e.val
  | [], _, e, he => by simp at he
  | x :: l, h, e, he => by
    have h : (bif ltVB N x.key then (bif ltVB N x.val then ltEB N l else false) else false) = true := h
    obtain ⟨h1, h⟩ := band_true h
    obtain ⟨h2, h3⟩ := band_true h
    rcases List.mem_cons.1 he with rfl | he
    · exact ⟨ltVB_ok _ h1, ltVB_ok _ h2⟩
    · exact ltEB_ok h3 e he
noncomputable def ltBB (N : Nat) (o : ABlk) : Bool := match o with
  | .cells _ _ l => ltLB N l
  | .big _ _ z => ltLB N z
  | .map es _ => ltEB N es
  | .mapIter m _ _ _ => (match m with | some r => Nat.blt r N | none => true)
  | .strIter _ _ => true
  | .loop _ => false
  | .deferred => true
theorem ltBB_ok {N : Nat} {o : ABlk} (h : ltBB N o = true) : ltB N o := by
  cases o with
  | cells e x l => exact ltLB_ok l h
  | big e n z => exact ltLB_ok z h
  | map es c => exact ltEB_ok h
  | mapIter m s l p => intro r hr; subst hr; exact blt_lt h
  | strIter s p => trivial
  | loop r => exact absurd (show (false : Bool) = true from h) (by simp)
  | deferred => trivial
noncomputable def optB {α : Type} (f : α → Bool) (v : Option α) : Bool := match v with | some a => f a | none => true
noncomputable def allT {α : Type} (f : α → Bool) (t : T α) : Bool := T.rec true (fun _ v _ l r => bif optB f v then (bif l then r else false) else false) t
theorem allT_ok {α : Type} {f : α → Bool} : ∀ {t : T α}, allT f t = true → ∀ k a, t.get k = some a → f a = true
  | .e, _, k, a, h => by rw [T.get_e] at h; simp at h
  | .n l v r, hb, k, a, h => by
    have hb : (bif optB f v then (bif allT f l then allT f r else false) else false) = true := hb
    obtain ⟨h1, hb⟩ := band_true hb
    obtain ⟨h2, h3⟩ := band_true hb
    rw [T.get_n] at h
    split at h
    · rw [h] at h1; exact h1
    · split at h
      · exact allT_ok h2 _ a h
      · exact allT_ok h3 _ a h
noncomputable def dropL (v : Option ABlk) : Option ABlk := match v with
  | some (.loop _) => none
  | v => v
noncomputable def dropLoops (t : T ABlk) : T ABlk := T.rec .e (fun _ v _ l r => .n l (dropL v) r) t
theorem dropL_some {v : Option ABlk} {o : ABlk} (h : dropL v = some o) : v = some o := by
  unfold dropL at h
  split at h
  · simp at h
  · exact h
theorem dropLoops_get : ∀ {t : T ABlk} {k : Nat} {o : ABlk}, (dropLoops t).get k = some o → t.get k = some o
  | .e, k, o, h => h
  | .n l v r, k, o, h => by
    have h : (T.n (dropLoops l) (dropL v) (dropLoops r)).get k = some o := h
    rw [T.get_n] at h ⊢
    split at h
    · rename_i e; rw [if_pos e]; exact dropL_some h
    · rename_i e
      rw [if_neg e]
      split at h
      · rename_i e2; rw [if_pos e2]; exact dropLoops_get h
      · rename_i e2; rw [if_neg e2]; exact dropLoops_get h
section
variable {P : Program} {G : Tab}
theorem keepRows_get {H H' : Heap} : ∀ {l : List AV} {b : Nat} {o : ABlk}, (keepRows H H' l).get b = some o → H.blks.get b = some o ∨ (H.next ≤ b ∧ H'.blks.get b = some o ∧ ∃ e x cs, o = .cells e x cs ∧ flatL cs = true)
  | [], b, o, h => .inl h
  | v :: l, b, o, h => by
    have h : (keepRow H H' v (keepRows H H' l)).get b = some o := h
    unfold keepRow at h
    split at h
    · rename_i b' _ _ _ _ _
      split at h
      · rename_i e x cs hrow
        cases c1 : Nat.ble H.next b'
        · rw [c1, cond_false] at h; exact keepRows_get h
        · rw [c1, cond_true] at h
          cases c2 : flatL cs
          · rw [c2, cond_false] at h; exact keepRows_get h
          · rw [c2, cond_true, T.get_set] at h
            by_cases e' : b = b'
            · rw [if_pos e'] at h
              have h2 := Option.some.inj h
              rw [e']
              exact .inr ⟨ble_le c1, by rw [hrow, h2], e, x, cs, h2.symm, c2⟩
            · rw [if_neg e'] at h; exact keepRows_get h
      · exact keepRows_get h
    · exact keepRows_get h
theorem keepRows_low {H H' : Heap} : ∀ {l : List AV} {b : Nat}, b < H.next → (keepRows H H' l).get b = H.blks.get b
  | [], b, _ => rfl
  | v :: l, b, hb => by
    show (keepRow H H' v (keepRows H H' l)).get b = _
    unfold keepRow
    split
    · rename_i b' _ _ _ _
      split
      · rename_i e x cs hrow
        cases c1 : Nat.ble H.next b'
        · rw [cond_false]; exact keepRows_low hb
        · rw [cond_true]
          cases c2 : flatL cs
          · rw [cond_false]; exact keepRows_low hb
          · rw [cond_true, T.get_set, if_neg (by have := ble_le c1; omega)]; exact keepRows_low hb
      · exact keepRows_low hb
    · exact keepRows_low hb
/-- the same, where loops that go on stand by: the call does not know them -/
noncomputable def ovGcU (G : Tab) (n : Nat) (f : FuncId) (args : List AV) (H : Heap) : Option (List VH) :=
  bif andL [neatB H, ltLB H.next args, allT (ltBB H.next) (dropLoops H.blks), Nat.ble G.nglob H.next] then
    (match ovGc G n f args ⟨H.next, dropLoops H.blks⟩ with
    | some [q] => some [(q.1, ⟨q.2.next, keepRows H q.2 (partsV q.1)⟩)]
    | _ => none) else none
theorem ovGc_from {n : Nat} {f : FuncId} {args : List AV} {H : Heap} {q : VH} (h : ovGc G n f args H = some [q]) : ∃ p, gcOut H p = some q := by
  unfold ovGc at h
  obtain ⟨hN, h⟩ := cond_some h
  split at h
  · rename_i p l hr
    split at h
    · rename_i q' hq
      obtain ⟨hl, h⟩ := cond_some h
      simp only [Option.some.injEq, List.cons.injEq, and_true] at h
      exact ⟨p, by rw [hq, h]⟩
    · simp at h
  · simp at h
theorem ovGcU_ok (TT : TabOk P G) {n : Nat} {f : FuncId} (args : List AV) (H : Heap) (outs : List VH) (h : ovGcU G n f args H = some outs) : CallTo P G f args H outs := by
  unfold ovGcU at h
  obtain ⟨h1, h⟩ := cond_some h
  have h1 := andL_ok h1
  simp only [List.mem_cons, List.not_mem_nil, or_false, forall_eq_or_imp, forall_eq] at h1
  obtain ⟨a1, a2, a3, a4⟩ := h1
  split at h
  · rename_i q hq
    simp only [Option.some.injEq] at h; subst h
    have hN := neatB_ok a1
    have hc := ovGc_ok TT args _ _ hq
    obtain ⟨p, hp⟩ := ovGc_from hq
    obtain ⟨v, H1⟩ := q
    have hb2 : H1.blks = keepRows ⟨H.next, dropLoops H.blks⟩ p.2 (partsV p.1) := by
      unfold gcOut at hp
      obtain ⟨_, hp⟩ := cond_some hp
      simp only [Option.some.injEq, Prod.mk.injEq] at hp
      rw [← hp.2]; rfl
    have hN0 : Neat ⟨H.next, dropLoops H.blks⟩ := fun b o hb => hN b o (dropLoops_get hb)
    refine hc.union (H := H) (fun i hi => by rw [hb2]; exact keepRows_low hi) (ble_le a4) (fun b o hb => ⟨hN0 b o hb, ltBB_ok (allT_ok a3 b o hb)⟩) (ltLB_ok _ a2) (fun b o hb => dropLoops_get hb) rfl (fun b o hlt hb => ?_) (fun b o hb => ?_) rfl
    · rw [hb2] at hb
      rcases keepRows_get hb with h | ⟨_, _, e, x, cs, rfl, hfl⟩
      · exact absurd (hN0 b o h) (Nat.not_lt.2 hlt)
      · exact ⟨fun h => h, ltL_iff.2 fun v hv => flatV_lt (flatL_mem hfl v hv) _⟩
    · rcases keepRows_get (show (keepRows H H1 (partsV v)).get b = some o from hb) with h | ⟨h1, h2, _⟩
      · exact .inl ⟨hN b o h, h⟩
      · exact .inr ⟨h1, h2⟩
  · simp at h
end
end Go.Sx

namespace Go.Sx
open Go
section
variable {P : Program} {G : Tab}
/-! Closed calls by the kernel, put to use where more is known. -/
theorem Gets.subH {c : Ctx} {x : Code} {tm : T AV} {df : List ADefer} {H H' : Heap} {Q : Ex → St → Prop} (hb : ∀ b o, H'.blks.get b = some o → H.blks.get b = some o) (hn : H.next ≤ H'.next)
    (h : Gets P G c x ⟨tm, H', df⟩ Q) : Gets P G c x ⟨tm, H, df⟩ Q := fun ρ D w tmv dfv b k cs hS hR => by
  obtain ⟨e, s', h1, ρ', D', w', tm', df', g1, g2, g3⟩ := h ρ D w tmv dfv b k cs ⟨HRel.less hS.h hb hn, hS.t, hS.d⟩ hR
  exact ⟨e, s', h1, ρ', D', w', tm', df', g1, ⟨g2.sub, Nat.le_trans hn g2.next, fun b hb => (g2.new b hb).imp id fun h => Nat.le_trans hn h⟩, g3⟩
noncomputable def closedB (G : Tab) (H0 : Heap) (as : List AV) : Bool := andL [neatB H0, allT (ltBB H0.next) H0.blks, ltLB H0.next as, Nat.ble G.nglob H0.next]
theorem closedB_ok {H0 : Heap} {as : List AV} (h : closedB G H0 as = true) : (∀ b o, H0.blks.get b = some o → b < H0.next ∧ ltB H0.next o) ∧ ltL H0.next as ∧ G.nglob ≤ H0.next := by
  have h := h
  unfold closedB at h
  obtain ⟨h1, h⟩ := band_true h
  obtain ⟨h2, h⟩ := band_true h
  obtain ⟨h3, h⟩ := band_true h
  obtain ⟨h4, h⟩ := band_true h
  exact ⟨fun b o hb => ⟨neatB_ok h1 b o hb, ltBB_ok (allT_ok h2 b o hb)⟩, ltLB_ok _ h3, ble_le h4⟩
noncomputable def runOnly (H0 : Heap) (v : AV) (o : Option (List VH)) : Bool := match o with
  | some l => onlyV H0 v l
  | none => false
theorem runOnly_ok (TT : TabOk P G) {n : Nat} {f : FuncId} {as : List AV} {H0 : Heap} {v : AV} (h : runOnly H0 v ((fns G n).call f as H0) = true) : ∃ l, CallTo P G f as H0 l ∧ onlyV H0 v l = true := by
  cases hr : (fns G n).call f as H0 with
  | none => rw [hr] at h; simp [runOnly] at h
  | some l =>
    rw [hr] at h
    exact ⟨l, fun ρ D w kind cs hH ha => (fns_sound TT n).call f as H0 _ hr ρ D w kind cs hH ha, h⟩
/-- a closed call to a flat value -/
theorem embed_run (TT : TabOk P G) {n : Nat} {f : FuncId} {as : List AV} {H0 : Heap} {v : AV} (h : runOnly H0 v ((fns G n).call f as H0) = true) (hv : flatR v = true) (hc : closedB G H0 as = true)
    (H : Heap) (hs : ∀ b o, H0.blks.get b = some o → H.blks.get b = some o) : CallTo P G f as H [(v, H)] := by
  obtain ⟨l, h1, h2⟩ := runOnly_ok TT h
  obtain ⟨c1, c2, c3⟩ := closedB_ok hc
  exact CallTo.embed h1 hv h2 c3 c1 c2 hs
/-- a closed call to a pointer -/
theorem embedPtr_run (TT : TabOk P G) {n : Nat} {f : FuncId} {as : List AV} {H0 : Heap} {d off : Nat} (h : runOnly H0 (.ptr d off) ((fns G n).call f as H0) = true) (hd : Nat.ble H0.next d = true) (hc : closedB G H0 as = true)
    (H : Heap) (hs : ∀ b o, H0.blks.get b = some o → H.blks.get b = some o) (hN : Neat H) : CallTo P G f as H [(.ptr H.next off, ⟨H.next + 1, H.blks⟩)] := by
  obtain ⟨l, h1, h2⟩ := runOnly_ok TT h
  obtain ⟨c1, c2, c3⟩ := closedB_ok hc
  exact CallTo.embedPtr h1 h2 (ble_le hd) c3 c1 c2 hs hN
open Classical in
/-- such a call, given to the executor -/
noncomputable def ovEm (H0 : Heap) (as : List AV) (v : AV) (args : List AV) (H : Heap) : Option (List VH) := if args = as ∧ (∀ b o, H0.blks.get b = some o → H.blks.get b = some o) then some [(v, H)] else none
theorem ovEm_eq {H0 H : Heap} {as : List AV} {v : AV} (h : ∀ b o, H0.blks.get b = some o → H.blks.get b = some o) : ovEm H0 as v as H = some [(v, H)] := if_pos ⟨rfl, h⟩
theorem ovEm_ok {f : FuncId} {as : List AV} {H0 : Heap} {v : AV} (hf : ∀ H, (∀ b o, H0.blks.get b = some o → H.blks.get b = some o) → CallTo P G f as H [(v, H)]) (args : List AV) (H : Heap) (outs : List VH) (h : ovEm H0 as v args H = some outs) : CallTo P G f args H outs := by
  unfold ovEm at h
  split at h
  · rename_i hh
    simp only [Option.some.injEq] at h; subst h
    obtain ⟨rfl, hs⟩ := hh
    exact hf H hs
  · simp at h
open Classical in
/-- one call in one memory, given to the executor -/
noncomputable def ovOne (H0 : Heap) (as : List AV) (p : VH) (args : List AV) (H : Heap) : Option (List VH) := if args = as ∧ H = H0 then some [p] else none
theorem ovOne_eq (H0 : Heap) (as : List AV) (p : VH) : ovOne H0 as p as H0 = some [p] := if_pos ⟨rfl, rfl⟩
theorem ovOne_ok {f : FuncId} {as : List AV} {H0 : Heap} {p : VH} (hf : CallTo P G f as H0 [p]) (args : List AV) (H : Heap) (outs : List VH) (h : ovOne H0 as p args H = some outs) : CallTo P G f args H outs := by
  unfold ovOne at h
  split at h
  · rename_i hh
    simp only [Option.some.injEq] at h; subst h
    obtain ⟨rfl, rfl⟩ := hh
    exact hf
  · simp at h
/-- every block, with its number -/
noncomputable def allK {α : Type} (f : Nat → α → Bool) (t : T α) : (Nat → Nat) → Bool := T.rec (motive := fun _ => (Nat → Nat) → Bool) (fun _ => true)
  (fun _ v _ l r g => bif optB (f (g 0)) v then (bif l (fun k => g (2 * k + 1)) then r (fun k => g (2 * k + 2)) else false) else false) t
theorem allK_ok {α : Type} {f : Nat → α → Bool} : ∀ {t : T α} {g : Nat → Nat}, allK f t g = true → ∀ k a, t.get k = some a → f (g k) a = true
  | .e, _, _, k, a, h => by rw [T.get_e] at h; simp at h
  | .n l v r, g, hb, k, a, h => by
    obtain ⟨h1, hb⟩ := band_true (a := optB (f (g 0)) v) (b := bif allK f l (fun k => g (2 * k + 1)) then allK f r (fun k => g (2 * k + 2)) else false) hb
    obtain ⟨h2, h3⟩ := band_true hb
    rw [T.get_n] at h
    by_cases hk0 : k = 0
    · rw [if_pos hk0] at h
      subst h; subst hk0
      exact h1
    · rw [if_neg hk0] at h
      by_cases hm : k % 2 = 1
      · rw [if_pos hm] at h
        have hh : f (g (2 * (k / 2) + 1)) a = true := allK_ok h2 _ _ h
        rw [show 2 * (k / 2) + 1 = k by omega] at hh; exact hh
      · rw [if_neg hm] at h
        have hh : f (g (2 * (k / 2 - 1) + 2)) a = true := allK_ok h3 _ _ h
        rw [show 2 * (k / 2 - 1) + 2 = k by omega] at hh; exact hh
noncomputable def stillB (o : ABlk) : Bool := match o with | .big _ _ _ => true | _ => false
theorem stillB_ok {o : ABlk} (h : stillB o = false) : ¬ StillB (some o) := by
  cases o <;> simp [stillB] at h <;> exact id
noncomputable def runTo (H0 : Heap) (v : AV) (H1 : Heap) (o : Option (List VH)) : Bool := match o with
  | some l => List.rec true (fun p _ ih => bif andL [AV.beq p.1 v, heapSub H1.blks p.2.blks, Nat.ble H1.next p.2.next] then ih else false) l
  | none => false
noncomputable def keptB (G : Tab) (H0 : Heap) (as : List AV) (v : AV) (H1 : Heap) : Bool :=
  andL [Nat.ble H0.next H1.next, sameTo H1.blks H0.blks H0.next, ltVB H1.next v, allK (fun k o => bif Nat.blt k H0.next then ltBB H1.next o else (bif stillB o then false else ltBB H1.next o)) H1.blks id]
theorem keptB_ok {H0 : Heap} {as : List AV} {v : AV} {H1 : Heap} (h : keptB G H0 as v H1 = true) : H0.next ≤ H1.next ∧ (∀ i, i < H0.next → H1.blks.get i = H0.blks.get i) ∧ ltV H1.next v ∧ (∀ b o, H1.blks.get b = some o → ltB H1.next o) ∧
    (∀ b o, H0.next ≤ b → H1.blks.get b = some o → ¬ StillB (some o)) := by
  unfold keptB at h
  obtain ⟨h1, h⟩ := band_true h
  obtain ⟨h2, h⟩ := band_true h
  obtain ⟨h3, h⟩ := band_true h
  obtain ⟨h4, h⟩ := band_true h
  refine ⟨ble_le h1, sameTo_ok h2, ltVB_ok _ h3, fun b o hb => ?_, fun b o hk hb => ?_⟩
  · have h5 := allK_ok h4 b o hb
    simp only [id] at h5
    cases hk : Nat.blt b H0.next
    · rw [hk, cond_false] at h5
      cases hs : stillB o
      · rw [hs, cond_false] at h5; exact ltBB_ok h5
      · rw [hs, cond_true] at h5; simp at h5
    · rw [hk, cond_true] at h5; exact ltBB_ok h5
  · have h5 := allK_ok h4 b o hb
    simp only [id] at h5
    cases hk' : Nat.blt b H0.next
    · rw [hk', cond_false] at h5
      cases hs : stillB o
      · exact stillB_ok hs
      · rw [hs, cond_true] at h5; simp at h5
    · have := blt_lt hk'; omega
/-- a closed call that makes something: what it comes to, swept -/
theorem runTo_ok (TT : TabOk P G) {ov : Ov} (ho : OvOk P G ov) {n : Nat} {f : FuncId} {as : List AV} {H0 H1 : Heap} {v : AV} (h : runTo H0 v H1 ((fnsO G ov n).call f as H0) = true) (hk : keptB G H0 as v H1 = true) : CallTo P G f as H0 [(v, H1)] := by
  obtain ⟨k1, k2, k3, k4, k5⟩ := keptB_ok hk
  cases hr : (fnsO G ov n).call f as H0 with
  | none => rw [hr] at h; simp [runTo] at h
  | some l =>
    rw [hr] at h
    refine (callTo_run TT ho hr).cut fun p hp => ⟨(v, H1), List.mem_singleton.2 rfl, ?_⟩
    have hall : andL [AV.beq p.1 v, heapSub H1.blks p.2.blks, Nat.ble H1.next p.2.next] = true := all_rec (f := fun p : VH => andL [AV.beq p.1 v, heapSub H1.blks p.2.blks, Nat.ble H1.next p.2.next]) h p hp
    obtain ⟨g1, hall⟩ := band_true hall
    obtain ⟨g2, hall⟩ := band_true hall
    obtain ⟨g3, hall⟩ := band_true hall
    exact ⟨(AV.beq_eq _ _ g1).symm, ble_le g3, k1, fun b o hb => ⟨heapSub_ok g2 b o hb, .inr (k4 b o hb)⟩, k3⟩
/-- the same, where one block more is known -/
theorem union_run {f : FuncId} {as : List AV} {H0 H1 : Heap} {v : AV} (h : CallTo P G f as H0 [(v, H1)]) (hk : keptB G H0 as v H1 = true) (hc : closedB G H0 as = true) {k : Nat} (hk0 : H0.blks.get k = none) (hk1 : k < H0.next) (o : ABlk) :
    CallTo P G f as ⟨H0.next, H0.blks.set k (some o)⟩ [(v, ⟨H1.next, H1.blks.set k (some o)⟩)] := by
  obtain ⟨k1, k2, k3, k4, k5⟩ := keptB_ok hk
  obtain ⟨c1, c2, c3⟩ := closedB_ok hc
  refine CallTo.union (H := ⟨H0.next, H0.blks.set k (some o)⟩) h k2 c3 c1 c2 (fun b o' hb => ?_) rfl (fun b o' hb1 hb2 => ⟨k5 b o' hb1 hb2, k4 b o' hb2⟩) (H' := ⟨H1.next, H1.blks.set k (some o)⟩) (fun b o' hb => ?_) rfl
  · show (H0.blks.set k (some o)).get b = _
    rw [T.get_set]
    by_cases e : b = k
    · rw [e, hk0] at hb; simp at hb
    · rw [if_neg e]; exact hb
  · have hb : (H1.blks.set k (some o)).get b = some o' := hb
    show (b < H0.next ∧ (H0.blks.set k (some o)).get b = some o') ∨ (H0.next ≤ b ∧ _)
    rw [T.get_set] at hb ⊢
    by_cases e : b = k
    · rw [if_pos e] at hb ⊢; exact .inl ⟨by omega, hb⟩
    · rw [if_neg e] at hb ⊢
      by_cases hlt : b < H0.next
      · rw [k2 b hlt] at hb; exact .inl ⟨hlt, hb⟩
      · exact .inr ⟨by omega, hb⟩
end
end Go.Sx
