/-
  A drawn region with several effects, each behind all that stands before it, is its text's order.
-/
import Derived.Test.YtdadmlonndnppaaGreatDoorSxH
set_option linter.unusedSimpArgs false
set_option linter.unusedVariables false
namespace Go.Sx
section
variable {G : Tab} {F : Fns}
/-! A drawn region with several effects, each of which waits for all that stands before it. -/
noncomputable def effsDone (done : Nat) (l : List RO) : Bool := List.rec true (fun r _ ih => bif (bif isEff r.kind then Nat.testBit done r.i else true) then ih else false) l
theorem nextEff_after {done : Nat} {e : RO} {B : List RO} (he : isEff e.kind = true) (hb : Nat.testBit done e.i = false) : ∀ {A : List RO}, effsDone done A = true → nextEff done (A ++ e :: B) = some e
  | [], _ => by
    show (bif isEff e.kind then (bif Nat.testBit done e.i then nextEff done B else some e) else nextEff done B) = some e
    rw [he, hb]; rfl
  | r :: A, h => by
    have h : (bif (bif isEff r.kind then Nat.testBit done r.i else true) then effsDone done A else false) = true := h
    show (bif isEff r.kind then (bif Nat.testBit done r.i then nextEff done (A ++ e :: B) else some r) else nextEff done (A ++ e :: B)) = some e
    obtain ⟨h1, h2⟩ := band_true h
    cases hr : isEff r.kind
    · exact nextEff_after he hb h2
    · rw [hr] at h1
      have h1 : Nat.testBit done r.i = true := h1
      rw [h1]; exact nextEff_after he hb h2
theorem nextEff_over {done : Nat} : ∀ {A : List RO}, effsDone done A = true → nextEff done A = none
  | [], _ => rfl
  | r :: A, h => by
    have h : (bif (bif isEff r.kind then Nat.testBit done r.i else true) then effsDone done A else false) = true := h
    show (bif isEff r.kind then (bif Nat.testBit done r.i then nextEff done A else some r) else nextEff done A) = none
    obtain ⟨h1, h2⟩ := band_true h
    cases hr : isEff r.kind
    · exact nextEff_over h2
    · rw [hr] at h1
      have h1 : Nat.testBit done r.i = true := h1
      rw [h1]; exact nextEff_over h2
theorem sealedL_mem {m : Nat} : ∀ {A : List RO}, sealedL m A = true → ∀ r ∈ A, Nat.testBit m r.i = true
  | [], _, r, hr => by simp at hr
  | x :: A, h, r, hr => by
    have h : (bif Nat.testBit m x.i then sealedL m A else false) = true := h
    obtain ⟨h1, h2⟩ := band_true h
    rcases List.mem_cons.1 hr with rfl | hr
    · exact h1
    · exact sealedL_mem h2 r hr
theorem satur_skip2 {c : Ctx} {all : List Oper} : ∀ (X : List RO) (d₀ : DS), noneReady d₀.done X = true → ∀ (R : List RO) (k : DK), satur G c all (X ++ R) k d₀ = satur G c all R k d₀ := by
  intro X
  induction X with
  | nil => intro _ _ _ _; rfl
  | cons x X ih =>
    intro d₀ h R k
    have h : (bif ready x d₀.done then false else noneReady d₀.done X) = true := h
    cases hx : ready x d₀.done
    · rw [hx, cond_false] at h
      show (bif ready x d₀.done then _ else satur G c all (X ++ R) k d₀) = _
      rw [hx, cond_false]; exact ih d₀ h R k
    · rw [hx] at h; simp at h
/-- the check; n: how many effects at most -/
noncomputable def multiA (rs : List RO) (n : Nat) : Nat → List RO → List RO → Bool := Nat.rec (fun _ _ _ => false) (fun _ ih done pre rest =>
  match (spanN rest).2 with
  | [] => andL [noneReady done pre, chainA (spanN rest).1 done, noneReady (doneOf (spanN rest).1 done) rs, effsDone (doneOf (spanN rest).1 done) rs]
  | e :: B => andL [noneReady done pre, chainA (spanN rest).1 done, noneReady (doneOf (spanN rest).1 done) (e :: B), noneReady (doneOf (spanN rest).1 done) rs, isEff e.kind, bnot (Nat.testBit (doneOf (spanN rest).1 done) e.i),
      effsDone (doneOf (spanN rest).1 done) (pre ++ (spanN rest).1), sub e.pre (doneOf (spanN rest).1 done), othersAfter e (doneOf (spanN rest).1 done) rs, sealedL e.pre (pre ++ (spanN rest).1),
      ih (Nat.lor (doneOf (spanN rest).1 done) (Nat.pow 2 e.i)) (pre ++ (spanN rest).1 ++ [e]) B]) n
theorem runA_from {c : Ctx} {all : List Oper} : ∀ {A : List RO} {m : Nat} {d d' : DS}, KindsOk A → chainA A m = true → runA G c all A d = some d' → ∀ k ∈ d'.kept, k ∈ d.kept ∨ k.r ∈ A
  | [], _, d, d', _, _, h => by have h : some d = some d' := h; simp only [Option.some.injEq] at h; subst h; exact fun k hk => .inl hk
  | r :: A, m, d, d', hk, hc, h => by
    obtain ⟨h1, h2, h3⟩ := chainA_cons hc
    obtain ⟨e, g1, g2⟩ := bindO_some h
    have b := runA_from (fun r hr => hk r (List.mem_cons_of_mem _ hr)) h3 g2
    intro k hkk
    rcases b k hkk with h | h
    · unfold stepA at g1
      cases hw : wantedA all r.o.guard d.s.tm
      · rw [hw, cond_false] at g1
        obtain ⟨_, g1⟩ := putTm_split g1
        simp only [Option.some.injEq] at g1; subst g1; exact .inl h
      · rw [hw, cond_true] at g1
        obtain ⟨p, hp, g1⟩ := bindO_some g1
        obtain ⟨_, g1⟩ := putTm_split g1
        simp only [Option.some.injEq] at g1; subst g1
        have h : k ∈ keepIt r d.s.tm p.1 d.kept := h
        unfold keepIt at h
        split at h
        · exact .inl h
        · rcases List.mem_cons.1 h with h | h
          · exact .inr (by rw [h]; exact List.mem_cons_self)
          · exact .inl h
    · exact .inr (List.mem_cons_of_mem _ h)
theorem multi_run {all : List Oper} {rs : List RO} (c : Ctx) : ∀ (n : Nat) (f done : Nat) (pre rest : List RO) (sealed : Nat) (s : St) (kept : List Kept), multiA rs n done pre rest = true → rs = pre ++ rest → KindsOk rest → n ≤ f →
    (∀ k ∈ kept, Nat.testBit sealed k.r.i = true ∧ k.r ∈ pre) → stages F G c all rs f sealed ⟨done, s, kept⟩ = seqOps (rest.map (·.o)) F G c all s := by
  intro n
  induction n with
  | zero => intro f done pre rest sealed s kept h; exact absurd (show (false : Bool) = true from h) (by simp)
  | succ n ih =>
    intro f done pre rest sealed s kept h hrs hk hf hkept
    obtain ⟨f, rfl⟩ : ∃ f', f = f' + 1 := ⟨f - 1, by omega⟩
    have h : (match (spanN rest).2 with
      | [] => andL [noneReady done pre, chainA (spanN rest).1 done, noneReady (doneOf (spanN rest).1 done) rs, effsDone (doneOf (spanN rest).1 done) rs]
      | e :: B => andL [noneReady done pre, chainA (spanN rest).1 done, noneReady (doneOf (spanN rest).1 done) (e :: B), noneReady (doneOf (spanN rest).1 done) rs, isEff e.kind, bnot (Nat.testBit (doneOf (spanN rest).1 done) e.i),
          effsDone (doneOf (spanN rest).1 done) (pre ++ (spanN rest).1), sub e.pre (doneOf (spanN rest).1 done), othersAfter e (doneOf (spanN rest).1 done) rs, sealedL e.pre (pre ++ (spanN rest).1),
          multiA rs n (Nat.lor (doneOf (spanN rest).1 done) (Nat.pow 2 e.i)) (pre ++ (spanN rest).1 ++ [e]) B]) = true := h
    have hs := spanN_eq rest
    generalize spanN rest = p at h hs
    obtain ⟨A, R⟩ := p
    simp only at hs h
    have e0 : stages F G c all rs (f + 1) sealed ⟨done, s, kept⟩ = satur G c all rs (stageEnd F G c all rs (stages F G c all rs f) sealed) ⟨done, s, kept⟩ := rfl
    have kA : KindsOk A := fun r hr => hk r (by rw [← hs]; exact List.mem_append.2 (.inl hr))
    cases R with
    | nil =>
      simp only at h
      have h := andL_ok h
      simp only [List.mem_cons, List.not_mem_nil, or_false, forall_eq_or_imp, forall_eq] at h
      obtain ⟨a1, a2, a3, a4⟩ := h
      rw [List.append_nil] at hs
      subst hs
      have t2 := seqOps_runA (G := G) (F := F) (c := c) (all := all) (rest := []) (d := ⟨done, s, kept⟩) kA a2
      rw [List.append_nil] at t2
      have t1 := satur_runA (G := G) (c := c) (all := all) (R := []) (k := stageEnd F G c all rs (stages F G c all rs f) sealed) (A := A) (d := ⟨done, s, kept⟩) a2
      rw [List.append_nil] at t1
      have hsk := satur_skip2 (G := G) (c := c) (all := all) pre ⟨done, s, kept⟩ a1 A (stageEnd F G c all rs (stages F G c all rs f) sealed)
      rw [e0]
      conv => lhs; rw [show satur G c all rs (stageEnd F G c all rs (stages F G c all rs f) sealed) = satur G c all (pre ++ A) (stageEnd F G c all rs (stages F G c all rs f) sealed) by rw [← hrs]]
      rw [hsk, t1]
      refine Eq.trans ?_ t2.symm
      cases hr : runA G c all A ⟨done, s, kept⟩ with
      | none => rfl
      | some d' =>
        have hd : d'.done = doneOf A done := runA_done hr
        obtain ⟨n1, n2⟩ := runA_new kA a2 hr
        show stageEnd F G c all rs (stages F G c all rs f) sealed d' = some [d'.s]
        unfold stageEnd stageOk
        rw [hd, a3, cond_true, nextEff_over a4, keptOk_good]
        · rfl
        · intro k hkk
          rcases n2 k hkk with h | h
          · exact .inl (hkept k h).1
          · exact .inr (by rw [n1]; exact h)
    | cons e B =>
      simp only at h
      have h := andL_ok h
      simp only [List.mem_cons, List.not_mem_nil, or_false, forall_eq_or_imp, forall_eq] at h
      obtain ⟨a1, a2, a3, a4, a5, a6, a7, a8, a9, a10, a11⟩ := h
      have h1 : Nat.testBit (doneOf A done) e.i = false := by
        rw [bnot_eq] at a6; simpa using a6
      subst hs
      have t2 := seqOps_runA (G := G) (F := F) (c := c) (all := all) (rest := e.o :: B.map (·.o)) (d := ⟨done, s, kept⟩) kA a2
      have t1 := satur_runA (G := G) (c := c) (all := all) (R := e :: B) (k := stageEnd F G c all rs (stages F G c all rs f) sealed) (A := A) (d := ⟨done, s, kept⟩) a2
      have hsk := satur_skip2 (G := G) (c := c) (all := all) pre ⟨done, s, kept⟩ a1 (A ++ e :: B) (stageEnd F G c all rs (stages F G c all rs f) sealed)
      rw [e0]
      conv => lhs; rw [show satur G c all rs (stageEnd F G c all rs (stages F G c all rs f) sealed) = satur G c all (pre ++ (A ++ e :: B)) (stageEnd F G c all rs (stages F G c all rs f) sealed) by rw [← hrs]]
      rw [hsk, t1]
      have e3 : (A ++ e :: B).map (·.o) = A.map (·.o) ++ e.o :: B.map (·.o) := by simp
      rw [e3]
      refine Eq.trans ?_ t2.symm
      cases hr : runA G c all A ⟨done, s, kept⟩ with
      | none => rfl
      | some d' =>
        have hd : d'.done = doneOf A done := runA_done hr
        obtain ⟨n1, n2⟩ := runA_new kA a2 hr
        have n3 := runA_from kA a2 hr
        have hrs' : rs = (pre ++ A) ++ e :: B := by rw [hrs, List.append_assoc]
        show satur G c all (e :: B) (stageEnd F G c all rs (stages F G c all rs f) sealed) d' = seqOps (e.o :: B.map (·.o)) F G c all d'.s
        rw [satur_skip (by rw [hd]; exact a3)]
        have hne : nextEff (doneOf A done) rs = some e := by rw [hrs']; exact nextEff_after a5 h1 a7
        unfold stageEnd stageOk
        rw [hd, a4, cond_true, hne, keptOk_good (fun k hkk => by
          rcases n2 k hkk with h | h
          · exact .inl (hkept k h).1
          · exact .inr (by rw [n1]; exact h)), cond_true]
        show (bif sub e.pre d'.done then (bif othersAfter e d'.done rs then effRun F G c all e d' (stages F G c all rs f e.pre) else none) else none) = _
        rw [hd, a8, a9, cond_true, cond_true, s_ops_cons]
        have tail : ∀ (s' : St), stages F G c all rs f e.pre ⟨Nat.lor d'.done (Nat.pow 2 e.i), s', d'.kept⟩ = seqOps (B.map (·.o)) F G c all s' := fun s' => by
          rw [hd]
          refine ih f _ (pre ++ A ++ [e]) B e.pre s' d'.kept a11 (by rw [hrs']; simp) (fun r hr => hk r (List.mem_append.2 (.inr (List.mem_cons_of_mem _ hr)))) (by omega) fun k hkk => ?_
          have hin : k.r ∈ pre ++ A := by
            rcases n3 k hkk with h | h
            · exact List.mem_append.2 (.inl (hkept k h).2)
            · exact List.mem_append.2 (.inr h)
          exact ⟨sealedL_mem a10 _ hin, List.mem_append.2 (.inl hin)⟩
        unfold effRun runOne
        congr 1
        · have : runKind (kindOf e.o.op) = runE := by
            rw [← hk e (List.mem_append.2 (.inr List.mem_cons_self))]
            cases h : e.kind
            all_goals first | rfl | (rw [h] at a5; simp [isEff] at a5)
          rw [this]
          unfold effDo runE
          congr 1; funext p
          congr 1; funext tm
          rw [forceN_eq]; exact tail _
        · unfold effSkip runSkip
          congr 1; funext tm
          rw [forceN_eq]; exact tail _
noncomputable def multiDraw (all : List Oper) : Bool := match prepGo all 0 .e with
  | none => false
  | some rs => bif allOk all rs rs then multiA rs 20 0 [] rs else false
theorem s_drawX {all : List Oper} (i : Nat) (h : multiDraw all = true) (c : Ctx) (s : St) : cRegion i all.toArray true F G c s = normals (seqOps all F G c all s) := by
  show normals (drawOps F G c all s) = _
  refine congrArg normals ?_
  unfold multiDraw at h
  split at h
  · simp at h
  · rename_i rs hp
    obtain ⟨h1, h2⟩ := band_true h
    obtain ⟨q1, q2⟩ := prepGo_ops hp
    have e2 : drawOps F G c all s = stages F G c all rs 100 0 ⟨0, s, []⟩ := by
      unfold drawOps drawOn
      rw [hp]
      show (bif allOk all rs rs then _ else none) = _
      rw [h1]; rfl
    rw [e2, multi_run c 20 100 0 [] rs 0 s [] h2 rfl q2 (by omega) (fun k hk => by simp at hk), q1]
end
end Go.Sx
