/-
  Scopes, choices of a range, drawn regions; a reading of the arguments as the executor sees it.
-/
import Derived.Test.YtcoigmfhlbngfaaGreatDoorNSxG
import Derived.Test.YtcoigmfhlbngfaaGreatDoorNSxF
set_option linter.unusedSimpArgs false
set_option linter.unusedVariables false
namespace Go.Sx
section
variable {P : Program} {G : Tab} {F : Fns} {c : Ctx} {s : St} {Q : Ex → St → Prop}
theorem Gets.scope {x : Code} (h : Gets P G c x s fun e s' => match e with | .goto _ => False | e => Q e s') : Gets P G c (.scope x) s Q :=
 fun ρ D w tm df b k cs hS hR => by
  obtain ⟨e, s', h1, ρ', D', w', tm', df', g1, g2, g3⟩ := h ρ D w tm df b (.inScope x :: k) cs hS hR
  have first : Steps P (lone (fat b tm df (entry (.scope x) k)) cs w) (lone (fat b tm df (entry x (.inScope x :: k))) cs w) := Steps.head q6G z0D
  cases e with
  | normal => exact ⟨.normal, s', h1, ρ', D', w', tm', df', g1, g2, first.trans (Steps.trans g3 (.one q0A))⟩
  | exit j => exact ⟨_, s', h1, ρ', D', w', tm', df', g1, g2, Arr.of_steps first (Arr.pass (x := .inScope x) (by simp) (fun _ _ => rfl) (fun _ h => by simp at h) g3)⟩
  | ret => exact ⟨_, s', h1, ρ', D', w', tm', df', g1, g2, Arr.of_steps first g3⟩
  | goto l => exact h1.elim
theorem Gets.label (TT : TabOk P G) {l : Nat} (h : Q .normal s) : Gets P G c (.label l) s Q := Gets.last TT (ov := noOv) z3R 0 rfl h
theorem q3J {α β : Type} {f : α → Option (List β)} {g : α → β} : ∀ {l : List α}, (∀ a ∈ l, f a = some [g a]) → q8X f l = some (l.map g)
 | [], _ => rfl
 | a :: l, h => by
  show appO (f a) (q8X f l) = _
  rw [h a List.mem_cons_self, q3J fun a ha => h a (List.mem_cons_of_mem _ ha)]
  rfl
theorem j1a {α β : Type} {f : α → Option (List β)} {g : α → β} {l : List α} (h : ∀ a ∈ l, f a = some [g a]) : z1B (some l) f = some (l.map g) := by
 show q8Y f l = _
 match l, h with
 | [], _ => rfl
 | [a], h => exact h a List.mem_cons_self
 | a :: b :: l, h => exact q3J h
theorem j3T (df : List ADefer) (l : List VH) : outs df (some l) = some (l.map fun p => (p.1, df, p.2)) := by
 match l with
 | [] => rfl
 | [_] => rfl
 | _ :: _ :: _ => rfl
theorem q5s (l : List St) : z1u (some l) = some (l.map fun s => (.normal, s)) := by
 match l with
 | [] => rfl
 | [_] => rfl
 | _ :: _ :: _ => rfl
def j3U (v : AV) : AV :=
 match v with
 | .tuple (v :: _) => v
 | _ => z0A
theorem Gets.next (TT : TabOk P G) {id : Nat} {x d e : Tmp} {t t' : TypeId} {p p' : String} {a a' : Array Edge} {it : Nat} {l : List VH} (hx : s.tm.get x = some (.ptr it 0)) (hd : d < c.size) (he : e < c.size)
  (hn : q4o s.h (.ptr it 0) false = some l) (hl : ∀ p ∈ l, ∃ v vs, p.1 = .tuple (v :: vs) ∧ Q .normal ⟨(s.tm.set d (some p.1)).set e (some v), p.2, s.df⟩) :
  Gets P G c (.region id #[⟨some d, .next (.tmp x) false, t, p, a, none⟩, ⟨some e, .extract (.tmp d) 0, t', p', a', none⟩] false) s Q := by
 refine Gets.runs TT (ov := noOv) z3R 0 ?_
 have e1 : z0p (.region id #[⟨some d, .next (.tmp x) false, t, p, a, none⟩, ⟨some e, .extract (.tmp d) 0, t', p', a', none⟩] false) (fnsO G noOv 0) G c s =
   z1u (z0t [⟨some d, .next (.tmp x) false, t, p, a, none⟩, ⟨some e, .extract (.tmp d) 0, t', p', a', none⟩] (fnsO G noOv 0) G c [⟨some d, .next (.tmp x) false, t, p, a, none⟩, ⟨some e, .extract (.tmp d) 0, t', p', a', none⟩] s) := rfl
 have e2 : opE (.next (.tmp x) false) (fnsO G noOv 0) G c s.tm s.df s.h = some (l.map fun p => (p.1, s.df, p.2)) := by
  show outs s.df (z0b (z3N (s.tm.get x)) fun v => q4o s.h v false) = _
  rw [hx]
  show outs s.df (q4o s.h (.ptr it 0) false) = _
  rw [hn, j3T]
 have e3 : ∀ q ∈ (l.map fun p => (p.1, s.df, p.2)), (fun (p₀ : EOut) => z0J c s.tm (some d) p₀.1 fun tm => z0t [⟨some e, .extract (.tmp d) 0, t', p', a', none⟩] (fnsO G noOv 0) G c [⟨some d, .next (.tmp x) false, t, p, a, none⟩, ⟨some e, .extract (.tmp d) 0, t', p', a', none⟩] ⟨tm, p₀.2.2, p₀.2.1⟩) q =
   some [(fun q : EOut => (⟨(s.tm.set d (some q.1)).set e (some (j3U q.1)), q.2.2, s.df⟩ : St)) q] := by
  intro q hq
  obtain ⟨p₁, hp₁, rfl⟩ := List.mem_map.1 hq
  obtain ⟨v, vs, hv, _⟩ := hl p₁ hp₁
  show z0J c s.tm (some d) p₁.1 _ = _
  rw [z1p, if_pos hd, j7B]
  show q1Z (z0N p₁.2 (z0b (z3N ((s.tm.set d (some p₁.1)).get d)) (extractA 0))) (some e) [] _ G c _ _ = _
  rw [T.get_set_eq, hv]
  show q1Z (z0N p₁.2 (nth (v :: vs) 0)) (some e) [] _ G c _ _ = _
  rw [z2A]
  show q1Z (some (v, p₁.2)) (some e) [] _ G c _ _ = _
  rw [z_N _ _ _ _ _ _ _ he]; rfl
 refine ⟨l.map fun p => (.normal, ⟨(s.tm.set d (some p.1)).set e (some (j3U p.1)), p.2, s.df⟩), ?_, fun q hq => ?_⟩
 ·rw [e1, j7B]
  show z1u (q7Z (opE (.next (.tmp x) false) (fnsO G noOv 0) G c s.tm s.df s.h) (some d) _ _ G c _ s) = _
  rw [e2]
  unfold q7Z
  rw [j1a e3, q5s, List.map_map, List.map_map]; rfl
 ·obtain ⟨p₁, hp₁, rfl⟩ := List.mem_map.1 hq
  obtain ⟨v, vs, hv, hQ⟩ := hl p₁ hp₁
  show Q .normal ⟨(s.tm.set d (some p₁.1)).set e (some (j3U p₁.1)), p₁.2, s.df⟩
  have : j3U p₁.1 = v := by rw [hv]; rfl
  rw [this]; exact hQ
theorem k0v (t : TypeId) (x : Operand) (tm : T AV) (df : List ADefer) (H : Heap) : opE (.range t x) F G c tm df H = out2 df (z0b (aev G tm x) (q8O G H t)) := rfl
theorem k0w (x : Operand) (tm : T AV) (H : Heap) : opN (.entry x) G tm H = z0N H (z0b (aev G tm x) (z8z H)) := rfl
theorem w2f (f : FuncId) (a b : List Operand) (tm : T AV) (H : Heap) : opN (.makeFunc (.func f) a.toArray b.toArray) G tm H = z0N H (z0b (aevs G tm a) fun a => z0b (aevs G tm b) fun b => some (.func (.func f) a b)) := rfl
noncomputable def appR (G : Tab) (H : Heap) (ts : List TypeId) (xs : Option (List AV)) : Option VH := z0b xs fun xs => z3n G H ts xs
theorem k3B (as : List Operand) (ts : List TypeId) (tm : T AV) (df : List ADefer) (H : Heap) :
  opE (.call ⟨.builtin .append, as.toArray, ts.toArray⟩) F G c tm df H = z0b (aevs G tm as) fun args => out2 df (z3n G H ts args) := rfl
theorem k3C (G : Tab) (t : TypeId) (n : Nat) (ps : List (Nat × Operand)) (tm : T AV) (H : Heap) : opN (.buildSlice t n ps.toArray) G tm H = z0b (z2e G tm ps) (z1t G H t n) := rfl
noncomputable def z6I (l : List RO) (done : Nat) : Bool := List.rec (fun _ => true) (fun r _ ih m => bif ready r m then ih (Nat.lor m (Nat.pow 2 r.i)) else false) l done
theorem z6h {r : RO} {A : List RO} {m : Nat} (h : z6I (r :: A) m = true) : ready r m = true ∧ z6I A (Nat.lor m (Nat.pow 2 r.i)) = true := by
 have h : (bif ready r m then z6I A (Nat.lor m (Nat.pow 2 r.i)) else false) = true := h
 cases hr : ready r m
 ·rw [hr] at h; simp at h
 ·rw [hr] at h; exact ⟨rfl, h⟩
theorem q0Q {c : Ctx} {all : List Oper} {R : List RO} {k : DK} : ∀ {A : List RO} {d : DS}, z6I A d.done = true → z0O G c all (A ++ R) k d = z0b (runA G c all A d) (z0O G c all R k)
 | [], d, _ => rfl
 | r :: A, d, h => by
  obtain ⟨h1, h2⟩ := z6h h
  rw [z3v, z1x]
  show z4U G c all r (z0O G c all (A ++ R)) k d = _
  have hc : ∀ d', z2V G c all r d = some d' → z0O G c all (A ++ R) k d' = z0b (runA G c all A d') (z0O G c all R k) := fun d' hd' => q0Q (by rw [z5D hd']; exact h2)
  have : z0b (z2V G c all r d) (z0O G c all (A ++ R) k) = z0b (z2V G c all r d) fun d' => z0b (runA G c all A d') (z0O G c all R k) := by
   cases hs : z2V G c all r d with
   | none => rfl
   | some d' => exact hc d' hs
  rw [← this]
  unfold z4U z2V
  rw [h1, cond_true, z5i, ← z7n, ← z5j]
theorem z9B {c : Ctx} {all : List Oper} {rest : List Oper} : ∀ {A : List RO} {d : DS} {m : Nat}, z1f A → z6I A m = true → z0t (A.map (·.o) ++ rest) F G c all d.s = z0b (runA G c all A d) fun d' => z0t rest F G c all d'.s
 | [], _, _, _, _ => rfl
 | r :: A, d, m, hk, h => by
  obtain ⟨h1, h3⟩ := z6h h
  rw [List.map_cons, List.cons_append, z9v (hk r List.mem_cons_self) (z5k h1), z3v, z1x]
  congr 1; funext e
  exact z9B (fun r hr => hk r (List.mem_cons_of_mem _ hr)) h3
theorem z9C {done : Nat} {e : RO} {B : List RO} : ∀ {A : List RO} {m : Nat}, z6I A m = true → z0K e.kind = true → Nat.testBit done e.i = false → z0v done (A ++ e :: B) = some e
 | [], _, _, he, hb => by
  show (bif z0K e.kind then (bif Nat.testBit done e.i then z0v done B else some e) else z0v done B) = some e
  rw [he, hb]; rfl
 | r :: A, m, h, he, hb => by
  obtain ⟨h1, h3⟩ := z6h h
  show (bif z0K r.kind then (bif Nat.testBit done r.i then z0v done (A ++ e :: B) else some r) else z0v done (A ++ e :: B)) = some e
  rw [z5k h1]; exact z9C h3 he hb
end
end Go.Sx
namespace Go.Sx
section
variable {P : Program} {G : Tab} {F : Fns}
def z8a (H H' : Heap) : Prop := ∀ b o, H.blks.get b = some o → H'.blks.get b = some o
theorem q5t {H H' : Heap} (hm : z8a H H') {b off : Nat} {v : AV} (h : cellIn (H.blks.get b) off = some v) : cellIn (H'.blks.get b) off = some v := by
 cases ho : H.blks.get b with
 | none => rw [ho] at h; simp [cellIn] at h
 | some o => rw [hm b o ho]; rw [ho] at h; exact h
theorem z5V {H H' : Heap} (hm : z8a H H') {b off k : Nat} {l : List AV} (h : z0o H b off k = some l) : z0o H' b off k = some l := by
 rw [z9u] at h ⊢
 cases hk : Nat.beq k 0
 ·rw [hk, cond_false] at h
  rw [cond_false]
  cases ho : H.blks.get b with
  | none => rw [ho] at h; simp [z2o] at h
  | some o => rw [hm b o ho]; rw [ho] at h; exact h
 ·rw [hk, cond_true] at h; rw [cond_true]; exact h
theorem q3K {H H' : Heap} (hm : z8a H H') {t : TypeId} {b off : Nat} {v : AV} (h : z2p G H t b off = some v) : z2p G H' t b off = some v := by
 unfold z2p at h ⊢
 split at h
 ·simp at h
 ·rename_i e
  obtain ⟨s, hs, h⟩ := z0a h
  rw [hs]
  show aggO (z0o H' b off s) = _
  cases hl : z0o H b off s with
  | none => rw [hl] at h; simp [aggO] at h
  | some l => rw [z5V hm hl]; rw [hl] at h; exact h
 ·exact q5t hm h
theorem q0R {H H' : Heap} (hm : z8a H H') {x : AV} {l : List AEntry} (h : q7i H x = some l) : q7i H' x = some l := by
 cases x
 case map r =>
  obtain ⟨p, hp, h⟩ := z0a h
  have hb : ∃ o, H.blks.get r = some o := by
   cases ho : H.blks.get r with
   | none => rw [ho] at hp; simp [z5J] at hp
   | some o => exact ⟨o, rfl⟩
  obtain ⟨o, ho⟩ := hb
  show z0b (z5J (H'.blks.get r)) (fun p => some p.1) = _
  rw [hm r o ho, ← ho, hp]; exact h
 all_goals exact h
theorem z0q {α β : Type} {o o' : Option α} {f g : α → Option β} {v : β} (ho : ∀ a, o = some a → o' = some a) (hf : ∀ a v, f a = some v → g a = some v) (h : z0b o f = some v) : z0b o' g = some v := by
 obtain ⟨a, ha, h⟩ := z0a h
 rw [ho a ha]; exact hf a v h
theorem q8h {H H' : Heap} (hm : z8a H H') {x v : AV} (h : z8z H x = some v) : z8z H' x = some v := by
 unfold z8z at h ⊢
 split at h
 ·rename_i it
  cases ho : H.blks.get it with
  | none => rw [ho] at h; simp [z6W] at h
  | some o =>
   rw [hm it o ho]
   rw [ho] at h
   cases o
   case mapIter m s l p =>
    cases m with
    | none => simp [z6W] at h
    | some m =>
     simp only [z6W] at h ⊢
     refine z0q (fun a h => h) (fun a v h => ?_) h
     refine z0q (fun a h => ?_) (fun a v h => h) h
     cases hq : H.blks.get m with
     | none => rw [hq] at h; simp [z5J] at h
     | some o => rw [hm m o hq]; rw [hq] at h; exact h
   all_goals simp [z6W] at h
 ·simp at h
theorem j1b {H H' : Heap} (hm : z8a H H') {t : TypeId} {x v : AV} (h : lenA G H t x = some v) : lenA G H' t x = some v := by
 unfold lenA at h ⊢
 refine z0q (fun a h => h) (fun d v h => ?_) h
 unfold lenD at h ⊢
 split at h
 all_goals first
  | exact z0q (fun a h => q0R hm h) (fun a v h => h) h
  | exact h
theorem z1Q {H H' : Heap} {o o' : Option AV} {p : VH} (ho : ∀ v, o = some v → o' = some v) (h : z0N H o = some p) : z0N H' o' = some (p.1, H') := by
 have h1 := z0k (v := p.1) (H' := p.2) h
 rw [ho _ h1.1]; rfl
theorem q3L {H H' : Heap} (hm : z8a H H') {e : TypeId} {b kn : Nat} (h : z3m e (H.blks.get b) = some kn) : z3m e (H'.blks.get b) = some kn := by
 cases ho : H.blks.get b with
 | none => rw [ho] at h; simp [z3m] at h
 | some o => rw [ho] at h; rw [hm b o ho]; exact h
theorem q5u {H H' : Heap} (hm : z8a H H') {q : Bool} {t : TypeId} {x v : AV} {lo hi mx : Option AV} (h : z7y G H q t x lo hi mx = some v) : z7y G H' q t x lo hi mx = some v := by
 unfold z7y at h ⊢
 split at h
 ·cases hs : q6f G t x lo hi none with
  | some y => rw [hs] at h; exact h
  | none =>
   rw [hs] at h
   show q2I G H' t x lo hi = some v
   have h : q2I G H t x lo hi = some v := h
   unfold q2I at h ⊢
   refine z0q (fun a h => h) (fun d v h => ?_) h
   unfold q4s at h ⊢
   split at h
   ·refine z0q (fun a h => h) (fun z v h => ?_) h
    exact z0q (fun a h => q3L hm h) (fun kn v h => h) h
   ·simp at h
 ·exact h
theorem z3S {H H' : Heap} (hm : z8a H H') {x v : AV} {d : TypeDesc} (h : fstO (z1Z H x d) = some v) : fstO (z1Z H' x d) = some v := by
 have h1 := z2O h
 unfold z1Z at h1 ⊢
 obtain ⟨hu, h1⟩ := z0c h1
 rw [hu, cond_true]
 split at h1
 ·obtain ⟨cs, hcs, h1⟩ := z0a h1
  obtain ⟨l, hl, h1⟩ := z0a h1
  simp only [Option.some.injEq, Prod.mk.injEq] at h1
  obtain ⟨rfl, _⟩ := h1
  show fstO (z0b (z0o H' _ _ _) _) = _
  rw [z5V hm hcs]
  show fstO (strO H' (z8D cs)) = _
  rw [hl]; rfl
 ·simp only [Option.some.injEq, Prod.mk.injEq] at h1
  obtain ⟨rfl, _⟩ := h1; rfl
 ·simp only [Option.some.injEq, Prod.mk.injEq] at h1
  obtain ⟨rfl, _⟩ := h1; rfl
 ·simp at h1
theorem q3M {H H' : Heap} (hm : z8a H H') {a b : TypeId} {x v : AV} (h : z8I G H a b x = some v) : z8I G H' a b x = some v := by
 unfold z8I at h ⊢
 refine z0q (fun a h => h) (fun su v h => ?_) h
 refine z0q (fun a h => h) (fun du v h => ?_) h
 unfold j6R at h ⊢
 split at h
 ·exact h
 ·exact z0q (fun a h => h) (fun d v h => z3S hm h) h
 ·exact z0q (fun a h => h) (fun d v h => z3S hm h) h
 ·exact z0q (fun a h => h) (fun d v h => z3S hm h) h
 ·simp at h
theorem j3V {H H' : Heap} (hm : z8a H H') {op : Op} (hk : z0I (kindOf op) = false) {tm : T AV} {p : VH} (h : opN op G tm H = some p) : opN op G tm H' = some (p.1, H') := by
 cases op
 case makeInterface t x =>
  obtain ⟨d, hd, h⟩ := z0a h
  obtain ⟨hn, h⟩ := z0c h
  show z0b (G.und t) (fun d => bif z4t d then z0N H' (z0b (aev G tm x) fun v => some (.iface t v)) else none) = _
  rw [hd]
  show (bif z4t d then z0N H' (z0b (aev G tm x) fun v => some (.iface t v)) else none) = _
  rw [hn]
  exact z1Q (fun v h => h) h
 case makeFunc fn a b =>
  obtain ⟨hp, h⟩ := z0c h
  show (bif z8E fn then z0N H' _ else none) = _
  rw [hp]
  exact z1Q (fun v h => h) h
 case load t x =>
  refine z1Q (fun v h => ?_) h
  refine z0q (fun a h => h) (fun a v h => ?_) h
  cases a
  case ptr b off => exact q3K hm h
  all_goals exact h
 case lookup t x k ok =>
  refine z1Q (fun v h => ?_) h
  refine z0q (fun a h => h) (fun a v h => ?_) h
  refine z0q (fun a h => h) (fun j v h => ?_) h
  unfold z8x at h ⊢
  refine z0q (fun a h => h) (fun kt v h => ?_) h
  exact z0q (fun l h => q0R hm h) (fun a v h => h) h
 case slice t x lo hi mx =>
  refine z1Q (fun v h => ?_) h
  refine z0q (fun a h => h) (fun a v h => ?_) h
  refine z0q (fun a h => h) (fun a1 v h => ?_) h
  refine z0q (fun a h => h) (fun a2 v h => ?_) h
  refine z0q (fun a h => h) (fun a3 v h => ?_) h
  exact q5u hm h
 case convert a b x =>
  refine z1Q (fun v h => ?_) h
  exact z0q (fun a h => h) (fun a v h => q3M hm h) h
 case entry x =>
  refine z1Q (fun v h => ?_) h
  exact z0q (fun a h => h) (fun a v h => q8h hm h) h
 case call cl =>
  refine z1Q (fun v h => ?_) h
  refine z0q (fun a h => h) (fun b v h => ?_) h
  refine z0q (fun a h => h) (fun xs v h => ?_) h
  unfold z4u at h ⊢
  split at h
  ·exact h
  ·cases hl : cl.argTypes.toList with
   | nil => simp only [hl, fst1] at h; simp at h
   | cons t ts =>
    cases xs with
    | nil => simp only [hl, fst1] at h; simp at h
    | cons x xs =>
     simp only [hl, fst1] at h ⊢
     exact j1b hm h
  all_goals exact h
 all_goals first
  | exact z1Q (fun v h => h) h
  | (exfalso; simp [kindOf, z0I] at hk; done)
  | (exfalso; have h : (none : Option VH) = some p := h; simp at h)
theorem j3W {H : Heap} {e : TypeId} {x : Bool} {l : List AV} {mk : Nat → AV} {p : VH} (h : z2q H e x l (fun b H => some (mk b, H)) = some p) :
  p = (mk H.next, H.push (.cells e x l)) ∧ ∀ H' : Heap, H'.next = H.next → z2q H' e x l (fun b H => some (mk b, H)) = some (mk H.next, H'.push (.cells e x l)) := by
 rw [z1L] at h
 cases ha : z0V l
 ·rw [ha] at h; simp at h
 ·rw [ha] at h
  have h : some (mk H.next, H.push (.cells e x l)) = some p := h
  simp only [Option.some.injEq] at h
  refine ⟨h.symm, fun H' hn => ?_⟩
  rw [z1L, ha, hn]; rfl
def Mints (H : Heap) (p : VH) (f : Heap → Option VH) : Prop := ∃ o, p.2 = H.push o ∧ ABlk.beq o o = true ∧ z0H p.1 = some H.next ∧ ∀ H' : Heap, H'.next = H.next → f H' = some (p.1, H'.push o)
theorem z5l {α : Type} {f : α → α → Bool} (hf : ∀ a, f a a = true) : ∀ l, z1X f l l = true
 | [] => rfl
 | a :: l => by
  show (bif f a a then z1X f l l else false) = true
  rw [hf, z5l hf l]; rfl
theorem j1c (e : TypeId) (x : Bool) (l : List AV) : ABlk.beq (.cells e x l) (.cells e x l) = true := by
 show (bif Nat.beq e e then (bif bbeq x x then z1X AV.beq l l else false) else false) = true
 rw [Nat.beq_refl, z5l AV.beq_refl']; cases x <;> rfl
theorem j7S (e : TypeId) (n : Nat) (z : List AV) : ABlk.beq (.big e n z) (.big e n z) = true := by
 show (bif Nat.beq e e then (bif Nat.beq n n then z1X AV.beq z z else false) else false) = true
 rw [Nat.beq_refl, Nat.beq_refl, z5l AV.beq_refl']; rfl
theorem Mints.row {H : Heap} {e : TypeId} {x : Bool} {l : List AV} {mk : Nat → AV} {p : VH} (hm : ∀ b, z0H (mk b) = some b) (h : z2q H e x l (fun b H => some (mk b, H)) = some p) :
  Mints H p fun H => z2q H e x l (fun b H => some (mk b, H)) := by
 obtain ⟨rfl, h2⟩ := j3W h
 exact ⟨_, rfl, j1c _ _ _, hm _, h2⟩
theorem Mints.bind {α : Type} {H : Heap} {p : VH} {o : Option α} {f : Heap → α → Option VH} (h : z0b o (f H) = some p) (hf : ∀ a, o = some a → f H a = some p → Mints H p fun H => f H a) : Mints H p fun H => z0b o (f H) := by
 obtain ⟨a, ha, h⟩ := z0a h
 obtain ⟨o', h1, h2, h3, h4⟩ := hf a ha h
 refine ⟨o', h1, h2, h3, fun H' hn => ?_⟩
 show z0b o (f H') = _
 rw [ha]; exact h4 H' hn
theorem Mints.cond {H : Heap} {p : VH} {b : Bool} {f : Heap → Option VH} (h : (bif b then f H else none) = some p) (hf : f H = some p → Mints H p f) : Mints H p fun H => bif b then f H else none := by
 cases b
 ·simp at h
 ·exact hf h
theorem z7S {H : Heap} {p : VH} (h : z2y H = some p) : Mints H p z2y := by
 have e : ∀ H, z2y H = some (.map H.next, H.push (.map [] 0)) := fun H => by unfold z2y; rw [z1Y]
 rw [e] at h
 simp only [Option.some.injEq] at h; subst h
 exact ⟨_, rfl, rfl, rfl, fun H' hn => (e H').trans (by rw [hn])⟩
theorem q3N {H : Heap} {op : Op} (hk : z0I (kindOf op) = true) {tm : T AV} {p : VH} (h : opN op G tm H = some p) : Mints H p fun H => opN op G tm H := by
 cases op
 case alloc t =>
  exact Mints.bind h fun z _ h => Mints.row (mk := fun b => .ptr b 0) (fun _ => rfl) h
 case box t x =>
  exact Mints.bind h fun z _ h => Mints.row (mk := fun b => .ptr b 0) (fun _ => rfl) h
 case buildSlice t n ps =>
  refine Mints.bind h fun parts _ h => ?_
  refine Mints.bind h fun e _ h => ?_
  refine Mints.bind h fun z _ h => ?_
  refine Mints.bind h fun zero _ h => ?_
  refine Mints.cond h fun h => ?_
  refine Mints.cond h fun h => ?_
  exact Mints.bind h fun l _ h => Mints.row (mk := fun b => .slice b 0 n false n) (fun _ => rfl) h
 case makeMap t r =>
  cases r with
  | none => exact z7S h
  | some x =>
   refine Mints.bind (f := fun H v => bif z4R G t v then z2y H else none) h fun v _ h => ?_
   exact Mints.cond h fun h => z7S h
 case makeSlice t l c =>
  refine Mints.bind (f := fun H a => z0b (aev G tm c) fun b => z0R G H t a b) h fun a _ h => ?_
  refine Mints.bind (f := fun H b => z0R G H t a b) h fun b _ h => ?_
  unfold z0R at h ⊢
  split at h
  ·rename_i n m _ _ _
   refine Mints.bind h fun e _ h => ?_
   refine Mints.bind h fun i _ h => ?_
   refine Mints.bind h fun zero _ h => ?_
   refine Mints.cond h fun h => ?_
   refine Mints.cond h fun h => ?_
   refine Mints.cond h fun h => ?_
   cases hb : Nat.ble (m * i.size) 1000
   ·simp only [hb, cond_false] at h ⊢
    have e : ∀ H, z5N H e n m (m * i.size) zero.cells = some (.slice H.next 0 n false m, H.push (.big e (m * i.size) zero.cells)) := fun H => by unfold z5N; rw [z0h, z1n, z1Y]
    rw [e] at h
    simp only [Option.some.injEq] at h; subst h
    exact ⟨_, rfl, j7S _ _ _, rfl, fun H' hn => (e H').trans (by rw [hn])⟩
   ·simp only [hb, cond_true] at h ⊢
    exact Mints.row (mk := fun b => .slice b 0 n false m) (fun _ => rfl) h
  ·simp at h
 all_goals (exfalso; revert hk; simp [kindOf, z0I])
 case call cl => cases cl.callee <;> simp [kindC]; rename_i b; cases b <;> simp [kindB]
 case slice t x lo hi mx => cases twoB lo hi <;> simp
def GoodM (G : Tab) (H : Heap) (k : Kept) : Prop :=
 (z0I k.r.kind = false ∧ opN k.r.o.op G k.tm H = some (k.v, H)) ∨
 (z0I k.r.kind = true ∧ ∃ b o, z0H k.v = some b ∧ H.blks.get b = some o ∧ ABlk.beq o o = true ∧ ∀ H' : Heap, H'.next = b → opN k.r.o.op G k.tm H' = some (k.v, H'.push o))
theorem GoodM.push {H : Heap} (hN : Neat H) {k : Kept} (hk : k.r.kind = kindOf k.r.o.op) (h : GoodM G H k) (o : ABlk) : GoodM G (H.push o) k := by
 have hm : z8a H (H.push o) := fun b o' hb => by rw [z0Q _ _ (Nat.ne_of_lt (hN b o' hb))]; exact hb
 rcases h with ⟨h1, h2⟩ | ⟨h1, b, o', h2, h3, h4, h5⟩
 ·exact .inl ⟨h1, j3V hm (by rw [← hk]; exact h1) h2⟩
 ·exact .inr ⟨h1, b, o', h2, hm b o' h3, h4, h5⟩
theorem GoodM.now {H : Heap} {k : Kept} (h : GoodM G H k) : z3O G H k = true := by
 unfold z3O
 rcases h with ⟨h1, h2⟩ | ⟨h1, b, o, h2, h3, h4, h5⟩
 ·rw [h1, cond_false, h2]; exact AV.beq_refl' _
 ·rw [h1, cond_true, h2]
  show z8f k.v H b (opN k.r.o.op G k.tm ⟨b, .e⟩) = true
  rw [h5 ⟨b, .e⟩ rfl]
  show (bif AV.beq k.v k.v then j6U ((Heap.push ⟨b, .e⟩ o).blks.get b) (H.blks.get b) else false) = true
  rw [AV.beq_refl', cond_true, h3]
  have : (Heap.push ⟨b, .e⟩ o).blks.get b = some o := z0L ⟨b, .e⟩ o
  rw [this]; exact h4
theorem q8i {c : Ctx} {all : List Oper} {r : RO} {d d' : DS} (hk : r.kind = kindOf r.o.op) (h : z2V G c all r d = some d') (hN : Neat d.s.h) (hg : ∀ k ∈ d.kept, k.r.kind = kindOf k.r.o.op ∧ GoodM G d.s.h k) :
  Neat d'.s.h ∧ (∀ k ∈ d'.kept, k.r.kind = kindOf k.r.o.op ∧ GoodM G d'.s.h k) ∧ ∀ k ∈ d'.kept, k ∈ d.kept ∨ k.r = r := by
 unfold z2V at h
 cases hw : z0s all r.o.guard d.s.tm
 ·rw [hw, cond_false] at h
  obtain ⟨_, h⟩ := z0m h
  simp only [Option.some.injEq] at h; subst h; exact ⟨hN, hg, fun k hk => .inl hk⟩
 ·rw [hw, cond_true] at h
  obtain ⟨p, hp, h⟩ := z0a h
  obtain ⟨_, h⟩ := z0m h
  simp only [Option.some.injEq] at h; subst h
  have hin : ∀ k ∈ z2z r d.s.tm p.1 d.kept, k ∈ d.kept ∨ k = ⟨r, d.s.tm, p.1⟩ := by
   intro k hkk
   unfold z2z at hkk
   split at hkk
   ·exact .inl hkk
   ·rcases List.mem_cons.1 hkk with h | h
    ·exact .inr h
    ·exact .inl h
  cases ha : z0I r.kind
  ·have e := z8l (by rw [← hk]; exact ha) hp
   simp only [e]
   refine ⟨hN, fun k hkk => ?_, fun k hkk => ?_⟩
   ·rcases hin k hkk with h | h
    ·exact hg k h
    ·subst h; exact ⟨hk, .inl ⟨ha, by show opN r.o.op G d.s.tm d.s.h = _; rw [hp, ← e]⟩⟩
   ·rcases hin k hkk with h | h
    ·exact .inl h
    ·subst h; exact .inr rfl
  ·obtain ⟨o, m1, m2, m3, m4⟩ := q3N (by rw [← hk]; exact ha) hp
   simp only [m1]
   refine ⟨hN.push _, fun k hkk => ?_, fun k hkk => ?_⟩
   ·rcases hin k hkk with h | h
    ·exact ⟨(hg k h).1, (hg k h).2.push hN (hg k h).1 o⟩
    ·subst h
     exact ⟨hk, .inr ⟨ha, d.s.h.next, o, m3, z0L _ _, m2, m4⟩⟩
   ·rcases hin k hkk with h | h
    ·exact .inl h
    ·subst h; exact .inr rfl
theorem q3O {c : Ctx} {all : List Oper} : ∀ {A : List RO} {d d' : DS}, z1f A → runA G c all A d = some d' → Neat d.s.h → (∀ k ∈ d.kept, k.r.kind = kindOf k.r.o.op ∧ GoodM G d.s.h k) →
  (∀ k ∈ d'.kept, k.r.kind = kindOf k.r.o.op ∧ GoodM G d'.s.h k) ∧ ∀ k ∈ d'.kept, k ∈ d.kept ∨ k.r ∈ A
 | [], d, d', _, h, hN, hg => by have h : some d = some d' := h; simp only [Option.some.injEq] at h; subst h; exact ⟨hg, fun k hk => .inl hk⟩
 | r :: A, d, d', hk, h, hN, hg => by
  obtain ⟨e, g1, g2⟩ := z0a h
  obtain ⟨a1, a2, a3⟩ := q8i (hk r List.mem_cons_self) g1 hN hg
  obtain ⟨b1, b2⟩ := q3O (fun r hr => hk r (List.mem_cons_of_mem _ hr)) g2 a1 a2
  refine ⟨b1, fun k hkk => ?_⟩
  rcases b2 k hkk with h | h
  ·rcases a3 k h with h | h
   ·exact .inl h
   ·exact .inr (by rw [h]; exact List.mem_cons_self)
  ·exact .inr (List.mem_cons_of_mem _ h)
theorem z5m {H : Heap} {m : Nat} : ∀ {l : List Kept}, (∀ k ∈ l, Nat.testBit m k.r.i = true ∨ GoodM G H k) → z6o G H m l = true
 | [], _ => rfl
 | k :: l, h => by
  show (bif (bif Nat.testBit m k.r.i then true else z3O G H k) then z6o G H m l else false) = true
  rw [z5m fun k hk => h k (List.mem_cons_of_mem _ hk)]
  rcases h k List.mem_cons_self with h | h
  ·rw [h]; rfl
  ·rw [h.now]; cases Nat.testBit m k.r.i <;> rfl
theorem j1d {all : List Oper} {A B : List RO} {e : RO} (hp : z2R all 0 .e = some (A ++ e :: B)) (ho : z3c all (A ++ e :: B) (A ++ e :: B) = true) (hc : z6I A 0 = true) (hee : z0K e.kind = true)
  (h1 : Nat.testBit (z0d A 0) e.i = false) (h2 : z0e (z0d A 0) (e :: B) = true) (h3 : z0e (z0d A 0) (A ++ e :: B) = true) (h4 : sub e.pre (z0d A 0) = true)
  (h5 : z0l e (z0d A 0) (A ++ e :: B) = true) (h6 : z1F e.pre A = true) (h7 : z0e (Nat.lor (z0d A 0) (Nat.pow 2 e.i)) (A ++ [e]) = true) (h8 : z1b B (Nat.lor (z0d A 0) (Nat.pow 2 e.i)) = true)
  (h10 : z0e (z0d B (Nat.lor (z0d A 0) (Nat.pow 2 e.i))) (A ++ e :: B) = true) (h11 : z3w (z0d B (Nat.lor (z0d A 0) (Nat.pow 2 e.i))) (A ++ e :: B) = true)
  (c : Ctx) (s : St) (hN : Neat s.h) : z1E F G c all s = z0t all F G c all s := by
 obtain ⟨q1, q2⟩ := z2L hp
 have kA : z1f A := fun r hr => q2 r (List.mem_append.2 (.inl hr))
 have kB : z1f B := fun r hr => q2 r (List.mem_append.2 (.inr (List.mem_cons_of_mem _ hr)))
 have e1 : z0t all F G c all s = z0b (runA G c all A ⟨0, s, []⟩) fun d' => z0t (e.o :: B.map (·.o)) F G c all d'.s := by
  have := z9B (G := G) (F := F) (c := c) (all := all) (rest := e.o :: B.map (·.o)) (d := ⟨0, s, []⟩) kA hc
  rw [← this, ← q1]; simp
 have e2 : z1E F G c all s = z0O G c all (A ++ e :: B) (z0n F G c all (A ++ e :: B) (z0u F G c all (A ++ e :: B) 99) 0) ⟨0, s, []⟩ := by
  unfold z1E z7A
  rw [hp]
  show (bif z3c all (A ++ e :: B) (A ++ e :: B) then _ else none) = _
  rw [ho]; rfl
 rw [e1, e2, q0Q hc]
 cases hr : runA G c all A ⟨0, s, []⟩ with
 | none => rfl
 | some d =>
  have hd : d.done = z0d A 0 := z2c hr
  obtain ⟨g2, g3⟩ := q3O kA hr hN (fun k hk => by simp at hk)
  show z0O G c all (e :: B) (z0n F G c all (A ++ e :: B) (z0u F G c all (A ++ e :: B) 99) 0) d = z0t (e.o :: B.map (·.o)) F G c all d.s
  rw [z5E (by rw [hd]; exact h2)]
  have tail : ∀ (s' : St), z0u F G c all (A ++ e :: B) 99 e.pre ⟨Nat.lor d.done (Nat.pow 2 e.i), s', d.kept⟩ = z0t (B.map (·.o)) F G c all s' := by
   intro s'
   have t1 := z2J (G := G) (c := c) (all := all) (R := []) (k := z0n F G c all (A ++ e :: B) (z0u F G c all (A ++ e :: B) 98) e.pre) (A := B) (d := ⟨Nat.lor d.done (Nat.pow 2 e.i), s', d.kept⟩) (by rw [hd]; exact h8)
   have t2 := z2i (G := G) (F := F) (c := c) (all := all) (rest := []) (d := ⟨Nat.lor d.done (Nat.pow 2 e.i), s', d.kept⟩) kB h8
   rw [List.append_nil] at t1 t2
   have t3 : z0u F G c all (A ++ e :: B) 99 e.pre ⟨Nat.lor d.done (Nat.pow 2 e.i), s', d.kept⟩ = z0O G c all B (z0n F G c all (A ++ e :: B) (z0u F G c all (A ++ e :: B) 98) e.pre) ⟨Nat.lor d.done (Nat.pow 2 e.i), s', d.kept⟩ := by
    show z0O G c all (A ++ e :: B) _ _ = _
    have : ∀ (X : List RO) (d₀ : DS), z0e d₀.done X = true → ∀ (R : List RO) (k : DK), z0O G c all (X ++ R) k d₀ = z0O G c all R k d₀ := by
     intro X
     induction X with
     | nil => intro _ _ _ _; rfl
     | cons x X ih =>
      intro d₀ h R k
      have h : (bif ready x d₀.done then false else z0e d₀.done X) = true := h
      cases hx : ready x d₀.done
      ·rw [hx, cond_false] at h
       show (bif ready x d₀.done then _ else z0O G c all (X ++ R) k d₀) = _
       rw [hx, cond_false]; exact ih d₀ h R k
      ·rw [hx] at h; simp at h
    have r := this (A ++ [e]) ⟨Nat.lor d.done (Nat.pow 2 e.i), s', d.kept⟩ (by show z0e (Nat.lor d.done _) _ = true; rw [hd]; exact h7) B
    rw [List.append_assoc] at r
    exact r _
   rw [t3, t1]
   refine Eq.trans ?_ t2.symm
   cases hb : runA G c all B ⟨Nat.lor d.done (Nat.pow 2 e.i), s', d.kept⟩ with
   | none => rfl
   | some d' =>
    have hd' : d'.done = z0d B (Nat.lor (z0d A 0) (Nat.pow 2 e.i)) := by rw [z2c hb, hd]
    obtain ⟨n1, n2⟩ := z4D kB h8 hb
    show z0n F G c all (A ++ e :: B) (z0u F G c all (A ++ e :: B) 98) e.pre d' = some [d'.s]
    unfold z0n z2s
    rw [hd', h10, cond_true, z7o h11, z1y]
    ·rfl
    ·intro k hk
     rcases n2 k hk with hk | hk
     case inr => exact .inr (by rw [n1]; exact hk)
     refine .inl ?_
     rcases g3 k hk with h | h
     ·simp at h
     ·have : ∀ {A : List RO}, z1F e.pre A = true → ∀ r ∈ A, Nat.testBit e.pre r.i = true := by
       intro A
       induction A with
       | nil => intro _ r hr; simp at hr
       | cons x A ih =>
        intro h r hr
        have h : (bif Nat.testBit e.pre x.i then z1F e.pre A else false) = true := h
        cases hx : Nat.testBit e.pre x.i
        ·rw [hx] at h; simp at h
        ·rw [hx] at h
         rcases List.mem_cons.1 hr with rfl | hr
         ·exact hx
         ·exact ih h r hr
      exact this h6 _ h
  unfold z0n z2s
  rw [hd, h3, cond_true, z5m (fun k hk => .inr (g2 k hk).2), cond_true, z9C hc hee h1]
  show (bif sub e.pre d.done then (bif z0l e d.done (A ++ e :: B) then z2l F G c all e d (z0u F G c all (A ++ e :: B) 99 e.pre) else none) else none) = _
  rw [hd, h4, h5, cond_true, cond_true]
  rw [z5B]
  unfold z2l z3A
  congr 1
  ·have : z2B (kindOf e.o.op) = runE := by
    rw [← q2 e (List.mem_append.2 (.inr List.mem_cons_self))]
    cases h : e.kind
    all_goals first | rfl | (rw [h] at hee; simp [z0K] at hee)
   rw [this]
   unfold q1p runE
   congr 1; funext p
   congr 1; funext tm
   rw [z0h]; exact tail _
  ·unfold z4w z4S
   congr 1; funext tm
   rw [z0h]; exact tail _
noncomputable def k0x (all : List Oper) (rs : List RO) (p : List RO × List RO) : Bool :=
 match p.2 with
 | [] => false
 | e :: B => andL [z3c all rs rs, z6I p.1 0, z0K e.kind, bnot (Nat.testBit (z0d p.1 0) e.i), z0e (z0d p.1 0) (e :: B), z0e (z0d p.1 0) rs, sub e.pre (z0d p.1 0), z0l e (z0d p.1 0) rs, z1F e.pre p.1,
   z0e (Nat.lor (z0d p.1 0) (Nat.pow 2 e.i)) (p.1 ++ [e]), z1b B (Nat.lor (z0d p.1 0) (Nat.pow 2 e.i)), z0e (z0d B (Nat.lor (z0d p.1 0) (Nat.pow 2 e.i))) rs, z3w (z0d B (Nat.lor (z0d p.1 0) (Nat.pow 2 e.i))) rs]
noncomputable def z6J (all : List Oper) : Bool := match z7Y all with
 | none => false
 | some rs => k0x all rs (z1q rs)
theorem k3D {all : List Oper} (i : Nat) (h : z6J all = true) (c : Ctx) (s : St) (hN : Neat s.h) : z2C i all.toArray true F G c s = z1u (z0t all F G c all s) := by
 have hcv : z5K all = false := by
  cases hc : z5K all
  ·rfl
  ·exfalso; unfold z6J z7Y at h; rw [hc] at h; simp at h
 rw [z6H hcv]
 refine congrArg z1u ?_
 unfold z6J at h
 split at h
 ·simp at h
 ·rename_i rs hp
  obtain ⟨_, hp⟩ := z4l hp
  have hs := q2b rs
  generalize z1q rs = p at h hs
  obtain ⟨A, R⟩ := p
  simp only at hs
  subst hs
  cases R with
  | nil => simp [k0x] at h
  | cons e B =>
   have h := z2Y (show andL [z3c all (A ++ e :: B) (A ++ e :: B), z6I A 0, z0K e.kind, bnot (Nat.testBit (z0d A 0) e.i), z0e (z0d A 0) (e :: B), z0e (z0d A 0) (A ++ e :: B), sub e.pre (z0d A 0),
    z0l e (z0d A 0) (A ++ e :: B), z1F e.pre A, z0e (Nat.lor (z0d A 0) (Nat.pow 2 e.i)) (A ++ [e]), z1b B (Nat.lor (z0d A 0) (Nat.pow 2 e.i)),
    z0e (z0d B (Nat.lor (z0d A 0) (Nat.pow 2 e.i))) (A ++ e :: B), z3w (z0d B (Nat.lor (z0d A 0) (Nat.pow 2 e.i))) (A ++ e :: B)] = true from h)
   simp only [List.mem_cons, List.not_mem_nil, or_false, forall_eq_or_imp, forall_eq] at h
   obtain ⟨a1, a2, a3, a4, a5, a6, a7, a8, a9, a10, a11, a13, a14⟩ := h
   have h1 : Nat.testBit (z0d A 0) e.i = false := by
    rw [z3p] at a4; simpa using a4
   exact j1d hp a1 a2 a3 h1 a5 a6 a7 a8 a9 a10 a11 a13 a14 c s hN
end
end Go.Sx
namespace Go.Sx
theorem q5v (k : IntKind) (n : Int) : AV.cells (.int k n) = [.int k n] := rfl
theorem q3P (b : Bool) : AV.cells (.bool b) = [.bool b] := rfl
theorem q5w (s : List UInt8) : AV.cells (.str s) = [.str s] := rfl
theorem q5x (b o : Nat) : AV.cells (.ptr b o) = [.ptr b o] := rfl
theorem q0g : AV.cells .nilptr = [.nilptr] := rfl
theorem q2c (b o l : Nat) (q : Bool) (k : Nat) : AV.cells (.slice b o l q k) = [.slice b o l q k] := rfl
theorem z8b : AV.cells .nilslice = [.nilslice] := rfl
theorem q5y (b : Nat) : AV.cells (.map b) = [.map b] := rfl
theorem q0h : AV.cells .nilmap = [.nilmap] := rfl
theorem j7T {α : Type} (a b : α) : (bif true then a else b) = a := rfl
theorem j7U {α : Type} (a b : α) : (bif false then a else b) = b := rfl
theorem k3E {α : Type} {h : Decidable True} (a b : α) : @ite α True h a b = a := if_pos trivial
theorem k3F {α : Type} {h : Decidable False} (a b : α) : @ite α False h a b = b := if_neg not_false
theorem k3G {α : Type} {c : Prop} {h : Decidable c} (a : α) : @ite α c h a a = a := by split <;> rfl
theorem k0y {α : Type} (a : α) (l : List α) : (a :: l)[0]? = some a := rfl
theorem k0z {α : Type} (a : α) (l : List α) (i : Nat) : (a :: l)[i + 1]? = l[i]? := rfl
theorem k0A {α : Type} (i : Nat) : ([] : List α)[i]? = none := rfl
theorem k0B {α : Type} : ([] : List α).length = 0 := rfl
theorem k0C {α : Type} (a : α) (l : List α) : (a :: l).length = l.length + 1 := rfl
theorem s_id {α : Type} (a : α) : id a = a := rfl
theorem k0D (a : Int) : (a == a) = true := beq_self_eq_true a
theorem k0E (a : Nat) : (a == a) = true := beq_self_eq_true a
theorem s_ne {α : Type} (a b : α) : (a ≠ b) = ¬ a = b := rfl
set_option linter.defProp false in
def sxL := And.intro (And.intro (And.intro (And.intro (And.intro (And.intro (And.intro @q5d (And.intro @q5q @q3I)) (And.intro @z2b (And.intro @T.setK_eq @z0h))) (And.intro (And.intro @j7z (And.intro @q1V @q1W)) (And.intro (And.intro @k3z @q5k) (And.intro @q5l @q7X)))) (And.intro (And.intro (And.intro @q7Y (And.intro @j7A @k0d)) (And.intro @q3x (And.intro @z7X @q1X))) (And.intro (And.intro @q0d (And.intro @j4S @j4T)) (And.intro @k0e (And.intro @q5b @q0b))))) (And.intro (And.intro (And.intro (And.intro @q3w (And.intro @q5c @q3v)) (And.intro @q1Q (And.intro @q3y @k3w))) (And.intro (And.intro @j3w (And.intro @j0F @j7B)) (And.intro @k0g (And.intro @j3D @j0J)))) (And.intro (And.intro (And.intro @q8a (And.intro @j3E @j3F)) (And.intro @j0K (And.intro @j7C @z_N))) (And.intro (And.intro @z_N0 (And.intro @z_E @z_E0)) (And.intro @j7D (And.intro @k0h @j7E)))))) (And.intro (And.intro (And.intro (And.intro (And.intro @k0i (And.intro @j3G @j7F)) (And.intro @j0L (And.intro @j3H @k0k))) (And.intro (And.intro @k0l (And.intro @j7G @k0m)) (And.intro @k0n (And.intro @k3y @j3I)))) (And.intro (And.intro (And.intro @j7H (And.intro @k3A @j3J)) (And.intro @q8b (And.intro @j3L @j0M))) (And.intro (And.intro @j0N (And.intro @k0p @j7I)) (And.intro @j0O (And.intro @k0q @j0P))))) (And.intro (And.intro (And.intro (And.intro @j3M (And.intro @j7J @q5n)) (And.intro @j0Q (And.intro @k0r @k0s))) (And.intro (And.intro @q2a (And.intro @q0e @j7K)) (And.intro @j7t (And.intro @j0H @q5e)))) (And.intro (And.intro (And.intro @q8c (And.intro @T.get_set_eq @j0G)) (And.intro @T.get_set_ne (And.intro @not_false_eq_true @j3P))) (And.intro (And.intro @j3Q (And.intro @j3R @j7u)) (And.intro (And.intro @q5f @q5g) (And.intro @q5h @q5i))))))) (And.intro (And.intro (And.intro (And.intro (And.intro (And.intro @j0E (And.intro @z7m @z9t)) (And.intro @q3z (And.intro @q1R @j3x))) (And.intro (And.intro @q1S (And.intro @z7W @q1T)) (And.intro @q0c (And.intro @j3y @j7v)))) (And.intro (And.intro (And.intro @j3z (And.intro @z1L @q3A)) (And.intro @q1U (And.intro @j0W @q8f))) (And.intro (And.intro @j0X (And.intro @j0Y @q3F)) (And.intro @z9y (And.intro @q0f @q3G))))) (And.intro (And.intro (And.intro (And.intro @q3H (And.intro @q8g @j0Z)) (And.intro @q5p (And.intro @z9z @j7P))) (And.intro (And.intro @q5r (And.intro @j3S @z1e)) (And.intro @z0L (And.intro @j9Y @j3A)))) (And.intro (And.intro (And.intro @q7V (And.intro @q5j @j0I)) (And.intro @q7W (And.intro @k0c @j3B))) (And.intro (And.intro @j3C (And.intro @k0b @z2A)) (And.intro (And.intro @Nat.add_zero @Nat.zero_add) (And.intro @Bool.true_eq_false @Bool.false_eq_true)))))) (And.intro (And.intro (And.intro (And.intro (And.intro @Bool.not_true (And.intro @Bool.not_false @Nat.succ_eq_add_one)) (And.intro @Nat.not_lt_zero (And.intro @decide_true @decide_false))) (And.intro (And.intro @not_true_eq_false (And.intro @z0Q @z7R)) (And.intro @z0j (And.intro @z1z @z5G)))) (And.intro (And.intro (And.intro @z9x (And.intro @q3C @j0R)) (And.intro @j7O (And.intro @Int.lt_irrefl @Bool.not_not))) (And.intro (And.intro @Bool.true_or (And.intro @Bool.false_or @Bool.or_true)) (And.intro @Bool.or_false (And.intro @Bool.true_and @Bool.false_and))))) (And.intro (And.intro (And.intro (And.intro @Bool.and_true (And.intro @Bool.and_false @q5v)) (And.intro @q3P (And.intro @q5w @q5x))) (And.intro (And.intro @q0g (And.intro @q2c @z8b)) (And.intro @q5y (And.intro @q0h @j7T)))) (And.intro (And.intro (And.intro @j7U (And.intro @k3E @k3F)) (And.intro @k3G (And.intro @k0y @k0z))) (And.intro (And.intro @k0A (And.intro @k0B @k0C)) (And.intro (And.intro @s_id @k0D) (And.intro @k0E @s_ne)))))))
end Go.Sx
namespace Go.Sx
open Go Go.RowKit
section
variable {H : Type} {enc : TypeId × Value → H} {P : Program} {W : World} {base : Nat} {sp : Nat → Bool} {held : Bool}
def Fit (enc : TypeId × Value → H) (P : Program) (W : World) (base : Nat) (sp : Nat → Bool) (held : Bool) : List TypeId → List Value → Prop
 | [], [] => True
 | u :: ts, c :: cs => (∃ m y, DataW.trod enc P W base sp held m u [c] = some y) ∧ Fit enc P W base sp held ts cs
 | _, _ => False
theorem Fit.len : ∀ {ts : List TypeId} {cs : List Value}, Fit enc P W base sp held ts cs → cs.length = ts.length
 | [], [], _ => rfl
 | [], _ :: _, h => h.elim
 | _ :: _, [], h => h.elim
 | u :: ts, c :: cs, h => by simp [Fit.len h.2]
theorem Fit.append : ∀ {ts ts' : List TypeId} {cs cs' : List Value}, Fit enc P W base sp held ts cs → Fit enc P W base sp held ts' cs' → Fit enc P W base sp held (ts ++ ts') (cs ++ cs')
 | [], _, [], _, _, h' => h'
 | [], _, _ :: _, _, h, _ => h.elim
 | _ :: _, _, [], _, h, _ => h.elim
 | u :: ts, _, c :: cs, _, h, h' => ⟨h.1, Fit.append h.2 h'⟩
theorem Fit.cons {u : TypeId} {ts : List TypeId} {cs : List Value} (h : Fit enc P W base sp held (u :: ts) cs) : ∃ c cs', cs = c :: cs' ∧ (∃ m y, DataW.trod enc P W base sp held m u [c] = some y) ∧ Fit enc P W base sp held ts cs' := by
 cases cs with
 | nil => exact h.elim
 | cons c cs => exact ⟨c, cs, rfl, h.1, h.2⟩
theorem Fit.nil {cs : List Value} (h : Fit enc P W base sp held [] cs) : cs = [] := by
 cases cs with
 | nil => rfl
 | cons c cs => exact h.elim
def z9D (P : Program) (q3Q : TypeId → Option (List TypeId)) : List Field → Nat → Option (List TypeId)
 | [], _ => some []
 | f :: fs, off => match q3Q f.type with
  | none => none
  | some ts => if f.offset = off ∧ P.cellsOf f.type = ts.length then (z9D P q3Q fs (off + ts.length)).map (ts ++ ·) else none
noncomputable def q3Q (P : Program) : Nat → TypeId → Option (List TypeId)
 | 0, _ => none
 | d + 1, t => match P.underlying t with
  | some (.struct fs) => match z9D P (q3Q P d) fs.toList 0 with
   | none => none
   | some ts => if P.cellsOf t = ts.length then some ts else none
  | some .bool => some [t]
  | some (.int _) => some [t]
  | some .string => some [t]
  | some (.slice _) => some [t]
  | _ => none
theorem q8j {lv : TypeId → Option (List TypeId)} {n : Nat} {cs : List Value} {xs : List (DataW H × List MemPlace)} {all : List Field}
  (hlv : ∀ (t : TypeId) (ts : List TypeId), lv t = some ts → ∀ (cs : List Value) (x : DataW H × List MemPlace), DataW.trod enc P W base sp held n t cs = some x → Fit enc P W base sp held ts cs)
  (hall : ∀ (i : Nat) (f : Field), all[i]? = some f → ∃ x, DataW.trod enc P W base sp held n f.type ((cs.drop f.offset).take (P.cellsOf f.type)) = some x) :
  ∀ (fs : List Field) (i off : Nat) (ts : List TypeId), (∀ j f, fs[j]? = some f → all[i + j]? = some f) → z9D P lv fs off = some ts → cs.length = off + ts.length → Fit enc P W base sp held ts (cs.drop off) := by
 intro fs
 induction fs with
 | nil =>
  intro i off ts _ h hl
  simp only [z9D, Option.some.injEq] at h; subst h
  rw [List.drop_eq_nil_of_le (by simp at hl; omega)]; trivial
 | cons f fs ih =>
  intro i off ts hin h hl
  unfold z9D at h
  split at h
  ·simp at h
  ·rename_i ts1 h1
   split at h
   ·rename_i h2
    obtain ⟨ts2, h3, e⟩ := Option.map_eq_some_iff.1 h
    subst e
    obtain ⟨x, hx⟩ := hall i f (by have := hin 0 f rfl; simpa using this)
    rw [h2.1, h2.2] at hx
    have f1 := hlv _ _ h1 _ _ hx
    have f2 := ih (i + 1) (off + ts1.length) ts2 (fun j g hg => by have := hin (j + 1) g (by simpa using hg); rw [show i + 1 + j = i + (j + 1) by omega]; exact this) h3 (by rw [List.length_append] at hl; omega)
    have := f1.append f2
    rwa [show cs.drop off = (cs.drop off).take ts1.length ++ cs.drop (off + ts1.length) by rw [← List.drop_drop, List.take_append_drop]]
   ·simp at h
theorem k0F : ∀ (d : Nat) (t : TypeId) (ts : List TypeId), q3Q P d t = some ts → ∀ (n : Nat) (cs : List Value) (x : DataW H × List MemPlace), DataW.trod enc P W base sp held n t cs = some x → Fit enc P W base sp held ts cs := by
 intro d
 induction d with
 | zero => intro t ts h; simp [q3Q] at h
 | succ d ih =>
  intro t ts h n cs x hx
  unfold q3Q at h
  split at h
  ·rename_i fs hu
   split at h
   ·simp at h
   ·rename_i ts' hf
    split at h
    ·rename_i hc
     simp only [Option.some.injEq] at h; subst h
     obtain ⟨xs, m, _, _, hl, hxl, hall⟩ := DataW.trod_struct hu hx
     have := q8j (lv := q3Q P d) (cs := cs) (xs := xs) (all := fs.toList) (n := m) (fun t ts h cs x hx => ih t ts h m cs x hx) (fun i f hf => by
      have hi := hall i f (by simpa using hf)
      have : i < xs.length := by rw [hxl]; have := (List.getElem?_eq_some_iff.1 hf).1; simpa using this
      rw [List.getElem?_eq_getElem this] at hi
      exact ⟨_, hi⟩) fs.toList 0 0 ts' (fun j f hf => by simpa using hf) hf (by rw [hl, hc]; omega)
     simpa using this
    ·simp at h
  ·rename_i hu
   simp only [Option.some.injEq] at h; subst h
   obtain ⟨b, rfl, _⟩ := DataW.trod_bool hu hx
   exact ⟨⟨n, x, hx⟩, trivial⟩
  ·rename_i k hu
   simp only [Option.some.injEq] at h; subst h
   obtain ⟨b, rfl, _⟩ := DataW.trod_int hu hx
   exact ⟨⟨n, x, hx⟩, trivial⟩
  ·rename_i hu
   simp only [Option.some.injEq] at h; subst h
   obtain ⟨b, rfl, _⟩ := DataW.trod_string hu hx
   exact ⟨⟨n, x, hx⟩, trivial⟩
  ·rename_i e hu
   simp only [Option.some.injEq] at h; subst h
   rcases DataW.trod_slice hu hx with ⟨rfl, _⟩ | ⟨_, _, _, _, _, _, _, rfl, _⟩ <;> exact ⟨⟨n, x, hx⟩, trivial⟩
  ·simp at h
end
section
variable {P : Program} {G : Tab} {W : World}
structure Base (G : Tab) (W : World) (ρ : Env) (H : Heap) : Prop where
 rel : HRel G ρ (fun b => b < H.next) W H
 neat : Neat H
 still : ∀ b o, H.blks.get b = some o → z0W (some o)
 rest : ρ.rest = fun i o => W.heap[i]? = some o
 orig : ρ.orig = W
structure More (ρ : Env) (H : Heap) (ρ' : Env) (H' : Heap) : Prop where
 sub : Sub ρ (fun b => b < H.next) ρ' (fun b => b < H'.next)
 grows : Grows H H'
theorem More.refl (ρ : Env) (H : Heap) : More ρ H ρ H := ⟨.refl _ _, .refl _⟩
theorem More.trans {ρ ρ' ρ'' : Env} {H H' H'' : Heap} (h : More ρ H ρ' H') (h' : More ρ' H' ρ'' H'') : More ρ H ρ'' H'' := ⟨h.sub.trans h'.sub, h.grows.trans h'.grows⟩
theorem Base.big {ρ : Env} {H : Heap} (hB : Base G W ρ H) (hg : G.nglob ≤ H.next) {z : List AV} (hz : okL ρ (fun b => b < H.next) z) {blk base : Nat} {arr : Array Value} {el : TypeId} {fz : Nat × Nat} (hblk : W.heap[blk]? = some (.cells arr el fz))
  (hsz : base + z.length ≤ arr.size) (hv : ∀ i v, z[i]? = some v → arr[base + i]? = some (conc ρ v)) (e : TypeId) :
  ∃ ρ', Base G W ρ' (H.push (.big e z.length z)) ∧ More ρ H ρ' (H.push (.big e z.length z)) ∧ ρ'.blk H.next = blk ∧ ρ'.base H.next = base := by
 have hfresh : ¬ (fun b => b < H.next) H.next := Nat.lt_irrefl _
 have hsub0 := ρ.at_sub (D := fun b => b < H.next) (b := H.next) hfresh blk base 0
 have hsub : Sub ρ (fun b => b < H.next) (ρ.at H.next blk base 0) (fun b => b < (H.push (.big e z.length z)).next) :=
  ⟨fun b hb => Nat.lt_succ_of_lt hb, hsub0.blk, hsub0.base, hsub0.cap, rfl, rfl⟩
 have hat : (ρ.at H.next blk base 0).blk H.next = blk := by simp [Env.at]
 have hat2 : (ρ.at H.next blk base 0).base H.next = base := by simp [Env.at]
 refine ⟨ρ.at H.next blk base 0, ⟨⟨fun b hb => hb, fun g hg' => ?_, fun b b' o o' hb hb' ho ho' _ => ?_, fun b o hb ho => ?_, fun i o hi => ?_, ?_⟩, hB.neat.push _, fun b o ho => ?_, hB.rest, hB.orig⟩, ⟨hsub, .push _ _⟩, hat, hat2⟩
 ·obtain ⟨h1, h2, h3⟩ := hB.rel.glob g hg'
  exact ⟨Nat.lt_succ_of_lt h1, by rw [hsub.blk g h1, h2], by rw [hsub.base g h1, h3]⟩
 ·have still : ∀ b o, (H.push (.big e z.length z)).blks.get b = some o → z0W (some o) := fun b o ho => by
   rw [Heap.get_push] at ho
   split at ho
   ·simp only [Option.some.injEq] at ho; subst ho; trivial
   ·exact hB.still b o ho
  exact .inr ⟨still _ _ ho, still _ _ ho'⟩
 ·rw [Heap.get_push] at ho
  split at ho
  ·rename_i e0
   subst e0
   simp only [Option.some.injEq] at ho; subst ho
   refine ⟨(hsub.concL z hz).2, arr, el, fz, by rw [hat]; exact hblk, by rw [hat2]; exact hsz, fun i v hi hv' => ?_⟩
   rw [Nat.mod_eq_of_lt hi] at hv'
   rw [hat2, hv i v hv', hsub.eq (z0z.1 hz v (List.mem_of_getElem? hv'))]
  ·have hlt := hB.neat b o ho
   exact (hB.rel.blk b o hlt ho).sub hsub hlt rfl
 ·have hi' : ρ.rest i o := hi
  refine ⟨(hB.rel.rest i o hi').1, fun b _ _ => ?_⟩
  cases ho : (H.push (.big e z.length z)).blks.get b with
  | none => trivial
  | some q =>
   rw [Heap.get_push] at ho
   split at ho
   ·simp only [Option.some.injEq] at ho; subst ho; trivial
   ·exact hB.still b q ho
 ·exact hB.rel.kin
 ·rw [Heap.get_push] at ho
  split at ho
  ·simp only [Option.some.injEq] at ho; subst ho; trivial
  ·exact hB.still b o ho
end
end Go.Sx
namespace Go.Sx
section
variable {G : Tab} {F : Fns}
noncomputable def z3J (done : Nat) (l : List RO) : Bool := List.rec true (fun r _ ih => bif (bif z0K r.kind then Nat.testBit done r.i else true) then ih else false) l
theorem z4E {done : Nat} {e : RO} {B : List RO} (he : z0K e.kind = true) (hb : Nat.testBit done e.i = false) : ∀ {A : List RO}, z3J done A = true → z0v done (A ++ e :: B) = some e
 | [], _ => by
  show (bif z0K e.kind then (bif Nat.testBit done e.i then z0v done B else some e) else z0v done B) = some e
  rw [he, hb]; rfl
 | r :: A, h => by
  have h : (bif (bif z0K r.kind then Nat.testBit done r.i else true) then z3J done A else false) = true := h
  show (bif z0K r.kind then (bif Nat.testBit done r.i then z0v done (A ++ e :: B) else some r) else z0v done (A ++ e :: B)) = some e
  obtain ⟨h1, h2⟩ := z0f h
  cases hr : z0K r.kind
  ·exact z4E he hb h2
  ·rw [hr] at h1
   have h1 : Nat.testBit done r.i = true := h1
   rw [h1]; exact z4E he hb h2
theorem z5n {done : Nat} : ∀ {A : List RO}, z3J done A = true → z0v done A = none
 | [], _ => rfl
 | r :: A, h => by
  have h : (bif (bif z0K r.kind then Nat.testBit done r.i else true) then z3J done A else false) = true := h
  show (bif z0K r.kind then (bif Nat.testBit done r.i then z0v done A else some r) else z0v done A) = none
  obtain ⟨h1, h2⟩ := z0f h
  cases hr : z0K r.kind
  ·exact z5n h2
  ·rw [hr] at h1
   have h1 : Nat.testBit done r.i = true := h1
   rw [h1]; exact z5n h2
theorem z1g {m : Nat} : ∀ {A : List RO}, z1F m A = true → ∀ r ∈ A, Nat.testBit m r.i = true
 | [], _, r, hr => by simp at hr
 | x :: A, h, r, hr => by
  have h : (bif Nat.testBit m x.i then z1F m A else false) = true := h
  obtain ⟨h1, h2⟩ := z0f h
  rcases List.mem_cons.1 hr with rfl | hr
  ·exact h1
  ·exact z1g h2 r hr
theorem z9E {c : Ctx} {all : List Oper} : ∀ (X : List RO) (d₀ : DS), z0e d₀.done X = true → ∀ (R : List RO) (k : DK), z0O G c all (X ++ R) k d₀ = z0O G c all R k d₀ := by
 intro X
 induction X with
 | nil => intro _ _ _ _; rfl
 | cons x X ih =>
  intro d₀ h R k
  have h : (bif ready x d₀.done then false else z0e d₀.done X) = true := h
  cases hx : ready x d₀.done
  ·rw [hx, cond_false] at h
   show (bif ready x d₀.done then _ else z0O G c all (X ++ R) k d₀) = _
   rw [hx, cond_false]; exact ih d₀ h R k
  ·rw [hx] at h; simp at h
noncomputable def j1e (rs : List RO) (n : Nat) : Nat → List RO → List RO → Bool := Nat.rec (fun _ _ _ => false) (fun _ ih done pre rest =>
 match (z1q rest).2 with
 | [] => andL [z0e done pre, z1b (z1q rest).1 done, z0e (z0d (z1q rest).1 done) rs, z3J (z0d (z1q rest).1 done) rs]
 | e :: B => andL [z0e done pre, z1b (z1q rest).1 done, z0e (z0d (z1q rest).1 done) (e :: B), z0e (z0d (z1q rest).1 done) rs, z0K e.kind, bnot (Nat.testBit (z0d (z1q rest).1 done) e.i),
   z3J (z0d (z1q rest).1 done) (pre ++ (z1q rest).1), sub e.pre (z0d (z1q rest).1 done), z0l e (z0d (z1q rest).1 done) rs, z1F e.pre (pre ++ (z1q rest).1),
   ih (Nat.lor (z0d (z1q rest).1 done) (Nat.pow 2 e.i)) (pre ++ (z1q rest).1 ++ [e]) B]) n
theorem q3R {c : Ctx} {all : List Oper} : ∀ {A : List RO} {m : Nat} {d d' : DS}, z1f A → z1b A m = true → runA G c all A d = some d' → ∀ k ∈ d'.kept, k ∈ d.kept ∨ k.r ∈ A
 | [], _, d, d', _, _, h => by have h : some d = some d' := h; simp only [Option.some.injEq] at h; subst h; exact fun k hk => .inl hk
 | r :: A, m, d, d', hk, hc, h => by
  obtain ⟨h1, h2, h3⟩ := z2K hc
  obtain ⟨e, g1, g2⟩ := z0a h
  have b := q3R (fun r hr => hk r (List.mem_cons_of_mem _ hr)) h3 g2
  intro k hkk
  rcases b k hkk with h | h
  ·unfold z2V at g1
   cases hw : z0s all r.o.guard d.s.tm
   ·rw [hw, cond_false] at g1
    obtain ⟨_, g1⟩ := z0m g1
    simp only [Option.some.injEq] at g1; subst g1; exact .inl h
   ·rw [hw, cond_true] at g1
    obtain ⟨p, hp, g1⟩ := z0a g1
    obtain ⟨_, g1⟩ := z0m g1
    simp only [Option.some.injEq] at g1; subst g1
    have h : k ∈ z2z r d.s.tm p.1 d.kept := h
    unfold z2z at h
    split at h
    ·exact .inl h
    ·rcases List.mem_cons.1 h with h | h
     ·exact .inr (by rw [h]; exact List.mem_cons_self)
     ·exact .inl h
  ·exact .inr (List.mem_cons_of_mem _ h)
theorem j1f {all : List Oper} {rs : List RO} (c : Ctx) : ∀ (n : Nat) (f done : Nat) (pre rest : List RO) (sealed : Nat) (s : St) (kept : List Kept), j1e rs n done pre rest = true → rs = pre ++ rest → z1f rest → n ≤ f →
  (∀ k ∈ kept, Nat.testBit sealed k.r.i = true ∧ k.r ∈ pre) → z0u F G c all rs f sealed ⟨done, s, kept⟩ = z0t (rest.map (·.o)) F G c all s := by
 intro n
 induction n with
 | zero => intro f done pre rest sealed s kept h; exact absurd (show (false : Bool) = true from h) (by simp)
 | succ n ih =>
  intro f done pre rest sealed s kept h hrs hk hf hkept
  obtain ⟨f, rfl⟩ : ∃ f', f = f' + 1 := ⟨f - 1, by omega⟩
  have h : (match (z1q rest).2 with
   | [] => andL [z0e done pre, z1b (z1q rest).1 done, z0e (z0d (z1q rest).1 done) rs, z3J (z0d (z1q rest).1 done) rs]
   | e :: B => andL [z0e done pre, z1b (z1q rest).1 done, z0e (z0d (z1q rest).1 done) (e :: B), z0e (z0d (z1q rest).1 done) rs, z0K e.kind, bnot (Nat.testBit (z0d (z1q rest).1 done) e.i),
     z3J (z0d (z1q rest).1 done) (pre ++ (z1q rest).1), sub e.pre (z0d (z1q rest).1 done), z0l e (z0d (z1q rest).1 done) rs, z1F e.pre (pre ++ (z1q rest).1),
     j1e rs n (Nat.lor (z0d (z1q rest).1 done) (Nat.pow 2 e.i)) (pre ++ (z1q rest).1 ++ [e]) B]) = true := h
  have hs := q2b rest
  generalize z1q rest = p at h hs
  obtain ⟨A, R⟩ := p
  simp only at hs h
  have e0 : z0u F G c all rs (f + 1) sealed ⟨done, s, kept⟩ = z0O G c all rs (z0n F G c all rs (z0u F G c all rs f) sealed) ⟨done, s, kept⟩ := rfl
  have kA : z1f A := fun r hr => hk r (by rw [← hs]; exact List.mem_append.2 (.inl hr))
  cases R with
  | nil =>
   simp only at h
   have h := z2Y h
   simp only [List.mem_cons, List.not_mem_nil, or_false, forall_eq_or_imp, forall_eq] at h
   obtain ⟨a1, a2, a3, a4⟩ := h
   rw [List.append_nil] at hs
   subst hs
   have t2 := z2i (G := G) (F := F) (c := c) (all := all) (rest := []) (d := ⟨done, s, kept⟩) kA a2
   rw [List.append_nil] at t2
   have t1 := z2J (G := G) (c := c) (all := all) (R := []) (k := z0n F G c all rs (z0u F G c all rs f) sealed) (A := A) (d := ⟨done, s, kept⟩) a2
   rw [List.append_nil] at t1
   have hsk := z9E (G := G) (c := c) (all := all) pre ⟨done, s, kept⟩ a1 A (z0n F G c all rs (z0u F G c all rs f) sealed)
   rw [e0]
   conv => lhs; rw [show z0O G c all rs (z0n F G c all rs (z0u F G c all rs f) sealed) = z0O G c all (pre ++ A) (z0n F G c all rs (z0u F G c all rs f) sealed) by rw [← hrs]]
   rw [hsk, t1]
   refine Eq.trans ?_ t2.symm
   cases hr : runA G c all A ⟨done, s, kept⟩ with
   | none => rfl
   | some d' =>
    have hd : d'.done = z0d A done := z2c hr
    obtain ⟨n1, n2⟩ := z4D kA a2 hr
    show z0n F G c all rs (z0u F G c all rs f) sealed d' = some [d'.s]
    unfold z0n z2s
    rw [hd, a3, cond_true, z5n a4, z1y]
    ·rfl
    ·intro k hkk
     rcases n2 k hkk with h | h
     ·exact .inl (hkept k h).1
     ·exact .inr (by rw [n1]; exact h)
  | cons e B =>
   simp only at h
   have h := z2Y h
   simp only [List.mem_cons, List.not_mem_nil, or_false, forall_eq_or_imp, forall_eq] at h
   obtain ⟨a1, a2, a3, a4, a5, a6, a7, a8, a9, a10, a11⟩ := h
   have h1 : Nat.testBit (z0d A done) e.i = false := by
    rw [z3p] at a6; simpa using a6
   subst hs
   have t2 := z2i (G := G) (F := F) (c := c) (all := all) (rest := e.o :: B.map (·.o)) (d := ⟨done, s, kept⟩) kA a2
   have t1 := z2J (G := G) (c := c) (all := all) (R := e :: B) (k := z0n F G c all rs (z0u F G c all rs f) sealed) (A := A) (d := ⟨done, s, kept⟩) a2
   have hsk := z9E (G := G) (c := c) (all := all) pre ⟨done, s, kept⟩ a1 (A ++ e :: B) (z0n F G c all rs (z0u F G c all rs f) sealed)
   rw [e0]
   conv => lhs; rw [show z0O G c all rs (z0n F G c all rs (z0u F G c all rs f) sealed) = z0O G c all (pre ++ (A ++ e :: B)) (z0n F G c all rs (z0u F G c all rs f) sealed) by rw [← hrs]]
   rw [hsk, t1]
   have e3 : (A ++ e :: B).map (·.o) = A.map (·.o) ++ e.o :: B.map (·.o) := by simp
   rw [e3]
   refine Eq.trans ?_ t2.symm
   cases hr : runA G c all A ⟨done, s, kept⟩ with
   | none => rfl
   | some d' =>
    have hd : d'.done = z0d A done := z2c hr
    obtain ⟨n1, n2⟩ := z4D kA a2 hr
    have n3 := q3R kA a2 hr
    have hrs' : rs = (pre ++ A) ++ e :: B := by rw [hrs, List.append_assoc]
    show z0O G c all (e :: B) (z0n F G c all rs (z0u F G c all rs f) sealed) d' = z0t (e.o :: B.map (·.o)) F G c all d'.s
    rw [z5E (by rw [hd]; exact a3)]
    have hne : z0v (z0d A done) rs = some e := by rw [hrs']; exact z4E a5 h1 a7
    unfold z0n z2s
    rw [hd, a4, cond_true, hne, z1y (fun k hkk => by
     rcases n2 k hkk with h | h
     ·exact .inl (hkept k h).1
     ·exact .inr (by rw [n1]; exact h)), cond_true]
    show (bif sub e.pre d'.done then (bif z0l e d'.done rs then z2l F G c all e d' (z0u F G c all rs f e.pre) else none) else none) = _
    rw [hd, a8, a9, cond_true, cond_true, z5B]
    have tail : ∀ (s' : St), z0u F G c all rs f e.pre ⟨Nat.lor d'.done (Nat.pow 2 e.i), s', d'.kept⟩ = z0t (B.map (·.o)) F G c all s' := fun s' => by
     rw [hd]
     refine ih f _ (pre ++ A ++ [e]) B e.pre s' d'.kept a11 (by rw [hrs']; simp) (fun r hr => hk r (List.mem_append.2 (.inr (List.mem_cons_of_mem _ hr)))) (by omega) fun k hkk => ?_
     have hin : k.r ∈ pre ++ A := by
      rcases n3 k hkk with h | h
      ·exact List.mem_append.2 (.inl (hkept k h).2)
      ·exact List.mem_append.2 (.inr h)
     exact ⟨z1g a10 _ hin, List.mem_append.2 (.inl hin)⟩
    unfold z2l z3A
    congr 1
    ·have : z2B (kindOf e.o.op) = runE := by
      rw [← hk e (List.mem_append.2 (.inr List.mem_cons_self))]
      cases h : e.kind
      all_goals first | rfl | (rw [h] at a5; simp [z0K] at a5)
     rw [this]
     unfold q1p runE
     congr 1; funext p
     congr 1; funext tm
     rw [z0h]; exact tail _
    ·unfold z4w z4S
     congr 1; funext tm
     rw [z0h]; exact tail _
noncomputable def z5o (all : List Oper) : Bool := match z7Y all with
 | none => false
 | some rs => bif z3c all rs rs then j1e rs 20 0 [] rs else false
theorem k3H {all : List Oper} (i : Nat) (h : z5o all = true) (c : Ctx) (s : St) : z2C i all.toArray true F G c s = z1u (z0t all F G c all s) := by
 have hcv : z5K all = false := by
  cases hc : z5K all
  ·rfl
  ·exfalso; unfold z5o z7Y at h; rw [hc] at h; simp at h
 rw [z6H hcv]
 refine congrArg z1u ?_
 unfold z5o at h
 split at h
 ·simp at h
 ·rename_i rs hp
  obtain ⟨_, hp⟩ := z4l hp
  obtain ⟨h1, h2⟩ := z0f h
  obtain ⟨q1, q2⟩ := z2L hp
  have e2 : z1E F G c all s = z0u F G c all rs 100 0 ⟨0, s, []⟩ := by
   unfold z1E z7A
   rw [hp]
   show (bif z3c all rs rs then _ else none) = _
   rw [h1]; rfl
  rw [e2, j1f c 20 100 0 [] rs 0 s [] h2 rfl q2 (by omega) (fun k hk => by simp at hk), q1]
end
end Go.Sx
namespace Go.Sx
section
variable {P : Program} {G : Tab} {F : Fns}
noncomputable def satL (l : List RO) (done : Nat) : List RO := List.rec (fun _ => []) (fun r _ ih m => bif ready r m then r :: ih (Nat.lor m (Nat.pow 2 r.i)) else ih m) l done
noncomputable def z3T (l : List RO) : Bool := List.rec true (fun r _ ih => bif z0I r.kind then false else ih) l
noncomputable def appP (A : List RO) (o : Option (List RO)) : Option (List RO) := match o with
 | some l => some (A ++ l)
 | none => none
noncomputable def q2d (rs : List RO) (ih : Nat → Option (List RO)) (done : Nat) (A : List RO) : Option (List RO) :=
 bif andL [z3T A, z0e (z0d A done) rs] then
  (match z0v (z0d A done) rs with
  | none => some A
  | some e => bif andL [sub e.pre (z0d A done), z0l e (z0d A done) rs] then appP (A ++ [e]) (ih (Nat.lor (z0d A done) (Nat.pow 2 e.i))) else none)
 else none
noncomputable def j1g (rs : List RO) (n : Nat) : Nat → Option (List RO) := Nat.rec (fun _ => none) (fun _ ih done => q2d rs ih done (satL rs done)) n
theorem z9F (r : RO) (l : List RO) (m : Nat) : satL (r :: l) m = bif ready r m then r :: satL l (Nat.lor m (Nat.pow 2 r.i)) else satL l m := rfl
theorem z2M : ∀ {A : List RO}, z3T A = true → ∀ r ∈ A, z0I r.kind = false
 | [], _, r, hr => by simp at hr
 | x :: A, h, r, hr => by
  have h : (bif z0I x.kind then false else z3T A) = true := h
  cases hx : z0I x.kind
  ·rw [hx] at h
   rcases List.mem_cons.1 hr with rfl | hr
   ·exact hx
   ·exact z2M h r hr
  ·rw [hx] at h; simp at h
theorem z6K : ∀ {l : List RO} {m : Nat}, ∀ r ∈ satL l m, r ∈ l
 | [], _, r, hr => by simp [satL] at hr
 | x :: l, m, r, hr => by
  rw [z9F] at hr
  cases hx : ready x m
  ·rw [hx, cond_false] at hr
   exact List.mem_cons_of_mem _ (z6K r hr)
  ·rw [hx, cond_true] at hr
   rcases List.mem_cons.1 hr with rfl | hr
   ·exact List.mem_cons_self
   ·exact List.mem_cons_of_mem _ (z6K r hr)
theorem z5H : ∀ {l : List RO} {m : Nat}, (∀ r ∈ satL l m, z0I r.kind = false) → z1b (satL l m) m = true
 | [], _, _ => rfl
 | x :: l, m, h => by
  rw [z9F] at h ⊢
  cases hx : ready x m
  ·rw [hx, cond_false] at h
   rw [cond_false]
   exact z5H h
  ·rw [hx, cond_true] at h
   rw [cond_true]
   show (bif ready x m then (bif z0I x.kind then false else z1b _ _) else false) = true
   rw [hx, h x List.mem_cons_self, cond_true, cond_false]
   exact z5H fun r hr => h r (List.mem_cons_of_mem _ hr)
theorem z6L {c : Ctx} {all : List Oper} {k : DK} : ∀ {l : List RO} {d : DS}, z0O G c all l k d = z0b (runA G c all (satL l d.done) d) k
 | [], _ => rfl
 | r :: l, d => by
  show (bif ready r d.done then (bif z0s all r.o.guard d.s.tm then z8K G c r d (z0O G c all l k) else z4T c r d (z0O G c all l k)) else z0O G c all l k d) = _
  rw [z9F]
  cases hr : ready r d.done
  ·rw [cond_false, cond_false]; exact z6L
  ·rw [cond_true, cond_true, z3v, z1x]
   have key : ∀ {o : Option DS}, (∀ e, o = some e → e.done = Nat.lor d.done (Nat.pow 2 r.i)) → z0b o (z0O G c all l k) = z0b o fun a => z0b (runA G c all (satL l (Nat.lor d.done (Nat.pow 2 r.i))) a) k := by
    intro o ho
    cases o with
    | none => rfl
    | some e =>
     show z0O G c all l k e = z0b (runA G c all (satL l (Nat.lor d.done (Nat.pow 2 r.i))) e) k
     rw [z6L, ho e rfl]
   have hd : ∀ e, z2V G c all r d = some e → e.done = Nat.lor d.done (Nat.pow 2 r.i) := fun e he => z5D he
   rw [← key hd]
   unfold z2V
   rw [z5i, z7n, z5j]
theorem z1A {done : Nat} {e : RO} : ∀ {l : List RO}, z0v done l = some e → z0K e.kind = true ∧ e ∈ l
 | [], h => by simp [z0v] at h
 | r :: l, h => by
  have h : (bif z0K r.kind then (bif Nat.testBit done r.i then z0v done l else some r) else z0v done l) = some e := h
  cases hr : z0K r.kind
  ·rw [hr, cond_false] at h
   exact ⟨(z1A h).1, List.mem_cons_of_mem _ (z1A h).2⟩
  ·rw [hr, cond_true] at h
   cases hb : Nat.testBit done r.i
   ·rw [hb, cond_false] at h
    simp only [Option.some.injEq] at h
    subst h; exact ⟨hr, List.mem_cons_self⟩
   ·rw [hb, cond_true] at h
    exact ⟨(z1A h).1, List.mem_cons_of_mem _ (z1A h).2⟩
open Classical in
noncomputable def effH (H0 : Heap) (d : Option Tmp) (r : Option (List EOut)) (ih : Run) : Run := fun F G c all s =>
 match r with
 | some [p] => if p.2.2 = H0 then z0J c s.tm d p.1 fun tm => ih F G c all ⟨tm, p.2.2, p.2.1⟩ else none
 | _ => none
noncomputable def oneH (H0 : Heap) (o : Oper) (ih : Run) : Run := fun F G c all s =>
 bif z0s all o.guard s.tm then (bif z0K (kindOf o.op) then effH H0 o.dst (opE o.op F G c s.tm s.df s.h) ih F G c all s else runN o ih F G c all s) else z4S o ih F G c all s
noncomputable def seqH (H0 : Heap) (l : List Oper) : Run := List.rec (fun _ _ _ _ s => some [s]) (fun o _ ih => oneH H0 o ih) l
theorem q3S (H0 : Heap) (o : Oper) (l : List Oper) (c : Ctx) (all : List Oper) (s : St) : seqH H0 (o :: l) F G c all s = oneH H0 o (seqH H0 l) F G c all s := rfl
theorem j1h {H0 : Heap} {c : Ctx} {all : List Oper} {r : RO} {d : DS} {rest : List Oper} (hk : r.kind = kindOf r.o.op) (he : z0K r.kind = false) :
  seqH H0 (r.o :: rest) F G c all d.s = z0b (z2V G c all r d) fun d' => seqH H0 rest F G c all d'.s := by
 rw [q3S]
 unfold oneH z2V
 rw [z5i, ← hk, he, cond_false]
 congr 1
 ·unfold runN
  rw [z1x]
  congr 1; funext p
  rw [z3k]; rfl
 ·unfold z4S
  rw [z3k]; rfl
theorem q3T {H0 : Heap} {c : Ctx} {all : List Oper} {rest : List Oper} : ∀ {A : List RO} {d : DS} {m : Nat}, z1f A → z1b A m = true → seqH H0 (A.map (·.o) ++ rest) F G c all d.s = z0b (runA G c all A d) fun d' => seqH H0 rest F G c all d'.s
 | [], _, _, _, _ => rfl
 | r :: A, d, m, hk, h => by
  obtain ⟨h1, h2, h3⟩ := z2K h
  rw [List.map_cons, List.cons_append, j1h (hk r List.mem_cons_self) (z5k h1), z3v, z1x]
  congr 1; funext e
  exact q3T (fun r hr => hk r (List.mem_cons_of_mem _ hr)) h3
theorem j3X {all : List Oper} {rs : List RO} (hK : z1f rs) (c : Ctx) : ∀ (n f done : Nat) (sealed : Nat) (s : St) (kept : List Kept) (L : List RO) (l : List St), j1g rs n done = some L → n ≤ f →
  (∀ k ∈ kept, Good G s.h k) → seqH s.h (L.map (·.o)) F G c all s = some l → z0u F G c all rs f sealed ⟨done, s, kept⟩ = some l := by
 intro n
 induction n with
 | zero => intro f done sealed s kept L l h; exact absurd (show (none : Option (List RO)) = some L from h) (by simp)
 | succ n ih =>
  intro f done sealed s kept L l h hf hkept hl
  obtain ⟨f, rfl⟩ : ∃ f', f = f' + 1 := ⟨f - 1, by omega⟩
  have h : q2d rs (j1g rs n) done (satL rs done) = some L := h
  unfold q2d at h
  obtain ⟨h1, h⟩ := z0c h
  have h1 := z2Y h1
  simp only [List.mem_cons, List.not_mem_nil, or_false, forall_eq_or_imp, forall_eq] at h1
  obtain ⟨a1, a2⟩ := h1
  have hmem := z2M a1
  have hch : z1b (satL rs done) done = true := z5H hmem
  have kA : z1f (satL rs done) := fun r hr => hK r (z6K r hr)
  show z0O G c all rs (z0n F G c all rs (z0u F G c all rs f) sealed) ⟨done, s, kept⟩ = some l
  rw [z6L]
  show z0b (runA G c all (satL rs done) ⟨done, s, kept⟩) _ = some l
  have base : ∀ (rest : List Oper), seqH s.h ((satL rs done).map (·.o) ++ rest) F G c all s = some l → ∃ d', runA G c all (satL rs done) ⟨done, s, kept⟩ = some d' ∧ d'.done = z0d (satL rs done) done ∧ d'.s.h = s.h ∧
    (∀ k ∈ d'.kept, Good G s.h k) ∧ seqH s.h rest F G c all d'.s = some l := fun rest hr => by
   have t := q3T (G := G) (F := F) (H0 := s.h) (c := c) (all := all) (rest := rest) (d := ⟨done, s, kept⟩) kA hch
   rw [t] at hr
   obtain ⟨d', e1, e2⟩ := z0a hr
   obtain ⟨n1, n2⟩ := z4D kA hch e1
   exact ⟨d', e1, z2c e1, n1, fun k hk => (n2 k hk).elim (hkept k) id, e2⟩
  cases he : z0v (z0d (satL rs done) done) rs with
  | none =>
   rw [he] at h
   simp only [Option.some.injEq] at h
   subst h
   obtain ⟨d', e1, e2, e3, e4, e5⟩ := base [] (by rw [List.append_nil]; exact hl)
   rw [e1]
   show z0n F G c all rs (z0u F G c all rs f) sealed d' = some l
   unfold z0n z2s
   rw [e2, a2, cond_true, he, z1y fun k hk => .inr (by rw [e3]; exact e4 k hk)]
   exact e5
  | some e =>
   rw [he] at h
   simp only at h
   obtain ⟨h2, h⟩ := z0c h
   have h2 := z2Y h2
   simp only [List.mem_cons, List.not_mem_nil, or_false, forall_eq_or_imp, forall_eq] at h2
   obtain ⟨b1, b2⟩ := h2
   unfold appP at h
   split at h
   ·rename_i L' hL'
    simp only [Option.some.injEq] at h
    subst h
    obtain ⟨d', e1, e2, e3, e4, e5⟩ := base (e.o :: L'.map (·.o)) (by simpa using hl)
    rw [e1]
    show z0n F G c all rs (z0u F G c all rs f) sealed d' = some l
    unfold z0n z2s
    rw [e2, a2, cond_true, he, z1y fun k hk => .inr (by rw [e3]; exact e4 k hk)]
    show (bif sub e.pre d'.done then (bif z0l e d'.done rs then z2l F G c all e d' (z0u F G c all rs f e.pre) else none) else none) = some l
    rw [e2, b1, b2, cond_true, cond_true]
    obtain ⟨ke, kin⟩ := z1A he
    rw [q3S] at e5
    unfold oneH at e5
    unfold z2l
    have hk := hK e kin
    rw [← hk, ke] at e5
    cases hw : z0s all e.o.guard d'.s.tm
    ·rw [hw, cond_false] at e5
     rw [cond_false]
     unfold z4w
     unfold z4S at e5
     obtain ⟨tm, g1⟩ : ∃ tm, ∀ (k : T AV → Option (List St)), z0J c d'.s.tm e.o.dst z0A k = k tm := by
      cases hd : e.o.dst with
      | none => exact ⟨_, fun k => rfl⟩
      | some dd =>
       rw [hd, z1p] at e5
       by_cases hlt : dd < c.size
       ·exact ⟨_, fun k => by rw [z1p, if_pos hlt]⟩
       ·rw [if_neg hlt] at e5; simp at e5
     rw [g1] at e5 ⊢
     rw [z0h, e2]
     exact ih f _ e.pre ⟨tm, d'.s.h, d'.s.df⟩ d'.kept L' l hL' (by omega) (fun k hk => by show Good G d'.s.h k; rw [e3]; exact e4 k hk) (by show seqH d'.s.h _ _ _ _ _ _ = _; rw [e3] at e5 ⊢; exact e5)
    ·rw [hw, cond_true, cond_true] at e5
     rw [cond_true]
     unfold effH at e5
     unfold q1p
     split at e5
     ·rename_i p hp
      split at e5
      ·rename_i hh
       rw [hp]
       obtain ⟨tm, g1⟩ : ∃ tm, ∀ (k : T AV → Option (List St)), z0J c d'.s.tm e.o.dst p.1 k = k tm := by
        cases hd : e.o.dst with
        | none => exact ⟨_, fun k => rfl⟩
        | some dd =>
         rw [hd, z1p] at e5
         by_cases hlt : dd < c.size
         ·exact ⟨_, fun k => by rw [z1p, if_pos hlt]⟩
         ·rw [if_neg hlt] at e5; simp at e5
       rw [z7m, g1]
       rw [g1] at e5
       rw [z0h, e2]
       exact ih f _ e.pre ⟨tm, p.2.2, p.2.1⟩ d'.kept L' l hL' (by omega) (fun k hk => by show Good G p.2.2 k; rw [hh]; exact e4 k hk) (by show seqH p.2.2 _ _ _ _ _ _ = _; rw [hh] at e5 ⊢; exact e5)
      ·simp at e5
     ·simp at e5
   ·simp at h
noncomputable def z9G (all : List Oper) : Option (List Oper) := match z7Y all with
 | none => none
 | some rs => bif z3c all rs rs then (match j1g rs 90 0 with | some L => some (L.map (·.o)) | none => none) else none
theorem k0G {all ops : List Oper} (hp : z9G all = some ops) {i : Nat} {c : Ctx} {s : St} {l : List St} (h : seqH s.h ops F G c all s = some l) : z2C i all.toArray true F G c s = z1u (some l) := by
 have hcv : z5K all = false := by
  cases hc : z5K all
  ·rfl
  ·exfalso; unfold z9G z7Y at hp; rw [hc] at hp; simp at hp
 rw [z6H hcv]
 unfold z9G at hp
 split at hp
 ·simp at hp
 ·rename_i rs hrs
  obtain ⟨_, hrs⟩ := z4l hrs
  obtain ⟨h1, hp⟩ := z0c hp
  split at hp
  ·rename_i L hL
   simp only [Option.some.injEq] at hp
   subst hp
   have e2 : z1E F G c all s = z0u F G c all rs 100 0 ⟨0, s, []⟩ := by
    unfold z1E z7A
    rw [hrs]
    show (bif z3c all rs rs then _ else none) = _
    rw [h1]; rfl
   rw [e2, j3X (z2L hrs).2 c 90 100 0 0 s [] L l hL (by omega) (fun k hk => by simp at hk) h]
  ·simp at hp
noncomputable def q3U (H0 : Heap) (r : Option VH) (d : Option Tmp) (l : List Oper) (F : Fns) (G : Tab) (c : Ctx) (all : List Oper) (s : St) : Option (List St) :=
 z0b r fun p => z0J c s.tm d p.1 fun tm => seqH H0 l F G c all ⟨tm, p.2, s.df⟩
noncomputable def q0S (H0 : Heap) (k : Kind) (op : Op) (d : Option Tmp) (l : List Oper) (F : Fns) (G : Tab) (c : Ctx) (all : List Oper) (s : St) : Option (List St) :=
 match k with
 | .eff => effH H0 d (opE op F G c s.tm s.df s.h) (seqH H0 l) F G c all s
 | _ => q3U H0 (opN op G s.tm s.h) d l F G c all s
noncomputable def q6Q (H0 : Heap) (b : Bool) (op : Op) (d : Option Tmp) (l : List Oper) (F : Fns) (G : Tab) (c : Ctx) (all : List Oper) (s : St) : Option (List St) :=
 bif b then q0S H0 (kindOf op) op d l F G c all s else z0J c s.tm d z0A fun tm => seqH H0 l F G c all ⟨tm, s.h, s.df⟩
variable (H0 : Heap)
theorem w2o (c : Ctx) (all : List Oper) (s : St) : seqH H0 [] F G c all s = some [s] := rfl
theorem w2p (o : Option Tmp) (op : Op) (t : TypeId) (p : String) (a : Array Edge) (l : List Oper) (c : Ctx) (all : List Oper) (s : St) :
  seqH H0 (⟨o, op, t, p, a, none⟩ :: l) F G c all s = q0S H0 (kindOf op) op o l F G c all s := by
 show (bif z0K (kindOf op) then _ else _) = _
 cases kindOf op <;> rfl
theorem w2g (o : Option Tmp) (op : Op) (t : TypeId) (p : String) (a : Array Edge) (j : Nat) (w : Bool) (l : List Oper) (c : Ctx) (all : List Oper) (s : St) :
  seqH H0 (⟨o, op, t, p, a, some (j, w)⟩ :: l) F G c all s = q6Q H0 (guardA all s.tm j w) op o l F G c all s := by
 show (bif guardA all s.tm j w then (bif z0K (kindOf op) then _ else _) else _) = _
 unfold q6Q
 cases guardA all s.tm j w
 ·rfl
 ·cases kindOf op <;> rfl
theorem k1C (op : Op) (d : Option Tmp) (l : List Oper) (c : Ctx) (all : List Oper) (s : St) : q6Q H0 true op d l F G c all s = q0S H0 (kindOf op) op d l F G c all s := rfl
theorem k0H (op : Op) (d : Tmp) (l : List Oper) (c : Ctx) (all : List Oper) (s : St) (h : d < c.size) : q6Q H0 false op (some d) l F G c all s = seqH H0 l F G c all ⟨s.tm.set d (some z0A), s.h, s.df⟩ := by
 show z0J c s.tm (some d) z0A _ = _
 rw [z1p, if_pos h]
theorem k1D (op : Op) (d : Option Tmp) (l : List Oper) (c : Ctx) (all : List Oper) (s : St) : q0S H0 .pure op d l F G c all s = q3U H0 (opN op G s.tm s.h) d l F G c all s := rfl
theorem k1E (op : Op) (d : Option Tmp) (l : List Oper) (c : Ctx) (all : List Oper) (s : St) : q0S H0 .read op d l F G c all s = q3U H0 (opN op G s.tm s.h) d l F G c all s := rfl
theorem k3I (op : Op) (d : Option Tmp) (l : List Oper) (c : Ctx) (all : List Oper) (s : St) : q0S H0 .eff op d l F G c all s = effH H0 d (opE op F G c s.tm s.df s.h) (seqH H0 l) F G c all s := rfl
theorem h_N (v : AV) (H : Heap) (d : Tmp) (l : List Oper) (c : Ctx) (all : List Oper) (s : St) (h : d < c.size) : q3U H0 (some (v, H)) (some d) l F G c all s = seqH H0 l F G c all ⟨s.tm.set d (some v), H, s.df⟩ := by
 show z0J c s.tm (some d) v _ = _
 rw [z1p, if_pos h]
theorem h_N0 (v : AV) (H : Heap) (l : List Oper) (c : Ctx) (all : List Oper) (s : St) : q3U H0 (some (v, H)) none l F G c all s = seqH H0 l F G c all ⟨s.tm, H, s.df⟩ := rfl
open Classical in
theorem h_E (v : AV) (df : List ADefer) (d : Tmp) (l : List Oper) (c : Ctx) (all : List Oper) (s : St) (h : d < c.size) :
  effH H0 (some d) (some [(v, df, H0)]) (seqH H0 l) F G c all s = seqH H0 l F G c all ⟨s.tm.set d (some v), H0, df⟩ := by
 show (if H0 = H0 then z0J c s.tm (some d) v _ else none) = _
 rw [if_pos rfl, z1p, if_pos h]
open Classical in
theorem h_E0 (v : AV) (df : List ADefer) (l : List Oper) (c : Ctx) (all : List Oper) (s : St) : effH H0 none (some [(v, df, H0)]) (seqH H0 l) F G c all s = seqH H0 l F G c all ⟨s.tm, H0, df⟩ := by
 show (if H0 = H0 then z0J c s.tm none v _ else none) = _
 rw [if_pos rfl]; rfl
end
section
variable {P : Program} {G : Tab} {c : Ctx} {s s' : St} {Q : Ex → St → Prop}
theorem k0I {H : Heap} {s : St} {a b : AV} {rs : List ResultVar} (hd : s.df = []) (hr : z0C G s.tm s.h rs = some [a, b]) (hg : Grows H s.h) (hn : Neat H) (hv : ltV H.next (.tuple [a, b])) :
  z1I .ret = true ∧ s.df = [] ∧ ∃ vs, z0C G s.tm s.h rs = some vs ∧ ∃ p ∈ [(AV.tuple [a, b], H)], Cut H p (z2a vs) s.h := ⟨rfl, hd, [a, b], hr, (.tuple [a, b], H), List.mem_singleton.2 rfl, .pure hg.next hg.get hn hv⟩
theorem k0J {H : Heap} {s : St} {a b d : AV} {rs : List ResultVar} (hd : s.df = []) (hr : z0C G s.tm s.h rs = some [a, b, d]) (hg : Grows H s.h) (hn : Neat H) (hv : ltV H.next (.tuple [a, b, d])) :
  z1I .ret = true ∧ s.df = [] ∧ ∃ vs, z0C G s.tm s.h rs = some vs ∧ ∃ p ∈ [(AV.tuple [a, b, d], H)], Cut H p (z2a vs) s.h := ⟨rfl, hd, [a, b, d], hr, (.tuple [a, b, d], H), List.mem_singleton.2 rfl, .pure hg.next hg.get hn hv⟩
def j7V (o : Option Oper) (l : List Oper) : List Oper := match o with
 | some o => o :: l
 | none => []
noncomputable def j1i (all : List Oper) (p : List Nat) : List Oper := List.rec [] (fun i _ ih => j7V all[i]? ih) p
theorem k1F (all : List Oper) : j1i all [] = [] := rfl
theorem k0K (all : List Oper) (i : Nat) (p : List Nat) : j1i all (i :: p) = j7V all[i]? (j1i all p) := rfl
theorem k0L (o : Oper) (l : List Oper) : j7V (some o) l = o :: l := rfl
theorem Gets.drawH (TT : TabOk P G) {ov : Ov} (ho : OvOk P G ov) (n : Nat) {i : Nat} {all : List Oper} (ops : List Oper) (hp : z9G all = some ops)
  (h : seqH s.h ops (fnsO G ov n) G c all s = some [s']) (hQ : Q .normal s') : Gets P G c (.region i all.toArray true) s Q :=
 Gets.last TT ho n (s' := s') (by
  show z2C i all.toArray true (fnsO G ov n) G c s = _
  rw [k0G hp h]; rfl) hQ
theorem Gets.drawP (TT : TabOk P G) {ov : Ov} (ho : OvOk P G ov) (n : Nat) {i : Nat} {all : List Oper} (p : List Nat) (hp : z9G all = some (j1i all p))
  (h : seqH s.h (j1i all p) (fnsO G ov n) G c all s = some [s']) (hQ : Q .normal s') : Gets P G c (.region i all.toArray true) s Q := Gets.drawH TT ho n _ hp h hQ
end
end Go.Sx
namespace Go.Sx
inductive PStep where
 | rd (i : Nat)
 | sm (i : Nat)
 | lk (i : Nat) (js : List Nat)
 | la (i : Nat) (js as : List Nat)
 | ln (i : Nat) (js : List Nat)
structure KO where
 i : Nat
 op : Op
 tm : T AV
 v : AV
section
variable {P : Program} {G : Tab} {F : Fns}
noncomputable def q3V (k : Kind) (o : KO) (kos : List KO) : List KO := match k with
 | .pure => kos
 | _ => o :: kos
def q5z (G : Tab) (H : Heap) (j : Nat) : List KO → Prop
 | [] => True
 | k :: l => (if k.i = j then opN k.op G k.tm H = some (k.v, H) else True) ∧ q5z G H j l
def z4L (G : Tab) (H : Heap) (kos : List KO) : List Nat → Prop
 | [] => True
 | j :: js => q5z G H j kos ∧ z4L G H kos js
def q3W (H H' : Heap) (v : AV) : Prop := match z0H v with
 | some b => H'.blks.get b = H.blks.get b
 | none => False
def q5A (H H' : Heap) (j : Nat) : List KO → Prop
 | [] => True
 | k :: l => (if k.i = j then q3W H H' k.v else True) ∧ q5A H H' j l
def q0i (H H' : Heap) (kos : List KO) : List Nat → Prop
 | [] => True
 | j :: js => q5A H H' j kos ∧ q0i H H' kos js
abbrev KRun := St → List KO → Option (List St)
noncomputable def rdN (r : Option VH) (d : Option Tmp) (i : Nat) (op : Op) (nxt : KRun) (c : Ctx) (s : St) (kos : List KO) : Option (List St) :=
 z0b r fun q => z0J c s.tm d q.1 fun tm => nxt ⟨tm, q.2, s.df⟩ (q3V (kindOf op) ⟨i, op, s.tm, q.1⟩ kos)
noncomputable def skK (d : Option Tmp) (nxt : KRun) (c : Ctx) (s : St) (kos : List KO) : Option (List St) := z0J c s.tm d z0A fun tm => nxt ⟨tm, s.h, s.df⟩ kos
open Classical in
noncomputable def smE (H0 : Heap) (r : Option (List EOut)) (d : Option Tmp) (nxt : KRun) (c : Ctx) (s : St) (kos : List KO) : Option (List St) := match r with
 | some [q] => if q.2.2 = H0 then z0J c s.tm d q.1 fun tm => nxt ⟨tm, q.2.2, q.2.1⟩ kos else none
 | _ => none
open Classical in
noncomputable def lkE (G : Tab) (js : List Nat) (r : Option (List EOut)) (d : Option Tmp) (nxt : KRun) (c : Ctx) (s : St) (kos : List KO) : Option (List St) := match r with
 | some [q] => if z4L G q.2.2 kos js then z0J c s.tm d q.1 fun tm => nxt ⟨tm, q.2.2, q.2.1⟩ kos else none
 | _ => none
open Classical in
noncomputable def laE (G : Tab) (js as : List Nat) (H0 : Heap) (r : Option (List EOut)) (d : Option Tmp) (nxt : KRun) (c : Ctx) (s : St) (kos : List KO) : Option (List St) := match r with
 | some [q] => if z4L G q.2.2 kos js ∧ q0i H0 q.2.2 kos as then z0J c s.tm d q.1 fun tm => nxt ⟨tm, q.2.2, q.2.1⟩ kos else none
 | _ => none
open Classical in
noncomputable def lnE (G : Tab) (js : List Nat) (r : Option (List EOut)) (d : Option Tmp) (nxt : KRun) (c : Ctx) (s : St) (kos : List KO) : Option (List St) := match r with
 | some [q] => if z4L G q.2.2 kos js ∧ Neat q.2.2 then z0J c s.tm d q.1 fun tm => nxt ⟨tm, q.2.2, q.2.1⟩ kos else none
 | _ => none
noncomputable def rdO (G : Tab) (all : List Oper) (o : Option Oper) (i : Nat) (nxt : KRun) (c : Ctx) (s : St) (kos : List KO) : Option (List St) := match o with
 | some o => bif z0s all o.guard s.tm then rdN (opN o.op G s.tm s.h) o.dst i o.op nxt c s kos else skK o.dst nxt c s kos
 | none => none
noncomputable def smO (F : Fns) (G : Tab) (all : List Oper) (o : Option Oper) (nxt : KRun) (c : Ctx) (s : St) (kos : List KO) : Option (List St) := match o with
 | some o => bif z0s all o.guard s.tm then smE s.h (opE o.op F G c s.tm s.df s.h) o.dst nxt c s kos else skK o.dst nxt c s kos
 | none => none
noncomputable def lkO (F : Fns) (G : Tab) (all : List Oper) (o : Option Oper) (js : List Nat) (nxt : KRun) (c : Ctx) (s : St) (kos : List KO) : Option (List St) := match o with
 | some o => bif z0s all o.guard s.tm then lkE G js (opE o.op F G c s.tm s.df s.h) o.dst nxt c s kos else skK o.dst nxt c s kos
 | none => none
noncomputable def laO (F : Fns) (G : Tab) (all : List Oper) (o : Option Oper) (js as : List Nat) (nxt : KRun) (c : Ctx) (s : St) (kos : List KO) : Option (List St) := match o with
 | some o => bif z0s all o.guard s.tm then laE G js as s.h (opE o.op F G c s.tm s.df s.h) o.dst nxt c s kos else skK o.dst nxt c s kos
 | none => none
noncomputable def lnO (F : Fns) (G : Tab) (all : List Oper) (o : Option Oper) (js : List Nat) (nxt : KRun) (c : Ctx) (s : St) (kos : List KO) : Option (List St) := match o with
 | some o => bif z0s all o.guard s.tm then lnE G js (opE o.op F G c s.tm s.df s.h) o.dst nxt c s kos else skK o.dst nxt c s kos
 | none => none
noncomputable def runK (F : Fns) (G : Tab) (c : Ctx) (all : List Oper) (p : List PStep) : KRun := List.rec (fun s _ => some [s]) (fun x _ ih s kos => match x with
 | .rd i => rdO G all all[i]? i ih c s kos
 | .sm i => smO F G all all[i]? ih c s kos
 | .lk i js => lkO F G all all[i]? js ih c s kos
 | .la i js as => laO F G all all[i]? js as ih c s kos
 | .ln i js => lnO F G all all[i]? js ih c s kos) p
noncomputable def z3x : List RO → List PStep → Option (List PStep)
 | [], p => some p
 | r :: A, .rd i :: p => bif Nat.beq r.i i then z3x A p else none
 | _ :: _, _ => none
noncomputable def inL (js : List Nat) (l : List RO) : List RO := l.filter fun r => z2j r.i js
noncomputable def outL (js : List Nat) (l : List RO) : List RO := l.filter fun r => !z2j r.i js
noncomputable def q6R (l : List RO) : Bool := l.all fun r => z0I r.kind
noncomputable def j7W (rs : List RO) (ih : Bool → Nat → List RO → List RO → List PStep → Bool) (ok : Bool) (d1 : Nat) (old bad : List RO) (p : List PStep) : Bool :=
 match z0v d1 rs, p with
 | none, [] => true
 | some e, .sm i :: q => andL [Nat.beq e.i i, sub e.pre d1, z0l e d1 rs, z1F e.pre bad, ih ok (Nat.lor d1 (Nat.pow 2 e.i)) old bad q]
 | some e, .lk i js :: q => andL [Nat.beq e.i i, sub e.pre d1, z0l e d1 rs, z3T (inL js old), z1F e.pre (bad ++ outL js old), ih false (Nat.lor d1 (Nat.pow 2 e.i)) old (bad ++ outL js old) q]
 | some e, .la i js as :: q => andL [Nat.beq e.i i, sub e.pre d1, z0l e d1 rs, z3T (inL js old), z1F e.pre (bad ++ outL as (outL js old)), q6R (inL as (outL js old)), ih false (Nat.lor d1 (Nat.pow 2 e.i)) old (bad ++ outL as (outL js old)) q]
 | some e, .ln i js :: q => andL [Nat.beq e.i i, sub e.pre d1, z0l e d1 rs, z3T (inL js old), z1F e.pre (bad ++ outL js old), ih ok (Nat.lor d1 (Nat.pow 2 e.i)) old (bad ++ outL js old) q]
 | _, _ => false
noncomputable def j7X (rs : List RO) (n : Nat) : Bool → Nat → List RO → List RO → List PStep → Bool := Nat.rec (fun _ _ _ _ _ => false) (fun _ ih ok done old bad p =>
 match z3x (satL rs done) p with
 | none => false
 | some p' => bif andL [ok || z3T (satL rs done), z0e (z0d (satL rs done) done) rs] then j7W rs ih ok (z0d (satL rs done) done) (old ++ satL rs done) bad p' else false) n
noncomputable def z7T (all : List Oper) (p : List PStep) : Bool := match z7Y all with
 | none => false
 | some rs => bif z3c all rs rs then j7X rs 90 true 0 [] [] p else false
theorem q0T : ∀ {l : List Oper} {i : Nat} {acc : T Nat} {rs : List RO}, z2R l i acc = some rs → ∀ r ∈ rs, i ≤ r.i ∧ l[r.i - i]? = some r.o
 | [], _, _, rs, h => by have h : some [] = some rs := h; simp only [Option.some.injEq] at h; subst h; exact fun r hr => by simp at hr
 | o :: l, i, acc, rs, h => by
  have h : (z0b (q2M acc i o.after.toList 0) fun m => z0G m fun m => acc.setK i (some m) fun acc' => z0G (i + 1) fun i' => z1D ⟨i, o, m, kindOf o.op⟩ (z2R l i' acc')) = some rs := h
  obtain ⟨m, hm, h⟩ := z0a h
  rw [z0h, T.setK_eq, z0h] at h
  cases hrs : z2R l (i + 1) (acc.set i (some m)) with
  | none => rw [hrs] at h; simp [z1D] at h
  | some rs' =>
   rw [hrs] at h
   simp only [z1D, Option.some.injEq] at h
   subst h
   have ih := q0T hrs
   intro r hr
   rcases List.mem_cons.1 hr with rfl | hr
   ·exact ⟨Nat.le_refl _, by simp⟩
   ·obtain ⟨h1, h2⟩ := ih r hr
    refine ⟨by omega, ?_⟩
    rw [show r.i - i = (r.i - (i + 1)) + 1 by omega]
    exact h2
theorem z2P {β : Type} {c : Ctx} {tm : T AV} {dst : Option Tmp} {v : AV} {k : T AV → Option β} (h : ∀ d, dst = some d → d < c.size) : z0J c tm dst v k = k (putTs dst tm v) := by
 cases dst with
 | none => rfl
 | some d => rw [z1p, if_pos (h d rfl)]; rfl
def koOf (k : Kept) : KO := ⟨k.r.i, k.r.o.op, k.tm, k.v⟩
theorem j1j {c : Ctx} {all : List Oper} {l : List St} : ∀ {A : List RO} {d : DS} {kos : List KO} {p p' : List PStep}, z1f A → (∀ r ∈ A, all[r.i]? = some r.o) → z3x A p = some p' → runK F G c all p d.s kos = some l →
  ∃ d' kos', runA G c all A d = some d' ∧ runK F G c all p' d'.s kos' = some l ∧ (∀ k ∈ d'.kept, k ∈ d.kept ∨ (k.r ∈ A ∧ koOf k ∈ kos')) ∧ ∀ x ∈ kos, x ∈ kos'
 | [], d, kos, p, p', _, _, hm, h => by
  have hm : some p = some p' := hm
  simp only [Option.some.injEq] at hm; subst hm
  exact ⟨d, kos, rfl, h, fun k hk => .inl hk, fun x hx => hx⟩
 | r :: A, d, kos, p, p', hk, hi, hm, h => by
  match p, hm, h with
  | [], hm, _ => simp [z3x] at hm
  | .sm _ :: _, hm, _ => simp [z3x] at hm
  | .lk _ _ :: _, hm, _ => simp [z3x] at hm
  | .la _ _ _ :: _, hm, _ => simp [z3x] at hm
  | .ln _ _ :: _, hm, _ => simp [z3x] at hm
  | .rd i :: q, hm, h =>
   have hm : (bif Nat.beq r.i i then z3x A q else none) = some p' := hm
   obtain ⟨hb, hm2⟩ := z0c hm
   obtain rfl := Nat.eq_of_beq_eq_true hb
   have h : rdO G all all[r.i]? r.i (runK F G c all q) c d.s kos = some l := h
   rw [hi r List.mem_cons_self] at h
   have h : (bif z0s all r.o.guard d.s.tm then rdN (opN r.o.op G d.s.tm d.s.h) r.o.dst r.i r.o.op (runK F G c all q) c d.s kos else skK r.o.dst (runK F G c all q) c d.s kos) = some l := h
   have hkr := hk r List.mem_cons_self
   have kA : z1f A := fun r hr => hk r (List.mem_cons_of_mem _ hr)
   have iA : ∀ r ∈ A, all[r.i]? = some r.o := fun r hr => hi r (List.mem_cons_of_mem _ hr)
   rw [z3v]
   unfold z2V
   cases hw : z0s all r.o.guard d.s.tm
   ·rw [hw, cond_false] at h
    unfold skK at h
    obtain ⟨h1, h2⟩ := z0m h
    rw [cond_false, z2P h1]
    obtain ⟨d', kos', g1, g2, g3, g4⟩ := j1j (d := ⟨Nat.lor d.done (Nat.pow 2 r.i), ⟨putTs r.o.dst d.s.tm z0A, d.s.h, d.s.df⟩, d.kept⟩) kA iA hm2 h2
    exact ⟨d', kos', g1, g2, fun k hk => (g3 k hk).elim .inl fun h => .inr ⟨List.mem_cons_of_mem _ h.1, h.2⟩, g4⟩
   ·rw [hw, cond_true] at h
    unfold rdN at h
    obtain ⟨q', hq, h⟩ := z0a h
    obtain ⟨h1, h2⟩ := z0m h
    rw [cond_true, hq, q5d, z2P h1]
    obtain ⟨d', kos', g1, g2, g3, g4⟩ := j1j (d := ⟨Nat.lor d.done (Nat.pow 2 r.i), ⟨putTs r.o.dst d.s.tm q'.1, q'.2, d.s.df⟩, z2z r d.s.tm q'.1 d.kept⟩) kA iA hm2 h2
    refine ⟨d', kos', g1, g2, fun k hk => ?_, fun x hx => g4 x ?_⟩
    ·rcases g3 k hk with h | h
     ·have h : k ∈ z2z r d.s.tm q'.1 d.kept := h
      unfold z2z at h
      split at h
      ·exact .inl h
      ·rename_i hne
       rcases List.mem_cons.1 h with h | h
       ·refine .inr ⟨by rw [h]; exact List.mem_cons_self, g4 _ ?_⟩
        rw [h]
        unfold q3V
        rw [← hkr]
        split
        ·rename_i e; exact absurd e hne
        ·exact List.mem_cons_self
       ·exact .inl h
     ·exact .inr ⟨List.mem_cons_of_mem _ h.1, h.2⟩
    ·unfold q3V
     split
     ·exact hx
     ·exact List.mem_cons_of_mem _ hx
theorem q3X {H : Heap} {j : Nat} : ∀ {kos : List KO}, q5z G H j kos → ∀ k ∈ kos, k.i = j → opN k.op G k.tm H = some (k.v, H)
 | [], _, k, hk, _ => by simp at hk
 | x :: l, h, k, hk, hj => by
  rcases List.mem_cons.1 hk with rfl | hk
  ·have := h.1; rw [if_pos hj] at this; exact this
  ·exact q3X h.2 k hk hj
theorem z6M {H : Heap} {kos : List KO} : ∀ {js : List Nat}, z4L G H kos js → ∀ k ∈ kos, k.i ∈ js → opN k.op G k.tm H = some (k.v, H)
 | [], _, k, _, hj => by simp at hj
 | x :: l, h, k, hk, hj => by
  rcases List.mem_cons.1 hj with hj | hj
  ·exact q3X h.1 k hk hj
  ·exact z6M h.2 k hk hj
theorem q3Y {H H' : Heap} {j : Nat} : ∀ {kos : List KO}, q5A H H' j kos → ∀ k ∈ kos, k.i = j → ∀ b, z0H k.v = some b → H'.blks.get b = H.blks.get b
 | [], _, k, hk, _, _, _ => by simp at hk
 | x :: l, h, k, hk, hj, b, hb => by
  rcases List.mem_cons.1 hk with rfl | hk
  ·have h1 := h.1
   rw [if_pos hj] at h1
   unfold q3W at h1
   rw [hb] at h1
   exact h1
  ·exact q3Y h.2 k hk hj b hb
theorem q3Z {H H' : Heap} {kos : List KO} : ∀ {js : List Nat}, q0i H H' kos js → ∀ k ∈ kos, k.i ∈ js → ∀ b, z0H k.v = some b → H'.blks.get b = H.blks.get b
 | [], _, k, _, hj, _, _ => by simp at hj
 | x :: l, h, k, hk, hj, b, hb => by
  rcases List.mem_cons.1 hj with hj | hj
  ·exact q3Y h.1 k hk hj b hb
  ·exact q3Z h.2 k hk hj b hb
theorem q4a {l : List RO} (h : q6R l = true) : ∀ r ∈ l, z0I r.kind = true := fun r hr => List.all_eq_true.1 h r hr
theorem j3Y {js : List Nat} {l : List RO} {r : RO} (h : r ∈ l) : r ∈ outL js l ∨ (r ∈ inL js l ∧ z2j r.i js = true) := by
 cases hh : z2j r.i js
 ·exact .inl (List.mem_filter.2 ⟨h, by rw [hh]; rfl⟩)
 ·exact .inr ⟨List.mem_filter.2 ⟨h, hh⟩, rfl⟩
theorem j3Z {all : List Oper} {rs : List RO} (hK : z1f rs) (hI : ∀ r ∈ rs, all[r.i]? = some r.o) (c : Ctx) : ∀ (n f : Nat) (ok : Bool) (done : Nat) (sealed : Nat) (s : St) (kept : List Kept) (kos : List KO) (old bad : List RO) (p : List PStep) (l : List St),
  j7X rs n ok done old bad p = true → n ≤ f → (ok = true → Neat s.h) → (∀ r ∈ bad, Nat.testBit sealed r.i = true) →
  (∀ k ∈ kept, (k.r ∈ old ∧ k.r.kind = kindOf k.r.o.op ∧ koOf k ∈ kos) ∧ (k.r ∈ bad ∨ GoodM G s.h k)) → runK F G c all p s kos = some l → z0u F G c all rs f sealed ⟨done, s, kept⟩ = some l := by
 intro n
 induction n with
 | zero => intro f ok done sealed s kept kos old bad p l h; exact absurd (show (false : Bool) = true from h) (by simp)
 | succ n ih =>
  intro f ok done sealed s kept kos old bad p l h hf hN hbad hkept hl
  obtain ⟨f, rfl⟩ : ∃ f', f = f' + 1 := ⟨f - 1, by omega⟩
  have h : (match z3x (satL rs done) p with
   | none => false
   | some p' => bif andL [ok || z3T (satL rs done), z0e (z0d (satL rs done) done) rs] then j7W rs (j7X rs n) ok (z0d (satL rs done) done) (old ++ satL rs done) bad p' else false) = true := h
  cases hm : z3x (satL rs done) p with
  | none => rw [hm] at h; simp at h
  | some p' =>
  rw [hm] at h
  simp only at h
  cases h1 : andL [ok || z3T (satL rs done), z0e (z0d (satL rs done) done) rs]
  ·rw [h1] at h; simp at h
  rw [h1, cond_true] at h
  have h1 := z2Y h1
  simp only [List.mem_cons, List.not_mem_nil, or_false, forall_eq_or_imp, forall_eq] at h1
  obtain ⟨a1, a2⟩ := h1
  have kA : z1f (satL rs done) := fun r hr => hK r (z6K r hr)
  have iA : ∀ r ∈ satL rs done, all[r.i]? = some r.o := fun r hr => hI r (z6K r hr)
  obtain ⟨d', kos', e1, e2, e3, e4⟩ := j1j (d := ⟨done, s, kept⟩) kA iA hm hl
  -- what is known behind the reading
  have base : (ok = true → Neat d'.s.h) ∧ ∀ k ∈ d'.kept, (k.r ∈ old ++ satL rs done ∧ k.r.kind = kindOf k.r.o.op ∧ koOf k ∈ kos') ∧ (k.r ∈ bad ∨ GoodM G d'.s.h k) := by
   have kk : ∀ k ∈ d'.kept, k.r ∈ old ++ satL rs done ∧ k.r.kind = kindOf k.r.o.op ∧ koOf k ∈ kos' := fun k hk => by
    rcases e3 k hk with h | ⟨h, h'⟩
    ·have h : k ∈ kept := h
     obtain ⟨⟨q1, q2, q3⟩, _⟩ := hkept k h
     exact ⟨List.mem_append.2 (.inl q1), q2, e4 _ q3⟩
    ·exact ⟨List.mem_append.2 (.inr h), kA _ h, h'⟩
   by_cases hna : z3T (satL rs done) = true
   ·have hch : z1b (satL rs done) done = true := z5H (z2M hna)
    obtain ⟨n1, n2⟩ := z4D kA hch e1
    refine ⟨fun h => by rw [n1]; exact hN h, fun k hk => ⟨kk k hk, ?_⟩⟩
    rcases n2 k hk with h | h
    ·have h : k ∈ kept := h
     refine (hkept k h).2.imp id fun h => ?_
     rw [n1]; exact h
    ·refine .inr (.inl ?_)
     rw [n1]; exact h
   ·have hok : ok = true := by simpa [hna] using a1
    -- makings too: the memory grows
    have gen : ∀ {A : List RO} {d d' : DS}, z1f A → runA G c all A d = some d' → Neat d.s.h → (∀ k ∈ d.kept, k.r.kind = kindOf k.r.o.op ∧ (k.r ∈ bad ∨ GoodM G d.s.h k)) →
      Neat d'.s.h ∧ ∀ k ∈ d'.kept, k.r.kind = kindOf k.r.o.op ∧ (k.r ∈ bad ∨ GoodM G d'.s.h k) := by
     intro A
     induction A with
     | nil => intro d d' _ h hN hg; have h : some d = some d' := h; simp only [Option.some.injEq] at h; subst h; exact ⟨hN, hg⟩
     | cons r A ihA =>
      intro d d' hk h hN hg
      obtain ⟨e, g1, g2⟩ := z0a h
      have hkr := hk r List.mem_cons_self
      -- one operation
      have one : Neat e.s.h ∧ ∀ k ∈ e.kept, k.r.kind = kindOf k.r.o.op ∧ (k.r ∈ bad ∨ GoodM G e.s.h k) := by
       unfold z2V at g1
       cases hw : z0s all r.o.guard d.s.tm
       ·rw [hw, cond_false] at g1
        obtain ⟨_, g1⟩ := z0m g1
        simp only [Option.some.injEq] at g1; subst g1; exact ⟨hN, hg⟩
       ·rw [hw, cond_true] at g1
        obtain ⟨q, hq, g1⟩ := z0a g1
        obtain ⟨_, g1⟩ := z0m g1
        simp only [Option.some.injEq] at g1; subst g1
        have hin : ∀ k ∈ z2z r d.s.tm q.1 d.kept, k ∈ d.kept ∨ k = ⟨r, d.s.tm, q.1⟩ := by
         intro k hkk
         unfold z2z at hkk
         split at hkk
         ·exact .inl hkk
         ·rcases List.mem_cons.1 hkk with h | h
          ·exact .inr h
          ·exact .inl h
        cases ha : z0I r.kind
        ·have e := z8l (by rw [← hkr]; exact ha) hq
         simp only [e]
         refine ⟨hN, fun k hkk => ?_⟩
         rcases hin k hkk with h | h
         ·exact hg k h
         ·subst h; exact ⟨hkr, .inr (.inl ⟨ha, by show opN r.o.op G d.s.tm d.s.h = _; rw [hq, ← e]⟩)⟩
        ·obtain ⟨o, m1, m2, m3, m4⟩ := q3N (by rw [← hkr]; exact ha) hq
         simp only [m1]
         refine ⟨hN.push _, fun k hkk => ?_⟩
         rcases hin k hkk with h | h
         ·exact ⟨(hg k h).1, (hg k h).2.imp id fun h2 => h2.push hN (hg k h).1 o⟩
         ·subst h
          exact ⟨hkr, .inr (.inr ⟨ha, d.s.h.next, o, m3, z0L _ _, m2, m4⟩)⟩
      exact ihA (fun r hr => hk r (List.mem_cons_of_mem _ hr)) g2 one.1 one.2
    obtain ⟨n1, n2⟩ := gen kA e1 (hN hok) (fun k hk => ⟨(hkept k hk).1.2.1, (hkept k hk).2⟩)
    exact ⟨fun _ => n1, fun k hk => ⟨kk k hk, (n2 k hk).2⟩⟩
  obtain ⟨hN', hk'⟩ := base
  have hd : d'.done = z0d (satL rs done) done := z2c e1
  show z0O G c all rs (z0n F G c all rs (z0u F G c all rs f) sealed) ⟨done, s, kept⟩ = some l
  rw [z6L]
  show z0b (runA G c all (satL rs done) ⟨done, s, kept⟩) _ = some l
  rw [e1, q5d]
  unfold z0n z2s
  rw [hd, a2, cond_true, z5m (fun k hk => (hk' k hk).2.imp (hbad _) id), cond_true]
  unfold j7W at h
  split at h
  ·rename_i hne
   rw [hne]
   exact e2
  ·rename_i e i q hne
   rw [hne]
   have h := z2Y h
   simp only [List.mem_cons, List.not_mem_nil, or_false, forall_eq_or_imp, forall_eq] at h
   obtain ⟨b1, b2, b3, b4, b5⟩ := h
   obtain rfl := Nat.eq_of_beq_eq_true b1
   obtain ⟨ke, kin⟩ := z1A hne
   have e2 : smO F G all all[e.i]? (runK F G c all q) c d'.s kos' = some l := e2
   rw [hI e kin] at e2
   have e2 : (bif z0s all e.o.guard d'.s.tm then smE d'.s.h (opE e.o.op F G c d'.s.tm d'.s.df d'.s.h) e.o.dst (runK F G c all q) c d'.s kos' else skK e.o.dst (runK F G c all q) c d'.s kos') = some l := e2
   show (bif sub e.pre d'.done then (bif z0l e d'.done rs then z2l F G c all e d' (z0u F G c all rs f e.pre) else none) else none) = some l
   rw [hd, b2, b3, cond_true, cond_true]
   unfold z2l
   cases hw : z0s all e.o.guard d'.s.tm
   ·rw [hw, cond_false] at e2
    rw [cond_false]
    unfold skK at e2
    obtain ⟨g1, g2⟩ := z0m e2
    unfold z4w
    rw [z2P g1, z0h, hd]
    exact ih f ok _ e.pre ⟨_, d'.s.h, d'.s.df⟩ d'.kept kos' _ bad q l b5 (by omega) hN' (z1g b4) hk' g2
   ·rw [hw, cond_true] at e2
    rw [cond_true]
    unfold smE at e2
    unfold q1p
    split at e2
    ·rename_i qq hq
     split at e2
     ·rename_i hh
      obtain ⟨g1, g2⟩ := z0m e2
      rw [hq, z7m, z2P g1, z0h, hd]
      exact ih f ok _ e.pre ⟨_, qq.2.2, qq.2.1⟩ d'.kept kos' _ bad q l b5 (by omega) (fun h => by show Neat qq.2.2; rw [hh]; exact hN' h) (z1g b4) (fun k hk => by show _ ∧ (_ ∨ GoodM G qq.2.2 k); rw [hh]; exact hk' k hk) g2
     ·simp at e2
    ·simp at e2
  ·rename_i e i js q hne
   rw [hne]
   have h := z2Y h
   simp only [List.mem_cons, List.not_mem_nil, or_false, forall_eq_or_imp, forall_eq] at h
   obtain ⟨b1, b2, b3, b6, b4, b5⟩ := h
   obtain rfl := Nat.eq_of_beq_eq_true b1
   obtain ⟨ke, kin⟩ := z1A hne
   have e2 : lkO F G all all[e.i]? js (runK F G c all q) c d'.s kos' = some l := e2
   rw [hI e kin] at e2
   have e2 : (bif z0s all e.o.guard d'.s.tm then lkE G js (opE e.o.op F G c d'.s.tm d'.s.df d'.s.h) e.o.dst (runK F G c all q) c d'.s kos' else skK e.o.dst (runK F G c all q) c d'.s kos') = some l := e2
   show (bif sub e.pre d'.done then (bif z0l e d'.done rs then z2l F G c all e d' (z0u F G c all rs f e.pre) else none) else none) = some l
   rw [hd, b2, b3, cond_true, cond_true]
   unfold z2l
   cases hw : z0s all e.o.guard d'.s.tm
   ·rw [hw, cond_false] at e2
    rw [cond_false]
    unfold skK at e2
    obtain ⟨g1, g2⟩ := z0m e2
    unfold z4w
    rw [z2P g1, z0h, hd]
    exact ih f false _ e.pre ⟨_, d'.s.h, d'.s.df⟩ d'.kept kos' _ _ q l b5 (by omega) (fun h => by simp at h) (z1g b4) (fun k hk => ⟨(hk' k hk).1, (hk' k hk).2.imp (fun h => List.mem_append.2 (.inl h)) id⟩) g2
   ·rw [hw, cond_true] at e2
    rw [cond_true]
    unfold lkE at e2
    unfold q1p
    split at e2
    ·rename_i qq hq
     split at e2
     ·rename_i hh
      obtain ⟨g1, g2⟩ := z0m e2
      rw [hq, z7m, z2P g1, z0h, hd]
      refine ih f false _ e.pre ⟨_, qq.2.2, qq.2.1⟩ d'.kept kos' _ _ q l b5 (by omega) (fun h => by simp at h) (z1g b4) (fun k hk => ⟨(hk' k hk).1, ?_⟩) g2
      obtain ⟨q1, q2, q3⟩ := (hk' k hk).1
      rcases j3Y (js := js) q1 with h | ⟨h, h'⟩
      ·exact .inl (List.mem_append.2 (.inr h))
      ·exact .inr (.inl ⟨z2M b6 _ h, z6M hh _ q3 (by show k.r.i ∈ js; rw [z4b] at h'; simpa using h')⟩)
     ·simp at e2
    ·simp at e2
  ·rename_i e i js as q hne
   rw [hne]
   have h := z2Y h
   simp only [List.mem_cons, List.not_mem_nil, or_false, forall_eq_or_imp, forall_eq] at h
   obtain ⟨b1, b2, b3, b6, b4, b7, b5⟩ := h
   obtain rfl := Nat.eq_of_beq_eq_true b1
   obtain ⟨ke, kin⟩ := z1A hne
   have e2 : laO F G all all[e.i]? js as (runK F G c all q) c d'.s kos' = some l := e2
   rw [hI e kin] at e2
   have e2 : (bif z0s all e.o.guard d'.s.tm then laE G js as d'.s.h (opE e.o.op F G c d'.s.tm d'.s.df d'.s.h) e.o.dst (runK F G c all q) c d'.s kos' else skK e.o.dst (runK F G c all q) c d'.s kos') = some l := e2
   show (bif sub e.pre d'.done then (bif z0l e d'.done rs then z2l F G c all e d' (z0u F G c all rs f e.pre) else none) else none) = some l
   rw [hd, b2, b3, cond_true, cond_true]
   unfold z2l
   cases hw : z0s all e.o.guard d'.s.tm
   ·rw [hw, cond_false] at e2
    rw [cond_false]
    unfold skK at e2
    obtain ⟨g1, g2⟩ := z0m e2
    unfold z4w
    rw [z2P g1, z0h, hd]
    exact ih f false _ e.pre ⟨_, d'.s.h, d'.s.df⟩ d'.kept kos' _ _ q l b5 (by omega) (fun h => by simp at h) (z1g b4) (fun k hk => ⟨(hk' k hk).1, (hk' k hk).2.imp (fun h => List.mem_append.2 (.inl h)) id⟩) g2
   ·rw [hw, cond_true] at e2
    rw [cond_true]
    unfold laE at e2
    unfold q1p
    split at e2
    ·rename_i qq hq
     split at e2
     ·rename_i hh
      obtain ⟨g1, g2⟩ := z0m e2
      rw [hq, z7m, z2P g1, z0h, hd]
      refine ih f false _ e.pre ⟨_, qq.2.2, qq.2.1⟩ d'.kept kos' _ _ q l b5 (by omega) (fun h => by simp at h) (z1g b4) (fun k hk => ⟨(hk' k hk).1, ?_⟩) g2
      obtain ⟨q1, q2, q3⟩ := (hk' k hk).1
      rcases j3Y (js := js) q1 with h | ⟨h, h'⟩
      ·rcases j3Y (js := as) h with h2 | ⟨h2, h2'⟩
       ·exact .inl (List.mem_append.2 (.inr h2))
       ·rcases (hk' k hk).2 with hb | hg
        ·exact .inl (List.mem_append.2 (.inl hb))
        ·have ha := q4a b7 _ h2
         rcases hg with ⟨g1', _⟩ | ⟨_, b, o, z1, z2, z3, z4⟩
         ·rw [ha] at g1'; simp at g1'
         ·exact .inr (.inr ⟨ha, b, o, z1, by
           show qq.2.2.blks.get b = some o
           rw [q3Z hh.2 _ q3 (by show k.r.i ∈ as; rw [z4b] at h2'; simpa using h2') b z1]; exact z2, z3, z4⟩)
      ·exact .inr (.inl ⟨z2M b6 _ h, z6M hh.1 _ q3 (by show k.r.i ∈ js; rw [z4b] at h'; simpa using h')⟩)
     ·simp at e2
    ·simp at e2
  ·rename_i e i js q hne
   rw [hne]
   have h := z2Y h
   simp only [List.mem_cons, List.not_mem_nil, or_false, forall_eq_or_imp, forall_eq] at h
   obtain ⟨b1, b2, b3, b6, b4, b5⟩ := h
   obtain rfl := Nat.eq_of_beq_eq_true b1
   obtain ⟨ke, kin⟩ := z1A hne
   have e2 : lnO F G all all[e.i]? js (runK F G c all q) c d'.s kos' = some l := e2
   rw [hI e kin] at e2
   have e2 : (bif z0s all e.o.guard d'.s.tm then lnE G js (opE e.o.op F G c d'.s.tm d'.s.df d'.s.h) e.o.dst (runK F G c all q) c d'.s kos' else skK e.o.dst (runK F G c all q) c d'.s kos') = some l := e2
   show (bif sub e.pre d'.done then (bif z0l e d'.done rs then z2l F G c all e d' (z0u F G c all rs f e.pre) else none) else none) = some l
   rw [hd, b2, b3, cond_true, cond_true]
   unfold z2l
   cases hw : z0s all e.o.guard d'.s.tm
   ·rw [hw, cond_false] at e2
    rw [cond_false]
    unfold skK at e2
    obtain ⟨g1, g2⟩ := z0m e2
    unfold z4w
    rw [z2P g1, z0h, hd]
    exact ih f ok _ e.pre ⟨_, d'.s.h, d'.s.df⟩ d'.kept kos' _ _ q l b5 (by omega) hN' (z1g b4) (fun k hk => ⟨(hk' k hk).1, (hk' k hk).2.imp (fun h => List.mem_append.2 (.inl h)) id⟩) g2
   ·rw [hw, cond_true] at e2
    rw [cond_true]
    unfold lnE at e2
    unfold q1p
    split at e2
    ·rename_i qq hq
     split at e2
     ·rename_i hh
      obtain ⟨g1, g2⟩ := z0m e2
      rw [hq, z7m, z2P g1, z0h, hd]
      refine ih f ok _ e.pre ⟨_, qq.2.2, qq.2.1⟩ d'.kept kos' _ _ q l b5 (by omega) (fun _ => hh.2) (z1g b4) (fun k hk => ⟨(hk' k hk).1, ?_⟩) g2
      obtain ⟨q1, q2, q3⟩ := (hk' k hk).1
      rcases j3Y (js := js) q1 with h | ⟨h, h'⟩
      ·exact .inl (List.mem_append.2 (.inr h))
      ·exact .inr (.inl ⟨z2M b6 _ h, z6M hh.1 _ q3 (by show k.r.i ∈ js; rw [z4b] at h'; simpa using h')⟩)
     ·simp at e2
    ·simp at e2
  ·simp at h
theorem k0M {all : List Oper} (p : List PStep) (hp : z7T all p = true) {i : Nat} {c : Ctx} {s : St} {l : List St} (hN : Neat s.h) (h : runK F G c all p s [] = some l) : z2C i all.toArray true F G c s = z1u (some l) := by
 have hcv : z5K all = false := by
  cases hc : z5K all
  ·rfl
  ·exfalso; unfold z7T z7Y at hp; rw [hc] at hp; simp at hp
 rw [z6H hcv]
 unfold z7T at hp
 split at hp
 ·simp at hp
 ·rename_i rs hrs
  obtain ⟨_, hrs⟩ := z4l hrs
  cases h1 : z3c all rs rs
  ·rw [h1] at hp; simp at hp
  ·rw [h1, cond_true] at hp
   have e2 : z1E F G c all s = z0u F G c all rs 100 0 ⟨0, s, []⟩ := by
    unfold z1E z7A
    rw [hrs]
    show (bif z3c all rs rs then _ else none) = _
    rw [h1]; rfl
   rw [e2, j3Z (z2L hrs).2 (fun r hr => by simpa using (q0T hrs r hr).2) c 90 100 true 0 0 s [] [] [] [] p l hp (by omega) (fun _ => hN) (fun r hr => by simp at hr) (fun k hk => by simp at hk) h]
variable (all : List Oper) (c : Ctx) (s : St) (kos : List KO)
theorem j7Y : runK F G c all [] s kos = some [s] := rfl
theorem k_rd (i : Nat) (p : List PStep) : runK F G c all (.rd i :: p) s kos = rdO G all all[i]? i (runK F G c all p) c s kos := rfl
theorem k_sm (i : Nat) (p : List PStep) : runK F G c all (.sm i :: p) s kos = smO F G all all[i]? (runK F G c all p) c s kos := rfl
theorem k_lk (i : Nat) (js : List Nat) (p : List PStep) : runK F G c all (.lk i js :: p) s kos = lkO F G all all[i]? js (runK F G c all p) c s kos := rfl
variable (nxt : KRun) (i : Nat) (o : Option Tmp) (op : Op) (t : TypeId) (ps : String) (a : Array Edge) (j : Nat) (w : Bool) (js : List Nat)
noncomputable def rdG (b : Bool) (r : Option VH) (o : Option Tmp) (i : Nat) (op : Op) (nxt : KRun) (c : Ctx) (s : St) (kos : List KO) : Option (List St) := bif b then rdN r o i op nxt c s kos else skK o nxt c s kos
noncomputable def smG (b : Bool) (H0 : Heap) (r : Option (List EOut)) (o : Option Tmp) (nxt : KRun) (c : Ctx) (s : St) (kos : List KO) : Option (List St) := bif b then smE H0 r o nxt c s kos else skK o nxt c s kos
noncomputable def lkG (G : Tab) (b : Bool) (js : List Nat) (r : Option (List EOut)) (o : Option Tmp) (nxt : KRun) (c : Ctx) (s : St) (kos : List KO) : Option (List St) := bif b then lkE G js r o nxt c s kos else skK o nxt c s kos
theorem j7Z : rdO G all (some ⟨o, op, t, ps, a, none⟩) i nxt c s kos = rdN (opN op G s.tm s.h) o i op nxt c s kos := rfl
theorem j1k : rdO G all (some ⟨o, op, t, ps, a, some (j, w)⟩) i nxt c s kos = rdG (guardA all s.tm j w) (opN op G s.tm s.h) o i op nxt c s kos := rfl
theorem j1l (r : Option VH) : rdG true r o i op nxt c s kos = rdN r o i op nxt c s kos := rfl
theorem j1m (r : Option VH) : rdG false r o i op nxt c s kos = skK o nxt c s kos := rfl
theorem j8a : smO F G all (some ⟨o, op, t, ps, a, none⟩) nxt c s kos = smE s.h (opE op F G c s.tm s.df s.h) o nxt c s kos := rfl
theorem j1n : smO F G all (some ⟨o, op, t, ps, a, some (j, w)⟩) nxt c s kos = smG (guardA all s.tm j w) s.h (opE op F G c s.tm s.df s.h) o nxt c s kos := rfl
theorem j1o (H0 : Heap) (r : Option (List EOut)) : smG true H0 r o nxt c s kos = smE H0 r o nxt c s kos := rfl
theorem j1p (H0 : Heap) (r : Option (List EOut)) : smG false H0 r o nxt c s kos = skK o nxt c s kos := rfl
theorem j8b : lkO F G all (some ⟨o, op, t, ps, a, none⟩) js nxt c s kos = lkE G js (opE op F G c s.tm s.df s.h) o nxt c s kos := rfl
theorem j1q : lkO F G all (some ⟨o, op, t, ps, a, some (j, w)⟩) js nxt c s kos = lkG G (guardA all s.tm j w) js (opE op F G c s.tm s.df s.h) o nxt c s kos := rfl
theorem j1r (r : Option (List EOut)) : lkG G true js r o nxt c s kos = lkE G js r o nxt c s kos := rfl
theorem j1s (r : Option (List EOut)) : lkG G false js r o nxt c s kos = skK o nxt c s kos := rfl
theorem j8c (v : AV) (H : Heap) (d : Tmp) (h : d < c.size) : rdN (some (v, H)) (some d) i op nxt c s kos = nxt ⟨s.tm.set d (some v), H, s.df⟩ (q3V (kindOf op) ⟨i, op, s.tm, v⟩ kos) := by
 show z0J c s.tm (some d) v _ = _
 rw [z1p, if_pos h]
theorem j1t (v : AV) (H : Heap) : rdN (some (v, H)) none i op nxt c s kos = nxt ⟨s.tm, H, s.df⟩ (q3V (kindOf op) ⟨i, op, s.tm, v⟩ kos) := rfl
theorem k_sk (d : Tmp) (h : d < c.size) : skK (some d) nxt c s kos = nxt ⟨s.tm.set d (some z0A), s.h, s.df⟩ kos := by
 show z0J c s.tm (some d) z0A _ = _
 rw [z1p, if_pos h]
theorem j8d : skK none nxt c s kos = nxt ⟨s.tm, s.h, s.df⟩ kos := rfl
theorem j8e (H0 : Heap) (v : AV) (df : List ADefer) (d : Tmp) (h : d < c.size) : smE H0 (some [(v, df, H0)]) (some d) nxt c s kos = nxt ⟨s.tm.set d (some v), H0, df⟩ kos := by
 unfold smE
 exact (if_pos rfl).trans (by rw [z1p, if_pos h])
theorem j1u (H0 : Heap) (v : AV) (df : List ADefer) : smE H0 (some [(v, df, H0)]) none nxt c s kos = nxt ⟨s.tm, H0, df⟩ kos := by
 unfold smE
 exact if_pos rfl
open Classical in
noncomputable def lkX (p : Prop) (x : Option (List St)) : Option (List St) := if p then x else none
theorem j8f (x : Option (List St)) : lkX True x = x := if_pos trivial
theorem j8g (v : AV) (df : List ADefer) (H : Heap) (d : Tmp) (h : d < c.size) : lkE G js (some [(v, df, H)]) (some d) nxt c s kos = lkX (z4L G H kos js) (nxt ⟨s.tm.set d (some v), H, df⟩ kos) := by
 unfold lkE lkX
 simp only [z1p, if_pos h]
theorem j1v (v : AV) (df : List ADefer) (H : Heap) : lkE G js (some [(v, df, H)]) none nxt c s kos = lkX (z4L G H kos js) (nxt ⟨s.tm, H, df⟩ kos) := rfl
variable (as : List Nat)
noncomputable def laG (G : Tab) (b : Bool) (js as : List Nat) (H0 : Heap) (r : Option (List EOut)) (o : Option Tmp) (nxt : KRun) (c : Ctx) (s : St) (kos : List KO) : Option (List St) := bif b then laE G js as H0 r o nxt c s kos else skK o nxt c s kos
theorem k_la (i : Nat) (js as : List Nat) (p : List PStep) : runK F G c all (.la i js as :: p) s kos = laO F G all all[i]? js as (runK F G c all p) c s kos := rfl
theorem j8h : laO F G all (some ⟨o, op, t, ps, a, none⟩) js as nxt c s kos = laE G js as s.h (opE op F G c s.tm s.df s.h) o nxt c s kos := rfl
theorem j1w : laO F G all (some ⟨o, op, t, ps, a, some (j, w)⟩) js as nxt c s kos = laG G (guardA all s.tm j w) js as s.h (opE op F G c s.tm s.df s.h) o nxt c s kos := rfl
theorem j1x (H0 : Heap) (r : Option (List EOut)) : laG G true js as H0 r o nxt c s kos = laE G js as H0 r o nxt c s kos := rfl
theorem j1y (H0 : Heap) (r : Option (List EOut)) : laG G false js as H0 r o nxt c s kos = skK o nxt c s kos := rfl
theorem j8i (H0 : Heap) (v : AV) (df : List ADefer) (H : Heap) (d : Tmp) (h : d < c.size) : laE G js as H0 (some [(v, df, H)]) (some d) nxt c s kos = lkX (z4L G H kos js ∧ q0i H0 H kos as) (nxt ⟨s.tm.set d (some v), H, df⟩ kos) := by
 unfold laE lkX
 simp only [z1p, if_pos h]
 by_cases hp : z4L G H kos js ∧ q0i H0 H kos as
 ·rw [if_pos hp, if_pos hp]
 ·rw [if_neg hp, if_neg hp]
theorem j1z (H0 : Heap) (v : AV) (df : List ADefer) (H : Heap) : laE G js as H0 (some [(v, df, H)]) none nxt c s kos = lkX (z4L G H kos js ∧ q0i H0 H kos as) (nxt ⟨s.tm, H, df⟩ kos) := by
 unfold laE lkX
 by_cases hp : z4L G H kos js ∧ q0i H0 H kos as
 ·simp only [if_pos hp]; rfl
 ·simp only [if_neg hp]
noncomputable def lnG (G : Tab) (b : Bool) (js : List Nat) (r : Option (List EOut)) (o : Option Tmp) (nxt : KRun) (c : Ctx) (s : St) (kos : List KO) : Option (List St) := bif b then lnE G js r o nxt c s kos else skK o nxt c s kos
theorem k_ln (i : Nat) (js : List Nat) (p : List PStep) : runK F G c all (.ln i js :: p) s kos = lnO F G all all[i]? js (runK F G c all p) c s kos := rfl
theorem j8j : lnO F G all (some ⟨o, op, t, ps, a, none⟩) js nxt c s kos = lnE G js (opE op F G c s.tm s.df s.h) o nxt c s kos := rfl
theorem j1A : lnO F G all (some ⟨o, op, t, ps, a, some (j, w)⟩) js nxt c s kos = lnG G (guardA all s.tm j w) js (opE op F G c s.tm s.df s.h) o nxt c s kos := rfl
theorem j1B (r : Option (List EOut)) : lnG G true js r o nxt c s kos = lnE G js r o nxt c s kos := rfl
theorem j1C (r : Option (List EOut)) : lnG G false js r o nxt c s kos = skK o nxt c s kos := rfl
theorem j8k (v : AV) (df : List ADefer) (H : Heap) (d : Tmp) (h : d < c.size) : lnE G js (some [(v, df, H)]) (some d) nxt c s kos = lkX (z4L G H kos js ∧ Neat H) (nxt ⟨s.tm.set d (some v), H, df⟩ kos) := by
 unfold lnE lkX
 simp only [z1p, if_pos h]
 by_cases hp : z4L G H kos js ∧ Neat H
 ·rw [if_pos hp, if_pos hp]
 ·rw [if_neg hp, if_neg hp]
theorem j1D (v : AV) (df : List ADefer) (H : Heap) : lnE G js (some [(v, df, H)]) none nxt c s kos = lkX (z4L G H kos js ∧ Neat H) (nxt ⟨s.tm, H, df⟩ kos) := by
 unfold lnE lkX
 by_cases hp : z4L G H kos js ∧ Neat H
 ·simp only [if_pos hp]; rfl
 ·simp only [if_neg hp]
theorem q5B (H0 H : Heap) : q0i H0 H kos (j :: js) = (q5A H0 H j kos ∧ q0i H0 H kos js) := rfl
theorem q2e (H0 H : Heap) : q0i H0 H kos [] = True := rfl
theorem q2f (H0 H : Heap) : q5A H0 H j [] = True := rfl
theorem q5C (H0 H : Heap) (tm : T AV) (v : AV) (l : List KO) : q5A H0 H j (⟨i, op, tm, v⟩ :: l) = ((if i = j then q3W H0 H v else True) ∧ q5A H0 H j l) := rfl
theorem z9H (H0 H : Heap) (b n : Nat) : q3W H0 H (.ptr b n) = (H.blks.get b = H0.blks.get b) := rfl
theorem q2g (H0 H : Heap) (b n m : Nat) (q : Bool) (k : Nat) : q3W H0 H (.slice b n m q k) = (H.blks.get b = H0.blks.get b) := rfl
theorem q5D (x : KO) : q3V .pure x kos = kos := rfl
theorem q5E (x : KO) : q3V .read x kos = x :: kos := rfl
theorem q5F (x : KO) : q3V .alloc x kos = x :: kos := rfl
theorem j1E (H : Heap) : z4L G H kos (j :: js) = (q5z G H j kos ∧ z4L G H kos js) := rfl
theorem q5G (H : Heap) : z4L G H kos [] = True := rfl
theorem q5H (H : Heap) : q5z G H j [] = True := rfl
theorem j1F (H : Heap) (tm : T AV) (v : AV) (l : List KO) : q5z G H j (⟨i, op, tm, v⟩ :: l) = ((if i = j then opN op G tm H = some (v, H) else True) ∧ q5z G H j l) := rfl
end
section
variable {P : Program} {G : Tab} {c : Ctx} {s s' : St} {Q : Ex → St → Prop}
theorem Gets.drawK (TT : TabOk P G) {ov : Ov} (ho : OvOk P G ov) (n : Nat) {i : Nat} {all : List Oper} (p : List PStep) (hp : z7T all p = true) (hN : Neat s.h)
  (h : runK (fnsO G ov n) G c all p s [] = some [s']) (hQ : Q .normal s') : Gets P G c (.region i all.toArray true) s Q :=
 Gets.last TT ho n (s' := s') (by
  show z2C i all.toArray true (fnsO G ov n) G c s = _
  rw [k0M p hp hN h]; rfl) hQ
end
end Go.Sx
namespace Go.Sx
section
variable {G : Tab}
theorem q0U (v : AV) : ∀ (l : List AV) (i : Nat), i < l.length → z1m [v] l i = some (l.set i v)
 | [], i, h => by simp at h
 | a :: l, 0, _ => rfl
 | a :: l, i + 1, h => by
  show (bif Nat.beq (i + 1) 0 then z4K [v] (a :: l) else z1D a (z1m [v] l (i + 1 - 1))) = _
  rw [z0E (Nat.succ_ne_zero i), cond_false, Nat.add_sub_cancel, q0U v l i (by simpa using h)]; rfl
theorem j1G {H : Heap} {t : TypeId} {b off : Nat} {e : TypeId} {x : Bool} {old : List AV} {v : AV} (hb : H.blks.get b = some (.cells e x old)) (hz : G.size t = some 1) (ho : off < old.length) (h1 : z0F v = true) :
  z2r G H t (.ptr b off) v = some (z0y H b (some (.cells e x (old.set off v)))) := by
 have e1 : z2r G H t (.ptr b off) v = z0b (G.size t) fun s => bif Nat.beq (len v.cells) s then z1s H b off v.cells else none := rfl
 rw [e1, hz, z9A h1]
 show z4q H b off [v] (H.blks.get b) = _
 rw [hb]
 show (bif z0V [v] then z6l H b e x (z1m [v] old off) else none) = _
 have : z0V [v] = true := by show (bif z0F v then true else false) = true; rw [h1]; rfl
 rw [this, q0U v old off ho, cond_true]
 show z4N (old.set off v) (fun l => z0M H b (some (.cells e x l)) some) = _
 rw [z1n]
 unfold z0M z0y
 rw [T.setK_eq, T.setK_eq]
theorem w2q (as : Array Operand) (ts : Array TypeId) (tm : T AV) (H : Heap) : opN (.call ⟨.builtin .max, as, ts⟩) G tm H = z0N H (z0b (aevs G tm as.toList) (q7l q8S)) := rfl
theorem w2h (k k' : IntKind) (a b : Int) : q7l q8S [.int k a, .int k' b] = some (.int k (max a b)) := by
 show some (AV.int k (bif iblt a b then b else a)) = _
 rw [j4S]
 by_cases h : a < b
 ·rw [decide_eq_true h, cond_true, Int.max_eq_right (by omega)]
 ·rw [decide_eq_false h, cond_false, Int.max_eq_left (by omega)]
theorem w2i {F : Fns} {c : Ctx} (a b : TypeId) (x : Operand) (tm : T AV) (df : List ADefer) (H : Heap) : opE (.convert a b x) F G c tm df H = out2 df (z0b (aev G tm x) (z6n G H a b)) := rfl
theorem w2r (k : IntKind) {a b : Int} (ha : 0 ≤ a) (hb : b ≠ 0) : remO k a b = some (.int k (a % b)) := by
 unfold remO
 rw [j4T, decide_eq_false hb, cond_false, Int.tmod_eq_emod_of_nonneg ha]
end
end Go.Sx
namespace Go.Sx
open Go
section
variable {P : Program} {G : Tab}
theorem Gets.lessH {c : Ctx} {x : Code} {tm : T AV} {df : List ADefer} {H H' : Heap} {Q : Ex → St → Prop} (hb : ∀ b o, H'.blks.get b = some o → H.blks.get b = some o) (hn : H'.next = H.next)
  (h : Gets P G c x ⟨tm, H', df⟩ Q) : Gets P G c x ⟨tm, H, df⟩ Q := fun ρ D w tmv dfv b k cs hS hR => by
 obtain ⟨e, s', h1, ρ', D', w', tm', df', g1, g2, g3⟩ := h ρ D w tmv dfv b k cs ⟨HRel.less hS.h hb (Nat.le_of_eq hn.symm), hS.t, hS.d⟩ hR
 exact ⟨e, s', h1, ρ', D', w', tm', df', g1, ⟨g2.sub, by have := g2.next; rw [← hn]; exact this, fun b hb => by have := g2.new b hb; rw [← hn]; exact this⟩, g3⟩
noncomputable def posB {α : Type} (v : Option α) (N : Nat) : Bool := match v with
 | none => true
 | some _ => Nat.blt 0 N
noncomputable def q6S {α : Type} (t : T α) : Nat → Bool := T.rec (motive := fun _ => Nat → Bool) (fun _ => true)
 (fun _ v _ l r N => bif posB v N then (bif l (N / 2) then r ((N - 1) / 2) else false) else false) t
theorem z9I {α : Type} : ∀ {t : T α} {N k : Nat} {o : α}, q6S t N = true → t.get k = some o → k < N
 | .e, _, _, _, _, h => by rw [T.get_e] at h; simp at h
 | .n l v r, N, k, o, hb, h => by
  obtain ⟨h1, hb⟩ := z0f (a := posB v N) (b := bif q6S l (N / 2) then q6S r ((N - 1) / 2) else false) hb
  obtain ⟨h2, h3⟩ := z0f hb
  rw [T.get_n] at h
  by_cases hk0 : k = 0
  ·rw [if_pos hk0] at h
   subst h
   have := z1r (show Nat.blt 0 N = true from h1)
   omega
  ·rw [if_neg hk0] at h
   by_cases hm : k % 2 = 1
   ·rw [if_pos hm] at h
    have := z9I h2 h
    omega
   ·rw [if_neg hm] at h
    have := z9I h3 h
    omega
noncomputable def j8l (H : Heap) : Bool := q6S H.blks H.next
theorem z6N {H : Heap} (h : j8l H = true) : Neat H := fun _ _ hb => z9I h hb
noncomputable def q4b (a b : T ABlk) (n : Nat) : Bool := Nat.rec true (fun i ih => bif z8p ABlk.beq (a.get i) (b.get i) then ih else false) n
theorem z6O {a b : T ABlk} : ∀ {n : Nat}, q4b a b n = true → ∀ i, i < n → a.get i = b.get i
 | 0, _, i, hi => by omega
 | n + 1, h, i, hi => by
  have h : (bif z8p ABlk.beq (a.get n) (b.get n) then q4b a b n else false) = true := h
  obtain ⟨h1, h2⟩ := z0f h
  by_cases e : i = n
  ·subst e; exact z9i ABlk.beq_eq h1
  ·exact z6O h2 i (by omega)
noncomputable def q2h : AV → Bool
 | .bool _ => true
 | .int _ _ => true
 | .str _ => true
 | .nilptr => true
 | .nilslice => true
 | .nilmap => true
 | .nilFunc => true
 | .nilIface => true
 | _ => false
noncomputable def q2i (l : List AV) : Bool := List.rec true (fun v _ ih => bif q2h v then ih else false) l
theorem q6T {v : AV} (h : q2h v = true) (ρ : Env) (D : Nat → Prop) : okV ρ D v ∧ ∀ ρ', conc ρ' v = conc ρ v := by
 cases v <;> first | exact ⟨trivial, fun _ => rfl⟩ | (simp [q2h] at h)
theorem k1G {v : AV} (h : q2h v = true) (N : Nat) : ltV N v := by
 cases v <;> first | trivial | (simp [q2h] at h)
theorem z9J : ∀ {l : List AV}, q2i l = true → ∀ v ∈ l, q2h v = true
 | [], _, v, hv => by simp at hv
 | x :: l, h, v, hv => by
  have h : (bif q2h x then q2i l else false) = true := h
  obtain ⟨h1, h2⟩ := z0f h
  rcases List.mem_cons.1 hv with rfl | hv
  ·exact h1
  ·exact z9J h2 v hv
theorem q2j {N : Nat} : ∀ {l : List AV}, ltL N l ↔ ∀ v ∈ l, ltV N v
 | [] => ⟨fun _ v hv => by simp at hv, fun _ => trivial⟩
 | x :: l => ⟨fun h v hv => by
   rcases List.mem_cons.1 hv with rfl | hv
   ·exact h.1
   ·exact q2j.1 h.2 v hv, fun h => ⟨h x List.mem_cons_self, q2j.2 fun v hv => h v (List.mem_cons_of_mem _ hv)⟩⟩
theorem z8m {l : List AV} (h : q2i l = true) (ρ : Env) (D : Nat → Prop) : okL ρ D l ∧ ∀ ρ', concL ρ' l = concL ρ l :=
 ⟨z0z.2 fun v hv => (q6T (z9J h v hv) ρ D).1, fun ρ' => by
  rw [z0i, z0i]
  exact List.map_congr_left fun v hv => (q6T (z9J h v hv) ρ D).2 ρ'⟩
noncomputable def j4a : AV → Bool
 | .agg l => q2i l
 | v => q2h v
theorem q6U {v : AV} (h : j4a v = true) (ρ : Env) (D : Nat → Prop) : okV ρ D v ∧ ∀ ρ', conc ρ' v = conc ρ v := by
 cases v
 case agg l => exact ⟨(z8m (show q2i l = true from h) ρ D).1, fun ρ' => by unfold conc; rw [(z8m (show q2i l = true from h) ρ D).2 ρ']⟩
 all_goals first | exact ⟨trivial, fun _ => rfl⟩ | (exact absurd (show (false : Bool) = true from h) (by simp))
noncomputable def q0V (l : List AV) : Bool := List.rec true (fun v _ ih => bif j4a v then ih else false) l
theorem z7q : ∀ {l : List AV}, q0V l = true → ∀ v ∈ l, j4a v = true
 | [], _, v, hv => by simp at hv
 | x :: l, h, v, hv => by
  have h : (bif j4a x then q0V l else false) = true := h
  obtain ⟨h1, h2⟩ := z0f h
  rcases List.mem_cons.1 hv with rfl | hv
  ·exact h1
  ·exact z7q h2 v hv
theorem q4c {l : List AV} (h : q0V l = true) (ρ : Env) (D : Nat → Prop) : okL ρ D l ∧ ∀ ρ', concL ρ' l = concL ρ l :=
 ⟨z0z.2 fun v hv => (q6U (z7q h v hv) ρ D).1, fun ρ' => by
  rw [z0i, z0i]
  exact List.map_congr_left fun v hv => (q6U (z7q h v hv) ρ D).2 ρ'⟩
noncomputable def j8m : AV → Bool
 | .tuple l => q0V l
 | .agg l => q2i l
 | v => q2h v
theorem q2k {v : AV} (h : j8m v = true) (ρ : Env) (D : Nat → Prop) : okV ρ D v ∧ ∀ ρ', conc ρ' v = conc ρ v := by
 cases v
 case tuple l => exact ⟨(q4c (show q0V l = true from h) ρ D).1, fun ρ' => by unfold conc; rw [(q4c (show q0V l = true from h) ρ D).2 ρ']⟩
 case agg l => exact ⟨(z8m (show q2i l = true from h) ρ D).1, fun ρ' => by unfold conc; rw [(z8m (show q2i l = true from h) ρ D).2 ρ']⟩
 all_goals first | exact ⟨trivial, fun _ => rfl⟩ | (exact absurd (show (false : Bool) = true from h) (by simp))
noncomputable def q8k (H0 : Heap) (v : AV) (l : List VH) : Bool := List.rec true (fun p _ ih => bif AV.beq p.1 v then (bif q4b p.2.blks H0.blks H0.next then ih else false) else false) l
theorem z8n {H0 : Heap} {v : AV} : ∀ {l : List VH}, q8k H0 v l = true → ∀ p ∈ l, p.1 = v ∧ ∀ i, i < H0.next → p.2.blks.get i = H0.blks.get i
 | [], _, p, hp => by simp at hp
 | x :: l, h, p, hp => by
  have h : (bif AV.beq x.1 v then (bif q4b x.2.blks H0.blks H0.next then q8k H0 v l else false) else false) = true := h
  obtain ⟨h1, h⟩ := z0f h
  obtain ⟨h2, h3⟩ := z0f h
  rcases List.mem_cons.1 hp with rfl | hp
  ·exact ⟨AV.beq_eq _ _ h1, z6O h2⟩
  ·exact z8n h3 p hp
theorem j8n {b a c : Nat → Nat} {r r' : Nat → Obj → Prop} {o o' : World} {D : Nat → Prop} {e : AEntry} (h : okE ⟨b, a, c, r, o⟩ D e) : okE ⟨b, a, c, r', o'⟩ D e := ⟨q3B _ h.1, q3B _ h.2⟩
theorem j1H {b a c : Nat → Nat} {r r' : Nat → Obj → Prop} {o o' : World} (e : AEntry) : concE ⟨b, a, c, r', o'⟩ e = concE ⟨b, a, c, r, o⟩ e := by
 unfold concE
 rw [z3I (r := r) (r' := r') (o := o) (o' := o') e.key, z3I (r := r) (r' := r') (o := o) (o' := o') e.val]
theorem z6P {bl ba ca : Nat → Nat} {r r' : Nat → Obj → Prop} {g g' : World} {D : Nat → Prop} {w : World} {b : Nat} {N : Nat} {o : ABlk} (hn : ltB N o) (h : BRel G ⟨bl, ba, ca, r, g⟩ D w b o) : BRel G ⟨bl, ba, ca, r', g'⟩ D w b o := by
 cases o with
 | cells e ex l =>
  obtain ⟨h1, h2, arr, fz, h3, h4, h5, h6, h7⟩ := h
  exact ⟨z2Z l h1, h2, arr, fz, h3, h4, h5, fun i v hv => by rw [h6 i v hv]; exact congrArg some (z3I v).symm, h7⟩
 | big e n z =>
  obtain ⟨h1, arr, el, fz, h3, h5, h6⟩ := h
  exact ⟨z2Z z h1, arr, el, fz, h3, h5, fun i v hi hv => by rw [h6 i v hi hv]; exact congrArg some (z3I v).symm⟩
 | map es c =>
  obtain ⟨h1, es', h2, h3⟩ := h
  exact ⟨fun e he => j8n (h1 e he), es', h2, by rw [h3]; exact List.map_congr_left fun e _ => (j1H e).symm⟩
 | mapIter m s l p => exact h
 | strIter s p => exact h
 | loop r => exact hn.elim
 | deferred => exact h
 | fix e l =>
  obtain ⟨h1, el, fz, h2⟩ := h
  exact ⟨z2Z l h1, el, fz, by rw [z2x (r := r) (o := g) l]; exact h2⟩
theorem CallTo.embed {f : FuncId} {args : List AV} {H0 : Heap} {l : List VH} {v : AV} (h : CallTo P G f args H0 l) (hv : j8m v = true) (hl : q8k H0 v l = true) (hg : G.nglob ≤ H0.next) (hb : ∀ b o, H0.blks.get b = some o → b < H0.next ∧ ltB H0.next o)
  (ha : ltL H0.next args) {H : Heap} (hsub : ∀ b o, H0.blks.get b = some o → H.blks.get b = some o) : CallTo P G f args H [(v, H)] := by
 intro ρ D w kind cs hH hargs
 obtain ⟨bl, ba, ca, re, og⟩ := ρ
 have hR : HRel G ⟨bl, ba, ca, fun i o => w.heap[i]? = some o ∧ ∀ b, D b ∧ b < H0.next → bl b = i → z0W (H0.blks.get b), w⟩ (fun b => D b ∧ b < H0.next) w H0 := by
  refine ⟨fun b hb => hb.2, fun g hgl => ⟨⟨(hH.glob g hgl).1, Nat.lt_of_lt_of_le hgl hg⟩, (hH.glob g hgl).2⟩, fun b b' o o' hb1 hb2 ho ho' e => hH.inj b b' o o' hb1.1 hb2.1 (hsub b o ho) (hsub b' o' ho') e,
   fun b o hD ho => ?_, fun i o hi => ⟨hi.1, fun b hD e => hi.2 b hD e⟩, .refl _⟩
  have h1 := hH.blk b o hD.1 (hsub b o ho)
  have h2 : BRel G ⟨bl, ba, ca, re, og⟩ (fun b => D b ∧ b < H0.next) w b o := h1.move (h1.bok.cut (hb b o ho).2) ⟨fun b hb => hb.1, fun _ _ => rfl, fun _ _ => rfl, fun _ _ => rfl, rfl, rfl⟩ (.refl _ _) rfl rfl rfl
  exact z6P (hb b o ho).2 h2
 obtain ⟨h0, p, hp, ρ', D', w', fr, h1, h2, h3, h4, h5, h6, h7, h8, fn, h9, h10⟩ := h _ _ w kind cs hR (z2Z args (z2X args hargs ha))
 obtain ⟨e1, e2⟩ := z8n hl p hp
 rw [z2x (r := re) (o := og) args] at h4
 have hrest : ∀ (i : Nat) (o : Obj), (w.heap[i]? = some o ∧ ∀ b, D b ∧ b < H0.next → bl b = i → z0W (H0.blks.get b)) → w'.heap[i]? = some o := fun i o hi => (h1.rest i o (by rw [h2.sub.rest]; exact hi)).1
 have hkin : Kin w w' := by have := h1.kin; rw [h2.sub.orig] at this; exact this
 have hfl := q2k hv ρ' D'
 refine ⟨h0, (v, H), List.mem_singleton.2 rfl, ⟨bl, ba, ca, re, og⟩, D, w', fr, ⟨hH.lt, hH.glob, hH.inj, fun b o hD ho => ?_, fun i o hi => ⟨?_, (hH.rest i o hi).2⟩, hH.kin.trans hkin⟩, .refl _ _ _, (q2k hv _ _).1, h4, h5, h6, h7, h8, fn, h9, ?_⟩
 ·have hb1 := hH.blk b o hD ho
  by_cases hex : ∀ b', D b' ∧ b' < H0.next → bl b' = bl b → z0W (H0.blks.get b')
  ·refine hb1.sub (.refl _ _) hD ?_
   obtain ⟨x, hx⟩ : ∃ x, w.heap[bl b]? = some x := ⟨_, Array.getElem?_eq_getElem hb1.stands⟩
   exact (hrest _ x ⟨hx, hex⟩).trans hx.symm
  ·obtain ⟨b', hh⟩ := Classical.not_forall.1 hex
   obtain ⟨hD', hh⟩ := Classical.not_imp.1 hh
   obtain ⟨hbl, hns⟩ := Classical.not_imp.1 hh
   cases ho' : H0.blks.get b' with
   | none => rw [ho'] at hns; exact absurd trivial hns
   | some o' =>
    rw [ho'] at hns
    rcases hH.inj b b' o o' hD hD'.1 ho (hsub b' o' ho') hbl.symm with rfl | ⟨_, hst⟩
    ·have hoo : o = o' := by
      have := hsub b o' ho'
      rw [ho] at this
      exact Option.some.inj this
     subst hoo
     have hb2 := h1.blk b o (h2.sub.dom b hD') (by rw [e2 b hD'.2]; exact ho')
     have hb3 := (hR.blk b o hD' ho').bok
     have hb4 : BRel G ⟨bl, ba, ca, fun i o => w.heap[i]? = some o ∧ ∀ b, D b ∧ b < H0.next → bl b = i → z0W (H0.blks.get b), w⟩ D w' b o :=
      hb2.move hb3 h2.sub ⟨fun b hb => hb.1, fun _ _ => rfl, fun _ _ => rfl, fun _ _ => rfl, rfl, rfl⟩ (h2.sub.blk b hD').symm (h2.sub.base b hD').symm (h2.sub.cap b hD').symm
     exact z6P (hb b o ho').2 hb4
    ·exact absurd hst hns
 ·refine hrest i o ⟨(hH.rest i o hi).1, fun b hD e => ?_⟩
  cases hc : H0.blks.get b with
  | none => trivial
  | some o' => have := (hH.rest i o hi).2 b hD.1 e; rw [hsub b o' hc] at this; exact this
 ·rw [h10, e1, (q2k hv ⟨bl, ba, ca, re, og⟩ D).2 ρ']
end
end Go.Sx
namespace Go.Sx
open Go
mutual
def ltVB (N : Nat) : AV → Bool
 | .ptr b _ => Nat.blt b N
 | .slice b _ _ _ _ => Nat.blt b N
 | .tail b _ _ _ => Nat.blt b N
 | .map r => Nat.blt r N
 | .yld l => Nat.blt l N
 | .func _ x y => bif ltLB N x then ltLB N y else false
 | .iface _ v => ltVB N v
 | .agg cs => ltLB N cs
 | .tuple vs => ltLB N vs
 | _ => true
def ltLB (N : Nat) : List AV → Bool
 | [] => true
 | v :: l => bif ltVB N v then ltLB N l else false
end
mutual
theorem q2l {N : Nat} : ∀ v, ltVB N v = true → ltV N v
 | .bool _, _ => trivial
 | .int _ _, _ => trivial
 | .str _, _ => trivial
 | .ptr _ _, h => z1r h
 | .nilptr, _ => trivial
 | .slice _ _ _ _ _, h => z1r h
 | .nilslice, _ => trivial
 | .odd _ _ _ _, _ => trivial
 | .tail _ _ _ _, h => z1r h
 | .map _, h => z1r h
 | .nilmap, _ => trivial
 | .func _ x y, h => by
  have h : (bif ltLB N x then ltLB N y else false) = true := h
  obtain ⟨h1, h2⟩ := z0f h
  exact ⟨z4F x h1, z4F y h2⟩
 | .yld _, h => z1r h
 | .nilFunc, _ => trivial
 | .iface _ v, h => q2l v h
 | .nilIface, _ => trivial
 | .agg cs, h => z4F cs h
 | .tuple cs, h => z4F cs h
theorem z4F {N : Nat} : ∀ l, ltLB N l = true → ltL N l
 | [], _ => trivial
 | v :: l, h => by
  have h : (bif ltVB N v then ltLB N l else false) = true := h
  obtain ⟨h1, h2⟩ := z0f h
  exact ⟨q2l v h1, z4F l h2⟩
end
noncomputable def ltEB (N : Nat) (l : List AEntry) : Bool := List.rec true (fun e _ ih => bif ltVB N e.key then (bif ltVB N e.val then ih else false) else false) l
theorem j1I {N : Nat} : ∀ {l : List AEntry}, ltEB N l = true → ∀ e ∈ l, ltV N e.key ∧ ltV N e.val
 | [], _, e, he => by simp at he
 | x :: l, h, e, he => by
  have h : (bif ltVB N x.key then (bif ltVB N x.val then ltEB N l else false) else false) = true := h
  obtain ⟨h1, h⟩ := z0f h
  obtain ⟨h2, h3⟩ := z0f h
  rcases List.mem_cons.1 he with rfl | he
  ·exact ⟨q2l _ h1, q2l _ h2⟩
  ·exact j1I h3 e he
noncomputable def ltBB (N : Nat) (o : ABlk) : Bool := match o with
 | .cells _ _ l => ltLB N l
 | .big _ _ z => ltLB N z
 | .map es _ => ltEB N es
 | .mapIter m _ _ _ => (match m with | some r => Nat.blt r N | none => true)
 | .strIter _ _ => true
 | .loop _ => false
 | .deferred => true
 | .fix _ l => ltLB N l
theorem j8o {N : Nat} {o : ABlk} (h : ltBB N o = true) : ltB N o := by
 cases o with
 | cells e x l => exact z4F l h
 | big e n z => exact z4F z h
 | map es c => exact j1I h
 | mapIter m s l p => intro r hr; subst hr; exact z1r h
 | strIter s p => trivial
 | loop r => exact absurd (show (false : Bool) = true from h) (by simp)
 | deferred => trivial
 | fix e l => exact z4F l h
noncomputable def optB {α : Type} (f : α → Bool) (v : Option α) : Bool := match v with | some a => f a | none => true
noncomputable def allT {α : Type} (f : α → Bool) (t : T α) : Bool := T.rec true (fun _ v _ l r => bif optB f v then (bif l then r else false) else false) t
theorem q5I {α : Type} {f : α → Bool} : ∀ {t : T α}, allT f t = true → ∀ k a, t.get k = some a → f a = true
 | .e, _, k, a, h => by rw [T.get_e] at h; simp at h
 | .n l v r, hb, k, a, h => by
  have hb : (bif optB f v then (bif allT f l then allT f r else false) else false) = true := hb
  obtain ⟨h1, hb⟩ := z0f hb
  obtain ⟨h2, h3⟩ := z0f hb
  rw [T.get_n] at h
  split at h
  ·rw [h] at h1; exact h1
  ·split at h
   ·exact q5I h2 _ a h
   ·exact q5I h3 _ a h
section
variable {P : Program} {G : Tab}
noncomputable def q5J (G : Tab) (H0 : Heap) (as : List AV) : Bool := andL [j8l H0, allT (ltBB H0.next) H0.blks, ltLB H0.next as, Nat.ble G.nglob H0.next]
theorem q8l {H0 : Heap} {as : List AV} (h : q5J G H0 as = true) : (∀ b o, H0.blks.get b = some o → b < H0.next ∧ ltB H0.next o) ∧ ltL H0.next as ∧ G.nglob ≤ H0.next := by
 have h := h
 unfold q5J at h
 obtain ⟨h1, h⟩ := z0f h
 obtain ⟨h2, h⟩ := z0f h
 obtain ⟨h3, h⟩ := z0f h
 obtain ⟨h4, h⟩ := z0f h
 exact ⟨fun b o hb => ⟨z6N h1 b o hb, j8o (q5I h2 b o hb)⟩, z4F _ h3, z1h h4⟩
noncomputable def q5K (H0 : Heap) (v : AV) (o : Option (List VH)) : Bool := match o with
 | some l => q8k H0 v l
 | none => false
theorem q8m (TT : TabOk P G) {n : Nat} {f : FuncId} {as : List AV} {H0 : Heap} {v : AV} (h : q5K H0 v ((fns G n).call f as H0) = true) : ∃ l, CallTo P G f as H0 l ∧ q8k H0 v l = true := by
 cases hr : (fns G n).call f as H0 with
 | none => rw [hr] at h; simp [q5K] at h
 | some l =>
  rw [hr] at h
  exact ⟨l, fun ρ D w kind cs hH ha => (z2U TT n).call f as H0 _ hr ρ D w kind cs hH ha, h⟩
theorem k0N (TT : TabOk P G) {n : Nat} {f : FuncId} {as : List AV} {H0 : Heap} {v : AV} (h : q5K H0 v ((fns G n).call f as H0) = true) (hv : j8m v = true) (hc : q5J G H0 as = true)
  (H : Heap) (hs : ∀ b o, H0.blks.get b = some o → H.blks.get b = some o) : CallTo P G f as H [(v, H)] := by
 obtain ⟨l, h1, h2⟩ := q8m TT h
 obtain ⟨c1, c2, c3⟩ := q8l hc
 exact CallTo.embed h1 hv h2 c3 c1 c2 hs
end
end Go.Sx
namespace Go.Sx
open Go
section
variable {P : Program} {G : Tab}
theorem CallTo.core {f : FuncId} {args : List AV} {H0 : Heap} {l : List VH} (h : CallTo P G f args H0 l) (hl : ∀ p ∈ l, ∀ i, i < H0.next → p.2.blks.get i = H0.blks.get i) (hg : G.nglob ≤ H0.next) (hb : ∀ b o, H0.blks.get b = some o → b < H0.next ∧ ltB H0.next o)
  (ha : ltL H0.next args) {H : Heap} (hsub : ∀ b o, H0.blks.get b = some o → H.blks.get b = some o) {bl ba ca : Nat → Nat} {re : Nat → Obj → Prop} {og : World} {D : Nat → Prop} {w : World} (kind : j7j) (cs : List Frame)
  (hH : HRel G ⟨bl, ba, ca, re, og⟩ D w H) (hargs : okL ⟨bl, ba, ca, re, og⟩ D args) :
  (∃ fn body, P.funcs[f]? = some fn ∧ fn.body = some body ∧ (fn.name == "runtime.NumGoroutine") = false) ∧ ∃ p ∈ l, ∃ bl' ba' ca' re' og' D' w' fr, HRel G ⟨bl', ba', ca', re', og'⟩ D' w' p.2 ∧ okV ⟨bl', ba', ca', re', og'⟩ D' p.1 ∧
   (∀ b, D b ∧ b < H0.next → D' b ∧ bl' b = bl b ∧ ba' b = ba b ∧ ca' b = ca b) ∧ (∀ b, D' b → (D b ∧ b < H0.next) ∨ H0.next ≤ b) ∧ H0.next ≤ p.2.next ∧
   Steps P (lone (Frame.enter P f (concL ⟨bl, ba, ca, re, og⟩ args).toArray kind.1) cs w) (lone fr cs w') ∧ fr.fn = f ∧ fr.mode = .returning ∧ fr.defers = [] ∧ fr.kind = kind.1 ∧
   (∃ fn, P.funcs[f]? = some fn ∧ (results fn fr.tmps).run P w' = .ok (conc ⟨bl', ba', ca', re', og'⟩ p.1) w') ∧
   (∀ b o, D b → H.blks.get b = some o → BRel G ⟨bl, ba, ca, re, og⟩ D w' b o) ∧ (∀ i o, re i o → w'.heap[i]? = some o) ∧ Kin w w' ∧
   (∀ b b' o o', D b → H.blks.get b = some o → H0.next ≤ b' → D' b' → p.2.blks.get b' = some o' → ¬ z0W (some o') → bl b ≠ bl' b') ∧
   (∀ i o b', re i o → D' b' → H0.next ≤ b' → bl' b' = i → z0W (p.2.blks.get b')) := by
 have hR : HRel G ⟨bl, ba, ca, fun i o => w.heap[i]? = some o ∧ ∀ b, D b ∧ b < H0.next → bl b = i → z0W (H0.blks.get b), w⟩ (fun b => D b ∧ b < H0.next) w H0 := by
  refine ⟨fun b hb => hb.2, fun g hgl => ⟨⟨(hH.glob g hgl).1, Nat.lt_of_lt_of_le hgl hg⟩, (hH.glob g hgl).2⟩, fun b b' o o' hb1 hb2 ho ho' e => hH.inj b b' o o' hb1.1 hb2.1 (hsub b o ho) (hsub b' o' ho') e,
   fun b o hD ho => ?_, fun i o hi => ⟨hi.1, fun b hD e => hi.2 b hD e⟩, .refl _⟩
  have h1 := hH.blk b o hD.1 (hsub b o ho)
  have h2 : BRel G ⟨bl, ba, ca, re, og⟩ (fun b => D b ∧ b < H0.next) w b o := h1.move (h1.bok.cut (hb b o ho).2) ⟨fun b hb => hb.1, fun _ _ => rfl, fun _ _ => rfl, fun _ _ => rfl, rfl, rfl⟩ (.refl _ _) rfl rfl rfl
  exact z6P (hb b o ho).2 h2
 obtain ⟨h0, p, hp, ρ', D', w', fr, h1, h2, h3, h4, h5, h6, h7, h8, fn, h9, h10⟩ := h _ _ w kind cs hR (z2Z args (z2X args hargs ha))
 have e2 := hl p hp
 rw [z2x (r := re) (o := og) args] at h4
 have hrest : ∀ (i : Nat) (o : Obj), (w.heap[i]? = some o ∧ ∀ b, D b ∧ b < H0.next → bl b = i → z0W (H0.blks.get b)) → w'.heap[i]? = some o ∧ ∀ b, D' b → ρ'.blk b = i → z0W (p.2.blks.get b) := fun i o hi => h1.rest i o (by rw [h2.sub.rest]; exact hi)
 have hkin : Kin w w' := by have := h1.kin; rw [h2.sub.orig] at this; exact this
 have hst : ∀ i o, re i o → w.heap[i]? = some o ∧ ∀ b, D b ∧ b < H0.next → bl b = i → z0W (H0.blks.get b) := fun i o hi => ⟨(hH.rest i o hi).1, fun b hD e => by
  cases hc : H0.blks.get b with
  | none => trivial
  | some o' => have := (hH.rest i o hi).2 b hD.1 e; rw [hsub b o' hc] at this; exact this⟩
 have hin : ∀ b o, D b → H.blks.get b = some o → (∀ b', D b' ∧ b' < H0.next → bl b' = bl b → z0W (H0.blks.get b')) ∨ ((D b ∧ b < H0.next) ∧ H0.blks.get b = some o ∧ ¬ z0W (some o)) := fun b o hD ho => by
  by_cases hex : ∀ b', D b' ∧ b' < H0.next → bl b' = bl b → z0W (H0.blks.get b')
  ·exact .inl hex
  ·obtain ⟨b', hh⟩ := Classical.not_forall.1 hex
   obtain ⟨hD', hh⟩ := Classical.not_imp.1 hh
   obtain ⟨hbl, hns⟩ := Classical.not_imp.1 hh
   cases ho' : H0.blks.get b' with
   | none => rw [ho'] at hns; exact absurd trivial hns
   | some o' =>
    rw [ho'] at hns
    rcases hH.inj b b' o o' hD hD'.1 ho (hsub b' o' ho') hbl.symm with rfl | ⟨_, hst⟩
    ·have hoo : o = o' := by
      have := hsub b o' ho'
      rw [ho] at this
      exact Option.some.inj this
     subst hoo
     exact .inr ⟨hD', ho', hns⟩
    ·exact absurd hst hns
 refine ⟨h0, p, hp, ρ'.blk, ρ'.base, ρ'.cap, ρ'.rest, ρ'.orig, D', w', fr, h1, h3, fun b hD => ⟨h2.sub.dom b hD, h2.sub.blk b hD, h2.sub.base b hD, h2.sub.cap b hD⟩, h2.new, h2.next, h4, h5, h6, h7, h8, ⟨fn, h9, h10⟩, fun b o hD ho => ?_,
  fun i o hi => (hrest i o (hst i o hi)).1, hkin, fun b b' o o' hD ho hlt hD' ho' hns e => ?_, fun i o b' hi hD' hlt e => (hrest i o (hst i o hi)).2 b' hD' e⟩
 ·have hb1 := hH.blk b o hD ho
  rcases hin b o hD ho with hex | ⟨hD', ho', hns⟩
  ·refine hb1.sub (.refl _ _) hD ?_
   obtain ⟨x, hx⟩ : ∃ x, w.heap[bl b]? = some x := ⟨_, Array.getElem?_eq_getElem hb1.stands⟩
   exact (hrest _ x ⟨hx, hex⟩).1.trans hx.symm
  ·have hb2 := h1.blk b o (h2.sub.dom b hD') (by rw [e2 b hD'.2]; exact ho')
   have hb3 := (hR.blk b o hD' ho').bok
   have hb4 : BRel G ⟨bl, ba, ca, fun i o => w.heap[i]? = some o ∧ ∀ b, D b ∧ b < H0.next → bl b = i → z0W (H0.blks.get b), w⟩ D w' b o :=
    hb2.move hb3 h2.sub ⟨fun b hb => hb.1, fun _ _ => rfl, fun _ _ => rfl, fun _ _ => rfl, rfl, rfl⟩ (h2.sub.blk b hD').symm (h2.sub.base b hD').symm (h2.sub.cap b hD').symm
   exact z6P (hb b o ho').2 hb4
 ·rcases hin b o hD ho with hex | ⟨hDb, hob, _⟩
  ·have hb1 := hH.blk b o hD ho
   obtain ⟨x, hx⟩ : ∃ x, w.heap[bl b]? = some x := ⟨_, Array.getElem?_eq_getElem hb1.stands⟩
   have := (hrest (bl b) x ⟨hx, hex⟩).2 b' hD' e.symm
   rw [ho'] at this
   exact hns this
  ·rcases h1.inj b b' o o' (h2.sub.dom b hDb) hD' (by rw [e2 b hDb.2]; exact hob) ho' (by rw [h2.sub.blk b hDb]; exact e) with rfl | ⟨_, hs⟩
   ·exact absurd hDb.2 (Nat.not_lt.2 hlt)
   ·exact hns hs
end
end Go.Sx
namespace Go.Sx
open Go
section
variable {P : Program} {G : Tab}
theorem CallTo.union {f : FuncId} {args : List AV} {H0 H1 : Heap} {v : AV} (h : CallTo P G f args H0 [(v, H1)]) (hl : ∀ i, i < H0.next → H1.blks.get i = H0.blks.get i) (hg : G.nglob ≤ H0.next) (hb : ∀ b o, H0.blks.get b = some o → b < H0.next ∧ ltB H0.next o)
  (ha : ltL H0.next args) {H : Heap} (hsub : ∀ b o, H0.blks.get b = some o → H.blks.get b = some o) (hn : H.next = H0.next) (hnew : ∀ b o, H0.next ≤ b → H1.blks.get b = some o → ¬ z0W (some o) ∧ ltB H1.next o)
  {H' : Heap} (hu : ∀ b o, H'.blks.get b = some o → (b < H.next ∧ H.blks.get b = some o) ∨ (H.next ≤ b ∧ H1.blks.get b = some o)) (hn' : H'.next = H1.next) : CallTo P G f args H [(v, H')] := by
 intro ρ D w kind cs hH hargs
 obtain ⟨bl, ba, ca, re, og⟩ := ρ
 obtain ⟨h0, p, hp, bl', ba', ca', re', og', D', w', fr, h1, h3, hs, hD', hnx, h4, h5, h6, h7, h8, ⟨fn, h9, h10⟩, c1, c2, c3, c4, c5⟩ := h.core (fun p hp => by rw [List.mem_singleton.1 hp]; exact hl) hg hb ha hsub kind cs hH hargs
 obtain rfl := List.mem_singleton.1 hp
 have hlt : ∀ b, D b → b < H0.next := fun b hD => by rw [← hn]; exact hH.lt b hD
 have sub : Sub ⟨bl, ba, ca, re, og⟩ D ⟨bl', ba', ca', re, og⟩ D' := ⟨fun b hD => (hs b ⟨hD, hlt b hD⟩).1, fun b hD => (hs b ⟨hD, hlt b hD⟩).2.1, fun b hD => (hs b ⟨hD, hlt b hD⟩).2.2.1, fun b hD => (hs b ⟨hD, hlt b hD⟩).2.2.2, rfl, rfl⟩
 have old : ∀ b, D' b → b < H.next → D b := fun b hb1 hb2 => (hD' b hb1).elim (·.1) fun e => by omega
 have ble : ∀ b, D b → bl' b = bl b := fun b hD => (hs b ⟨hD, hlt b hD⟩).2.1
 refine ⟨h0, (v, H'), List.mem_singleton.2 rfl, ⟨bl', ba', ca', re, og⟩, D', w', fr, ⟨fun b hb1 => by show b < H'.next; rw [hn']; exact h1.lt b hb1, h1.glob, fun b b' o o' q1 q2 q3 q4 e => ?_, fun b o q1 q2 => ?_, fun i o hi => ⟨c2 i o hi, fun b q1 e => ?_⟩, hH.kin.trans c3⟩,
  ⟨sub, by show H.next ≤ H'.next; rw [hn', hn]; exact hnx, fun b hb1 => (hD' b hb1).imp (·.1) fun e => by rw [hn]; exact e⟩, q3B _ h3, h4, h5, h6, h7, h8, fn, h9, ?_⟩
 ·have e : bl' b = bl' b' := e
  rcases hu b o q3 with ⟨k1, k2⟩ | ⟨k1, k2⟩ <;> rcases hu b' o' q4 with ⟨j1, j2⟩ | ⟨j1, j2⟩
  ·have Db := old b q1 k1
   have Db' := old b' q2 j1
   exact hH.inj b b' o o' Db Db' k2 j2 (by show bl b = bl b'; rw [← ble b Db, ← ble b' Db']; exact e)
  ·have Db := old b q1 k1
   exact absurd (by rw [← ble b Db]; exact e) (c4 b b' o o' Db k2 (by omega) q2 j2 (hnew b' o' (by omega) j2).1)
  ·have Db' := old b' q2 j1
   exact absurd (by rw [← ble b' Db']; exact e.symm) (c4 b' b o' o Db' j2 (by omega) q1 k2 (hnew b o (by omega) k2).1)
  ·exact h1.inj b b' o o' q1 q2 k2 j2 e
 ·rcases hu b o q2 with ⟨k1, k2⟩ | ⟨k1, k2⟩
  ·have Db := old b q1 k1
   exact (c1 b o Db k2).sub sub Db rfl
  ·exact z6P (hnew b o (by omega) k2).2 (h1.blk b o q1 k2)
 ·cases hc : H'.blks.get b with
  | none => trivial
  | some o' =>
   rcases hu b o' hc with ⟨k1, k2⟩ | ⟨k1, k2⟩
   ·have Db := old b q1 k1
    have := (hH.rest i o hi).2 b Db (by show bl b = i; rw [← ble b Db]; exact e)
    rw [k2] at this; exact this
   ·have := c5 i o b hi q1 (by omega) e
    rw [k2] at this; exact this
 ·rw [h10]; exact congrArg (fun x => Result.ok x w') (z3I v).symm
theorem CallTo.embedPtr {f : FuncId} {args : List AV} {H0 : Heap} {l : List VH} {d off : Nat} (h : CallTo P G f args H0 l) (hl : q8k H0 (.ptr d off) l = true) (hd : H0.next ≤ d) (hg : G.nglob ≤ H0.next) (hb : ∀ b o, H0.blks.get b = some o → b < H0.next ∧ ltB H0.next o)
  (ha : ltL H0.next args) {H : Heap} (hsub : ∀ b o, H0.blks.get b = some o → H.blks.get b = some o) (hN : Neat H) : CallTo P G f args H [(.ptr H.next off, ⟨H.next + 1, H.blks⟩)] := by
 intro ρ D w kind cs hH hargs
 obtain ⟨bl, ba, ca, re, og⟩ := ρ
 obtain ⟨h0, p, hp, bl', ba', ca', re', og', D', w', fr, h1, h3, hs, hD', hnx, h4, h5, h6, h7, h8, ⟨fn, h9, h10⟩, c1, c2, c3, c4, c5⟩ := h.core (fun p hp => (z8n hl p hp).2) hg hb ha hsub kind cs hH hargs
 have e1 := (z8n hl p hp).1
 have hne : ∀ b, D b → b ≠ H.next := fun b hD => Nat.ne_of_lt (hH.lt b hD)
 have sub : Sub ⟨bl, ba, ca, re, og⟩ D ⟨fun x => if x = H.next then bl' d else bl x, fun x => if x = H.next then ba' d else ba x, fun x => if x = H.next then ca' d else ca x, re, og⟩ (fun b => D b ∨ b = H.next) :=
  ⟨fun b hD => .inl hD, fun b hD => if_neg (hne b hD), fun b hD => if_neg (hne b hD), fun b hD => if_neg (hne b hD), rfl, rfl⟩
 have old : ∀ b o, (D b ∨ b = H.next) → H.blks.get b = some o → D b := fun b o q1 q2 => q1.elim id fun e => by have := hN b o q2; omega
 refine ⟨h0, (.ptr H.next off, ⟨H.next + 1, H.blks⟩), List.mem_singleton.2 rfl, ⟨fun x => if x = H.next then bl' d else bl x, fun x => if x = H.next then ba' d else ba x, fun x => if x = H.next then ca' d else ca x, re, og⟩, (fun b => D b ∨ b = H.next), w', fr,
  ⟨fun b hb1 => ?_, fun g hgl => ?_, fun b b' o o' q1 q2 q3 q4 e => ?_, fun b o q1 q2 => (c1 b o (old b o q1 q2) q2).sub sub (old b o q1 q2) rfl, fun i o hi => ⟨c2 i o hi, fun b q1 e => ?_⟩, hH.kin.trans c3⟩,
  ⟨sub, Nat.le_succ _, fun b hb1 => hb1.imp id fun e => Nat.le_of_eq e.symm⟩, .inr rfl, h4, h5, h6, h7, h8, fn, h9, ?_⟩
 ·show b < H.next + 1
  rcases hb1 with h | h
  ·exact Nat.lt_succ_of_lt (hH.lt b h)
  ·omega
 ·have := hH.glob g hgl
  exact ⟨.inl this.1, (if_neg (hne g this.1)).trans this.2.1, (if_neg (hne g this.1)).trans this.2.2⟩
 ·have Db := old b o q1 q3
  have Db' := old b' o' q2 q4
  exact hH.inj b b' o o' Db Db' q3 q4 (by
   have e : (if b = H.next then bl' d else bl b) = (if b' = H.next then bl' d else bl b') := e
   rw [if_neg (hne b Db), if_neg (hne b' Db')] at e; exact e)
 ·show z0W (H.blks.get b)
  cases hc : H.blks.get b with
  | none => trivial
  | some o' =>
   have Db := old b o' q1 hc
   have := (hH.rest i o hi).2 b Db (by
    have e : (if b = H.next then bl' d else bl b) = i := e
    rw [if_neg (hne b Db)] at e; exact e)
   rw [hc] at this; exact this
 ·rw [h10, e1]
  show Result.ok (Value.pointer (some ⟨bl' d, ba' d + off, none⟩)) w' = .ok (.pointer (some ⟨if H.next = H.next then bl' d else bl H.next, (if H.next = H.next then ba' d else ba H.next) + off, none⟩)) w'
  rw [if_pos rfl, if_pos rfl]
end
end Go.Sx
namespace Go.Sx
def NilS (v : AV) : Prop := v = .nilslice ∨ ∃ b o s c, v = .odd b o s c
theorem NilS.one {v : AV} (h : NilS v) : z0F v = true := by rcases h with rfl | ⟨b, o, s, c, rfl⟩ <;> rfl
theorem NilS.lt {v : AV} (h : NilS v) (n : Nat) : ltV n v := by rcases h with rfl | ⟨b, o, s, c, rfl⟩ <;> trivial
theorem NilS.len {v : AV} (h : NilS v) {G : Tab} {t e : TypeId} (hu : G.und t = some (.slice e)) (H : Heap) : lenA G H t v = some (.int .i64 0) := by
 rcases h with rfl | ⟨b, o, s, c, rfl⟩
 ·exact q1Y hu H
 ·unfold lenA; rw [hu]; rfl
theorem j4V {e : TypeId} {n : Nat} {z : List AV} (hz : z.length = n) (off : Nat) : cellIn (some (.big e n z)) off = z[off]? := by
 rw [j0R]
 by_cases h : off < n
 ·rw [if_pos h, hz, Nat.mod_eq_of_lt h]
 ·rw [if_neg h, List.getElem?_eq_none (by omega)]
theorem z9K {e : TypeId} {n : Nat} {z : List AV} (hz : z.length = n) : ∀ {l : List AV} {off : Nat}, (∀ j v, l[j]? = some v → z[off + j]? = some v) → z5q n z off l.length = some l
 | [], _, _ => rfl
 | v :: l, off, h => by
  show z2k (q4m n z off) (z5q n z (off + 1) l.length) = _
  have h0 : q4m n z off = some v := by
   have := j4V (e := e) hz off
   have e0 : cellIn (some (.big e n z)) off = q4m n z off := rfl
   rw [← e0, this]; exact h 0 v rfl
  rw [h0, z9K (e := e) hz (l := l) (off := off + 1) fun j w hj => by rw [Nat.add_assoc, Nat.add_comm 1 j]; exact h (j + 1) w hj]
  rfl
theorem z9L {α : Type} {f : α → List AV} {k : Nat} (hf : ∀ a, (f a).length = k) : ∀ {l : List α} {i : Nat} {a : α} {j : Nat}, l[i]? = some a → j < k → (l.flatMap f)[i * k + j]? = (f a)[j]?
 | [], i, a, j, h, _ => by simp at h
 | x :: l, 0, a, j, h, hj => by
  simp only [List.getElem?_cons_zero, Option.some.injEq] at h; subst h
  rw [List.flatMap_cons, Nat.zero_mul, Nat.zero_add, List.getElem?_append_left (by rw [hf]; exact hj)]
 | x :: l, i + 1, a, j, h, hj => by
  rw [List.getElem?_cons_succ] at h
  rw [List.flatMap_cons, List.getElem?_append_right (by rw [hf, Nat.succ_mul]; omega), hf, ← z9L hf h hj]
  congr 1; rw [Nat.succ_mul]; omega
theorem z4G {α : Type} {f : α → List AV} {k : Nat} (hf : ∀ a, (f a).length = k) : ∀ l : List α, (l.flatMap f).length = l.length * k
 | [] => by simp
 | x :: l => by rw [List.flatMap_cons, List.length_append, hf, z4G hf l, List.length_cons, Nat.succ_mul, Nat.add_comm]
def RowsAt {α : Type} (e k : Nat) (f : α → List AV) (H : Heap) (v : AV) (l : List α) : Prop :=
 (NilS v ∧ l = []) ∨ ∃ b c, v = .slice b 0 l.length false c ∧ l.length ≤ c ∧ H.blks.get b = some (.big e (l.length * k) (l.flatMap f))
theorem RowsAt.grow {α : Type} {e k : Nat} {f : α → List AV} {H H' : Heap} {v : AV} {l : List α} (h : RowsAt e k f H v l) (hN : Neat H) (hg : Grows H H') : RowsAt e k f H' v l := by
 rcases h with h | ⟨b, c, h1, h3, h2⟩
 ·exact .inl h
 ·exact .inr ⟨b, c, h1, h3, by rw [hg.get b (hN b _ h2)]; exact h2⟩
theorem RowsAt.one {α : Type} {e k : Nat} {f : α → List AV} {H : Heap} {v : AV} {l : List α} (h : RowsAt e k f H v l) : z0F v = true := by
 rcases h with ⟨h, _⟩ | ⟨b, c, rfl, _⟩
 ·exact h.one
 ·rfl
theorem RowsAt.len {α : Type} {G : Tab} {t e k : Nat} {f : α → List AV} {H : Heap} {v : AV} {l : List α} (h : RowsAt e k f H v l) (hu : G.und t = some (.slice e)) (H' : Heap) : lenA G H' t v = some (.int .i64 (l.length : Int)) := by
 rcases h with ⟨h, rfl⟩ | ⟨b, c, rfl, _⟩
 ·exact h.len hu H'
 ·exact z5C hu H' ..
theorem RowsAt.row {α : Type} {G : Tab} {t e k : Nat} {f : α → List AV} {H : Heap} {v : AV} {l : List α} (h : RowsAt e k f H v l) (hu : G.und t = some (.slice e)) (hz : G.size e = some k) (hf : ∀ a, (f a).length = k)
  {i : Nat} {a : α} (ha : l[i]? = some a) : ∃ b, z1M G t v (.int .i64 (i : Int)) = some (.ptr b (i * k)) ∧ (∀ j, j < k → cellIn (H.blks.get b) (i * k + j) = (f a)[j]?) ∧
   ∀ j r, j + r ≤ k → z2o (H.blks.get b) (i * k + j) r = some (((f a).drop j).take r) := by
 have hi : i < l.length := (List.getElem?_eq_some_iff.1 ha).1
 rcases h with ⟨_, rfl⟩ | ⟨b, c, rfl, _, hb⟩
 ·simp at ha
 ·have hlen := z4G hf l
  refine ⟨b, ?_, fun j hj => ?_, fun j r hj => ?_⟩
  ·rw [z5h hu hz, if_pos ⟨by omega, by omega⟩]; simp
  ·rw [hb, j4V hlen, z9L hf ha hj]
  ·rw [hb]
   show z5q (l.length * k) (l.flatMap f) (i * k + j) r = _
   have hl : (((f a).drop j).take r).length = r := by rw [List.length_take, List.length_drop, hf]; omega
   have := z9K (e := e) hlen (l := ((f a).drop j).take r) (off := i * k + j) fun q w hq => by
    rw [List.getElem?_take] at hq
    split at hq
    ·rw [List.getElem?_drop] at hq
     rw [Nat.add_assoc, z9L hf ha (by omega)]; exact hq
    ·simp at hq
   rwa [hl] at this
end Go.Sx
namespace Go.Sx
open Go Go.RowKit
section
variable {H₀ : Type} {enc : TypeId × Value → H₀} {P : Program} {G : Tab} {W : World} {base : Nat} {sp : Nat → Bool} {held : Bool}
theorem j1J (a : Addr) (n : Nat) : (a.add n).block = a.block := by unfold Addr.add; split <;> rfl
theorem j8p (a : Addr) (n : Nat) : (a.add n).off = a.off + n := by
 unfold Addr.add
 split
 ·rename_i h; rw [h]; rfl
 ·rfl
theorem j1K (a : Addr) (m n : Nat) : (a.add m).add n = a.add (m + n) := by
 unfold Addr.add
 by_cases hm : m = 0
 ·subst hm; simp
 ·by_cases hn : n = 0
  ·subst hn; simp
  ·rw [if_neg hm, if_neg hn, if_neg (by omega)]
   simp only
   congr 1; omega
theorem q6V {a : Addr} {k : Nat} {cs : List Value} (h : W.cells? base a k = some cs) : cs.length = k ∧ ∀ j, j < k → W.cell? (a.add j) = cs[j]? := by
 unfold World.cells? at h
 split at h
 ·exact ⟨by simpa using mapM_some_length h, fun j hj => mapM_some_get h j j (by simp [hj])⟩
 ·simp at h
theorem j4b {ρ : Env} {l : List AV} {cs : List Value} (h : concL ρ l = cs) (i : Nat) : cs[i]? = l[i]?.map (conc ρ) := by
 rw [← h, z0i, List.getElem?_map]
theorem k1H {α : Type} {e k : Nat} {f : α → List AV} (hf : ∀ a, (f a).length = k) (hk : 0 < k) {R : Heap → α → Prop} (hR : ∀ (H H' : Heap) (a : α), R H a → Neat H → Grows H H' → R H' a)
  (helem : ∀ (ρ : Env) (H : Heap), Base G W ρ H → G.nglob ≤ H.next → ∀ (n : Nat) (cs : List Value) (x : DataW H₀ × List MemPlace), DataW.trod enc P W base sp held n e cs = some x →
   ∃ ρ' H' a, Base G W ρ' H' ∧ More ρ H ρ' H' ∧ R H' a ∧ okL ρ' (fun b => b < H'.next) (f a) ∧ concL ρ' (f a) = cs)
  {t : TypeId} (ht : P.underlying t = some (.slice e)) (hc : P.cellsOf e = k) {n : Nat} {cs : List Value} {x : DataW H₀ × List MemPlace} (h : DataW.trod enc P W base sp held n t cs = some x)
  {ρ : Env} {H : Heap} (hB : Base G W ρ H) (hg : G.nglob ≤ H.next) :
  ∃ ρ' H' av l, Base G W ρ' H' ∧ More ρ H ρ' H' ∧ concL ρ' [av] = cs ∧ okV ρ' (fun b => b < H'.next) av ∧ RowsAt e k f H' av l ∧ ∀ a ∈ l, R H' a := by
 rcases DataW.trod_slice ht h with ⟨rfl, _⟩ | ⟨a, len, cap, elems, rest, m, _, rfl, _, _, hlc, _, hel, hcells, _, _⟩
 ·exact ⟨ρ, H, .nilslice, [], hB, .refl _ _, rfl, trivial, .inl ⟨.inl rfl, rfl⟩, fun a ha => by simp at ha⟩
 ·by_cases h0 : len = 0
  ·subst h0
   exact ⟨ρ, H, .odd a.block a.off a.spot cap, [], hB, .refl _ _, rfl, trivial, .inl ⟨.inr ⟨_, _, _, _, rfl⟩, rfl⟩, fun a ha => by simp at ha⟩
  ·have hex : ∀ i, i < len → ∃ cs y, W.cells? base (a.add (i * k)) k = some cs ∧ DataW.trod enc P W base sp held m e cs = some y := fun i hi => by
    have := hcells i hi
    rw [hc, List.getElem?_eq_getElem (by omega)] at this
    obtain ⟨cs, h1, h2⟩ := Option.bind_eq_some_iff.1 this
    exact ⟨cs, _, h1, h2⟩
   obtain ⟨cs0, y0, hcs0, _⟩ := hex 0 (by omega)
   obtain ⟨hl0, hat0⟩ := q6V hcs0
   have hc0 := hat0 0 hk
   rw [j1K, Nat.zero_mul, Nat.zero_add] at hc0
   have e0 : a.add 0 = a := by simp [Addr.add]
   rw [e0, List.getElem?_eq_getElem (by omega)] at hc0
   obtain ⟨hspot, arr, el, fz, harr, _⟩ := z6G hc0
   have harrAt : ∀ i j cs, W.cells? base (a.add (i * k)) k = some cs → j < k → arr[a.off + (i * k + j)]? = cs[j]? := fun i j cs h1 hj => by
    obtain ⟨hl, hat⟩ := q6V h1
    have h2 := hat j hj
    rw [j1K, List.getElem?_eq_getElem (by omega)] at h2
    obtain ⟨_, c, t, f, h3, h4⟩ := z6G h2
    rw [j1J, harr] at h3
    simp only [Option.some.injEq, Obj.cells.injEq] at h3
    rw [j8p, ← h3.1] at h4
    rw [h4, List.getElem?_eq_getElem (by omega)]
   have key : ∀ q, q ≤ len → ∃ (ρ' : Env) (H' : Heap) (l : List α), l.length = q ∧ Base G W ρ' H' ∧ More ρ H ρ' H' ∧ (∀ a ∈ l, R H' a) ∧ okL ρ' (fun b => b < H'.next) (l.flatMap f) ∧ ∀ j v, (l.flatMap f)[j]? = some v → arr[a.off + j]? = some (conc ρ' v) := by
    intro q
    induction q with
    | zero => intro _; exact ⟨ρ, H, [], rfl, hB, .refl _ _, fun a ha => by simp at ha, trivial, fun j v hv => by simp at hv⟩
    | succ q ih =>
     intro hq
     obtain ⟨ρ', H', l, hl, hB', hM, hRl, hok, hv⟩ := ih (by omega)
     obtain ⟨cs, y, hcs, hy⟩ := hex q (by omega)
     obtain ⟨ρ'', H'', b, hB'', hM', hRb, hokb, hcb⟩ := helem ρ' H' hB' (Nat.le_trans hg hM.grows.next) m cs y hy
     have hfl : (l.flatMap f).length = q * k := by rw [z4G hf, hl]
     refine ⟨ρ'', H'', l ++ [b], by simp [hl], hB'', hM.trans hM', fun a ha => ?_, ?_, fun j v hj => ?_⟩
     ·rcases List.mem_append.1 ha with ha | ha
      ·exact hR _ _ _ (hRl a ha) hB'.neat hM'.grows
      ·rw [List.mem_singleton.1 ha]; exact hRb
     ·rw [List.flatMap_append, z0z]
      intro v hv
      rcases List.mem_append.1 hv with hv | hv
      ·exact hM'.sub.ok (z0z.1 hok v hv)
      ·simp only [List.flatMap_cons, List.flatMap_nil, List.append_nil] at hv
       exact z0z.1 hokb v hv
     ·rw [List.flatMap_append] at hj
      simp only [List.flatMap_cons, List.flatMap_nil, List.append_nil] at hj
      by_cases hjl : j < (l.flatMap f).length
      ·rw [List.getElem?_append_left hjl] at hj
       rw [hv j v hj, hM'.sub.eq (z0z.1 hok v (List.mem_of_getElem? hj))]
      ·rw [List.getElem?_append_right (by omega), hfl] at hj
       have hjk : j - q * k < k := by have := (List.getElem?_eq_some_iff.1 hj).1; rw [hf] at this; exact this
       have := harrAt q (j - q * k) cs hcs hjk
       rw [show q * k + (j - q * k) = j by omega] at this
       rw [this, j4b hcb, hj]; rfl
   obtain ⟨ρ', H', l, hl, hB', hM, hRl, hok, hv⟩ := key len (Nat.le_refl _)
   have hfl : (l.flatMap f).length = len * k := by rw [z4G hf, hl]
   have hpos : 0 < len * k := Nat.mul_pos (by omega) hk
   have hsz : a.off + (l.flatMap f).length ≤ arr.size := by
    have hlast := hv (len * k - 1) _ (List.getElem?_eq_getElem (by omega))
    have := (Array.getElem?_eq_some_iff.1 hlast).1
    omega
   obtain ⟨ρ'', hB'', hM', hb1, hb2⟩ := hB'.big (Nat.le_trans hg hM.grows.next) hok harr hsz hv e
   refine ⟨ρ'', _, .slice H'.next 0 len false cap, l, hB'', hM.trans hM', ?_, ⟨Nat.lt_succ_self _, fun h => by simp at h⟩, .inr ⟨H'.next, cap, by rw [hl], by omega, ?_⟩, fun b hb => hR _ _ _ (hRl b hb) hB'.neat hM'.grows⟩
   ·have : a = ⟨a.block, a.off, none⟩ := by rw [← hspot]
    simp only [concL, conc, hb1, hb2, Nat.add_zero]
    rw [this]; rfl
   ·rw [z0L, hfl, hl]
end
end Go.Sx
