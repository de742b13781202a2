/-
  Calls at once, in pieces, and by their meaning; the start; a row's closed facts one by one (part 5).
-/
import Derived.Test.YtcoigmfhlbngfaaGreatDoorNSxE
import Derived.LaidMore
import Derived.ChangeArms
import Derived.Below
import Derived.JoinedOf
import Derived.OpenShut
set_option linter.unusedSimpArgs false
set_option linter.unusedVariables false
namespace Go.Sx
section
variable {P : Program} {G : Tab}
theorem z2U (TT : TabOk P G) (n : Nat) : FnsOk P G (fns G n) := j9Q TT (fun _ hF => q1N TT hF) n
theorem q7P (TT : TabOk P G) {n : Nat} {f : FuncId} {args : List AV} {H : Heap} {outs : List VH} (h : (fns G n).call f args H = some outs) {ρ : Env} {D : Nat → Prop} {w : World}
  (hH : HRel G ρ D w H) (ha : okL ρ D args) :
  Calls P f (concL ρ args).toArray w fun e w' => ∃ p ∈ outs, ∃ ρ' D', e = .returned (conc ρ' p.1) ∧ HRel G ρ' D' w' p.2 ∧ Ext H ρ D p.2 ρ' D' := by
 intro cs
 obtain ⟨_, p, hp, ρ', D', w', fr, r1, r2, r3, r4, r5, r6, r7, r8, r9⟩ := (z2U TT n).call f args H outs h ρ D w ⟨.normal, rfl⟩ cs hH ha
 refine ⟨.returned (conc ρ' p.1), w', fr, ⟨p, hp, ρ', D', rfl, r1, r2⟩, r4, r5, r6, r7, r8, ?_⟩
 obtain ⟨fn, h1, h2⟩ := r9
 exact ⟨fn, by rw [r5]; exact h1, h2⟩
def T.ofFn {α : Type} : Nat → (Nat → Option α) → T α
 | 0, _ => .e
 | d + 1, f => .n (T.ofFn d fun k => f (2 * k + 1)) (f 0) (T.ofFn d fun k => f (2 * k + 2))
theorem T.get_ofFn {α : Type} : ∀ (d : Nat) (f : Nat → Option α) (k : Nat) (v : α), (T.ofFn d f).get k = some v → f k = some v := by
 intro d
 induction d with
 | zero => intro f k v h; have h : (none : Option α) = some v := h; simp at h
 | succ d ih =>
  intro f k v h
  have h : (T.n (T.ofFn d fun k => f (2 * k + 1)) (f 0) (T.ofFn d fun k => f (2 * k + 2))).get k = some v := h
  rw [T.get_n] at h
  split at h
  ·rename_i h0; subst h0; exact h
  ·split at h
   ·have := ih _ _ _ h
    rwa [show 2 * (k / 2) + 1 = k from by omega] at this
   ·have := ih _ _ _ h
    rwa [show 2 * (k / 2 - 1) + 2 = k from by omega] at this
def q6L (o : Option TypeDesc) : Bool :=
 match o with
 | some (.interface _) => true
 | _ => false
def j7o (o : Option TypeDesc) : Bool :=
 match o with
 | some (.struct fs) => fs.toList.all fun f => !(f.name == "_")
 | _ => true
def j9S (o : Option TypeDesc) (z : Option Nat) : Bool :=
 match o, z with
 | some (.int .u8), some z => Nat.beq z 1
 | _, _ => true
noncomputable def z7Q (P : Program) (G : Tab) (t : Nat) : Bool :=
 (!P.eqGuardType P.depth t || q6L (P.underlying t) || !z8q (G.noEq.get t)) && !P.stoodInHeld t && j9S (G.und t) (G.size t) && j7o (G.und t)
noncomputable def j7p (l : List Nat) (n : Nat) (o : Option TypeInfo) : Option TypeInfo := bif z2j n l then none else o
theorem j3u {d e : Nat} {out : List Nat} (hm : P.follows .mixedOrders = true) (hf : G.funcs = T.ofFn d fun k => P.funcs[k]?) (ht : G.types = T.ofFn e fun k => j7p out k P.types[k]?)
  (hn : (P.funcs.toList.all fun f => !(f.name == "runtime.NumGoroutine")) = true)
  (hc : ((List.range P.types.size).all fun t => z2j t out || z7Q P G t) = true)
  (hx : ∀ f k, G.ext.get f = some k → ∃ fn, P.funcs[f]? = some fn ∧ (fn.name == "runtime.NumGoroutine") = false ∧ fn.body.isNone = true ∧ Extern.findNext fn = none ∧ Extern.find fn = some (z4X k)) : TabOk P G := by
 have hty : ∀ t i, G.types.get t = some i → (P.info? t = some i ∧ t < P.types.size) ∧ z2j t out = false := fun t i h => by
  rw [ht] at h
  have h := T.get_ofFn _ _ _ _ h
  unfold j7p at h
  cases ho : z2j t out <;> rw [ho] at h
  ·have h : P.types[t]? = some i := h
   have hlt := (Array.getElem?_eq_some_iff.1 h).1
   refine ⟨⟨?_, hlt⟩, rfl⟩
   show (if t < P.types.size then P.types[t]? else _) = _
   rw [if_pos hlt, h]
  ·simp at h
 have hall : ∀ t i, G.types.get t = some i → z7Q P G t = true := fun t i h => by
  obtain ⟨⟨h1, hlt⟩, h2⟩ := hty t i h
  have := List.all_eq_true.1 hc t (List.mem_range.2 hlt)
  rw [h2] at this
  simpa using this
 have hund : ∀ t x, G.und t = some x → ∃ i, G.types.get t = some i := fun t x h => by
  unfold Tab.und at h
  cases hi : G.types.get t with
  | none => rw [hi] at h; simp at h
  | some i => exact ⟨i, rfl⟩
 refine ⟨fun t i h => (hty t i h).1.1, fun f fn h => ?_, hm, fun t i h hq hg => ?_, fun t i h => ?_, fun t z h h' => ?_, fun t fs h x hx => ?_, hx⟩
 ·rw [hf] at h
  have h := T.get_ofFn _ _ _ _ h
  refine ⟨h, ?_⟩
  have := List.all_eq_true.1 hn fn (Array.mem_toList_iff.2 (Array.mem_of_getElem? h))
  simpa using this
 ·have := hall t i h
  simp only [z7Q, Bool.and_eq_true, Bool.or_eq_true, hg, hq, z8q, Bool.not_true, Bool.false_eq_true, false_or, or_false] at this
  have := this.1.1.1
  unfold q6L at this
  split at this
  ·exact ⟨_, by assumption⟩
  ·simp at this
 ·have := hall t i h
  simp only [z7Q, Bool.and_eq_true, Bool.not_eq_true'] at this
  exact this.1.1.2
 ·obtain ⟨i, hi⟩ := hund t _ h
  have := hall t i hi
  simp only [z7Q, Bool.and_eq_true] at this
  have := this.1.2
  rw [h, h'] at this
  exact z0B this
 ·obtain ⟨i, hi⟩ := hund t _ h
  have := hall t i hi
  simp only [z7Q, Bool.and_eq_true] at this
  have := this.2
  rw [h] at this
  have := List.all_eq_true.1 this x (Array.mem_toList_iff.2 hx)
  simpa using this
theorem z9r {n : Nat} {k : ExtK} {fn : Func} (h1 : P.funcs[n]? = some fn) (h2 : (fn.name == "runtime.NumGoroutine") = false) (h3 : fn.body.isNone = true) (h4 : Extern.findNext fn = none)
  (h5 : Extern.find fn = some (z4X k)) {tb : T ExtK}
  (he : ∀ f k, tb.get f = some k → ∃ fn, P.funcs[f]? = some fn ∧ (fn.name == "runtime.NumGoroutine") = false ∧ fn.body.isNone = true ∧ Extern.findNext fn = none ∧ Extern.find fn = some (z4X k)) :
  ∀ f k', (tb.set n (some k)).get f = some k' → ∃ fn, P.funcs[f]? = some fn ∧ (fn.name == "runtime.NumGoroutine") = false ∧ fn.body.isNone = true ∧ Extern.findNext fn = none ∧ Extern.find fn = some (z4X k') := by
 intro f k' h
 rw [T.get_set] at h
 split at h
 ·rename_i hfn
  subst hfn
  have hk : k = k' := Option.some.inj h
  subst hk
  exact ⟨fn, h1, h2, h3, h4, h5⟩
 ·exact he f k' h
theorem j9T : ∀ f k, (T.e : T ExtK).get f = some k → ∃ fn, P.funcs[f]? = some fn ∧ (fn.name == "runtime.NumGoroutine") = false ∧ fn.body.isNone = true ∧ Extern.findNext fn = none ∧ Extern.find fn = some (z4X k) := by
 intro f k h
 have : (T.e : T ExtK).get f = none := T.get_e f
 rw [this] at h
 simp at h
end
end Go.Sx
namespace Go.Sx
section
variable {P : Program} {G : Tab}
def j7q (x : Code) (f : Code → Code → CRun) : CRun :=
 match x with
 | .seq a b => f a b
 | _ => fun _ _ _ _ => none
noncomputable def z6F (n : Nat) : Code → CRun := Nat.rec (fun _ => cSkip) (fun _ ih x => j7q x fun a b => cSeq (z0p a) (ih b)) n
def j7r (x : Code) : Code :=
 match x with
 | .seq _ b => b
 | x => x
def z5f (n : Nat) : Code → Code := Nat.rec (fun x => x) (fun _ ih x => ih (j7r x)) n
noncomputable def j7s (v v' : Option ABlk) : Bool :=
 match v with
 | none => true
 | some x => match v' with
  | none => false
  | some y => ABlk.beq x y
noncomputable def z7j (t : T ABlk) : T ABlk → Bool :=
 T.rec (fun _ => true) (fun _ v _ gl gr u => match u with
  | .e => false
  | .n l' v' r' => bif j7s v v' then (bif gl l' then gr r' else false) else false) t
noncomputable def q1O (s s' : St) : Bool :=
 bif T.beq AV.beq s.tm s'.tm then (bif z7j s'.h.blks s.h.blks then (bif Nat.ble s.h.next s'.h.next then (bif z5I s.df then z5I s'.df else false) else false) else false) else false
noncomputable def q4Z (s' : St) (l : List (Ex × St)) : Bool := List.rec true (fun p _ ih => bif z2N p.1 then (bif q1O p.2 s' then ih else false) else false) l
noncomputable def z1S (s' : St) (o : Outs) : Bool :=
 match o with
 | none => false
 | some l => q4Z s' l
theorem z5z : ∀ {t u : T ABlk}, z7j t u = true → ∀ b o, t.get b = some o → u.get b = some o := by
 intro t
 induction t with
 | e => intro u _ b o h; have h : (none : Option ABlk) = some o := h; simp at h
 | n l v r ihl ihr =>
  intro u h b o hb
  cases u with
  | e => have h : false = true := h; simp at h
  | n l' v' r' =>
   have h : (bif j7s v v' then (bif z7j l l' then z7j r r' else false) else false) = true := h
   obtain ⟨h1, h2⟩ := z0f h
   obtain ⟨h2, h3⟩ := z0f h2
   rw [T.get_n] at hb ⊢
   by_cases h0 : b = 0
   ·rw [if_pos h0] at hb ⊢
    subst hb
    cases v' with
    | none => simp [j7s] at h1
    | some y => rw [ABlk.beq_eq _ _ (show ABlk.beq o y = true from h1)]
   ·rw [if_neg h0] at hb ⊢
    by_cases h4 : b % 2 = 1
    ·rw [if_pos h4] at hb ⊢; exact ihl h2 _ _ hb
    ·rw [if_neg h4] at hb ⊢; exact ihr h3 _ _ hb
theorem HRel.less {ρ : Env} {D : Nat → Prop} {w : World} {H H' : Heap} (h : HRel G ρ D w H) (hs : ∀ b o, H'.blks.get b = some o → H.blks.get b = some o) (hn : H.next ≤ H'.next) : HRel G ρ D w H' where
 lt := fun b hb => Nat.lt_of_lt_of_le (h.lt b hb) hn
 glob := h.glob
 inj := fun b b' o o' hb hb' ho ho' => h.inj b b' o o' hb hb' (hs b o ho) (hs b' o' ho')
 blk := fun b o hb ho => h.blk b o hb (hs b o ho)
 kin := h.kin
 rest := fun i q hi => ⟨(h.rest i q hi).1, fun x hx hxi => by
  have := (h.rest i q hi).2 x hx hxi
  cases ho : H'.blks.get x with
  | none => trivial
  | some o => rw [hs x o ho] at this; exact this⟩
theorem q6M {s s' : St} (h : q1O s s' = true) {ρ : Env} {D : Nat → Prop} {w : World} {size : Nat} {tm : Array Value} {df : List Deferred} (hS : SRel G ρ D w size s tm df) :
  SRel G ρ D w size s' tm df ∧ s.h.next ≤ s'.h.next := by
 obtain ⟨h1, h⟩ := z0f h
 obtain ⟨h2, h⟩ := z0f h
 obtain ⟨h3, h⟩ := z0f h
 obtain ⟨h4, h5⟩ := z0f h
 have h1 := T.beq_eq AV.beq_eq _ _ h1
 have h3 := z1h h3
 have h4 := (z2v _).1 h4
 have h5 := (z2v _).1 h5
 refine ⟨⟨hS.h.less (z5z h2) h3, h1 ▸ hS.t, ?_⟩, h3⟩
 have := hS.d
 rw [h4] at this
 rw [h5]; exact this
theorem z5A {s' : St} : ∀ {l : List (Ex × St)}, q4Z s' l = true → ∀ p ∈ l, p.1 = .normal ∧ q1O p.2 s' = true := by
 intro l
 induction l with
 | nil => intro _ p hp; simp at hp
 | cons a l ih =>
  intro h p hp
  have h : (bif z2N a.1 then (bif q1O a.2 s' then q4Z s' l else false) else false) = true := h
  obtain ⟨h1, h2⟩ := z0f h
  obtain ⟨h2, h3⟩ := z0f h2
  rcases List.mem_cons.1 hp with rfl | hp
  ·refine ⟨?_, h2⟩
   cases hp1 : p.1 <;> rw [hp1] at h1 <;> simp [z2N] at h1 ⊢
  ·exact ih h3 p hp
def z4C (P : Program) (G : Tab) (c : Ctx) (x : Code) (s : St) (outs : List (Ex × St)) : Prop :=
 ∀ (ρ : Env) (D : Nat → Prop) (w : World) (tm : Array Value) (df : List Deferred) (b : Frame) (k : List Item) (cs : List Frame),
  SRel G ρ D w c.size s tm df → RndRel ρ D c.rnd b.roundOf → Lands P G ρ D c.size s.h (lone (fat b tm df (entry x k)) cs w) b cs k outs
theorem q0M (TT : TabOk P G) (n : Nat) (x : Code) : z1i P G (z0p x (fns G n) G) x :=
 z8j (z2U TT n) (z5w TT (z2U TT n) (q1N TT (z2U TT n))) (z3d (z2U TT n)) x
theorem q0N (TT : TabOk P G) {n : Nat} {c : Ctx} {x : Code} {s : St} {outs : List (Ex × St)} (h : z0p x (fns G n) G c s = some outs) : z4C P G c x s outs :=
 q0M TT n x c s outs h
theorem j0A (TT : TabOk P G) {m : Nat} {c : Ctx} : ∀ (n : Nat) (x : Code) (s : St) (outs : List (Ex × St)), z6F n x (fns G m) G c s = some outs → (∀ p ∈ outs, p.1 = .normal) →
  ∀ (ρ : Env) (D : Nat → Prop) (w : World) (tm : Array Value) (df : List Deferred) (b : Frame) (k : List Item) (cs : List Frame), SRel G ρ D w c.size s tm df → RndRel ρ D c.rnd b.roundOf →
  ∃ p ∈ outs, ∃ ρ' D' w' tm' df', SRel G ρ' D' w' c.size p.2 tm' df' ∧ Ext s.h ρ D p.2.h ρ' D' ∧ Steps P (lone (fat b tm df (entry x k)) cs w) (lone (fat b tm' df' (entry (z5f n x) k)) cs w') := by
 intro n
 induction n with
 | zero =>
  intro x s outs h _ ρ D w tm df b k cs hS _
  have h : some [(Ex.normal, s)] = some outs := h
  simp only [Option.some.injEq] at h; subst h
  exact ⟨_, List.mem_singleton.2 rfl, ρ, D, w, tm, df, hS, .refl _ _ _, .refl _ _⟩
 | succ n ih =>
  intro x s outs h hall ρ D w tm df b k cs hS hR
  cases x with
  | seq a y =>
   have h : z1B (z0p a (fns G m) G c s) (z3o (z6F n y (fns G m) G c)) = some outs := h
   obtain ⟨l, hl, hin⟩ := z0w h
   obtain ⟨p, hp, ρ', D', w', tm', df', h1, h2, h3⟩ := q0M TT m a c s l hl ρ D w tm df b (.code y :: k) cs hS hR
   obtain ⟨z, hz, hzin⟩ := hin p hp
   rcases z2H hz with ⟨e1, e2⟩ | ⟨e1, e2⟩
   ·rw [e1] at h3
    obtain ⟨q, hq, ρ₂, D₂, w₂, tm₂, df₂, g1, g2, g3⟩ := ih y p.2 z e2 (fun q hq => hall q (hzin q hq)) ρ' D' w' tm' df' b k cs h1 (hR.sub h2.sub)
    refine ⟨q, hzin q hq, ρ₂, D₂, w₂, tm₂, df₂, g1, h2.trans g2, ?_⟩
    exact ((Steps.one q3d).trans z0D).trans ((Steps.trans h3 z0D).trans g3)
   ·subst e2
    exact absurd (hall p (hzin p (List.mem_singleton.2 rfl))) e1
  | _ => have h : (none : Outs) = some outs := h; simp at h
theorem j9U (TT : TabOk P G) {m n : Nat} {c : Ctx} {x : Code} {s s' : St} {outs : List (Ex × St)} (h : z1S s' (z6F n x (fns G m) G c s) = true) (hr : z4C P G c (z5f n x) s' outs) :
  z4C P G c x s outs := by
 intro ρ D w tm df b k cs hS hR
 cases ho : z6F n x (fns G m) G c s with
 | none => rw [ho] at h; simp [z1S] at h
 | some l =>
  rw [ho] at h
  have hall := z5A (l := l) h
  obtain ⟨p, hp, ρ', D', w', tm', df', h1, h2, h3⟩ := j0A TT n x s l ho (fun p hp => (hall p hp).1) ρ D w tm df b k cs hS hR
  obtain ⟨g1, g2⟩ := q6M (hall p hp).2 h1
  have h2' : Ext s.h ρ D s'.h ρ' D' := ⟨h2.sub, Nat.le_trans h2.next g2, h2.new⟩
  exact Lands.of_steps h3 (Lands.ext h2' (hr ρ' D' w' tm' df' b k cs g1 (hR.sub h2.sub)))
theorem q7Q (TT : TabOk P G) {m : Nat} {f : FuncId} {fn : Func} {body : Code} (hf : P.funcs[f]? = some fn) (hb : fn.body = some body) {H : Heap} {outs : List (Ex × St)}
  (hr : z4C P G ⟨none, fn.ntmps⟩ body ⟨.e, H, []⟩ outs) {R : VH → Prop} (he : ∀ p ∈ outs, ∃ x, z2D (fns G m) G fn.results.toList p = some x ∧ ∀ q ∈ x, R q)
  {ρ : Env} {D : Nat → Prop} {w : World} (hH : HRel G ρ D w H) :
  Calls P f #[] w fun e w' => ∃ p, R p ∧ ∃ ρ' D', e = .returned (conc ρ' p.1) ∧ HRel G ρ' D' w' p.2 ∧ Ext H ρ D p.2 ρ' D' := by
 intro cs
 let b : Frame := { fn := f, tmps := #[], todo := [], defers := [], mode := .run, kind := .normal }
 have henter : Frame.enter P f (concL ρ ([] : List AV)).toArray .normal = fat b ((concL ρ ([] : List AV)).toArray ++ Array.replicate (fn.ntmps - (concL ρ ([] : List AV)).toArray.size) undef) [] [.code body] := by
  simp [Frame.enter, fat, hf, hb, b]
 have hT := z3E (ρ := ρ) (D := D) (args := []) (n := fn.ntmps) trivial (tm := .e) (fun i => by rfl)
 obtain ⟨p, hp, ρ', D', w', tm', df', r1, r2, r3⟩ := hr ρ D w _ [] b [] cs ⟨hH, by simpa using hT, trivial⟩ rfl
 obtain ⟨x, hx, hR⟩ := he p hp
 obtain ⟨q, hq, ρ₂, D₂, w₂, todo, g1, g2, g3, g4, g5⟩ := z5y TT (z2U TT m) hx r1 b rfl cs (r3.of_steps z0D)
 refine ⟨.returned (conc ρ₂ q.1), w₂, ret b tm' [] todo, ⟨q, hR q hq, ρ₂, D₂, rfl, g1, r2.trans g2⟩, ?_, rfl, rfl, rfl, rfl, fn, hf, g5⟩
 have g4' := g4
 rw [← show (#[] : Array Value) = (concL ρ ([] : List AV)).toArray from rfl] at henter
 show Steps P _ _
 rw [henter]
 simpa [concL] using g4'
end
end Go.Sx
namespace Go.Sx
section
variable {P : Program} {G : Tab}
def q1P (v : AV) : Bool :=
 match v with
 | .bool b => b
 | _ => false
noncomputable def j0B (l : List VH) : Bool := List.rec true (fun p _ ih => bif q1P p.1 then ih else false) l
noncomputable def q5a (o : Option (List VH)) : Bool :=
 match o with
 | none => false
 | some l => j0B l
noncomputable def q6N (F : Fns) (G : Tab) (rs : List ResultVar) (l : List (Ex × St)) : Bool := List.rec true (fun p _ ih => bif q5a (z2D F G rs p) then ih else false) l
noncomputable def j0C (F : Fns) (G : Tab) (rs : List ResultVar) (o : Outs) : Bool :=
 match o with
 | none => false
 | some l => q6N F G rs l
theorem q7R {v : AV} (h : q1P v = true) : v = .bool true := by
 unfold q1P at h
 split at h
 ·rename_i b; subst h; rfl
 ·simp at h
theorem z7k {l : List VH} (h : j0B l = true) : ∀ q ∈ l, q.1 = .bool true := fun q hq => q7R (z6g (f := fun p : VH => q1P p.1) h q hq)
theorem q7S {F : Fns} {rs : List ResultVar} {l : List (Ex × St)} (h : q6N F G rs l = true) : ∀ p ∈ l, ∃ x, z2D F G rs p = some x ∧ ∀ q ∈ x, q.1 = .bool true := fun p hp => by
 have := z6g (f := fun p => q5a (z2D F G rs p)) h p hp
 unfold q5a at this
 split at this
 ·simp at this
 ·rename_i x hx; exact ⟨x, hx, z7k this⟩
theorem j9V (TT : TabOk P G) {m : Nat} {f : FuncId} {fn : Func} {body rest : Code} (hf : P.funcs[f]? = some fn) (hb : fn.body = some body) {H : Heap} {s : St} {c : Ctx} (hc : c = ⟨none, fn.ntmps⟩)
  (hr : ∀ outs, z4C P G c rest s outs → z4C P G c body ⟨.e, H, []⟩ outs)
  (he : j0C (fns G m) G fn.results.toList (z0p rest (fns G m) G c s) = true)
  {ρ : Env} {D : Nat → Prop} {w : World} (hH : HRel G ρ D w H) :
  Calls P f #[] w fun e w' => e = .returned (.bool true) ∧ (∀ i o, ρ.rest i o → w'.heap[i]? = some o) ∧ Kin ρ.orig w' := by
 subst hc
 cases ho : z0p rest (fns G m) G ⟨none, fn.ntmps⟩ s with
 | none => rw [ho] at he; simp [j0C] at he
 | some l =>
  rw [ho] at he
  refine (q7Q TT hf hb (hr l (q0N TT ho)) (R := fun q => q.1 = .bool true) (q7S he) hH).mono fun e w' h => ?_
  obtain ⟨p, hp, ρ', D', h1, h2, h3⟩ := h
  rw [hp] at h1
  exact ⟨h1, fun i o hi => (h2.rest i o (by rw [h3.sub.rest]; exact hi)).1, h3.sub.orig ▸ h2.kin⟩
theorem j8I (TT : TabOk P G) {m : Nat} {f : FuncId} {H : Heap} (h : q5a ((fns G m).call f [] H) = true) {ρ : Env} {D : Nat → Prop} {w : World} (hH : HRel G ρ D w H) :
  Calls P f #[] w fun e w' => e = .returned (.bool true) ∧ (∀ i o, ρ.rest i o → w'.heap[i]? = some o) ∧ Kin ρ.orig w' := by
 cases ho : (fns G m).call f [] H with
 | none => rw [ho] at h; simp [q5a] at h
 | some l =>
  rw [ho] at h
  refine (q7P (args := []) TT ho hH trivial).mono fun e w' h' => ?_
  obtain ⟨p, hp, ρ', D', h1, h2, h3⟩ := h'
  rw [z7k h p hp] at h1
  exact ⟨h1, fun i o hi => (h2.rest i o (by rw [h3.sub.rest]; exact hi)).1, h3.sub.orig ▸ h2.kin⟩
end
end Go.Sx
namespace Go.Sx
open Go Go.RowKit
section
variable {P : Program} {G : Tab}
theorem z3H {w : World} : ∀ {l : List (String × DataW Unit)} {ps : List MemPlace}, DataW.LaidVars P w l ps → ∀ n d, (n, d) ∈ l →
  ∃ g t cs fuel p, P.globalNamed n = some g ∧ (P.globals[g]?).map (·.type) = some t ∧ w.var? P n = some cs ∧ DataW.trod (fun _ => ()) P w 0 (fun _ => true) false fuel t cs.toList = some (d, p) ∧
   ∀ x, x ∈ MemPlace.row ⟨g, 0, none⟩ cs.size ++ p → x ∈ ps
 | [], _, _, _, _, hm => by cases hm
 | (n', d') :: r, ps, h, n, d, hm => by
  obtain ⟨g, t, cs, fuel, p, q, h1, h2, h3, h4, h5, h6⟩ := h
  rcases List.mem_cons.1 hm with e | hm
  ·simp only [Prod.mk.injEq] at e
   obtain ⟨rfl, rfl⟩ := e
   exact ⟨g, t, cs, fuel, p, h1, h2, h3, h4, fun x hx => by rw [h6]; exact List.mem_append.2 (.inl hx)⟩
  ·obtain ⟨g', t', cs', fuel', p', k1, k2, k3, k4, k5⟩ := z3H h5 n d hm
   exact ⟨g', t', cs', fuel', p', k1, k2, k3, k4, fun x hx => by rw [h6]; exact List.mem_append.2 (.inr (k5 x hx))⟩
theorem z6G {w : World} {a : Addr} {v : Value} (h : w.cell? a = some v) : a.spot = none ∧ ∃ c t f, w.heap[a.block]? = some (.cells c t f) ∧ c[a.off]? = some v := by
 unfold World.cell? at h
 split at h
 ·rename_i c t f hc
  split at h
  ·simp at h
  ·rename_i hs
   exact ⟨by simpa using hs, c, t, f, hc, h⟩
 ·simp at h
theorem j9W {W : World} {l : List (String × DataW Unit)} (h : laidMet P l W) {n : String} {g t e : Nat} {k : IntKind} {xs : List Int}
  (hm : (n, DataW.slice (xs.map fun x => .lit (.int k x)) []) ∈ l) (hg : P.globalNamed n = some g) (ht : (P.globals[g]?).map (·.type) = some t) (hu : P.underlying t = some (.slice e)) (hc : P.cellsOf e = 1)
  (hi : P.underlying e = some (.int k)) (hne : xs ≠ []) :
  ∃ b off el arr el', W.heap[g]? = some (.cells #[.slice (some ⟨b, off, none⟩) xs.length xs.length] el (0, 0)) ∧ W.heap[b]? = some (.cells arr el' (0, 0)) ∧ off + xs.length ≤ arr.size ∧
   (∀ i x, xs[i]? = some x → arr[off + i]? = some (.int k x)) ∧ b ≠ g := by
 obtain ⟨ps, hv, _, hps⟩ := h
 obtain ⟨g', t', cs, fuel, p, k1, k2, k3, k4, k5⟩ := z3H hv n _ hm
 obtain rfl : g' = g := Option.some.inj (k1.symm.trans hg)
 obtain rfl : t' = t := Option.some.inj (k2.symm.trans ht)
 have hlen : 0 < xs.length := List.length_pos_iff.2 hne
 obtain ⟨a, cap, hcs, hle, hel⟩ := open_row hu hc k4
 rcases DataW.trod_slice hu k4 with ⟨_, hx⟩ | ⟨a', len, cap', elems, rest, m, _, hcs', hx, _, hl, _, hlen', _, hsp, _⟩
 ·simp at hx
 rw [hcs] at hcs'
 simp only [List.cons.injEq, Value.slice.injEq, Option.some.injEq, and_true] at hcs'
 obtain ⟨rfl, rfl, rfl⟩ := hcs'
 simp only [Prod.mk.injEq, DataW.slice.injEq] at hx
 obtain ⟨⟨_, hrest⟩, hp⟩ := hx
 have hrest : rest = [] := by simpa using hrest.symm
 have hcap : cap = (xs.map fun x => (DataW.lit (.int k x) : DataW Unit)).length := by
  have := (hsp rfl).1
  rw [hrest] at this
  simp only [List.length_nil] at this
  omega
 have hcells : ∀ i x, xs[i]? = some x → W.cell? (a.add i) = some (.int k x) := fun i x hx => by
  obtain ⟨v, m', q, hv1, hv2⟩ := hel i (.lit (.int k x)) (by rw [List.getElem?_map, hx]; rfl)
  obtain ⟨z, e1, e2, _⟩ := DataW.trod_int hi hv2
  simp only [List.cons.injEq, and_true] at e1
  simp only [Prod.mk.injEq, DataW.lit.injEq, Lit.int.injEq, true_and] at e2
  rw [hv1, e1, e2.1]
 have h0 := hcells 0 xs[0] (by simp [hlen])
 obtain ⟨hspot, arr, el', f, harr, _⟩ := z6G (a := a) (by simpa [Addr.add] using h0)
 -- the global's own block
 have hvar : ∃ el f, W.heap[g']? = some (.cells cs el f) := by
  unfold World.var? at k3
  rw [k1] at k3
  simp only [Option.bind_some] at k3
  split at k3
  ·rename_i c el f hh
   simp only [Option.some.injEq] at k3; subst k3
   exact ⟨el, f, hh⟩
  ·simp at k3
 obtain ⟨el, fg, hgc⟩ := hvar
 have hcs1 : cs = #[.slice (some a) xs.length xs.length] := by
  apply Array.ext'
  rw [hcs, hcap]
  simp
 have hg0 := (hps g' 0 (k5 _ (List.mem_append.2 (.inl (by rw [hcs1]; simp [MemPlace.row]))))).1
 obtain ⟨c1, t1, hg1⟩ := hg0
 rw [hgc] at hg1
 simp only [Option.some.injEq, Obj.cells.injEq] at hg1
 obtain ⟨rfl, rfl, rfl⟩ := hg1
 have hb0 := (hps a.block a.off (k5 _ (List.mem_append.2 (.inr (by
  rw [hp, List.mem_append]
  refine .inl ?_
  unfold MemPlace.row
  refine List.mem_map.2 ⟨0, List.mem_range.2 ?_, rfl⟩
  rw [hc, hlen', hrest]
  simp
  omega))))).1
 obtain ⟨c2, t2, hb1⟩ := hb0
 rw [harr] at hb1
 simp only [Option.some.injEq, Obj.cells.injEq] at hb1
 obtain ⟨rfl, rfl, rfl⟩ := hb1
 have hcell' : ∀ i x, xs[i]? = some x → arr[a.off + i]? = some (.int k x) := fun i x hx => by
  obtain ⟨_, c, t, f, q1, q2⟩ := z6G (hcells i x hx)
  have hblk : (a.add i).block = a.block := by unfold Addr.add; split <;> rfl
  have hoff : (a.add i).off = a.off + i := by
   unfold Addr.add
   split
   ·rename_i h0; rw [h0]; rfl
   ·rfl
  rw [hblk, harr] at q1
  simp only [Option.some.injEq, Obj.cells.injEq] at q1
  rw [hoff, ← q1.1] at q2
  exact q2
 have hsize : a.off + xs.length ≤ arr.size := by
  have := hcell' (xs.length - 1) xs[xs.length - 1] (List.getElem?_eq_getElem (by omega))
  have := (Array.getElem?_eq_some_iff.1 this).1
  omega
 refine ⟨a.block, a.off, el, arr, el', ?_, harr, hsize, hcell', ?_⟩
 ·rw [hgc, hcs1]
  have : a = ⟨a.block, a.off, none⟩ := by rw [← hspot]
  rw [← this]
 ·intro e
  rw [e, hgc] at harr
  simp only [Option.some.injEq, Obj.cells.injEq] at harr
  have hs1 : arr.size = 1 := by rw [← harr.1, hcs1]; rfl
  have hoff : a.off = 0 := by omega
  have := hcell' 0 xs[0] (List.getElem?_eq_getElem hlen)
  rw [hoff, ← harr.1, hcs1] at this
  simp at this
def z2w (W : World) (n b off : Nat) : Env where
 blk := fun x => if x = n then b else x
 base := fun x => if x = n then off else 0
 cap := fun _ => 0
 rest := fun i o => W.heap[i]? = some o
 orig := W
theorem j9X {W : World} {g b off n : Nat} {t e : TypeId} {k : IntKind} {xs : List Int} {el el' : TypeId} {arr : Array Value} {H : Heap} (hgn : g < n) (hn : G.nglob ≤ n)
  (hH : H.next = n + 1) (hget : ∀ x o, H.blks.get x = some o → (x = g ∧ o = .big t 1 [.slice n 0 xs.length false xs.length]) ∨ (x = n ∧ o = .big e xs.length (xs.map fun x => .int k x)))
  (hg : W.heap[g]? = some (.cells #[.slice (some ⟨b, off, none⟩) xs.length xs.length] el (0, 0))) (hb : W.heap[b]? = some (.cells arr el' (0, 0))) (hsz : off + xs.length ≤ arr.size)
  (harr : ∀ i x, xs[i]? = some x → arr[off + i]? = some (.int k x)) (hbg : b ≠ g) : HRel G (z2w W n b off) (fun x => x ≤ n) W H := by
 have hgne : g ≠ n := Nat.ne_of_lt hgn
 have e1 : (z2w W n b off).blk n = b := by simp [z2w]
 have e2 : (z2w W n b off).base n = off := by simp [z2w]
 have e3 : (z2w W n b off).blk g = g := by simp [z2w, hgne]
 have e4 : (z2w W n b off).base g = 0 := by simp [z2w, hgne]
 refine ⟨fun x hx => by rw [hH]; omega, fun x hx => ?_, fun x y p q hx hy hox hoy hxy => ?_, fun x o hx hox => ?_, fun i o hi => ⟨hi, fun x hx _ => ?_⟩, .refl _⟩
 ·have hxn : x ≠ n := by omega
  have hx' : x ≤ n := by omega
  exact ⟨hx', by simp [z2w, hxn], by simp [z2w, hxn]⟩
 ·rcases hget x p hox with ⟨rfl, _⟩ | ⟨rfl, _⟩ <;> rcases hget y q hoy with ⟨rfl, _⟩ | ⟨rfl, _⟩
  ·exact .inl rfl
  ·rw [e1, e3] at hxy; exact absurd hxy.symm hbg
  ·rw [e1, e3] at hxy; exact absurd hxy hbg
  ·exact .inl rfl
 ·rcases hget x o hox with ⟨rfl, rfl⟩ | ⟨rfl, rfl⟩
  ·refine ⟨⟨⟨Nat.le_refl _, fun h => by simp at h⟩, trivial⟩, _, _, _, by rw [e3]; exact hg, by rw [e4]; simp, fun i v hi hv => ?_⟩
   have hi0 : i = 0 := by omega
   subst hi0
   simp at hv
   subst hv
   rw [e4]
   simp [conc, e1, e2]
  ·refine ⟨z0z.2 fun v hv => ?_, _, _, _, by rw [e1]; exact hb, by rw [e2]; exact hsz, fun i v hi hv => ?_⟩
   ·obtain ⟨x, _, rfl⟩ := List.mem_map.1 hv; trivial
   ·rw [e2]
    rw [List.length_map, Nat.mod_eq_of_lt hi, List.getElem?_map] at hv
    obtain ⟨x, hx, rfl⟩ := Option.map_eq_some_iff.1 hv
    exact harr i x hx
 ·cases ho : H.blks.get x with
  | none => trivial
  | some o => rcases hget x o ho with ⟨_, rfl⟩ | ⟨_, rfl⟩ <;> trivial
theorem j3v {W w' : World} (h1 : ∀ (i : Nat) (o : Obj), W.heap[i]? = some o → w'.heap[i]? = some o) (h2 : Kin W w') : Below W.heap.size W w' :=
 ⟨h2.os, h2.tape, h2.output, h2.size, fun k hk => by
  have : W.heap[k]? = some W.heap[k] := by simp [hk]
  rw [h1 k _ this, this]⟩
end
end Go.Sx
namespace Go.Sx
section
variable {P : Program} {G : Tab}
abbrev Ov := FuncId → List AV → Heap → Option (List VH)
def CallTo (P : Program) (G : Tab) (f : FuncId) (args : List AV) (H : Heap) (outs : List VH) : Prop :=
 ∀ (ρ : Env) (D : Nat → Prop) (w : World) (kind : j7j) (cs : List Frame), HRel G ρ D w H → okL ρ D args →
  (∃ fn body, P.funcs[f]? = some fn ∧ fn.body = some body ∧ (fn.name == "runtime.NumGoroutine") = false) ∧
  ∃ p ∈ outs, ∃ ρ' D' w' fr, HRel G ρ' D' w' p.2 ∧ Ext H ρ D p.2 ρ' D' ∧ okV ρ' D' p.1 ∧ Steps P (lone (Frame.enter P f (concL ρ args).toArray kind.1) cs w) (lone fr cs w') ∧
   fr.fn = f ∧ fr.mode = .returning ∧ fr.defers = [] ∧ fr.kind = kind.1 ∧ ∃ fn, P.funcs[f]? = some fn ∧ (results fn fr.tmps).run P w' = .ok (conc ρ' p.1) w'
def OvOk (P : Program) (G : Tab) (ov : Ov) : Prop := ∀ f args H outs, ov f args H = some outs → CallTo P G f args H outs
def orOv (o : Option (List VH)) (d : Option (List VH)) : Option (List VH) :=
 match o with
 | some l => some l
 | none => d
noncomputable def fnsO (G : Tab) (ov : Ov) (n : Nat) : Fns :=
 Nat.rec ⟨fun _ _ _ => none, fun _ _ _ _ => none, fun _ _ _ => none, fun _ _ _ => none, fun _ _ _ => none⟩
  (fun _ ih => { fnsB G ih with call := fun f args H => orOv (ov f args H) (q4x ih G f args H) }) n
theorem z5g (TT : TabOk P G) {ov : Ov} (ho : OvOk P G ov) : ∀ n, FnsOk P G (fnsO G ov n) := by
 intro n
 induction n with
 | zero =>
  refine ⟨fun x c s outs h => ?_, fun body rest c s outs h => ?_, fun f args H outs h => ?_, fun l args H outs h => ?_, fun f args H outs h => ?_⟩
  ·have h : (none : Outs) = some outs := h; simp at h
  ·have h : (none : Outs) = some outs := h; simp at h
  ·have h : (none : Option (List VH)) = some outs := h; simp at h
  ·have h : (none : Option (List VH)) = some outs := h; simp at h
  ·have h : (none : Option (List VH)) = some outs := h; simp at h
 | succ n ih =>
  have hB := z8j ih (z5w TT ih (q1N TT ih)) (z3d ih)
  refine ⟨fun x => hB x, q3e ih hB, fun f args H outs h => ?_, j0s ih, fun f args H outs h ρ D w cs => z8k TT ih f args H outs h ρ D w .deferred cs⟩
  have h : orOv (ov f args H) (q4x (fnsO G ov n) G f args H) = some outs := h
  cases hov : ov f args H with
  | some l =>
   rw [hov] at h
   have h : some l = some outs := h
   simp only [Option.some.injEq] at h; subst h
   exact ho f args H l hov
  | none => rw [hov] at h; exact fun ρ D w kind cs => z8k TT ih f args H outs h ρ D w kind.1 cs
theorem z7l (TT : TabOk P G) {ov : Ov} (ho : OvOk P G ov) (n : Nat) (x : Code) : z1i P G (z0p x (fnsO G ov n) G) x :=
 z8j (z5g TT ho n) (z5w TT (z5g TT ho n) (q1N TT (z5g TT ho n))) (z3d (z5g TT ho n)) x
def Gets (P : Program) (G : Tab) (c : Ctx) (x : Code) (s : St) (Q : Ex → St → Prop) : Prop :=
 ∀ (ρ : Env) (D : Nat → Prop) (w : World) (tm : Array Value) (df : List Deferred) (b : Frame) (k : List Item) (cs : List Frame),
  SRel G ρ D w c.size s tm df → RndRel ρ D c.rnd b.roundOf →
  ∃ e s', Q e s' ∧ ∃ ρ' D' w' tm' df', SRel G ρ' D' w' c.size s' tm' df' ∧ Ext s.h ρ D s'.h ρ' D' ∧ Arr P (lone (fat b tm df (entry x k)) cs w) b cs k e tm' df' w'
theorem Gets.mono {c : Ctx} {x : Code} {s : St} {Q Q' : Ex → St → Prop} (h : Gets P G c x s Q) (hq : ∀ e s', Q e s' → Q' e s') : Gets P G c x s Q' :=
 fun ρ D w tm df b k cs hS hR => by
  obtain ⟨e, s', h1, h2⟩ := h ρ D w tm df b k cs hS hR
  exact ⟨e, s', hq e s' h1, h2⟩
theorem Gets.of_runs {c : Ctx} {x : Code} {r : Ctx → St → Outs} (hr : z1i P G r x) {s : St} {outs : List (Ex × St)} (h : r c s = some outs) : Gets P G c x s fun e s' => (e, s') ∈ outs :=
 fun ρ D w tm df b k cs hS hR => by
  obtain ⟨p, hp, ρ', D', w', tm', df', h1, h2, h3⟩ := hr c s outs h ρ D w tm df b k cs hS hR
  exact ⟨p.1, p.2, hp, ρ', D', w', tm', df', h1, h2, h3⟩
theorem Gets.seq {c : Ctx} {x y : Code} {s : St} {Q : Ex → St → Prop} (h : Gets P G c x s fun e s' => match e with | .normal => Gets P G c y s' Q | e => Q e s') : Gets P G c (.seq x y) s Q :=
 fun ρ D w tm df b k cs hS hR => by
  obtain ⟨e, s', h1, ρ', D', w', tm', df', g1, g2, g3⟩ := h ρ D w tm df b (.code y :: k) cs hS hR
  have first : Steps P (lone (fat b tm df (entry (.seq x y) k)) cs w) (lone (fat b tm df (entry x (.code y :: k))) cs w) := (Steps.one q3d).trans z0D
  cases e with
  | normal =>
   obtain ⟨e₂, s₂, h2, ρ₂, D₂, w₂, tm₂, df₂, f1, f2, f3⟩ := h1 ρ' D' w' tm' df' b k cs g1 (hR.sub g2.sub)
   exact ⟨e₂, s₂, h2, ρ₂, D₂, w₂, tm₂, df₂, f1, g2.trans f2, Arr.of_steps ((first.trans (Steps.trans g3 z0D))) f3⟩
  | exit j => exact ⟨_, s', h1, ρ', D', w', tm', df', g1, g2, Arr.of_steps first (Arr.pass (by simp) (fun _ _ => rfl) (fun _ _ => rfl) g3)⟩
  | goto j => exact ⟨_, s', h1, ρ', D', w', tm', df', g1, g2, Arr.of_steps first (Arr.pass (by simp) (fun _ _ => rfl) (fun _ _ => rfl) g3)⟩
  | ret => exact ⟨_, s', h1, ρ', D', w', tm', df', g1, g2, Arr.of_steps first (Arr.pass (by simp) (fun _ _ => rfl) (fun _ _ => rfl) g3)⟩
theorem Gets.cond {c : Ctx} {v : Operand} {x y : Code} {s : St} {Q : Ex → St → Prop} {t : Bool} (hv : aev G s.tm v = some (.bool t)) (h : Gets P G c (if t then x else y) s Q) : Gets P G c (.cond v x y) s Q :=
 fun ρ D w tm df b k cs hS hR => by
  obtain ⟨e1, e2⟩ := z1P (fr := fat b tm df k) hS.h hS.t v (.bool t) hv
  obtain ⟨e, s', h1, ρ', D', w', tm', df', g1, g2, g3⟩ := h ρ D w tm df b k cs hS hR
  refine ⟨e, s', h1, ρ', D', w', tm', df', g1, g2, Arr.of_steps ?_ g3⟩
  exact (Steps.one (z9e (t := t) (by rw [e1]; rfl))).trans z0D
theorem Gets.block {c : Ctx} {id : Nat} {x : Code} {s : St} {Q : Ex → St → Prop} (h : Gets P G c x s fun e s' => match e with | .exit j => if j = id then Q .normal s' else Q (.exit j) s' | e => Q e s') :
  Gets P G c (.block id x) s Q :=
 fun ρ D w tm df b k cs hS hR => by
  obtain ⟨e, s', h1, ρ', D', w', tm', df', g1, g2, g3⟩ := h ρ D w tm df b (.inBlock id :: k) cs hS hR
  have first : Steps P (lone (fat b tm df (entry (.block id x) k)) cs w) (lone (fat b tm df (entry x (.inBlock id :: k))) cs w) := (Steps.one q1F).trans z0D
  cases e with
  | normal => exact ⟨.normal, s', h1, ρ', D', w', tm', df', g1, g2, first.trans (Steps.trans g3 (.one q0z))⟩
  | exit j =>
   obtain ⟨k', hk, hs⟩ := g3
   by_cases hj : j = id
   ·subst hj
    simp only [if_true] at h1
    exact ⟨.normal, s', h1, ρ', D', w', tm', df', g1, g2, first.trans (Steps.trans hs (.one (j0c (by rw [hk]; simp [exitTo]))))⟩
   ·simp only [if_neg hj] at h1
    refine ⟨.exit j, s', h1, ρ', D', w', tm', df', g1, g2, k', ?_, first.trans hs⟩
    rw [hk]
    have : id ≠ j := fun e => hj e.symm
    simp [exitTo, this]
  | goto l => exact ⟨_, s', h1, ρ', D', w', tm', df', g1, g2, Arr.of_steps first (Arr.pass (x := .inBlock id) (by simp) (fun _ h => by simp at h) (fun _ _ => rfl) g3)⟩
  | ret => exact ⟨_, s', h1, ρ', D', w', tm', df', g1, g2, Arr.of_steps first g3⟩
theorem Gets.loop {c : Ctx} {x : Code} {Q : Ex → St → Prop} {I : Nat → St → Prop}
  (h : ∀ m s, I m s → Gets P G c x s fun e s' => match e with | .normal => ∃ m', m' < m ∧ I m' s' | e => Q e s') : ∀ m s, I m s → Gets P G c (.loop x) s Q := by
 intro m
 induction m using Nat.strongRecOn with
 | _ m ih =>
  intro s hI ρ D w tm df b k cs hS hR
  obtain ⟨e, s', h1, ρ', D', w', tm', df', g1, g2, g3⟩ := h m s hI ρ D w tm df b (.inLoop x :: k) cs hS hR
  have first : Steps P (lone (fat b tm df (entry (.loop x) k)) cs w) (lone (fat b tm df (entry x (.inLoop x :: k))) cs w) := z0D
  cases e with
  | normal =>
   obtain ⟨m', hm, hI'⟩ := h1
   obtain ⟨e₂, s₂, h2, ρ₂, D₂, w₂, tm₂, df₂, f1, f2, f3⟩ := ih m' hm s' hI' ρ' D' w' tm' df' b k cs g1 (hR.sub g2.sub)
   exact ⟨e₂, s₂, h2, ρ₂, D₂, w₂, tm₂, df₂, f1, g2.trans f2, Arr.of_steps (first.trans (Steps.trans g3 (.one z9f))) f3⟩
  | exit j => exact ⟨_, s', h1, ρ', D', w', tm', df', g1, g2, Arr.of_steps first (Arr.pass (by simp) (fun _ _ => rfl) (fun _ _ => rfl) g3)⟩
  | goto j => exact ⟨_, s', h1, ρ', D', w', tm', df', g1, g2, Arr.of_steps first (Arr.pass (by simp) (fun _ _ => rfl) (fun _ _ => rfl) g3)⟩
  | ret => exact ⟨_, s', h1, ρ', D', w', tm', df', g1, g2, Arr.of_steps first (Arr.pass (by simp) (fun _ _ => rfl) (fun _ _ => rfl) g3)⟩
end
end Go.Sx
namespace Go.Sx
section
variable {P : Program} {G : Tab}
mutual
def ltV (N : Nat) : AV → Prop
 | .ptr b _ => b < N
 | .slice b _ _ _ _ => b < N
 | .tail b _ _ _ => b < N
 | .map r => r < N
 | .yld l => l < N
 | .func _ x y => ltL N x ∧ ltL N y
 | .iface _ v => ltV N v
 | .agg cs => ltL N cs
 | .tuple vs => ltL N vs
 | _ => True
def ltL (N : Nat) : List AV → Prop
 | [] => True
 | v :: l => ltV N v ∧ ltL N l
end
mutual
theorem z9s {ρ : Env} {D : Nat → Prop} {N : Nat} : ∀ v, okV ρ D v → ltV N v → okV ρ (fun b => D b ∧ b < N) v
 | .bool _, _, _ => trivial
 | .int _ _, _, _ => trivial
 | .str _, _, _ => trivial
 | .ptr _ _, h, h' => ⟨h, h'⟩
 | .nilptr, _, _ => trivial
 | .slice _ _ _ _ _, h, h' => ⟨⟨h.1, h'⟩, h.2⟩
 | .nilslice, _, _ => trivial
 | .odd _ _ _ _, _, _ => trivial
 | .tail _ _ _ _, h, h' => ⟨h, h'⟩
 | .map _, h, h' => ⟨h, h'⟩
 | .nilmap, _, _ => trivial
 | .func _ x y, h, h' => ⟨h.1, z2X x h.2.1 h'.1, z2X y h.2.2 h'.2⟩
 | .yld _, h, h' => ⟨h, h'⟩
 | .nilFunc, _, _ => trivial
 | .iface _ v, h, h' => z9s v h h'
 | .nilIface, _, _ => trivial
 | .agg cs, h, h' => z2X cs h h'
 | .tuple cs, h, h' => z2X cs h h'
theorem z2X {ρ : Env} {D : Nat → Prop} {N : Nat} : ∀ l, okL ρ D l → ltL N l → okL ρ (fun b => D b ∧ b < N) l
 | [], _, _ => trivial
 | v :: l, h, h' => ⟨z9s v h.1 h'.1, z2X l h.2 h'.2⟩
end
def ltB (N : Nat) : ABlk → Prop
 | .cells _ _ l => ltL N l
 | .big _ _ z => ltL N z
 | .map es _ => ∀ e ∈ es, ltV N e.key ∧ ltV N e.val
 | .mapIter m _ _ _ => ∀ r, m = some r → r < N
 | .strIter _ _ => True
 | .loop _ => False
 | .deferred => True
 | .fix _ l => ltL N l
theorem BOk.cut {ρ : Env} {D : Nat → Prop} {N : Nat} {o : ABlk} (h : BOk ρ D o) (h' : ltB N o) : BOk ρ (fun b => D b ∧ b < N) o := by
 cases o with
 | cells e ex l => exact z2X l h h'
 | big e n z => exact z2X z h h'
 | map es c => exact fun e he => ⟨z9s _ (h e he).1 (h' e he).1, z9s _ (h e he).2 (h' e he).2⟩
 | mapIter m s l p => exact fun r hr => ⟨h r hr, h' r hr⟩
 | strIter s p => trivial
 | loop r => exact h'.elim
 | deferred => trivial
 | fix e l => exact z2X l h h'
theorem BOk.sub {ρ ρ' : Env} {D D' : Nat → Prop} {o : ABlk} (h : BOk ρ D o) (hs : Sub ρ D ρ' D') : BOk ρ' D' o := by
 cases o with
 | cells e ex l => exact (hs.concL l h).2
 | big e n z => exact (hs.concL z h).2
 | map es c => exact fun e he => hs.okE (h e he)
 | mapIter m s l p => exact fun r hr => hs.dom r (h r hr)
 | strIter s p => trivial
 | loop r => exact ⟨fun i => hs.ok (h.1 i), hs.dom _ h.2⟩
 | deferred => trivial
 | fix e l => exact (hs.concL l h).2
structure Cut (H : Heap) (p : VH) (v : AV) (H' : Heap) : Prop where
 val : p.1 = v
 next : p.2.next ≤ H'.next
 from_ : H.next ≤ p.2.next
 blk : ∀ b o, p.2.blks.get b = some o → H'.blks.get b = some o ∧ ((b < H.next ∧ H.blks.get b = some o) ∨ ltB p.2.next o)
 lt : ltV p.2.next p.1
theorem Cut.pure {H H' : Heap} {v : AV} (hn : H.next ≤ H'.next) (hb : ∀ b, b < H.next → H'.blks.get b = H.blks.get b) (hh : ∀ b o, H.blks.get b = some o → b < H.next) (hv : ltV H.next v) : Cut H (v, H) v H' :=
 ⟨rfl, hn, Nat.le_refl _, fun b o ho => ⟨by rw [hb b (hh b o ho)]; exact ho, .inl ⟨hh b o ho, ho⟩⟩, hv⟩
theorem HRel.cut {ρ ρ' : Env} {D D' : Nat → Prop} {w w' : World} {H H' : Heap} {p : VH} {v : AV} (hH : HRel G ρ D w H) (h : HRel G ρ' D' w' H') (hE : Ext H ρ D H' ρ' D') (hc : Cut H p v H') (hv : okV ρ' D' v) :
  HRel G ρ' (fun b => D' b ∧ b < p.2.next) w' p.2 ∧ Ext H ρ D p.2 ρ' (fun b => D' b ∧ b < p.2.next) ∧ okV ρ' (fun b => D' b ∧ b < p.2.next) p.1 := by
 have hsub : Sub ρ D ρ' (fun b => D' b ∧ b < p.2.next) := ⟨fun b hb => ⟨hE.sub.dom b hb, Nat.lt_of_lt_of_le (hH.lt b hb) hc.from_⟩, hE.sub.blk, hE.sub.base, hE.sub.cap, hE.sub.rest, hE.sub.orig⟩
 have hdown : Sub ρ' (fun b => D' b ∧ b < p.2.next) ρ' D' := ⟨fun b hb => hb.1, fun _ _ => rfl, fun _ _ => rfl, fun _ _ => rfl, rfl, rfl⟩
 refine ⟨⟨fun b hb => hb.2, fun g hg => ?_, fun b b' o o' hb hb' ho ho' hbb => h.inj b b' o o' hb.1 hb'.1 (hc.blk b o ho).1 (hc.blk b' o' ho').1 hbb, fun b o hb ho => ?_, fun i q hi => ⟨(h.rest i q hi).1, fun b hb hbi => ?_⟩, h.kin⟩,
  ⟨hsub, hc.from_, fun b hb => hE.new b hb.1⟩, ?_⟩
 ·obtain ⟨h1, h2, h3⟩ := h.glob g hg
  exact ⟨hsub.dom g (hH.glob g hg).1, h2, h3⟩
 ·obtain ⟨h1, h2⟩ := hc.blk b o ho
  have hbr := h.blk b o hb.1 h1
  have hbok : BOk ρ' (fun b => D' b ∧ b < p.2.next) o := by
   rcases h2 with ⟨h2, h3⟩ | h2
   ·have hD : D b := (hE.new b hb.1).resolve_right fun e => Nat.not_lt.2 e h2
    exact (hH.blk b o hD h3).bok.sub hsub
   ·exact hbr.bok.cut h2
  exact hbr.move hbok hdown (.refl _ _) rfl rfl rfl
 ·cases ho : p.2.blks.get b with
  | none => trivial
  | some o =>
   have := (h.rest i q hi).2 b hb.1 hbi
   rw [(hc.blk b o ho).1] at this
   exact this
 ·rw [hc.val]; exact z9s v hv (hc.val ▸ hc.lt)
noncomputable def q0O (l : List AV) : T AV := z7V l .e 0 id
theorem z4j (TT : TabOk P G) {f : FuncId} {fn : Func} {body : Code} (hf : P.funcs[f]? = some fn) (hb : fn.body = some body) (hn : (fn.name == "runtime.NumGoroutine") = false) {args : List AV} {H : Heap} {outs : List VH}
  (hg : Gets P G ⟨none, args.length + (fn.ntmps - args.length)⟩ body ⟨q0O args, H, []⟩ fun e s' =>
   z1I e = true ∧ s'.df = [] ∧ ∃ vs, z0C G s'.tm s'.h fn.results.toList = some vs ∧ ∃ p ∈ outs, Cut H p (z2a vs) s'.h) : CallTo P G f args H outs := by
 intro ρ D w kind cs hH ha
 refine ⟨⟨fn, body, hf, hb, hn⟩, ?_⟩
 obtain ⟨tm, e1, e2⟩ := z5x args .e 0 (id : T AV → T AV)
 have htm : q0O args = tm := e1
 rw [htm] at hg
 let b : Frame := { fn := f, tmps := #[], todo := [], defers := [], mode := .run, kind := kind.1 }
 have henter : Frame.enter P f (concL ρ args).toArray kind.1 = fat b ((concL ρ args).toArray ++ Array.replicate (fn.ntmps - (concL ρ args).toArray.size) undef) [] [.code body] := by
  simp [Frame.enter, fat, hf, hb, b]
 rw [henter]
 obtain ⟨e, s', ⟨q1, q2, vs, q3, p, hp, hc⟩, ρ', D', w', tm', df', r1, r2, r3⟩ := hg ρ D w _ [] b [] cs ⟨hH, z3E ha e2, trivial⟩ rfl
 have hend : z2D (fnsO G (fun _ _ _ => none) 0) G fn.results.toList (e, s') = some [(z2a vs, s'.h)] := by
  obtain ⟨tm₀, h₀, df₀⟩ := s'
  simp only at q2 q3
  subst q2
  unfold z2D
  simp only [q1, cond_true]
  show z0b (z0C G tm₀ h₀ fn.results.toList) (fun vs => some [(z2a vs, h₀)]) = _
  rw [q3]; rfl
 obtain ⟨q, hq, ρ₂, D₂, w₂, todo, g1, g2, g3, g4, g5⟩ := z5y TT (z5g TT (fun _ _ _ _ h => by simp at h) 0) hend r1 b rfl cs (r3.of_steps z0D)
 simp only [List.mem_singleton] at hq
 subst hq
 obtain ⟨c1, c2, c3⟩ := hH.cut g1 (r2.trans g2) hc g3
 exact ⟨p, hp, ρ₂, _, w₂, _, c1, c2, c3, g4, rfl, rfl, rfl, rfl, fn, hf, by rw [hc.val]; exact g5⟩
def q7T (ov : Ov) (f : FuncId) (g : List AV → Heap → Option (List VH)) : Ov := fun f' args H => if f' = f then g args H else ov f' args H
theorem k1A {ov : Ov} (ho : OvOk P G ov) {f : FuncId} {g : List AV → Heap → Option (List VH)} (hg : ∀ args H outs, g args H = some outs → CallTo P G f args H outs) : OvOk P G (q7T ov f g) := by
 intro f' args H outs h
 unfold q7T at h
 split at h
 ·rename_i e; subst e; exact hg args H outs h
 ·exact ho f' args H outs h
theorem q7U (TT : TabOk P G) {ov : Ov} (ho : OvOk P G ov) {n : Nat} {f : FuncId} {args : List AV} {H : Heap} {outs : List VH} (h : (fnsO G ov n).call f args H = some outs) : CallTo P G f args H outs :=
 fun ρ D w kind cs hH ha => (z5g TT ho n).call f args H outs h ρ D w kind cs hH ha
theorem CallTo.cut {f : FuncId} {args : List AV} {H : Heap} {outs outs' : List VH} (h : CallTo P G f args H outs) (hc : ∀ p ∈ outs, ∃ q ∈ outs', Cut H q p.1 p.2) : CallTo P G f args H outs' := by
 intro ρ D w kind cs hH ha
 obtain ⟨h0, p, hp, ρ', D', w', fr, h1, h2, h3, h4, h5, h6, h7, h8, fn, h9, h10⟩ := h ρ D w kind cs hH ha
 obtain ⟨q, hq, hcut⟩ := hc p hp
 obtain ⟨c1, c2, c3⟩ := hH.cut h1 h2 hcut h3
 exact ⟨h0, q, hq, ρ', _, w', fr, c1, c2, c3, h4, h5, h6, h7, h8, fn, h9, by rw [hcut.val]; exact h10⟩
theorem CallTo.calls {f : FuncId} {args : List AV} {H : Heap} {outs : List VH} (h : CallTo P G f args H outs) {ρ : Env} {D : Nat → Prop} {w : World} (hH : HRel G ρ D w H) (ha : okL ρ D args) :
  Calls P f (concL ρ args).toArray w fun e w' => ∃ p ∈ outs, ∃ ρ' D', e = .returned (conc ρ' p.1) ∧ HRel G ρ' D' w' p.2 ∧ Ext H ρ D p.2 ρ' D' := by
 intro cs
 obtain ⟨_, p, hp, ρ', D', w', fr, r1, r2, r3, r4, r5, r6, r7, r8, fn, h1, h2⟩ := h ρ D w ⟨.normal, rfl⟩ cs hH ha
 exact ⟨.returned (conc ρ' p.1), w', fr, ⟨p, hp, ρ', D', rfl, r1, r2⟩, r4, r5, r6, r7, r8, fn, by rw [r5]; exact h1, h2⟩
end
end Go.Sx
namespace Go.Sx
open Go
theorem andT {a b : Bool} (h : a = true) (h' : b = true) : (a && b) = true := by rw [h, h']; rfl
theorem q0a {P : Program} {f : FuncId} {fn : Func} {s : ChangeSpec} {c : OpenClaim}
  (k1 : c.wf (OpenSpec.ofChange s) = true) (k2 : laidOutB P = true) (k3 : mapsRowed P = true) (k4 : fn.params.all (P.readableRec ·) = true) (k5 : namedTie P c.named s.vars = true)
  (k6 : (c.stops == []) = true) (k7 : (P.stops == []) = true) (k8 : (c.knobs == []) = true) (k9 : (P.stopKnobs == []) = true)
  (k10 : (c.inPlace == P.inPlace f) = true) (k11 : (c.unfollowed == P.unfollowed f) = true) (k12 : (c.recurses == P.recurses f) = true) (k13 : (c.named == P.varsNamed f) = true)
  (k14 : (c.maps == (fn.params.toList ++ s.plain.varTypes P).any (P.mapsRec ·)) = true) (k15 : (c.ifaces == (fn.params.toList ++ s.plain.varTypes P).any (P.ifacesRec ·)) = true)
  (k16 : (c.mapsOut == P.mapsAmong fn.resultTypes.toList) = true) (k17 : (c.loops == (fn.params.toList ++ s.plain.varTypes P).any (P.loopsFrom ·)) = true)
  (k18 : (c.wideKeys == (fn.params.toList ++ s.plain.varTypes P ++ fn.resultTypes.toList).any (P.wideKeysFrom ·)) = true) (k19 : s.vars.all (P.varReadable ·) = true)
  (k20 : fn.resultTypes.all (fun t => P.readableRec t && decide (t < P.types.size)) = true) (k21 : (c.ifacesOut == fn.resultTypes.toList.any (P.ifacesRec ·)) = true)
  (k22 : (c.loopsOut == fn.resultTypes.toList.any (P.loopsFrom ·)) = true) (k23 : (c.plainKeys == P.plainKeys) = true) (k24 : c.shortTexts.isNone = true) (k25 : P.stopsHeard = true) (k26 : P.mayEnter = true)
  (k27 : (c.lifted == P.liftsFinal) = true) (k28 : (P.make == some c.make) = true)
  (k29 : (c.kinds == (if c.domain.isEmpty then [] else fn.params.toList.map fun t => match P.underlying t with | some (.int k) => some k | _ => none)) = true) (k30 : (c.pinned == c.pinnedBy) = true)
  (k31 : (c.veiled == (fn.params.toList ++ s.plain.varTypes P ++ fn.resultTypes.toList).any (P.veiledRec ·)) = true)
  (k32 : c.veiledFits P fn.params.toList (fn.params.toList ++ s.plain.varTypes P ++ fn.resultTypes.toList) = true) : joinedFacts P f fn s c = true := by
 exact (andT (andT (andT (andT (andT (andT (andT (andT (andT (andT (andT (andT (andT (andT (andT (andT (andT (andT (andT (andT (andT (andT (andT (andT (andT (andT (andT (andT (andT (andT (andT k1 k2) k3) k4) k5) k6) k7) k8) k9) k10) k11) k12) k13) k14) k15) k16) k17) k18) k19) k20) k21) k22) k23) k24) k25) k26) k27) k28) k29) k30) k31) k32)
end Go.Sx
namespace Go.Sx
open Go Go.RowKit
section
variable {P : Program} {G : Tab}
theorem q3t {W : World} {l : List (String × DataW Unit)} (h : laidMet P l W) {n : String} {g t e : Nat} {k : IntKind} {xs : List Int}
  (hm : (n, DataW.agg (xs.map fun x => .lit (.int k x))) ∈ l) (hg : P.globalNamed n = some g) (ht : (P.globals[g]?).map (·.type) = some t) (hu : P.underlying t = some (.array xs.length e)) (hc : P.cellsOf e = 1)
  (hi : P.underlying e = some (.int k)) (hne : xs ≠ []) :
  ∃ (arr : Array Value) (el : TypeId), W.heap[g]? = some (.cells arr el (0, 0)) ∧ xs.length ≤ arr.size ∧ ∀ (i : Nat) (x : Int), xs[i]? = some x → arr[i]? = some (Value.int k x) := by
 obtain ⟨ps, hv, _, hps⟩ := h
 obtain ⟨g', t', cs, fuel, p, k1, k2, k3, k4, k5⟩ := z3H hv n _ hm
 obtain rfl : g' = g := Option.some.inj (k1.symm.trans hg)
 obtain rfl : t' = t := Option.some.inj (k2.symm.trans ht)
 have hlen : 0 < xs.length := List.length_pos_iff.2 hne
 obtain ⟨ys, m, _, hx, _, hyl, hel⟩ := DataW.trod_array hu k4
 simp only [Prod.mk.injEq, DataW.agg.injEq] at hx
 have hcell : ∀ (i : Nat) (x : Int), xs[i]? = some x → cs[i]? = some (Value.int k x) := fun i x hx' => by
  have hil : i < xs.length := (List.getElem?_eq_some_iff.1 hx').1
  have h1 := hel i hil
  rw [hc, List.getElem?_eq_getElem (by omega)] at h1
  obtain ⟨z, e1, e2, _⟩ := DataW.trod_int hi h1
  have h2 : (xs.map fun x => (DataW.lit (.int k x) : DataW Unit))[i]? = (ys.map (·.1))[i]? := by rw [hx.1]
  rw [List.getElem?_map, List.getElem?_map, hx', List.getElem?_eq_getElem (by omega), Option.map_some, Option.map_some, e2] at h2
  simp only [Option.some.injEq, DataW.lit.injEq, Lit.int.injEq, true_and] at h2
  have h3 : cs.toList[i]? = ((cs.toList.drop (i * 1)).take 1)[0]? := by simp
  rw [e1] at h3
  rw [← Array.getElem?_toList, h3, h2]
  rfl
 have hvar : ∃ el f, W.heap[g']? = some (.cells cs el f) := by
  unfold World.var? at k3
  rw [k1] at k3
  simp only [Option.bind_some] at k3
  split at k3
  ·rename_i c el f hh
   simp only [Option.some.injEq] at k3; subst k3
   exact ⟨el, f, hh⟩
  ·simp at k3
 obtain ⟨el, fg, hgc⟩ := hvar
 have hsz : xs.length ≤ cs.size := by
  have := hcell (xs.length - 1) xs[xs.length - 1] (List.getElem?_eq_getElem (by omega))
  have := (Array.getElem?_eq_some_iff.1 this).1
  omega
 have hg0 := (hps g' 0 (k5 _ (List.mem_append.2 (.inl (by
  unfold MemPlace.row
  exact List.mem_map.2 ⟨0, List.mem_range.2 (by omega), rfl⟩))))).1
 obtain ⟨c1, t1, hg1⟩ := hg0
 rw [hgc] at hg1
 simp only [Option.some.injEq, Obj.cells.injEq] at hg1
 obtain ⟨rfl, rfl, rfl⟩ := hg1
 exact ⟨cs, el, hgc, hsz, hcell⟩
def q3u (W : World) : Env where
 blk := fun x => x
 base := fun _ => 0
 cap := fun _ => 0
 rest := fun i o => W.heap[i]? = some o
 orig := W
theorem j0D {W : World} {g : Nat} {t : TypeId} {k : IntKind} {xs : List Int} {el : TypeId} {arr : Array Value} {H : Heap} (hgn : g < H.next) (hn : G.nglob ≤ H.next)
  (hget : ∀ x o, H.blks.get x = some o → x = g ∧ o = .big t xs.length (xs.map fun x => .int k x))
  (hg : W.heap[g]? = some (.cells arr el (0, 0))) (hsz : xs.length ≤ arr.size)
  (harr : ∀ (i : Nat) (x : Int), xs[i]? = some x → arr[i]? = some (Value.int k x)) : HRel G (q3u W) (fun x => x < H.next) W H := by
 refine ⟨fun x hx => hx, fun x hx => ⟨Nat.lt_of_lt_of_le hx hn, rfl, rfl⟩, fun x y p q hx hy hox hoy hxy => .inl hxy, fun x o hx hox => ?_, fun i o hi => ⟨hi, fun x hx _ => ?_⟩, .refl _⟩
 ·obtain ⟨rfl, rfl⟩ := hget x o hox
  refine ⟨z0z.2 fun v hv => ?_, _, _, _, hg, by show 0 + xs.length ≤ arr.size; omega, fun i v hi hv => ?_⟩
  ·obtain ⟨x, _, rfl⟩ := List.mem_map.1 hv; trivial
  ·rw [List.length_map, Nat.mod_eq_of_lt hi, List.getElem?_map] at hv
   obtain ⟨x, hx, rfl⟩ := Option.map_eq_some_iff.1 hv
   show arr[0 + i]? = _
   rw [Nat.zero_add]
   exact harr i x hx
 ·cases ho : H.blks.get x with
  | none => trivial
  | some o => obtain ⟨_, rfl⟩ := hget x o ho; trivial
end
end Go.Sx
