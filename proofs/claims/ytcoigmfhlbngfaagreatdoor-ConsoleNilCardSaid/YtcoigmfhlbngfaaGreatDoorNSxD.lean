/-
  The executor's code, calls, ranges over functions are sound (part 3).
-/
import Derived.Test.YtcoigmfhlbngfaaGreatDoorNSxC
import Derived.Laws.Externs
import Derived.MapKept
import Derived.Lib.MakeNoZero
import Derived.Lib.Builder
import Derived.Lib.Bytealg
import Derived.Lib.UnsafeStr
set_option linter.unusedSimpArgs false
set_option linter.unusedVariables false
namespace Go.Sx
section
variable {P : Program} {G : Tab}
def fat (b : Frame) (tmps : Array Value) (df : List Deferred) (todo : List Item) : Frame :=
 { fn := b.fn, tmps, todo, defers := df, mode := .run, kind := b.kind, roundOf := b.roundOf }
theorem q6F (b : Frame) (tmps : Array Value) (df : List Deferred) (k k' : List Item) : (fat b tmps df k).eval = (fat b tmps df k').eval := by
 funext x; cases x <;> rfl
section
variable {b : Frame} {tm : Array Value} {df : List Deferred} {k : List Item} {cs : List Frame} {w : World}
theorem j7g : step P (lone (fat b tm df (.code .skip :: k)) cs w) = .next (lone (fat b tm df k) cs w) := step_lone_go (by simp [stepG, stepG.exec, fat])
theorem j3i {l : Nat} : step P (lone (fat b tm df (.code (.label l) :: k)) cs w) = .next (lone (fat b tm df k) cs w) := step_lone_go (by simp [stepG, stepG.exec, fat])
theorem q0z {id : Nat} : step P (lone (fat b tm df (.inBlock id :: k)) cs w) = .next (lone (fat b tm df k) cs w) := step_lone_go (by simp [stepG, stepG.exec, fat])
theorem q0A {x : Code} : step P (lone (fat b tm df (.inScope x :: k)) cs w) = .next (lone (fat b tm df k) cs w) := step_lone_go (by simp [stepG, stepG.exec, fat])
theorem q3d {x y : Code} : step P (lone (fat b tm df (.code (.seq x y) :: k)) cs w) = .next (lone (fat b tm df (.code x :: .code y :: k)) cs w) :=
 step_lone_go (by simp [stepG, stepG.exec, fat])
theorem z9e {c : Operand} {x y : Code} {t : Bool} (h : (fat b tm df k).eval c = .bool t) :
  step P (lone (fat b tm df (.code (.cond c x y) :: k)) cs w) = .next (lone (fat b tm df (.code (if t then x else y) :: k)) cs w) :=
 step_lone_go (by
  rw [q6F b tm df k (.code (.cond c x y) :: k)] at h
  simp only [fat] at h
  simp [stepG, stepG.exec, fat, h])
theorem q1F {id : Nat} {c : Code} : step P (lone (fat b tm df (.code (.block id c) :: k)) cs w) = .next (lone (fat b tm df (.code c :: .inBlock id :: k)) cs w) :=
 step_lone_go (by simp [stepG, stepG.exec, fat])
theorem j7h {c : Code} : step P (lone (fat b tm df (.code (.loop c) :: k)) cs w) = .next (lone (fat b tm df (.code c :: .inLoop c :: k)) cs w) :=
 step_lone_go (by simp [stepG, stepG.exec, fat])
theorem z9f {c : Code} : step P (lone (fat b tm df (.inLoop c :: k)) cs w) = .next (lone (fat b tm df (.code c :: .inLoop c :: k)) cs w) :=
 step_lone_go (by simp [stepG, stepG.exec, fat])
theorem q6G {c : Code} : step P (lone (fat b tm df (.code (.scope c) :: k)) cs w) = .next (lone (fat b tm df (.code c :: .inScope c :: k)) cs w) :=
 step_lone_go (by simp [stepG, stepG.exec, fat])
theorem j0c {id : Nat} {k' : List Item} (h : exitTo id k = some k') : step P (lone (fat b tm df (.code (.exit id) :: k)) cs w) = .next (lone (fat b tm df k') cs w) :=
 step_lone_go (by simp [stepG, stepG.exec, fat, h])
theorem j7i {l : Nat} {k' : List Item} (h : gotoIn l k = some k') : step P (lone (fat b tm df (.code (.goto l) :: k)) cs w) = .next (lone (fat b tm df k') cs w) :=
 step_lone_go (by simp [stepG, stepG.exec, fat, h])
theorem j0d (hr : b.roundOf = none) : step P (lone (fat b tm df (.code .ret :: k)) cs w) = .next (lone { fat b tm df (.code .ret :: k) with mode := .returning } cs w) :=
 step_lone_go (by simp [stepG, stepG.exec, fat, hr])
theorem j0e (hr : b.roundOf = none) : step P (lone (fat b tm df []) cs w) = .next (lone { fat b tm df [] with mode := .returning } cs w) :=
 step_lone_go (by simp [stepG, stepG.exec, fat, hr])
end
def Arr (P : Program) (m : Machine) (b : Frame) (cs : List Frame) (k : List Item) (e : Ex) (tm : Array Value) (df : List Deferred) (w : World) : Prop :=
 match e with
 | .normal => Steps P m (lone (fat b tm df k) cs w)
 | .exit id => ∃ k', exitTo id k' = exitTo id k ∧ Steps P m (lone (fat b tm df (.code (.exit id) :: k')) cs w)
 | .goto l => ∃ k', gotoIn l k' = gotoIn l k ∧ Steps P m (lone (fat b tm df (.code (.goto l) :: k')) cs w)
 | .ret => ∃ k', Steps P m (lone (fat b tm df (.code .ret :: k')) cs w)
theorem Arr.of_steps {m m₁ : Machine} {b : Frame} {cs : List Frame} {k : List Item} {e : Ex} {tm : Array Value} {df : List Deferred} {w : World} (h : Steps P m m₁) (h' : Arr P m₁ b cs k e tm df w) :
  Arr P m b cs k e tm df w := by
 cases e with
 | normal => exact h.trans h'
 | exit id => obtain ⟨k', h1, h2⟩ := h'; exact ⟨k', h1, h.trans h2⟩
 | goto l => obtain ⟨k', h1, h2⟩ := h'; exact ⟨k', h1, h.trans h2⟩
 | ret => obtain ⟨k', h2⟩ := h'; exact ⟨k', h.trans h2⟩
theorem Arr.pass {m : Machine} {b : Frame} {cs : List Frame} {k : List Item} {x : Item} {e : Ex} {tm : Array Value} {df : List Deferred} {w : World} (hn : e ≠ .normal)
  (he : ∀ id, e = .exit id → exitTo id (x :: k) = exitTo id k) (hg : ∀ l, e = .goto l → gotoIn l (x :: k) = gotoIn l k) (h : Arr P m b cs (x :: k) e tm df w) : Arr P m b cs k e tm df w := by
 cases e with
 | normal => exact absurd rfl hn
 | exit id => obtain ⟨k', h1, h2⟩ := h; exact ⟨k', h1.trans (he id rfl), h2⟩
 | goto l => obtain ⟨k', h1, h2⟩ := h; exact ⟨k', h1.trans (hg l rfl), h2⟩
 | ret => exact h
def DRel (ρ : Env) (D : Nat → Prop) : ADefer → Deferred → Prop
 | .collected r, d => D r ∧ d = { target := .collected (ρ.blk r), args := #[] }
 | .call v args, d => okV ρ D v ∧ okL ρ D args ∧ Deferred.ofValue (conc ρ v) (concL ρ args).toArray = pure d
theorem DRel.sub {ρ ρ' : Env} {D D' : Nat → Prop} {a : ADefer} {d : Deferred} (h : DRel ρ D a d) (hs : Sub ρ D ρ' D') : DRel ρ' D' a d := by
 cases a with
 | collected r => exact ⟨hs.dom _ h.1, by rw [hs.blk _ h.1]; exact h.2⟩
 | call v args => exact ⟨hs.ok h.1, (hs.concL _ h.2.1).2, by rw [hs.eq h.1, (hs.concL _ h.2.1).1]; exact h.2.2⟩
def DfRel (ρ : Env) (D : Nat → Prop) : List ADefer → List Deferred → Prop
 | [], [] => True
 | a :: l, d :: m => DRel ρ D a d ∧ DfRel ρ D l m
 | _, _ => False
theorem DfRel.sub {ρ ρ' : Env} {D D' : Nat → Prop} (hs : Sub ρ D ρ' D') : ∀ {l : List ADefer} {m : List Deferred}, DfRel ρ D l m → DfRel ρ' D' l m
 | [], [], _ => trivial
 | _ :: _, _ :: _, h => ⟨h.1.sub hs, DfRel.sub hs h.2⟩
 | [], _ :: _, h => h.elim
 | _ :: _, [], h => h.elim
structure SRel (G : Tab) (ρ : Env) (D : Nat → Prop) (w : World) (size : Nat) (s : St) (tm : Array Value) (df : List Deferred) : Prop where
 h : HRel G ρ D w s.h
 t : TmRel ρ D size s.tm tm
 d : DfRel ρ D s.df df
def RndRel (ρ : Env) (D : Nat → Prop) (a c : Option Nat) : Prop :=
 match a with
 | none => c = none
 | some l => D l ∧ c = some (ρ.blk l)
theorem RndRel.sub {ρ ρ' : Env} {D D' : Nat → Prop} {a c : Option Nat} (h : RndRel ρ D a c) (hs : Sub ρ D ρ' D') : RndRel ρ' D' a c := by
 cases a with
 | none => exact h
 | some l => exact ⟨hs.dom _ h.1, by rw [hs.blk _ h.1]; exact h.2⟩
def Lands (P : Program) (G : Tab) (ρ : Env) (D : Nat → Prop) (size : Nat) (H : Heap) (m : Machine) (b : Frame) (cs : List Frame) (k : List Item) (outs : List (Ex × St)) : Prop :=
 ∃ p ∈ outs, ∃ ρ' D' w' tm' df', SRel G ρ' D' w' size p.2 tm' df' ∧ Ext H ρ D p.2.h ρ' D' ∧ Arr P m b cs k p.1 tm' df' w'
theorem Lands.of_steps {ρ : Env} {D : Nat → Prop} {size : Nat} {H : Heap} {m m₁ : Machine} {b : Frame} {cs : List Frame} {k : List Item} {outs : List (Ex × St)} (h : Steps P m m₁)
  (h' : Lands P G ρ D size H m₁ b cs k outs) : Lands P G ρ D size H m b cs k outs := by
 obtain ⟨p, hp, ρ', D', w', tm', df', h1, h2, h3⟩ := h'
 exact ⟨p, hp, ρ', D', w', tm', df', h1, h2, .of_steps h h3⟩
theorem Lands.ext {ρ ρ₁ : Env} {D D₁ : Nat → Prop} {size : Nat} {H H₁ : Heap} {m : Machine} {b : Frame} {cs : List Frame} {k : List Item} {outs : List (Ex × St)} (h : Ext H ρ D H₁ ρ₁ D₁)
  (h' : Lands P G ρ₁ D₁ size H₁ m b cs k outs) : Lands P G ρ D size H m b cs k outs := by
 obtain ⟨p, hp, ρ', D', w', tm', df', h1, h2, h3⟩ := h'
 exact ⟨p, hp, ρ', D', w', tm', df', h1, h.trans h2, h3⟩
theorem Lands.mono {ρ : Env} {D : Nat → Prop} {size : Nat} {H : Heap} {m : Machine} {b : Frame} {cs : List Frame} {k : List Item} {outs outs' : List (Ex × St)} (hs : ∀ p ∈ outs, p ∈ outs')
  (h' : Lands P G ρ D size H m b cs k outs) : Lands P G ρ D size H m b cs k outs' := by
 obtain ⟨p, hp, r⟩ := h'
 exact ⟨p, hs p hp, r⟩
def entry (x : Code) (k : List Item) : List Item :=
 match x with
 | .loop body => .code body :: .inLoop body :: k
 | x => .code x :: k
theorem z0D {x : Code} {b : Frame} {tm : Array Value} {df : List Deferred} {k : List Item} {cs : List Frame} {w : World} :
  Steps P (lone (fat b tm df (.code x :: k)) cs w) (lone (fat b tm df (entry x k)) cs w) := by
 cases x with
 | loop body => exact .one j7h
 | _ => exact .refl _ _
def z1i (P : Program) (G : Tab) (r : Ctx → St → Outs) (x : Code) : Prop :=
 ∀ (c : Ctx) (s : St) (outs : List (Ex × St)), r c s = some outs → ∀ (ρ : Env) (D : Nat → Prop) (w : World) (tm : Array Value) (df : List Deferred) (b : Frame) (k : List Item) (cs : List Frame),
  SRel G ρ D w c.size s tm df → RndRel ρ D c.rnd b.roundOf → Lands P G ρ D c.size s.h (lone (fat b tm df (entry x k)) cs w) b cs k outs
theorem j0f {α : Type} {a b : Option (List α)} {l : List α} (h : appO a b = some l) : ∃ x y, a = some x ∧ b = some y ∧ l = x ++ y := by
 cases a with
 | none => simp [appO] at h
 | some x => cases b with
  | none => simp [appO] at h
  | some y => simp only [appO, Option.some.injEq, z1G] at h; exact ⟨x, y, rfl, rfl, h.symm⟩
theorem q7y {α β : Type} {f : α → Option (List β)} : ∀ {l : List α} {r : List β}, q8X f l = some r → ∀ a ∈ l, ∃ x, f a = some x ∧ ∀ y ∈ x, y ∈ r := by
 intro l
 induction l with
 | nil => intro r _ a ha; simp at ha
 | cons b l ih =>
  intro r h a ha
  obtain ⟨x, y, hx, hy, rfl⟩ := j0f (a := f b) (b := q8X f l) h
  rcases List.mem_cons.1 ha with rfl | ha
  ·exact ⟨x, hx, fun z hz => List.mem_append.2 (.inl hz)⟩
  ·obtain ⟨z, hz, hin⟩ := ih hy a ha
   exact ⟨z, hz, fun t ht => List.mem_append.2 (.inr (hin t ht))⟩
theorem q0B {α β : Type} {f : α → Option (List β)} {l : List α} {r : List β} (h : q8Y f l = some r) : ∀ a ∈ l, ∃ x, f a = some x ∧ ∀ y ∈ x, y ∈ r := by
 unfold q8Y at h
 split at h
 ·rename_i b
  intro a ha
  simp only [List.mem_singleton] at ha; subst ha
  exact ⟨r, h, fun _ h => h⟩
 ·exact q7y h
theorem z0w {α β : Type} {o : Option (List α)} {f : α → Option (List β)} {r : List β} (h : z1B o f = some r) :
  ∃ l, o = some l ∧ ∀ a ∈ l, ∃ x, f a = some x ∧ ∀ y ∈ x, y ∈ r := by
 cases o with
 | none => simp [z1B] at h
 | some l => exact ⟨l, rfl, q0B h⟩
abbrev j7j := {k : CallKind // k = .normal}
structure FnsOk (P : Program) (G : Tab) (F : Fns) : Prop where
 code : ∀ x, z1i P G (fun c s => F.code c x s) x
 scope : ∀ body rest (c : Ctx) (s : St) (outs : List (Ex × St)), F.scope c body rest s = some outs → ∀ (ρ : Env) (D : Nat → Prop) (w : World) (tm : Array Value) (df : List Deferred) (b : Frame) (k : List Item)
  (cs : List Frame), SRel G ρ D w c.size s tm df → RndRel ρ D c.rnd b.roundOf → Lands P G ρ D c.size s.h (lone (fat b tm df (.code rest :: .inScope body :: k)) cs w) b cs k outs
 call : ∀ f args H outs, F.call f args H = some outs → ∀ (ρ : Env) (D : Nat → Prop) (w : World) (kind : j7j) (cs : List Frame), HRel G ρ D w H → okL ρ D args →
  (∃ fn body, P.funcs[f]? = some fn ∧ fn.body = some body ∧ (fn.name == "runtime.NumGoroutine") = false) ∧
  ∃ p ∈ outs, ∃ ρ' D' w' fr, HRel G ρ' D' w' p.2 ∧ Ext H ρ D p.2 ρ' D' ∧ okV ρ' D' p.1 ∧ Steps P (lone (Frame.enter P f (concL ρ args).toArray kind.1) cs w) (lone fr cs w') ∧
   fr.fn = f ∧ fr.mode = .returning ∧ fr.defers = [] ∧ fr.kind = kind.1 ∧ ∃ fn, P.funcs[f]? = some fn ∧ (results fn fr.tmps).run P w' = .ok (conc ρ' p.1) w'
 yld : ∀ l args H outs, F.yld l args H = some outs → ∀ (ρ : Env) (D : Nat → Prop) (w : World) (c : Frame) (cs : List Frame), HRel G ρ D w H → okL ρ D args → D l →
  ∃ fn tm assign body, (Instr.yield (ρ.blk l) (concL ρ args).toArray).run P w = .ok (.round (ρ.blk l) fn tm assign body) w ∧
  ∃ p ∈ outs, ∃ ρ' D' w', HRel G ρ' D' w' p.2 ∧ Ext H ρ D p.2 ρ' D' ∧ okV ρ' D' p.1 ∧
   Steps P (lone (Frame.round (ρ.blk l) fn tm assign body .normal) (c :: cs) w) (lone (c.finish (conc ρ' p.1)) cs w')
 callD : ∀ f args H outs, F.callD f args H = some outs → ∀ (ρ : Env) (D : Nat → Prop) (w : World) (cs : List Frame), HRel G ρ D w H → okL ρ D args →
  (∃ fn body, P.funcs[f]? = some fn ∧ fn.body = some body ∧ (fn.name == "runtime.NumGoroutine") = false) ∧
  ∃ p ∈ outs, ∃ ρ' D' w' fr, HRel G ρ' D' w' p.2 ∧ Ext H ρ D p.2 ρ' D' ∧ okV ρ' D' p.1 ∧ Steps P (lone (Frame.enter P f (concL ρ args).toArray .deferred) cs w) (lone fr cs w') ∧
   fr.fn = f ∧ fr.mode = .returning ∧ fr.defers = [] ∧ fr.kind = .deferred ∧ ∃ fn, P.funcs[f]? = some fn ∧ (results fn fr.tmps).run P w' = .ok (conc ρ' p.1) w'
end
end Go.Sx
namespace Go.Sx
section
variable {P : Program} {G : Tab} {F : Fns}
theorem z2H {k : St → Outs} {p : Ex × St} {x : List (Ex × St)} (h : z3o k p = some x) : (p.1 = .normal ∧ k p.2 = some x) ∨ (p.1 ≠ .normal ∧ x = [(p.1, p.2)]) := by
 obtain ⟨e, s⟩ := p
 cases e <;> simp only [z3o, Option.some.injEq] at h
 ·exact .inl ⟨rfl, h⟩
 all_goals exact .inr ⟨by simp, h.symm⟩
theorem Lands.then {ρ : Env} {D : Nat → Prop} {size : Nat} {H : Heap} {m : Machine} {b : Frame} {cs : List Frame} {k : List Item} {x : Item} {l outs : List (Ex × St)} {f : Ex × St → Outs}
  (h : Lands P G ρ D size H m b cs (x :: k) l) (hall : ∀ p ∈ l, ∃ y, f p = some y ∧ ∀ q ∈ y, q ∈ outs)
  (step : ∀ p y, p ∈ l → f p = some y → ∀ ρ' D' w' tm' df', SRel G ρ' D' w' size p.2 tm' df' → Ext H ρ D p.2.h ρ' D' → Arr P m b cs (x :: k) p.1 tm' df' w' → Lands P G ρ D size H m b cs k y) :
  Lands P G ρ D size H m b cs k outs := by
 obtain ⟨p, hp, ρ', D', w', tm', df', h1, h2, h3⟩ := h
 obtain ⟨y, hy, hin⟩ := hall p hp
 exact (step p y hp hy ρ' D' w' tm' df' h1 h2 h3).mono hin
theorem j7k {a b : CRun} {x y : Code} (ha : z1i P G (a F G) x) (hb : z1i P G (b F G) y) : z1i P G (cSeq a b F G) (.seq x y) := by
 intro c s outs h ρ D w tm df fr k cs hS hR
 obtain ⟨l, hl, hall⟩ := z0w h
 refine Lands.of_steps (.one q3d) ?_
 refine Lands.of_steps z0D ?_
 refine (ha c s l hl ρ D w tm df fr (.code y :: k) cs hS hR).then hall fun p z hp hz ρ' D' w' tm' df' h1 h2 h3 => ?_
 rcases z2H hz with ⟨e1, e2⟩ | ⟨e1, e2⟩
 ·rw [e1] at h3
  exact Lands.of_steps (Steps.trans h3 z0D) (Lands.ext h2 (hb c p.2 z e2 ρ' D' w' tm' df' fr k cs h1 (hR.sub h2.sub)))
 ·subst e2
  exact ⟨_, List.mem_singleton.2 rfl, ρ', D', w', tm', df', h1, h2, h3.pass e1 (fun _ _ => rfl) (fun _ _ => rfl)⟩
theorem j3j {a b : CRun} {v : Operand} {x y : Code} (ha : z1i P G (a F G) x) (hb : z1i P G (b F G) y) : z1i P G (cCond v a b F G) (.cond v x y) := by
 intro c s outs h ρ D w tm df fr k cs hS hR
 obtain ⟨av, hv, h⟩ := z0a h
 obtain ⟨e1, e2⟩ := z1P (fr := fat fr tm df k) hS.h hS.t v av hv
 unfold condV at h
 split at h
 ·refine Lands.of_steps (.one (z9e (t := true) (by rw [e1]; rfl))) ?_
  exact Lands.of_steps z0D (ha c s outs h ρ D w tm df fr k cs hS hR)
 ·refine Lands.of_steps (.one (z9e (t := false) (by rw [e1]; rfl))) ?_
  exact Lands.of_steps z0D (hb c s outs h ρ D w tm df fr k cs hS hR)
 ·simp at h
theorem j0g {a : CRun} {id : Nat} {x : Code} (ha : z1i P G (a F G) x) : z1i P G (q6t id a F G) (.block id x) := by
 intro c s outs h ρ D w tm df fr k cs hS hR
 obtain ⟨l, hl, hall⟩ := z0w h
 refine Lands.of_steps (.one q1F) ?_
 refine Lands.of_steps z0D ?_
 refine (ha c s l hl ρ D w tm df fr (.inBlock id :: k) cs hS hR).then hall fun p z hp hz ρ' D' w' tm' df' h1 h2 h3 => ?_
 obtain ⟨e, s'⟩ := p
 cases e with
 | normal =>
  simp only [z4x, Option.some.injEq] at hz; subst hz
  exact ⟨_, List.mem_singleton.2 rfl, ρ', D', w', tm', df', h1, h2, Steps.trans h3 (.one q0z)⟩
 | exit j =>
  simp only [z4x] at hz
  obtain ⟨k', hk, hs⟩ := h3
  rcases z0Z hz with ⟨h0, hz'⟩ | ⟨h0, hz'⟩ <;> clear hz <;> have hz := hz' <;> clear hz'
  ·have h0 := z0B h0
   subst h0
   simp only [Option.some.injEq] at hz; subst hz
   refine ⟨_, List.mem_singleton.2 rfl, ρ', D', w', tm', df', h1, h2, Steps.trans hs (.one (j0c ?_))⟩
   rw [hk]; simp [exitTo]
  ·simp only [Option.some.injEq] at hz; subst hz
   refine ⟨_, List.mem_singleton.2 rfl, ρ', D', w', tm', df', h1, h2, k', ?_, hs⟩
   rw [hk]
   have : id ≠ j := fun e => by subst e; simp at h0
   simp [exitTo, this]
 | goto l =>
  simp only [z4x, Option.some.injEq] at hz; subst hz
  exact ⟨_, List.mem_singleton.2 rfl, ρ', D', w', tm', df', h1, h2, Arr.pass (x := .inBlock id) (by simp) (fun _ h => by simp at h) (fun _ _ => rfl) h3⟩
 | ret =>
  simp only [z4x, Option.some.injEq] at hz; subst hz
  exact ⟨_, List.mem_singleton.2 rfl, ρ', D', w', tm', df', h1, h2, h3⟩
theorem j3k (hF : FnsOk P G F) {a : CRun} {x : Code} (ha : z1i P G (a F G) x) : z1i P G (j2W x a F G) (.loop x) := by
 intro c s outs h ρ D w tm df fr k cs hS hR
 obtain ⟨l, hl, hall⟩ := z0w h
 refine Lands.of_steps z0D ?_
 refine (ha c s l hl ρ D w tm df fr (.inLoop x :: k) cs hS hR).then hall fun p z hp hz ρ' D' w' tm' df' h1 h2 h3 => ?_
 rcases z2H hz with ⟨e1, e2⟩ | ⟨e1, e2⟩
 ·rw [e1] at h3
  exact Lands.of_steps (Steps.trans h3 (.one z9f)) (Lands.ext h2 (hF.code (.loop x) c p.2 z e2 ρ' D' w' tm' df' fr k cs h1 (hR.sub h2.sub)))
 ·subst e2
  exact ⟨_, List.mem_singleton.2 rfl, ρ', D', w', tm', df', h1, h2, h3.pass e1 (fun _ _ => rfl) (fun _ _ => rfl)⟩
theorem q0C (hF : FnsOk P G F) {c : Ctx} {body : Code} {ρ : Env} {D : Nat → Prop} {H : Heap} {m : Machine} {b : Frame} {cs : List Frame} {k : List Item} {l outs : List (Ex × St)}
  (hR : RndRel ρ D c.rnd b.roundOf) (h : Lands P G ρ D c.size H m b cs (.inScope body :: k) l) (hall : ∀ p ∈ l, ∃ y, z4V F c body p = some y ∧ ∀ q ∈ y, q ∈ outs) :
  Lands P G ρ D c.size H m b cs k outs := by
 refine h.then hall fun p z hp hz ρ' D' w' tm' df' h1 h2 h3 => ?_
 obtain ⟨e, s'⟩ := p
 cases e with
 | normal =>
  simp only [z4V, Option.some.injEq] at hz; subst hz
  exact ⟨_, List.mem_singleton.2 rfl, ρ', D', w', tm', df', h1, h2, Steps.trans h3 (.one q0A)⟩
 | exit j =>
  simp only [z4V, Option.some.injEq] at hz; subst hz
  exact ⟨_, List.mem_singleton.2 rfl, ρ', D', w', tm', df', h1, h2, Arr.pass (x := .inScope body) (by simp) (fun _ _ => rfl) (fun _ h => by simp at h) h3⟩
 | ret =>
  simp only [z4V, Option.some.injEq] at hz; subst hz
  exact ⟨_, List.mem_singleton.2 rfl, ρ', D', w', tm', df', h1, h2, h3⟩
 | goto j =>
  simp only [z4V] at hz
  obtain ⟨k', hk, hs⟩ := h3
  cases hl : findLabel body j with
  | none =>
   rw [hl] at hz
   simp only [q4w, Option.some.injEq] at hz; subst hz
   refine ⟨_, List.mem_singleton.2 rfl, ρ', D', w', tm', df', h1, h2, k', ?_, hs⟩
   rw [hk]; simp [gotoIn, hl]
  | some rest =>
   rw [hl] at hz
   simp only [q4w] at hz
   have hk' : gotoIn j k' = some (.code rest :: .inScope body :: k) := by rw [hk]; simp [gotoIn, hl]
   exact Lands.of_steps (Steps.trans hs (.one (j7i hk'))) (Lands.ext h2 (hF.scope body rest c s' z hz ρ' D' w' tm' df' b k cs h1 (hR.sub h2.sub)))
theorem j0h (hF : FnsOk P G F) {a : CRun} {x : Code} (ha : z1i P G (a F G) x) : z1i P G (j4P x a F G) (.scope x) := by
 intro c s outs h ρ D w tm df fr k cs hS hR
 obtain ⟨l, hl, hall⟩ := z0w h
 refine Lands.of_steps (Steps.head q6G z0D) ?_
 exact q0C hF hR (ha c s l hl ρ D w tm df fr (.inScope x :: k) cs hS hR) hall
theorem z8j (hF : FnsOk P G F) (hreg : ∀ id ops draw, z1i P G (z2C id ops draw F G) (.region id ops draw))
  (hrange : ∀ f ps a b, z1i P G (z6Z f ps a b F G) (.rangeFunc f ps a b)) : ∀ x : Code, z1i P G (z0p x F G) x := by
 intro x
 induction x with
 | skip =>
  intro c s outs h ρ D w tm df fr k cs hS hR
  have h : some [(Ex.normal, s)] = some outs := h
  simp only [Option.some.injEq] at h; subst h
  exact ⟨_, List.mem_singleton.2 rfl, ρ, D, w, tm, df, hS, .refl _ _ _, .one j7g⟩
 | region id ops draw => exact hreg id ops draw
 | seq x y hx hy => exact j7k hx hy
 | cond v x y hx hy => exact j3j hx hy
 | block id x hx => exact j0g hx
 | loop x hx => exact j3k hF hx
 | rangeFunc f ps a b ha hb => exact hrange f ps a b
 | exit id =>
  intro c s outs h ρ D w tm df fr k cs hS hR
  have h : some [(Ex.exit id, s)] = some outs := h
  simp only [Option.some.injEq] at h; subst h
  exact ⟨_, List.mem_singleton.2 rfl, ρ, D, w, tm, df, hS, .refl _ _ _, k, rfl, .refl _ _⟩
 | scope x hx => exact j0h hF hx
 | label l =>
  intro c s outs h ρ D w tm df fr k cs hS hR
  have h : some [(Ex.normal, s)] = some outs := h
  simp only [Option.some.injEq] at h; subst h
  exact ⟨_, List.mem_singleton.2 rfl, ρ, D, w, tm, df, hS, .refl _ _ _, .one j3i⟩
 | goto l =>
  intro c s outs h ρ D w tm df fr k cs hS hR
  have h : some [(Ex.goto l, s)] = some outs := h
  simp only [Option.some.injEq] at h; subst h
  exact ⟨_, List.mem_singleton.2 rfl, ρ, D, w, tm, df, hS, .refl _ _ _, k, rfl, .refl _ _⟩
 | ret =>
  intro c s outs h ρ D w tm df fr k cs hS hR
  have h : some [(Ex.ret, s)] = some outs := h
  simp only [Option.some.injEq] at h; subst h
  exact ⟨_, List.mem_singleton.2 rfl, ρ, D, w, tm, df, hS, .refl _ _ _, k, .refl _ _⟩
 | refuse why =>
  intro c s outs h ρ D w tm df fr k cs hS hR
  have h : none = some outs := h
  simp at h
theorem q3e (hF : FnsOk P G F) (hB : ∀ x : Code, z1i P G (z0p x F G) x) : ∀ body rest (c : Ctx) (s : St) (outs : List (Ex × St)), z1B (z0p rest F G c s) (z4V F c body) = some outs →
  ∀ (ρ : Env) (D : Nat → Prop) (w : World) (tm : Array Value) (df : List Deferred) (b : Frame) (k : List Item) (cs : List Frame), SRel G ρ D w c.size s tm df → RndRel ρ D c.rnd b.roundOf →
  Lands P G ρ D c.size s.h (lone (fat b tm df (.code rest :: .inScope body :: k)) cs w) b cs k outs := by
 intro body rest c s outs h ρ D w tm df b k cs hS hR
 obtain ⟨l, hl, hall⟩ := z0w h
 exact Lands.of_steps z0D (q0C hF hR (hB rest c s l hl ρ D w tm df b (.inScope body :: k) cs hS hR) hall)
end
end Go.Sx
namespace Go.Sx
section
variable {P : Program} {G : Tab} {F : Fns}
def j3l (fr : Frame) : Prop := ∀ d w r s k, fr.todo ≠ .call d w r s :: k
theorem z3D {f : FuncId} {args : Array Value} {w : World} {fn : Func} {body : Code} (hf : P.funcs[f]? = some fn) (hb : fn.body = some body) (hn : (fn.name == "runtime.NumGoroutine") = false) :
  (callFunc f args).run P w = .ok (.enter f args) w := by
 unfold callFunc
 simp only [Sem.run_bind, run_program, Result.andThen_ok, hf, hn, Bool.false_eq_true, if_false, hb, Option.isNone_some, Sem.run_pure]
def Applies (P : Program) (m : Machine) (fr : Frame) (cs : List Frame) (s : Sem Next) (w : World) : Prop :=
 ∀ fr' cs' w', (stepG.apply P true fr cs none s w).bare = .go { frame := fr', callers := cs', status := .running, dying := none } w' → step P m = .next (lone fr' cs' w')
theorem Applies.of {fr : Frame} {cs : List Frame} {s : Sem Next} {w : World} (h : stepG P true { frame := fr, callers := cs, status := .running, dying := none } w = stepG.apply P true fr cs none s w) :
  Applies P (lone fr cs w) fr cs s w := fun _ _ _ g => step_lone_go (by rw [h]; exact g)
section
variable {fr : Frame} {cs : List Frame} {s : Sem Next} {w w' : World} {m : Machine}
theorem z2g {v : Value} (hst : Applies P m fr cs s w) (hr : s.run P w = .ok (.value v) w') :
  step P m = .next (lone (fr.finish v) cs w') := hst _ _ _ (by simp [stepG.apply, hr])
theorem q7z (hst : Applies P m fr cs s w) (hr : s.run P w = .ok .skip w') :
  step P m = .next (lone (fr.finish undef) cs w') := hst _ _ _ (by simp [stepG.apply, hr])
theorem q4L {d : Deferred} (hst : Applies P m fr cs s w) (hr : s.run P w = .ok (.defer d) w') :
  step P m = .next (lone ({ fr with defers := d :: fr.defers }.finish undef) cs w') := hst _ _ _ (by simp [stepG.apply, hr])
theorem q7A (hp : j3l fr) : (match fr.todo with | .call _ true _ _ :: _ => CallKind.wrapped | _ => .normal) = .normal := by
 split
 ·rename_i h; exact absurd h (hp _ _ _ _ _)
 ·rfl
theorem z9g {f : FuncId} {args : Array Value} (hp : j3l fr) (hst : Applies P m fr cs s w)
  (hr : s.run P w = .ok (.enter f args) w') : step P m = .next (lone (Frame.enter P f args .normal) (fr :: cs) w') :=
 hst _ _ _ (by simp [stepG.apply, hr]; exact congrArg (Frame.enter P f args) (q7A hp))
theorem q4M {l : Nat} {f : FuncId} {tm : Array Value} {x y : Code} (hst : Applies P m fr cs s w)
  (hr : s.run P w = .ok (.round l f tm x y) w') : step P m = .next (lone (Frame.round l f tm x y .normal) (fr :: cs) w') :=
 hst _ _ _ (by simp [stepG.apply, hr])
theorem q3f {fr c : Frame} {v : Value} (hm : fr.mode = .returning) (hd : fr.defers = []) (hk : fr.kind = .normal) {fn : Func} (hf : P.funcs[fr.fn]? = some fn) (hr : (results fn fr.tmps).run P w = .ok v w) :
  step P (lone fr (c :: cs) w) = .next (lone (c.finish v) cs w) := step_leave_returned ⟨hm, hd, hk, fn, hf, hr⟩
end
def CallsTo (P : Program) (G : Tab) (ρ : Env) (D : Nat → Prop) (w : World) (H : Heap) (s : Sem Next) (outs : List VH) : Prop :=
 ∀ (m : Machine) (fr : Frame) (cs : List Frame), j3l fr → Applies P m fr cs s w →
  ∃ p ∈ outs, ∃ ρ' D' w', HRel G ρ' D' w' p.2 ∧ Ext H ρ D p.2 ρ' D' ∧ okV ρ' D' p.1 ∧ Steps P m (lone (fr.finish (conc ρ' p.1)) cs w')
theorem q4N (hF : FnsOk P G F) {f : FuncId} {args : List AV} {H : Heap} {outs : List VH} (h : F.call f args H = some outs) {ρ : Env} {D : Nat → Prop} {w : World} (hH : HRel G ρ D w H) (ha : okL ρ D args)
  {s : Sem Next} (hs : ∀ r, (callFunc f (concL ρ args).toArray).run P w = r → s.run P w = r) : CallsTo P G ρ D w H s outs := by
 intro m fr cs hp hst
 obtain ⟨⟨fn, body, hf, hb, hn⟩, p, hpo, ρ', D', w', fr', r1, r2, r3, r4, r5, r6, r7, r8, fn', r9, r10⟩ := hF.call f args H outs h ρ D w ⟨.normal, rfl⟩ (fr :: cs) hH ha
 refine ⟨p, hpo, ρ', D', w', r1, r2, r3, ?_⟩
 refine Steps.head (z9g hp hst (hs _ (z3D hf hb hn))) (r4.trans (.one ?_))
 exact q3f r6 r7 r8 (by rw [r5]; exact r9) r10
theorem q3g (hF : FnsOk P G F) {args : List AV} {H : Heap} {v : AV} {outs : List VH} (h : q0t F args H v = some outs) {ρ : Env} {D : Nat → Prop} {w : World} (hH : HRel G ρ D w H) (ha : okL ρ D args)
  (hv : okV ρ D v) : CallsTo P G ρ D w H (do let d ← Deferred.ofValue (conc ρ v) (concL ρ args).toArray; invoke d.target d.args) outs := by
 unfold q0t at h
 split at h
 ·rename_i fn first cap
  unfold q9h at h
  split at h
  ·rename_i f
   rw [z1G, z1G] at h
   refine q4N hF h hH (z0P hv.2.1 (z0P ha hv.2.2)) fun r hr => ?_
   rw [← hr]
   simp only [conc, Deferred.ofValue, Sem.run_bind, Sem.run_pure, Result.andThen_ok, invoke]
   congr 2
   simp [z0i, List.map_append]
  ·simp at h
 ·rename_i l
  intro m fr cs hp hst
  obtain ⟨fn, tm, x, y, hy, p, hpo, ρ', D', w', r1, r2, r3, r4⟩ := hF.yld l args H outs h ρ D w fr cs hH ha hv
  refine ⟨p, hpo, ρ', D', w', r1, r2, r3, ?_⟩
  refine Steps.head (q4M hst ?_) r4
  simp only [conc, Deferred.ofValue, Sem.run_bind, Sem.run_pure, Result.andThen_ok, invoke]
  simpa using hy
 ·simp at h
theorem j0i {w : World} {r : Nat} {es : Array MapEntry} {clock : Nat} (t : TypeId) (hb : w.heap[r]? = some (.map es clock)) :
  (Extern.MapsClone.clone #[.iface t (.map (some r))]).run P w = .ok (.iface t (.map (some w.heap.size))) { w with heap := w.heap.push (.map es clock) } := by
 have e : Extern.MapsClone.clone #[.iface t (.map (some r))] = (getObj r >>= fun o => match o with
   | .map entries clock => (newObj (.map entries clock) >>= fun n => pure (.iface t (.map (some n))))
   | _ => stuck "maps.clone: a map expected") := rfl
 rw [e]
 simp [MapKept.run_getObj_map hb, Result.andThen]
theorem j3m (x : Value) (w : World) : (Extern.AbiNoEscape.same #[x]).run P w = .ok x w := rfl
theorem j3n (s : List UInt8) (c : Nat) : ∀ i, j2U s c i = ((List.range s.length).find? fun k => decide ((s[k]?).map (·.toNat) = some c)).map (i + ·) := by
 induction s with
 | nil => intro i; rfl
 | cons b s ih =>
  intro i
  show (bif Nat.beq b.toNat c then some i else j2U s c (i + 1)) = _
  rw [List.length_cons, List.range_succ_eq_map, List.find?_cons]
  by_cases h : b.toNat = c
  ·subst h; simp
  ·have hb : Nat.beq b.toNat c = false := z0E h
   rw [hb, cond_false, ih (i + 1)]
   have : decide (((b :: s)[0]?).map (·.toNat) = some c) = false := by simp [h]
   rw [this, List.find?_map, Option.map_map]
   have e1 : ((fun k => decide (((b :: s)[k]?).map (·.toNat) = some c)) ∘ Nat.succ) = fun k => decide ((s[k]?).map (·.toNat) = some c) := by funext k; simp
   rw [e1]
   congr 1
   funext k
   simp only [Function.comp]
   omega
theorem j9O (s : List UInt8) (i : Nat) (hi : i < s.length) : (⟨s.toArray⟩ : ByteArray)[i]! = s[i] := by
 rw [getElem!_pos (⟨s.toArray⟩ : ByteArray) i (by simpa [ByteArray.size] using hi)]
 simp [ByteArray.getElem_eq_getElem_data]
theorem j9P (a : UInt8) (c : Nat) (hc : c < 256) : (a == c.toUInt8) = decide (a.toNat = c) := by
 by_cases h : a.toNat = c
 ·subst h; simp
 ·rw [decide_eq_false h]
  simp only [beq_eq_false_iff_ne, ne_eq]
  intro e
  apply h
  rw [e]; simp; omega
theorem q0D {α : Type} {p q : α → Bool} : ∀ {l : List α}, (∀ a ∈ l, p a = q a) → l.find? p = l.find? q
 | [], _ => rfl
 | a :: l, h => by
  rw [List.find?_cons, List.find?_cons, h a List.mem_cons_self, q0D fun b hb => h b (List.mem_cons_of_mem _ hb)]
theorem j0j {ρ : Env} {D : Nat → Prop} (o : Option Nat) : okV ρ D (q6p o) := by cases o <;> trivial
theorem q1G (ρ : Env) (s : List UInt8) (c : Nat) (hc : c < 256) (w : World) : (Extern.BytealgIndexByte.indexByte #[.string ⟨s.toArray⟩, .int .u8 (.ofNat c)]).run P w = .ok (conc ρ (q6p (j2U s c 0))) w := by
 have e : Extern.BytealgIndexByte.indexByte #[.string ⟨s.toArray⟩, .int .u8 (.ofNat c)] = (match (List.range s.length).find? fun i => (⟨s.toArray⟩ : ByteArray)[i]! == c.toUInt8 with
   | some i => pure (goInt i)
   | none => pure (goInt (-1)) : Sem Value) := rfl
 have e2 : ((List.range s.length).find? fun i => (⟨s.toArray⟩ : ByteArray)[i]! == c.toUInt8) = (List.range s.length).find? fun k => decide ((s[k]?).map (·.toNat) = some c) := by
  refine q0D fun i hi => ?_
  have hi : i < s.length := List.mem_range.1 hi
  rw [j9O s i hi, List.getElem?_eq_getElem hi, Option.map_some, j9P _ _ hc]
  congr 1
  simp
 rw [e, e2, j3n]
 cases (List.range s.length).find? fun k => decide ((s[k]?).map (·.toNat) = some c) with
 | none => rfl
 | some i => simp [q6p, goInt, conc]
theorem j0k (s : List UInt8) (c : Nat) (hc : c < 256) : q6q s c = Lib.countByte s (Int.ofNat c).toNat.toUInt8 := by
 have e : (Int.ofNat c).toNat = c := rfl
 rw [e]
 induction s with
 | nil => rfl
 | cons b s ih =>
  show (bif Nat.beq b.toNat c then q6q s c + 1 else q6q s c) = _
  rw [ih]
  simp only [Lib.countByte, List.count_cons]
  rw [j9P b c hc]
  by_cases h : b.toNat = c
  ·subst h; simp
  ·rw [z0E h]; simp [h]
theorem j7l (T : TabOk P G) {args : List AV} {H : Heap} {v : AV} {outs : List VH} (h : extV G args H v = some outs) {ρ : Env} {D : Nat → Prop} {w : World} (hH : HRel G ρ D w H) (ha : okL ρ D args) :
  CallsTo P G ρ D w H (do let d ← Deferred.ofValue (conc ρ v) (concL ρ args).toArray; invoke d.target d.args) outs := by
 unfold extV at h
 split at h
 ·rename_i f
  obtain ⟨k, hk, h⟩ := z0a h
  obtain ⟨fn, e1, e2, e3, e4, e5⟩ := T.ext f k hk
  unfold extA at h
  split at h
  ·rename_i t r _
   unfold j4N at h
   split at h
   ·rename_i es c hb
    rw [z1Y] at h
    simp only [Option.some.injEq] at h; subst h
    have hr : D r := ha.1
    obtain ⟨b1, es', b2, b3⟩ := hH.blk r _ hr hb
    have hfresh : ¬ D H.next := fun hd => Nat.lt_irrefl _ (hH.lt _ hd)
    have hsub := ρ.at_sub hfresh w.heap.size 0 0
    obtain ⟨r1, r2⟩ := hH.pushEnd (w' := { w with heap := w.heap.push (.map es' c) }) (.map es c) (.map es' c) 0 rfl
     ⟨fun e he => hsub.okE (b1 e he), es', by simp [Env.at], by rw [b3]; exact (List.map_congr_left fun e he => hsub.concE (b1 e he)).symm⟩
    intro m fr cs hp hst
    refine ⟨_, List.mem_singleton.2 rfl, _, _, _, r1, r2, ?_, .one (z2g hst ?_)⟩
    ·exact .inr rfl
    ·simp only [conc, concL, Deferred.ofValue, Sem.run_bind, Sem.run_pure, Result.andThen_ok, invoke]
     have := run_callFunc_extern e1 e2 e3 e4 e5 #[.iface t (.map (some (ρ.blk r)))] w
     rw [show z4X .clone = Extern.MapsClone.clone from rfl, j0i t b2] at this
     simpa [Result.andThen, Env.at] using this
   ·simp at h
  ·rename_i v0 _
   simp only [Option.some.injEq] at h; subst h
   intro m fr cs hp hst
   refine ⟨_, List.mem_singleton.2 rfl, ρ, D, w, hH, .refl _ _ _, ha.1, .one (z2g hst ?_)⟩
   simp only [conc, concL, Deferred.ofValue, Sem.run_bind, Sem.run_pure, Result.andThen_ok, invoke]
   have := run_callFunc_extern e1 e2 e3 e4 e5 #[conc ρ v0] w
   rw [show z4X .same = Extern.AbiNoEscape.same from rfl, j3m] at this
   simpa [Result.andThen] using this
  ·rename_i s c _
   obtain ⟨kc, h1⟩ := z0c h
   simp only [Option.some.injEq] at h1; subst h1
   intro m fr cs hp hst
   refine ⟨_, List.mem_singleton.2 rfl, ρ, D, w, hH, .refl _ _ _, j0j _, .one (z2g hst ?_)⟩
   simp only [conc, concL, Deferred.ofValue, Sem.run_bind, Sem.run_pure, Result.andThen_ok, invoke]
   have := run_callFunc_extern e1 e2 e3 e4 e5 #[.string ⟨s.toArray⟩, .int .u8 (.ofNat c)] w
   rw [show z4X .indexByte = Extern.BytealgIndexByte.indexByte from rfl, q1G ρ s c (z1r kc) w] at this
   simpa [Result.andThen] using this
  ·rename_i r n _
   obtain ⟨e, he, h1⟩ := z0a h
   obtain ⟨z0, hz0, h2⟩ := z0a h1
   obtain ⟨kz, h3⟩ := z0c h2
   have kz1 : z0 = 1 := Nat.eq_of_beq_eq_true kz
   rw [kz1] at hz0
   unfold q9q at h3
   obtain ⟨k1, h4⟩ := z0c h3
   rw [z1Y] at h4
   simp only [Option.some.injEq] at h4; subst h4
   have k1 := z1h k1
   obtain ⟨d, hd, he2⟩ := z0a he
   have hd' : d = .slice e := by
    unfold z8A at he2
    split at he2
    ·simp only [Option.some.injEq] at he2; rw [he2]
    ·simp at he2
   subst hd'
   obtain ⟨cs0, m1, m2, m3⟩ := Lib.run_makeNoZero (P := P) w #[] r e (T.und hd) n (by omega)
   have hfresh : ¬ D H.next := fun hd => Nat.lt_irrefl _ (hH.lt _ hd)
   have hsub := ρ.at_sub hfresh w.heap.size 0 cs0.size
   have hL : Like w.drew.drew w := ⟨rfl, rfl, rfl, rfl⟩
   obtain ⟨r1, r2⟩ := (hH.same hL).pushEnd (w' := w.drew.drew.alloc (.cells cs0 e (0, 0))) (.cells e false []) (.cells cs0 e (0, 0)) cs0.size rfl
    (by
     refine ⟨trivial, fun v hv => by simp at hv, cs0, (0, 0), by (show (w.heap.push (Obj.cells cs0 e (0, 0)))[(ρ.at H.next w.heap.size 0 cs0.size).blk H.next]? = _); simp [Env.at], .inl rfl, by simp [Env.at], fun i u hu => by simp at hu, fun _ z hz => ⟨by simp, ?_⟩, fun h => by simp at h⟩
     have : z = 1 := Option.some.inj (hz.symm.trans hz0)
     subst this
     simp [Env.at])
   intro m fr cs hp hst
   refine ⟨_, List.mem_singleton.2 rfl, _, _, _, r1, r2, ⟨.inr rfl, fun _ => by simpa [Env.at] using m2⟩, .one (z2g hst ?_)⟩
   simp only [conc, concL, Deferred.ofValue, Sem.run_bind, Sem.run_pure, Result.andThen_ok, invoke]
   have := run_callFunc_extern e1 e2 e3 e4 e5 #[.int .i64 (.ofNat n)] w
   rw [show z4X (.noZero r) = Extern.BytealgMakeNoZero.makeNoZero #[] #[r] from rfl] at this
   rw [show (Value.int IntKind.i64 (Int.ofNat n)) = Value.int .i64 (n : Int) from rfl, m1] at this
   simpa [Result.andThen, Env.at] using this
  ·rename_i s c _
   obtain ⟨kc, h1⟩ := z0c h
   simp only [Option.some.injEq] at h1; subst h1
   intro m fr cs hp hst
   refine ⟨_, List.mem_singleton.2 rfl, ρ, D, w, hH, .refl _ _ _, trivial, .one (z2g hst ?_)⟩
   simp only [conc, concL, Deferred.ofValue, Sem.run_bind, Sem.run_pure, Result.andThen_ok, invoke]
   have := run_callFunc_extern e1 e2 e3 e4 e5 #[.string ⟨s.toArray⟩, .int .u8 (.ofNat c)] w
   rw [show z4X .countByte = Extern.BytealgCount.count from rfl, Lib.run_countString] at this
   rw [j0k s c (z1r kc)]
   simpa [Result.andThen] using this
  ·simp at h
 ·simp at h
theorem q6H (name : String) : ∀ l : List Method, j2T name l = l.find? (·.name == name) := by
 intro l
 induction l with
 | nil => rfl
 | cons m l ih =>
  show (if m.name = name then some m else j2T name l) = _
  rw [List.find?_cons, ih]
  by_cases h : m.name = name
  ·simp [h]
  ·have h' : (m.name == name) = false := by simpa using h
   rw [if_neg h, h']
theorem q7B (T : TabOk P G) {t : TypeId} {name : String} {f : FuncId} (h : q9j G t name = some f) (v : Value) (n : Nat) (w : World) :
  (method (n + 1) t v name).run P w = .ok (f, v) w := by
 obtain ⟨i, hi, h⟩ := z0a h
 obtain ⟨m, hm, h⟩ := z0a h
 obtain ⟨d, hd, h⟩ := z0a h
 rw [q6H] at hm
 have hm' : i.methods.find? (·.name == name) = some m := by rw [← Array.find?_toList]; exact hm
 unfold q9i at h
 split at h
 ·rename_i f' q hp hq
  obtain ⟨hb, h⟩ := z0c h
  simp only [Option.some.injEq] at h; subst h
  unfold method
  simp only [Sem.run_bind, run_typeInfo w (T.types t i hi), Result.andThen_ok, hm', hp, follow, Sem.run_pure, hq, receiverAt, T.underlying hd]
  rw [z6c] at hb
  simp only [j4K] at hb
  cases q with
  | true =>
   cases d <;> simp_all [Place.get]
  | false =>
   cases d <;> simp_all [Place.get]
 ·simp at h
theorem q0E (T : TabOk P G) {ρ : Env} {D : Nat → Prop} {t : TypeId} {name : String} {v : AV} {p : FuncId × AV} (h : q9m G t name v = some p) (hv : okV ρ D v) (n : Nat) (w : World) :
  (method (n + 1) t (conc ρ v) name).run P w = .ok (p.1, conc ρ p.2) w ∧ okV ρ D p.2 := by
 obtain ⟨i, hi, h⟩ := z0a h
 obtain ⟨m, hm, h⟩ := z0a h
 rw [q6H] at hm
 have hm' : i.methods.find? (·.name == name) = some m := by rw [← Array.find?_toList]; exact hm
 unfold embF at h
 split at h
 ·rename_i st f' cs hp hq _ _
  obtain ⟨hdr, h⟩ := z1J h
  obtain ⟨fd, hfd, h⟩ := z0a h
  obtain ⟨r, hr, h⟩ := z0a h
  obtain ⟨d, hd, h⟩ := z0a h
  obtain ⟨fs, hu, _, hf⟩ := z5b T hfd
  obtain ⟨h1, h2⟩ := z3B (w := w) T hr hv
  unfold embD at h
  split at h
  ·rename_i e
   simp only [Option.some.injEq] at h; subst h
   have hud := T.underlying hd
   refine ⟨?_, h2⟩
   unfold method
   simp only [Sem.run_bind, run_typeInfo w (T.types t i hi), Result.andThen_ok, hm', hp, follow, run_underlying hu, hf, hdr, conc, Bool.false_eq_true, if_false, h1, Sem.run_pure, hq, receiverAt, hud, Place.get]
  ·simp at h
 ·simp at h
theorem q7C (T : TabOk P G) (hF : FnsOk P G F) {name : String} {args : List AV} {H : Heap} {r : AV} {outs : List VH} (h : q1k F G name args H r = some outs) {ρ : Env} {D : Nat → Prop} {w : World}
  (hH : HRel G ρ D w H) (ha : okL ρ D args) (hv : okV ρ D r) :
  CallsTo P G ρ D w H (invoke (.fn (.method name) #[]) (#[conc ρ r] ++ (concL ρ args).toArray)) outs := by
 unfold q1k at h
 split at h
 ·rename_i t v
  have e1 : (#[conc ρ (.iface t v)] ++ (concL ρ args).toArray)[0]? = some (conc ρ (.iface t v)) := by simp
  rcases q1E h with h | h
  ·obtain ⟨f, hf, h⟩ := z0a h
   refine q4N hF h hH ⟨hv, ha⟩ fun rr hr => ?_
   rw [← hr]
   simp only [invoke, e1]
   simp only [callMethod, conc, Sem.run_bind, run_program, Result.andThen_ok]
   rw [show P.types.size + Made.depth = (P.types.size + (Made.depth - 1)) + 1 from by simp [Made.depth]]
   rw [q7B T hf]
   simp only [Result.andThen_ok]
   congr 2
   simp [concL]
  ·obtain ⟨p, hp, h⟩ := z0a h
   have hv' : okV ρ D v := hv
   have hok := (q0E T hp hv' 0 w).2
   refine q4N hF h hH ⟨hok, ha⟩ fun rr hr => ?_
   rw [← hr]
   simp only [invoke, e1]
   simp only [callMethod, conc, Sem.run_bind, run_program, Result.andThen_ok]
   rw [show P.types.size + Made.depth = (P.types.size + (Made.depth - 1)) + 1 from by simp [Made.depth]]
   rw [(q0E T hp hv' _ _).1]
   simp only [Result.andThen_ok]
   congr 2
   simp [concL]
 ·simp at h
end
end Go.Sx
namespace Go.Sx
section
variable {P : Program} {G : Tab} {F : Fns}
def putT (dst : Option Tmp) (tm : Array Value) (v : Value) : Array Value :=
 match dst with
 | some d => tm.setIfInBounds d v
 | none => tm
theorem z2I {b : Frame} {tm : Array Value} {df : List Deferred} {ops : Array Oper} {i : Nat} {rest : List Nat} {k : List Item} {o : Oper} {v : Value} (ho : ops[i]? = some o) :
  (fat b tm df (.inRegion ops (i :: rest) :: k)).finish v = fat b (putT o.dst tm v) df (.inRegion ops rest :: k) := by
 cases h : o.dst <;> simp [Frame.finish, fat, putT, h, ho]
theorem q3h {b : Frame} {tm : Array Value} {df : List Deferred} {ops : Array Oper} {l : List Nat} {k : List Item} : j3l (fat b tm df (.inRegion ops l :: k)) := by
 intro d w r s k' h
 simp [fat] at h
theorem q3i {b : Frame} {tm : Array Value} {df : List Deferred} {ops : Array Oper} {i : Nat} {rest : List Nat} {k : List Item} {o : Oper} {cs : List Frame} {w : World} (ho : ops[i]? = some o)
  (hw : Region.wanted o (yielded ops tm) = true) (hd : b.roundOf = none ∨ ∀ c, o.op ≠ .defer c) :
  stepG P true { frame := fat b tm df (.inRegion ops (i :: rest) :: k), callers := cs, status := .running, dying := none } w =
   stepG.apply P true (fat b tm df (.inRegion ops (i :: rest) :: k)) cs none (execOp (fat b tm df []).eval o) w := by
 have he := q6F b tm df (.inRegion ops (i :: rest) :: k) []
 rw [← he]
 simp only [fat] at *
 rcases hd with hd | hd
 ·simp [stepG, stepG.exec, stepG.oper, Frame.oper?, ho, hw, hd]
 ·simp only [stepG, stepG.exec, stepG.oper, Frame.oper?, ho, Option.map_some, hw, Option.getD_some, if_true]
  split
  ·rename_i c _ hc; exact absurd hc (hd _)
  ·rfl
theorem z5v {b : Frame} {tm : Array Value} {df : List Deferred} {ops : Array Oper} {i : Nat} {rest : List Nat} {k : List Item} {o : Oper} {cs : List Frame} {w : World} (ho : ops[i]? = some o)
  (hw : Region.wanted o (yielded ops tm) = false) :
  step P (lone (fat b tm df (.inRegion ops (i :: rest) :: k)) cs w) = .next (lone (fat b (putT o.dst tm undef) df (.inRegion ops rest :: k)) cs w) := by
 rw [← z2I ho]
 exact step_lone_go (by simp [stepG, stepG.exec, fat, ho, hw])
theorem z9h {b : Frame} {tm : Array Value} {df : List Deferred} {ops : Array Oper} {id : Nat} {k : List Item} {cs : List Frame} {w : World} :
  step P (lone (fat b tm df (.code (.region id ops false) :: k)) cs w) = .next (lone (fat b tm df (.inRegion ops (List.range ops.size) :: k)) cs w) :=
 step_lone_go (by simp [stepG, stepG.exec, fat])
theorem z5R {b : Frame} {tm : Array Value} {df : List Deferred} {ops : Array Oper} {id : Nat} {k : List Item} {cs : List Frame} {w : World} :
  step P (lone (fat b tm df (.code (.region id ops true) :: k)) cs w) =
   .next (lone (fat b tm df (.inRegion ops (Region.schedule (P.follows .mixedOrders) ops (w.tape w.drawn (.order b.fn id))) :: k)) cs { w with drawn := w.drawn + 1 }) :=
 step_lone_go (by simp [stepG, stepG.exec, fat, choose, Sem.run, Question.forced, Question.cut])
theorem z6x {b : Frame} {tm : Array Value} {df : List Deferred} {ops : Array Oper} {k : List Item} {cs : List Frame} {w : World} :
  step P (lone (fat b tm df (.inRegion ops [] :: k)) cs w) = .next (lone (fat b tm df k) cs w) := step_lone_go (by simp [stepG, stepG.exec, fat])
theorem j0l {ρ : Env} {D : Nat → Prop} {n : Nat} {tm : T AV} {tmps : Array Value} (hT : TmRel ρ D n tm tmps) (d : Nat) (want : Bool) :
  ((match tmps[d]? with | some (.bool b) => some b | _ => none) == some want) = z5O want (tm.get d) := by
 have h := (hT.at_ d).1
 rw [Array.getD_eq_getD_getElem?] at h
 unfold slot at h
 cases hx : tmps[d]? with
 | none =>
  rw [hx] at h
  cases hg : tm.get d with
  | none => rfl
  | some v =>
   rw [hg] at h
   cases v <;> first | rfl | simp [conc, undef] at h
 | some x =>
  rw [hx] at h
  simp only [Option.getD_some] at h
  subst h
  cases hg : tm.get d with
  | none => simp [z0A, conc, z5O]
  | some v =>
   cases v <;> simp [conc, z5O, z6c]
theorem z3t {ρ : Env} {D : Nat → Prop} {n : Nat} {tm : T AV} {tmps : Array Value} (hT : TmRel ρ D n tm tmps) (ops : Array Oper) (o : Oper) :
  Region.wanted o (yielded ops tmps) = z0s ops.toList o.guard tm := by
 unfold Region.wanted z0s
 cases o.guard with
 | none => rfl
 | some p =>
  obtain ⟨j, want⟩ := p
  simp only [guardA, q4q, z2A, Array.getElem?_toList]
  unfold yielded
  cases hj : ops[j]? with
  | none => rfl
  | some g =>
   simp only [z0b, Option.bind_some]
   cases hd : g.dst with
   | none => rfl
   | some d => exact j0l hT d want
theorem z6y {β : Type} {c : Ctx} {tm : T AV} {dst : Option Tmp} {v : AV} {k : T AV → Option β} {r : β} (h : z0J c tm dst v k = some r) {ρ : Env} {D : Nat → Prop} {tmps : Array Value}
  (hT : TmRel ρ D c.size tm tmps) (hv : okV ρ D v) : ∃ tm', k tm' = some r ∧ TmRel ρ D c.size tm' (putT dst tmps (conc ρ v)) := by
 cases dst with
 | none => exact ⟨tm, h, hT⟩
 | some d =>
  obtain ⟨h1, h⟩ := z0c h
  rw [z2b, T.setK_eq] at h
  exact ⟨_, h, hT.put (z1r h1) hv⟩
def OpTo (P : Program) (G : Tab) (ρ : Env) (D : Nat → Prop) (w : World) (H : Heap) (b : Frame) (tm : Array Value) (df : List Deferred) (ops : Array Oper) (i : Nat) (rest : List Nat) (k : List Item) (cs : List Frame)
  (dst : Option Tmp) (outs : List EOut) : Prop :=
 ∃ p ∈ outs, ∃ ρ' D' w' df', HRel G ρ' D' w' p.2.2 ∧ Ext H ρ D p.2.2 ρ' D' ∧ okV ρ' D' p.1 ∧ DfRel ρ' D' p.2.1 df' ∧
  Steps P (lone (fat b tm df (.inRegion ops (i :: rest) :: k)) cs w) (lone (fat b (putT dst tm (conc ρ' p.1)) df' (.inRegion ops rest :: k)) cs w')
theorem Gives.opTo {ρ : Env} {D : Nat → Prop} {w : World} {H H' : Heap} {b : Frame} {tm : Array Value} {df : List Deferred} {ops : Array Oper} {i : Nat} {rest : List Nat} {k : List Item} {cs : List Frame}
  {o : Oper} (ho : ops[i]? = some o) (hw : Region.wanted o (yielded ops tm) = true) (hd : b.roundOf = none ∨ ∀ c, o.op ≠ .defer c) {v : AV}
  (h : Gives P G ρ D w H (execOp (fat b tm df []).eval o) v H') {adf : List ADefer} (hdf : DfRel ρ D adf df) : OpTo P G ρ D w H b tm df ops i rest k cs o.dst [(v, adf, H')] := by
 obtain ⟨ρ', D', w', r1, r2, r3, r4⟩ := h
 refine ⟨_, List.mem_singleton.2 rfl, ρ', D', w', df, r2, r3, r4, hdf.sub r3.sub, ?_⟩
 rcases r1 with r1 | ⟨r0, r1⟩
 ·rw [← z2I ho]
  exact .one (z2g (.of (q3i ho hw hd)) r1)
 ·simp only
  rw [← z2I ho, r0]
  exact .one (q7z (.of (q3i ho hw hd)) r1)
theorem CallsTo.opTo {ρ : Env} {D : Nat → Prop} {w : World} {H : Heap} {b : Frame} {tm : Array Value} {df : List Deferred} {ops : Array Oper} {i : Nat} {rest : List Nat} {k : List Item} {cs : List Frame}
  {o : Oper} (ho : ops[i]? = some o) (hw : Region.wanted o (yielded ops tm) = true) (hd : b.roundOf = none ∨ ∀ c, o.op ≠ .defer c) {l : List VH}
  (h : CallsTo P G ρ D w H (execOp (fat b tm df []).eval o) l) {adf : List ADefer} (hdf : DfRel ρ D adf df) {eo : List EOut} (he : outs adf (some l) = some eo) :
  OpTo P G ρ D w H b tm df ops i rest k cs o.dst eo := by
 obtain ⟨p, hp, ρ', D', w', r1, r2, r3, r4⟩ := h _ _ cs q3h (.of (q3i ho hw hd))
 have hm : (p.1, adf, p.2) ∈ eo := by
  unfold outs at he
  split at he
  ·simp at *
  ·rename_i q hq
   simp only [Option.some.injEq] at hq; subst hq
   simp only [Option.some.injEq] at he; subst he
   simp only [List.mem_singleton] at hp; subst hp
   exact List.mem_singleton.2 rfl
  ·rename_i l' _ hq
   simp only [Option.some.injEq] at hq; subst hq
   simp only [Option.some.injEq] at he; subst he
   exact List.mem_map.2 ⟨p, hp, rfl⟩
 refine ⟨_, hm, ρ', D', w', df, r1, r2, r3, hdf.sub r2.sub, ?_⟩
 simp only
 rw [← z2I ho]
 exact r4
theorem z4f {df : List ADefer} {o : Option Heap} {eo : List EOut} (h : out1 df o = some eo) : ∃ H', o = some H' ∧ eo = [(z0A, df, H')] := by
 cases o with
 | none => simp [out1] at h
 | some H' => simp only [out1, Option.some.injEq] at h; exact ⟨H', rfl, h.symm⟩
theorem z4g {df : List ADefer} {o : Option VH} {eo : List EOut} (h : out2 df o = some eo) : ∃ v H', o = some (v, H') ∧ eo = [(v, df, H')] := by
 cases o with
 | none => simp [out2] at h
 | some p => simp only [out2, Option.some.injEq] at h; exact ⟨p.1, p.2, rfl, h.symm⟩
theorem z6z {df : List ADefer} {o : Option (List VH)} {eo : List EOut} (h : outs df o = some eo) : ∃ l, o = some l := by
 cases o with
 | none => simp [outs] at h
 | some l => exact ⟨l, rfl⟩
end
end Go.Sx
namespace Go.Sx
section
variable {P : Program} {G : Tab} {ρ : Env} {D : Nat → Prop} {w : World} {H : Heap}
theorem HRel.freezeKill (hH : HRel G ρ D w H) {b o n : Nat} {e : TypeId} {ex : Bool} {l : List AV} (hb : D b) (ho : H.blks.get b = some (.cells e ex l)) : HRel G ρ D (w.freeze ⟨ρ.blk b, o, none⟩ n) (z9T H b) := by
 have hst : ¬ z0W (some (.cells e ex l)) := by simp [z0W]
 have hw : ∀ j, j ≠ ρ.blk b → (w.freeze ⟨ρ.blk b, o, none⟩ n).heap[j]? = w.heap[j]? := fun j hj => by
  unfold World.freeze
  split
  ·rfl
  ·simp [Array.getElem?_modify, Ne.symm hj]
 have hK := hH.kill b
 refine ⟨hK.lt, hK.glob, hK.inj, fun x q hx hq => ?_, fun i q hi => ?_, hH.kin.trans ⟨?_, ?_, ?_, ?_⟩⟩
 ·have hq' := hq
  unfold z9T at hq'
  rw [Heap.get_put] at hq'
  split at hq'
  ·simp at hq'
  ·rename_i hxb
   exact (hK.blk x q hx hq).sub (.refl _ _) hx (hw _ fun he => hxb ((hH.inj _ _ _ _ hx hb hq' ho he).resolve_right fun e => hst e.2))
 ·obtain ⟨h1, h2⟩ := hK.rest i q hi
  have hne : ρ.blk b ≠ i := fun hxi => by
   have := (hH.rest i q hi).2 b hb hxi
   rw [ho] at this
   exact hst this
  exact ⟨by rw [hw i fun e => hne e.symm]; exact h1, h2⟩
 all_goals (unfold World.freeze; split <;> simp)
theorem q7D {e : TypeId} (hc : P.cellsOf e = 1) (count off n : Nat) (hn : off + n ≤ count) : liesAt P P.depth e count off e n = true := by
 have hd : P.depth = (2 * (P.types.size + Made.depth) + 1) + 1 := rfl
 rw [hd]
 simp only [liesAt, Bool.or_eq_true]
 left
 rw [hd]
 simp [rowAt, hc, hn, sameLayout, Nat.mod_one]
theorem q3j : ∀ (s : List UInt8) (j : Nat) (x : UInt8), s[j]? = some x → (z0x s)[j]? = some (z8r x)
 | [], j, x, h => by simp at h
 | b :: s, 0, x, h => by simp at h; subst h; rfl
 | b :: s, j + 1, x, h => by
  show (z0x s)[j]? = _
  exact q3j s j x (by simpa using h)
theorem q0F : ∀ (l m : List AV), z1X AV.beq l m = true → l = m
 | [], [], _ => rfl
 | [], _ :: _, h => by simp [z1X, z5I] at h
 | a :: l, [], h => by simp [z1X] at h
 | a :: l, b :: m, h => by
  have h : (bif AV.beq a b then z1X AV.beq l m else false) = true := h
  cases hb : AV.beq a b
  ·rw [hb] at h; simp at h
  ·rw [hb] at h
   rw [AV.beq_eq a b hb, q0F l m h]
theorem z6d (ts : Array TypeId) (ty pt e : TypeId) (hts : ts[0]? = some pt) (hp : P.underlying pt = some (.pointer e)) (hc : P.cellsOf e = 1) (g o cells : Nat) (hsh : w.shape? g = some (e, cells)) (l : List UInt8) (h0 : l ≠ []) (hn : o + l.length ≤ cells) (h63 : l.length ≤ 9223372036854775807)
  (hcell : ∀ j x, l[j]? = some x → w.cell? ((⟨g, o, none⟩ : Addr).add j) = some (.int .u8 x.toNat)) :
  (Builtin.unsafeString_ ts ty #[.pointer (some ⟨g, o, none⟩), .int .i64 l.length]).run P w = .ok (.string ⟨l.toArray⟩) (w.freeze ⟨g, o, none⟩ l.length) := by
 have hl : l.length ≠ 0 := by simpa using h0
 have hlb := Lib.run_loadBytes (P := P) w l ⟨g, o, none⟩ .empty hcell
 have hlies := q7D (P := P) hc (cells / P.cellsOf e) o l.length (by rw [hc]; simpa using hn)
 have h63' : ¬ (9223372036854775807 : Int) < (l.length : Int) := by omega
 have hmax : IntKind.i64.max = 9223372036854775807 := rfl
 have hneg : ¬ (l.length : Int) < 0 := by omega
 have hdef : Builtin.unsafeString_ ts ty #[.pointer (some ⟨g, o, none⟩), .int .i64 l.length] =
   (do
    let n ← asInt (.int .i64 l.length)
    let some pt := ts[0]? | stuck "unsafe.String: no argument types"
    if n < 0 then runtimePanic (.error "unsafe.String: len out of range")
    if n > IntKind.i64.max then unsupported (.unsafePointer "String: a length above the largest int")
    if n = 0 then pure (.string .empty)
    else if ← variablesAt ⟨g, o, none⟩ (← Go.elemOf pt) n.toNat then do
     let s ← loadBytes ⟨g, o, none⟩ .empty n.toNat
     freeze ⟨g, o, none⟩ n.toNat
     pure (.string s)
    else unsupported (.unsafePointer "String: not so many bytes at ptr")) := rfl
 rw [hdef, hts]
 simp [asInt, asIntOf, hmax, h63', hneg, hl, variablesAt, hsh, Go.elemOf, run_underlying hp, hlies, hlb]
theorem z5L (ts : Array TypeId) (ty pt : TypeId) (hts : ts[0]? = some pt) : (Builtin.unsafeString_ ts ty #[.pointer none, .int .i64 0]).run P w = .ok (.string .empty) w := by
 have hmax : ¬ IntKind.i64.max < 0 := by decide
 have hdef : Builtin.unsafeString_ ts ty #[.pointer none, .int .i64 0] =
   (do
    let n ← asInt (.int .i64 0)
    let some pt := ts[0]? | stuck "unsafe.String: no argument types"
    if n < 0 then runtimePanic (.error "unsafe.String: len out of range")
    if n > IntKind.i64.max then unsupported (.unsafePointer "String: a length above the largest int")
    if n = 0 then pure (.string .empty)
    else runtimePanic (.error "unsafe.String: ptr is nil and len is not zero")) := rfl
 rw [hdef, hts]
 simp [asInt, asIntOf, hmax]
theorem q1H (T : TabOk P G) (hH : HRel G ρ D w H) {ts : Array TypeId} {u : TypeId} {xs : List AV} {v : AV} {H' : Heap} (h : z6X G H ts.toList xs = some (v, H')) (hx : okL ρ D xs) :
  Makes P G ρ D w H (Builtin.unsafeString_ ts u (concL ρ xs).toArray) v H' := by
 unfold z6X at h
 split at h
 ·rename_i t ts' p n hts
  have hts0 : ts[0]? = some t := by rw [← Array.getElem?_toList, hts]; rfl
  unfold q2L at h
  split at h
  ·simp only [Option.some.injEq, Prod.mk.injEq] at h
   obtain ⟨rfl, rfl⟩ := h
   exact ⟨ρ, D, w, z5L ts u t hts0, hH, .refl _ _ _, trivial⟩
  ·rename_i b off k
   unfold q6o at h
   split at h
   ·rename_i e l hg
    obtain ⟨q, hq, h1⟩ := z0a h
    obtain ⟨k1, h2⟩ := z0c h1
    obtain ⟨z, hz, h3⟩ := z0a h2
    obtain ⟨k2, h4⟩ := z0c h3
    obtain ⟨k3, h5⟩ := z0c h4
    obtain ⟨cs, hcs, h6⟩ := z0a h5
    obtain ⟨s, hs, h7⟩ := z0a h6
    obtain ⟨k4, h8⟩ := z0c h7
    simp only [Option.some.injEq, Prod.mk.injEq] at h8
    obtain ⟨rfl, rfl⟩ := h8
    have k1 : q = e := Nat.eq_of_beq_eq_true k1
    have k2 : z = 1 := Nat.eq_of_beq_eq_true k2
    have k3 := z1h k3
    have k4 := q0F _ _ k4
    obtain ⟨d, hd, hq⟩ := z0a hq
    have hd' : d = .pointer e := by
     unfold q9p at hq
     split at hq
     ·simp only [Option.some.injEq] at hq; rw [hq, k1]
     ·simp at hq
    rw [hd'] at hd
    rw [z2t, z1O] at hcs
    split at hcs
    ·rename_i hle
     simp only [Option.some.injEq] at hcs
     have hlen : s.length = k + 1 := by
      have := congrArg List.length (k4.trans hcs.symm)
      rw [z3C, List.length_take] at this
      omega
     have hb : D b := hx.1
     obtain ⟨b1, b2, arr, fz, b3, b4, b5, b6, b7⟩ := hH.blk b _ hb hg
     obtain ⟨i, _, hi, hsz⟩ := T.info hz
     have hc : P.cellsOf e = 1 := by simp [Program.cellsOf, hi, hsz, k2]
     have hld : (l.drop off).length = l.length - off := List.length_drop
     have hrun := z6d (P := P) (w := w) ts u t e hts0 (T.und hd) hc (ρ.blk b) (ρ.base b + off) arr.size (by simp [World.shape?, b3]) s (by intro h0; rw [h0] at hlen; simp at hlen) (by omega) (by omega) (fun j x hj => by
      have hj1 : cs[j]? = some (z8r x) := by
       rw [← k4]
       exact q3j s j x hj
      rw [← hcs] at hj1
      have hjl : j < k + 1 := by have := (List.getElem?_eq_some_iff.1 hj).1; omega
      rw [List.getElem?_take_of_lt hjl, List.getElem?_drop] at hj1
      have := b6 _ _ hj1
      have e0 : ((⟨ρ.blk b, ρ.base b + off, none⟩ : Addr).add j) = ⟨ρ.blk b, ρ.base b + (off + j), none⟩ := by
       unfold Addr.add
       split
       ·rename_i h0; rw [h0]; rfl
       ·rw [Nat.add_assoc]
      rw [e0]
      simp only [World.cell?, b3]
      simpa [conc, z8r] using this)
     refine ⟨ρ, D, w.freeze ⟨ρ.blk b, ρ.base b + off, none⟩ s.length, ?_, hH.freezeKill hb hg, .same _ _ (Heap.next_put _ _ _), trivial⟩
     have e1 : (concL ρ [AV.ptr b off, .int .i64 (.ofNat (k + 1))]).toArray = #[.pointer (some ⟨ρ.blk b, ρ.base b + off, none⟩), .int .i64 s.length] := by
      rw [hlen]; rfl
     rw [e1]
     exact hrun
    ·simp at hcs
   ·simp at h
  ·simp at h
 ·simp at h
end
end Go.Sx
namespace Go.Sx
section
variable {P : Program} {G : Tab} {F : Fns}
section
variable {ρ : Env} {D : Nat → Prop} {w : World} {H : Heap} {b : Frame} {tm : Array Value} {df : List Deferred} {ops : Array Oper} {i : Nat} {rest : List Nat} {k : List Item} {cs : List Frame}
theorem OpTo.mono {dst : Option Tmp} {l l' : List EOut} (h : OpTo P G ρ D w H b tm df ops i rest k cs dst l) (hs : ∀ p ∈ l, p ∈ l') : OpTo P G ρ D w H b tm df ops i rest k cs dst l' := by
 obtain ⟨p, hp, r⟩ := h
 exact ⟨p, hs p hp, r⟩
theorem z6A {s : Sem Value} {H' : Heap} {w' : World} (h1 : s.run P w = .ok undef w') (h2 : HRel G ρ D w' H') (h3 : H'.next = H.next) :
  Gives P G ρ D w H (do pure (.value (← s))) z0A H' :=
 ⟨ρ, D, w', .inl (by simp only [Sem.run_bind, h1, Result.andThen_ok, Sem.run_pure]; rfl), h2, .same _ _ h3, trivial⟩
theorem j0m (T : TabOk P G) (hH : HRel G ρ D w H) {x : AV} {H' : Heap} {ts : Array TypeId} {t u : TypeId} {d : TypeDesc} (h : q9o G H d x = some H') (hx : okV ρ D x) (ht : ts[0]? = some t) (hd : G.und t = some d) :
  ∃ w', (Builtin.clear_ ts u #[conc ρ x]).run P w = .ok undef w' ∧ HRel G ρ D w' H' ∧ H'.next = H.next := by
 unfold q9o at h
 split at h
 ·rename_i e b off n q c
  have hu := T.und hd
  obtain ⟨h0, h1⟩ := z1J h
  obtain ⟨z, hz, h2⟩ := z0a h1
  obtain ⟨it, zv, hit, hiz, hzc, hzv, hok⟩ := z3i T hz ρ D
  obtain ⟨w', r1, r2, r3⟩ := z3P (P := P) (w := w) hH hx.1 (z3h (z1w hok) n) h2
  refine ⟨w', ?_, r2, r3⟩
  obtain ⟨m, rfl⟩ : ∃ m, n = m + 1 := ⟨n - 1, by
   have : n ≠ 0 := by intro e0; rw [e0] at h0; simp at h0
   omega⟩
  have hzz := T.zeroValue hz ρ w
  have hcc : Builtin.zeroCells (conc ρ z).cells (m + 1) = (concL ρ (z0T z.cells (m + 1))).toArray := by rw [z1o, z7L]
  simp only [Builtin.clear_, ht, List.getElem?_toArray, List.getElem?_cons_zero, Sem.run_bind, run_underlying hu, Result.andThen_ok, conc, hzz, hcc, Sem.run_pure]
  simp only [adr] at r1
  rw [r1]
  rfl
 ·exact q9T T hH h hx ht hd
theorem q4O (T : TabOk P G) (hH : HRel G ρ D w H) {bi : Builtin} {ts : Array TypeId} {u : TypeId} {bs : Array Bool} {xs : List AV} {adf : List ADefer} {eo : List EOut}
  (h : z8d bi G ts.toList xs adf H = some eo) (hx : okL ρ D xs) : ∃ v H', eo = [(v, adf, H')] ∧ Gives P G ρ D w H (builtin bi ts u bs (concL ρ xs).toArray) v H' := by
 unfold z8d at h
 split at h
 ·obtain ⟨v, H', g, e0⟩ := z4g h
  exact ⟨v, H', e0, (q1H (P := P) (w := w) T hH g hx).gives⟩
 ·obtain ⟨v, H', g, e0⟩ := z4g h
  exact ⟨v, H', e0, (q7s (P := P) (w := w) T hH g hx).gives⟩
 ·obtain ⟨v, H', g, e0⟩ := z4g h
  exact ⟨v, H', e0, (j3h (P := P) (w := w) T hH g hx).gives⟩
 ·obtain ⟨H', g, e0⟩ := z4f h
  refine ⟨z0A, H', e0, ?_⟩
  clear h e0
  unfold q9n at g
  split at g
  ·rename_i t ts' m key hts
   obtain ⟨w', r1, r2, r3⟩ := q7p (P := P) (w := w) (u := u) (ts := ts) T hH g hx.1 hx.2.1 (by rw [← Array.getElem?_toList, hts]; rfl)
   exact z6A r1 r2 r3
  ·simp at g
 ·obtain ⟨H', g, e0⟩ := z4f h
  refine ⟨z0A, H', e0, ?_⟩
  clear h e0
  unfold j4M at g
  split at g
  ·rename_i t ts' m hts
   obtain ⟨d, hd, g⟩ := z0a g
   obtain ⟨w', r1, r2, r3⟩ := j0m (P := P) (w := w) (u := u) (ts := ts) T hH g hx.1 (by rw [← Array.getElem?_toList, hts]; rfl) hd
   exact z6A r1 r2 r3
  ·simp at g
 ·simp at h
theorem j0n (TT : TabOk P G) (hF : FnsOk P G F) {o : Oper} {c : Ctx} {s : St} {eo : List EOut} (h : opE o.op F G c s.tm s.df s.h = some eo) (hS : SRel G ρ D w c.size s tm df)
  (hR : RndRel ρ D c.rnd b.roundOf) (ho : ops[i]? = some o) (hw : Region.wanted o (yielded ops tm) = true) : OpTo P G ρ D w s.h b tm df ops i rest k cs o.dst eo := by
 have he : EvOk G ρ D s.tm (fat b tm df []).eval := z1P (fr := fat b tm df []) hS.h hS.t
 generalize hev : (fat b tm df []).eval = ev at he
 have fin : ∀ {v H'}, (b.roundOf = none ∨ ∀ c, o.op ≠ .defer c) → eo = [(v, s.df, H')] → Gives P G ρ D w s.h (execOp ev o) v H' → OpTo P G ρ D w s.h b tm df ops i rest k cs o.dst eo := by
  intro v H' hd he hg
  subst he
  rw [← hev] at hg
  exact hg.opTo ho hw hd hS.d
 have fin2 : ∀ {l : List VH}, (b.roundOf = none ∨ ∀ c, o.op ≠ .defer c) → outs s.df (some l) = some eo → CallsTo P G ρ D w s.h (execOp ev o) l → OpTo P G ρ D w s.h b tm df ops i rest k cs o.dst eo := by
  intro l hd he hg
  rw [← hev] at hg
  exact hg.opTo ho hw hd hS.d he
 obtain ⟨dst, op, type, pos, after, guard⟩ := o
 simp only at h fin fin2 ⊢
 cases op
 case store t a x =>
  obtain ⟨H', h, e0⟩ := z4f h
  obtain ⟨av, ha, h⟩ := z0a h
  obtain ⟨xv, hx, h⟩ := z0a h
  obtain ⟨e1, e2⟩ := he a av ha
  obtain ⟨e3, e4⟩ := he x xv hx
  obtain ⟨w', r1, r2, r3⟩ := q4J (P := P) TT hS.h h e2 e4
  refine fin (.inr (by simp)) e0 ?_
  simp only [execOp, e1, e3]
  exact z5u r1 r2 r3
 case mapUpdate t m kk x =>
  obtain ⟨H', h, e0⟩ := z4f h
  obtain ⟨mv, hm, h⟩ := z0a h
  obtain ⟨kv, hk, h⟩ := z0a h
  obtain ⟨xv, hx, h⟩ := z0a h
  obtain ⟨e1, e2⟩ := he m mv hm
  obtain ⟨e3, e4⟩ := he kk kv hk
  obtain ⟨e5, e6⟩ := he x xv hx
  obtain ⟨w', r1, r2, r3⟩ := z6u (P := P) TT hS.h h e2 e4 e6
  refine fin (.inr (by simp)) e0 ?_
  simp only [execOp, e1, e3, e5]
  exact z5u r1 r2 r3
 case insert t m kk x =>
  obtain ⟨H', h, e0⟩ := z4f h
  obtain ⟨mv, hm, h⟩ := z0a h
  obtain ⟨kv, hk, h⟩ := z0a h
  obtain ⟨xv, hx, h⟩ := z0a h
  obtain ⟨e1, e2⟩ := he m mv hm
  obtain ⟨e3, e4⟩ := he kk kv hk
  obtain ⟨e5, e6⟩ := he x xv hx
  obtain ⟨w', r1, r2, r3⟩ := z6u (P := P) TT hS.h h e2 e4 e6
  refine fin (.inr (by simp)) e0 ?_
  simp only [execOp, e1, e3, e5]
  exact z5u r1 r2 r3
 case mapEntry t m kk =>
  obtain ⟨v, H', h, e0⟩ := z4g h
  obtain ⟨mv, hm, h⟩ := z0a h
  obtain ⟨kv, hk, h⟩ := z0a h
  obtain ⟨e1, e2⟩ := he m mv hm
  obtain ⟨e3, e4⟩ := he kk kv hk
  obtain ⟨w', r1, r2, r3, r4⟩ := q2Y (P := P) TT hS.h h e2 e4
  refine fin (.inr (by simp)) e0 ?_
  simp only [execOp, e1, e3]
  exact Makes.gives ⟨ρ, D, w', r1, r2, .same _ _ r3, r4⟩
 case entryStore t m x y =>
  obtain ⟨H', h, e0⟩ := z4f h
  obtain ⟨mv, hm, h⟩ := z0a h
  obtain ⟨kv, hk, h⟩ := z0a h
  obtain ⟨xv, hx, h⟩ := z0a h
  obtain ⟨e1, e2⟩ := he m mv hm
  obtain ⟨e3, e4⟩ := he x kv hk
  obtain ⟨e5, e6⟩ := he y xv hx
  obtain ⟨w', r1, r2, r3⟩ := z9U (P := P) (t := t) hS.h h e2 e6
  refine fin (.inr (by simp)) e0 ?_
  simp only [execOp, e1, e3, e5]
  exact z5u r1 r2 r3
 case range t x =>
  obtain ⟨v, H', h, e0⟩ := z4g h
  obtain ⟨xv, hx, h⟩ := z0a h
  obtain ⟨e1, e2⟩ := he x xv hx
  refine fin (.inr (by simp)) e0 ?_
  simp only [execOp, e1]
  exact (q9R TT hS.h h e2).gives
 case next it isS =>
  obtain ⟨l, hl⟩ := z6z h
  have hl' := hl
  obtain ⟨xv, hx, hl'⟩ := z0a hl'
  obtain ⟨e1, e2⟩ := he it xv hx
  obtain ⟨p, hp, w', r1, r2, r3, r4⟩ := j3b (P := P) (t := type) hS.h hl' e2
  have hg : Gives P G ρ D w s.h (execOp ev { dst := dst, op := .next it isS, type := type, pos := pos, after := after, guard := guard }) p.1 p.2 := by
   simp only [execOp, e1]
   exact Makes.gives ⟨ρ, D, w', r1, r2, .same _ _ r3, r4⟩
  rw [← hev] at hg
  refine (hg.opTo (rest := rest) (k := k) (cs := cs) ho hw (.inr (by simp)) hS.d).mono fun q hq => ?_
  simp only [List.mem_singleton] at hq; subst hq
  have h' : outs s.df (z0b (aev G s.tm it) fun v => q4o s.h v isS) = some eo := h
  rw [hl] at h'
  unfold outs at h'
  split at h'
  ·simp at *
  ·rename_i q hq
   simp only [Option.some.injEq] at hq; subst hq
   simp only [Option.some.injEq] at h'; subst h'
   simp only [List.mem_singleton] at hp; subst hp
   exact List.mem_singleton.2 rfl
  ·rename_i l' _ hq
   simp only [Option.some.injEq] at hq; subst hq
   simp only [Option.some.injEq] at h'; subst h'
   exact List.mem_map.2 ⟨p, hp, rfl⟩
 case convert a d x =>
  obtain ⟨v, H', h, e0⟩ := z4g h
  obtain ⟨xv, hx, h⟩ := z0a h
  obtain ⟨e1, e2⟩ := he x xv hx
  refine fin (.inr (by simp)) e0 ?_
  simp only [execOp, e1]
  exact (z9d TT hS.h h e2).gives
 case defer cl =>
  simp only [opE, q4t] at h
  cases hc : c.rnd with
  | some l => rw [hc] at h; simp at h
  | none =>
   rw [hc] at h hR
   have hr : b.roundOf = none := hR
   obtain ⟨f, hf, h⟩ := z0a h
   obtain ⟨v, hv, h⟩ := z0a h
   obtain ⟨hfn, h⟩ := z0c h
   obtain ⟨args, ha, h⟩ := z0a h
   simp only [Option.some.injEq] at h; subst h
   obtain ⟨e1, e2⟩ := he f v hv
   obtain ⟨e3, e4⟩ := z7g he ha
   have hd : ∃ d, Deferred.ofValue (conc ρ v) (concL ρ args).toArray = pure d := by
    cases v <;> first | exact ⟨_, rfl⟩ | simp [j9J] at hfn
   obtain ⟨d, hd⟩ := hd
   refine ⟨_, List.mem_singleton.2 rfl, ρ, D, w, d :: df, hS.h, .refl _ _ _, trivial, ⟨⟨e2, e4, hd⟩, hS.d⟩, .one ?_⟩
   have hst := q3i (P := P) (b := b) (df := df) (rest := rest) (k := k) (cs := cs) (w := w) ho hw (.inl hr)
   have := q4L (d := d) (w' := w) (.of hst) (by
    rw [hev]
    unfold z6b at hf
    split at hf
    ·rename_i f' hf'
     simp only [Option.some.injEq] at hf; subst hf
     simp only [execOp, resolve, hf', e1, e3, hd]
     rfl
    ·simp at hf)
   rw [this]
   congr 2
   exact z2I (df := d :: df) ho
 case call cl =>
  obtain ⟨args, ha, h⟩ := z0a h
  obtain ⟨e1, e2⟩ := z7g he ha
  cases hf : cl.callee with
  | value f =>
   rw [hf] at h
   have h : orX (outs s.df (z0b (aev G s.tm f) (q0t F args s.h))) (outs s.df (z0b (aev G s.tm f) (extV G args s.h))) = some eo := h
   rcases q1E h with h | h
   ·obtain ⟨l, hl⟩ := z6z h
    rw [hl] at h
    refine fin2 (.inr (by simp)) h ?_
    obtain ⟨v, hv, hl⟩ := z0a hl
    obtain ⟨e3, e4⟩ := he f v hv
    have := q3g hF hl (P := P) (w := w) hS.h e2 e4
    simp only [execOp, resolve, hf, e1, e3]
    exact this
   ·obtain ⟨l, hl⟩ := z6z h
    rw [hl] at h
    refine fin2 (.inr (by simp)) h ?_
    obtain ⟨v, hv, hl⟩ := z0a hl
    obtain ⟨e3, e4⟩ := he f v hv
    have := j7l TT hl (P := P) (w := w) hS.h e2
    simp only [execOp, resolve, hf, e1, e3]
    exact this
  | invoke r name =>
   rw [hf] at h
   have h : outs s.df (z0b (aev G s.tm r) (q1k F G name args s.h)) = some eo := h
   obtain ⟨l, hl⟩ := z6z h
   rw [hl] at h
   refine fin2 (.inr (by simp)) h ?_
   obtain ⟨v, hv, hl⟩ := z0a hl
   obtain ⟨e3, e4⟩ := he r v hv
   have := q7C TT hF hl (P := P) (w := w) hS.h e2 e4
   simp only [execOp, resolve, hf, e1, e3]
   exact this
  | builtin bi =>
   rw [hf] at h
   have h : z8d bi G cl.argTypes.toList args s.df s.h = some eo := h
   obtain ⟨v, H', e0, hg⟩ := q4O (P := P) (w := w) (u := type) (bs := cl.args.map fun | .const _ => true | _ => false) TT hS.h h e2
   refine fin (.inr (by simp)) e0 ?_
   simp only [execOp, resolve, hf, e1]
   exact hg
 all_goals (first | (have h : (none : Option (List EOut)) = some eo := h; simp at h))
end
end
end Go.Sx
namespace Go.Sx
section
variable {P : Program} {G : Tab} {F : Fns}
def j0o (P : Program) (G : Tab) (ρ : Env) (D : Nat → Prop) (size : Nat) (H : Heap) (m : Machine) (b : Frame) (cs : List Frame) (ops : Array Oper) (k : List Item) (ss : List St) : Prop :=
 ∃ s ∈ ss, ∃ ρ' D' w' tm' df', SRel G ρ' D' w' size s tm' df' ∧ Ext H ρ D s.h ρ' D' ∧ Steps P m (lone (fat b tm' df' (.inRegion ops [] :: k)) cs w')
theorem z4B {o : Op} {tm : T AV} {H : Heap} {p : VH} (h : opN o G tm H = some p) : ∀ c, o ≠ .defer c := by
 intro c hc
 subst hc
 have h : (none : Option VH) = some p := h
 simp at h
theorem q3k (TT : TabOk P G) (hF : FnsOk P G F) {c : Ctx} {ops : Array Oper} {b : Frame} {k : List Item} {cs : List Frame} : ∀ (l : List Oper) (i : Nat) (s : St) (ss : List St), ops.toList.drop i = l →
  z0t l F G c ops.toList s = some ss → ∀ (ρ : Env) (D : Nat → Prop) (w : World) (tm : Array Value) (df : List Deferred), SRel G ρ D w c.size s tm df → RndRel ρ D c.rnd b.roundOf →
  j0o P G ρ D c.size s.h (lone (fat b tm df (.inRegion ops (List.range' i l.length) :: k)) cs w) b cs ops k ss := by
 intro l
 induction l with
 | nil =>
  intro i s ss _ h ρ D w tm df hS hR
  have h : some [s] = some ss := h
  simp only [Option.some.injEq] at h; subst h
  exact ⟨s, List.mem_singleton.2 rfl, ρ, D, w, tm, df, hS, .refl _ _ _, .refl _ _⟩
 | cons o l ih =>
  intro i s ss hdrop h ρ D w tm df hS hR
  have ho : ops[i]? = some o := by
   have : (ops.toList.drop i)[0]? = some o := by rw [hdrop]; rfl
   simpa using this
  have hnext : ops.toList.drop (i + 1) = l := by
   have : (ops.toList.drop i).drop 1 = l := by rw [hdrop]; rfl
   rw [List.drop_drop] at this; simpa using this
  have hr : List.range' i (o :: l).length = i :: List.range' (i + 1) l.length := by simp [List.range'_succ]
  rw [hr]
  have h : z3A o (z0t l) F G c ops.toList s = some ss := h
  -- an operation that z1I one of 'eo'
  have go : ∀ {eo : List EOut}, OpTo P G ρ D w s.h b tm df ops i (List.range' (i + 1) l.length) k cs o.dst eo →
    (∀ p ∈ eo, ∃ x, (z0J c s.tm o.dst p.1 fun tm => z0t l F G c ops.toList ⟨tm, p.2.2, p.2.1⟩) = some x ∧ ∀ y ∈ x, y ∈ ss) →
    j0o P G ρ D c.size s.h (lone (fat b tm df (.inRegion ops (i :: List.range' (i + 1) l.length) :: k)) cs w) b cs ops k ss := by
   intro eo hop hall
   obtain ⟨p, hp, ρ', D', w', df', r1, r2, r3, r4, r5⟩ := hop
   obtain ⟨x, hx, hin⟩ := hall p hp
   obtain ⟨tm', hx', hT⟩ := z6y hx (hS.t.sub r2.sub) r3
   obtain ⟨s', hs', ρ₂, D₂, w₂, tm₂, df₂, g1, g2, g3⟩ := ih (i + 1) ⟨tm', p.2.2, p.2.1⟩ x hnext hx' ρ' D' w' _ df' ⟨r1, hT, r4⟩ (hR.sub r2.sub)
   exact ⟨s', hin s' hs', ρ₂, D₂, w₂, tm₂, df₂, g1, r2.trans g2, r5.trans g3⟩
  unfold z3A at h
  have hwe := z3t hS.t ops o
  rcases z0Z h with ⟨h0, h'⟩ | ⟨h0, h'⟩
  ·rw [h0] at hwe
   have hN : ∀ (hk : z0b (opN o.op G s.tm s.h) (fun p => z0J c s.tm o.dst p.1 fun tm => z0t l F G c ops.toList ⟨tm, p.2, s.df⟩) = some ss),
     j0o P G ρ D c.size s.h (lone (fat b tm df (.inRegion ops (i :: List.range' (i + 1) l.length) :: k)) cs w) b cs ops k ss := fun hk => by
    obtain ⟨p, hp, hk⟩ := z0a hk
    have hg := q6E (P := P) (w := w) (o := o) TT hS.h (z1P (fr := fat b tm df []) hS.h hS.t) hp
    exact go (hg.opTo ho hwe (.inr (z4B hp)) hS.d) fun q hq => by
     simp only [List.mem_singleton] at hq; subst hq
     exact ⟨ss, hk, fun _ h => h⟩
   cases hk : kindOf o.op with
   | eff =>
    rw [hk] at h'
    have h' : z1B (opE o.op F G c s.tm s.df s.h) (fun p => z0J c s.tm o.dst p.1 fun tm => z0t l F G c ops.toList ⟨tm, p.2.2, p.2.1⟩) = some ss := h'
    obtain ⟨eo, he, hall⟩ := z0w h'
    exact go (j0n TT hF he hS hR ho hwe) hall
   | _ => rw [hk] at h'; exact hN h'
  ·rw [h0] at hwe
   obtain ⟨tm', hx', hT⟩ := z6y h' hS.t (v := z0A) trivial
   obtain ⟨s', hs', ρ₂, D₂, w₂, tm₂, df₂, g1, g2, g3⟩ := ih (i + 1) ⟨tm', s.h, s.df⟩ ss hnext hx' ρ D w _ df ⟨hS.h, hT, hS.d⟩ hR
   exact ⟨s', hs', ρ₂, D₂, w₂, tm₂, df₂, g1, g2, Steps.head (z5v ho hwe) g3⟩
theorem z7M {o : Option (List St)} {outs : List (Ex × St)} (h : z1u o = some outs) : ∃ l, o = some l ∧ ∀ s ∈ l, (Ex.normal, s) ∈ outs := by
 unfold z1u at h
 split at h
 ·simp at h
 ·rename_i s
  simp only [Option.some.injEq] at h; subst h
  exact ⟨[s], rfl, fun t ht => by simp only [List.mem_singleton] at ht; subst ht; exact List.mem_singleton.2 rfl⟩
 ·rename_i l _
  simp only [Option.some.injEq] at h; subst h
  exact ⟨l, rfl, fun t ht => List.mem_map.2 ⟨t, ht, rfl⟩⟩
def j0p (P : Program) (G : Tab) (F : Fns) : Prop :=
 ∀ (c : Ctx) (ops : Array Oper) (s : St) (ss : List St), z8L F G c ops.toList s = some ss → ∀ (t : Nat) (b : Frame) (k : List Item) (cs : List Frame) (ρ : Env) (D : Nat → Prop) (w : World) (tm : Array Value)
  (df : List Deferred), SRel G ρ D w c.size s tm df → RndRel ρ D c.rnd b.roundOf →
  j0o P G ρ D c.size s.h (lone (fat b tm df (.inRegion ops (Region.linearise .any ops t) :: k)) cs w) b cs ops k ss
theorem z5w (TT : TabOk P G) (hF : FnsOk P G F) (hD : j0p P G F) (id : Nat) (ops : Array Oper) (draw : Bool) : z1i P G (z2C id ops draw F G) (.region id ops draw) := by
 intro c s outs h ρ D w tm df b k cs hS hR
 obtain ⟨l, hl, hin⟩ := z7M h
 have fin : ∀ {m : Machine}, j0o P G ρ D c.size s.h m b cs ops k l → Lands P G ρ D c.size s.h m b cs k outs := by
  rintro m ⟨s', hs', ρ', D', w', tm', df', r1, r2, r3⟩
  exact ⟨_, hin s' hs', ρ', D', w', tm', df', r1, r2, r3.trans (.one z6x)⟩
 cases draw with
 | true =>
  have hl : z8L F G c ops.toList s = some l := hl
  refine Lands.of_steps (.one z5R) ?_
  have hw : Like { w with drawn := w.drawn + 1 } w := ⟨rfl, rfl, rfl, rfl⟩
  have hsch : ∀ t, Region.schedule (P.follows .mixedOrders) ops t = Region.linearise .any ops t := fun t => by simp [Region.schedule, TT.mixed]
  rw [hsch]
  exact fin (hD c ops s l hl _ b k cs ρ D _ tm df ⟨hS.h.same hw, hS.t, hS.d⟩ hR)
 | false =>
  have hl : z0t ops.toList F G c ops.toList s = some l := hl
  refine Lands.of_steps (.one z9h) ?_
  have := q3k (P := P) (b := b) (k := k) (cs := cs) TT hF ops.toList 0 s l rfl hl ρ D w tm df hS hR
  rw [List.range_eq_range']
  simpa using fin this
end
end Go.Sx
namespace Go.Sx
section
variable {P : Program} {G : Tab} {F : Fns}
theorem z2v {α : Type} (l : List α) : z5I l = true ↔ l = [] := by cases l <;> simp [z5I]
theorem z4h {α : Type} {f : α → α → Bool} (hf : ∀ a b, f a b = true → a = b) : ∀ (l m : List α), z1X f l m = true → l = m := by
 intro l
 induction l with
 | nil => intro m h; exact ((z2v m).1 h).symm
 | cons a l ih =>
  intro m h
  cases m with
  | nil => have h : false = true := h; simp at h
  | cons b m =>
   have h : (bif f a b then z1X f l m else false) = true := h
   cases hab : f a b with
   | false => rw [hab] at h; simp at h
   | true => rw [hab] at h; rw [hf a b hab, ih m h]
theorem z1a {a b : Bool} (h : (bif a then b else false) = true) : a = true ∧ b = true := by cases a <;> simp_all
theorem AEntry.beq_eq {a b : AEntry} (h : AEntry.beq a b = true) : a = b := by
 obtain ⟨k, v, n⟩ := a
 obtain ⟨k', v', n'⟩ := b
 obtain ⟨h1, h⟩ := z1a h
 obtain ⟨h2, h3⟩ := z1a h
 have h1 := AV.beq_eq _ _ h1
 have h2 := AV.beq_eq _ _ h2
 have h3 := z0B h3
 simp only at h1 h2 h3
 rw [h1, h2, h3]
theorem z9i {α : Type} {f : α → α → Bool} (hf : ∀ a b, f a b = true → a = b) {a b : Option α} (h : z8p f a b = true) : a = b := by
 unfold z8p at h
 split at h
 ·rfl
 ·rw [hf _ _ h]
 ·simp at h
theorem ABlk.beq_eq (a b : ABlk) (h : ABlk.beq a b = true) : a = b := by
 unfold ABlk.beq at h
 split at h
 ·obtain ⟨h1, h⟩ := z1a h
  obtain ⟨h2, h3⟩ := z1a h
  rw [z0B h1, z4h (fun a b => AV.beq_eq a b) _ _ h3]
  rw [z6c] at h2
  rw [eq_of_beq h2]
 ·obtain ⟨h1, h⟩ := z1a h
  obtain ⟨h2, h3⟩ := z1a h
  rw [z0B h1, z0B h2, z4h (fun a b => AV.beq_eq a b) _ _ h3]
 ·obtain ⟨h1, h2⟩ := z1a h
  rw [z0B h1, z4h (fun _ _ => AEntry.beq_eq) _ _ h2]
 ·obtain ⟨h1, h⟩ := z1a h
  obtain ⟨h2, h⟩ := z1a h
  obtain ⟨h3, h4⟩ := z1a h
  rw [z9i (fun _ _ => z0B) h1, z0B h2, z4h (fun _ _ => z0B) _ _ h3, z0B h4]
 ·obtain ⟨h1, h2⟩ := z1a h
  rw [z7a] at h1
  rw [eq_of_beq h1, z0B h2]
 ·rfl
 ·simp at h
theorem T.beq_eq {α : Type} {f : α → α → Bool} (hf : ∀ a b, f a b = true → a = b) : ∀ (t u : T α), T.beq f t u = true → t = u := by
 intro t
 induction t with
 | e =>
  intro u h
  cases u with
  | e => rfl
  | n l v r => have h : false = true := h; simp at h
 | n l v r ihl ihr =>
  intro u h
  cases u with
  | e => have h : false = true := h; simp at h
  | n l' v' r' =>
   have h : (bif z8p f v v' then (bif T.beq f l l' then T.beq f r r' else false) else false) = true := h
   obtain ⟨h1, h⟩ := z1a h
   obtain ⟨h2, h3⟩ := z1a h
   rw [z9i hf h1, ihl _ h2, ihr _ h3]
theorem j0q {p q : VH} (h : q6v p q = true) : p = q := by
 obtain ⟨v, ⟨n, t⟩⟩ := p
 obtain ⟨v', ⟨n', t'⟩⟩ := q
 obtain ⟨h1, h⟩ := z1a h
 obtain ⟨h2, h3⟩ := z1a (a := Nat.beq n n') (b := T.beq ABlk.beq t t') h
 have h1 := AV.beq_eq _ _ h1
 simp only at h1
 rw [h1, z0B h2, T.beq_eq ABlk.beq_eq _ _ h3]
theorem q7E {p : VH} : ∀ {l : List VH}, q2O p l = true → p ∈ l := by
 intro l
 induction l with
 | nil => intro h; have h : false = true := h; simp at h
 | cons q l ih =>
  intro h
  have h : (bif q6v p q then true else q2O p l) = true := h
  cases hb : q6v p q with
  | true => rw [j0q hb]; exact List.mem_cons_self
  | false => rw [hb] at h; exact List.mem_cons_of_mem _ (ih h)
theorem j0r {p : VH} : ∀ {l : List VH}, p ∈ l → p ∈ dedup l := by
 intro l
 induction l with
 | nil => intro h; simp at h
 | cons q l ih =>
  intro h
  have e : dedup (q :: l) = q9x q (dedup l) := rfl
  rw [e]
  unfold q9x
  rcases List.mem_cons.1 h with rfl | h
  ·cases hb : q2O p (dedup l) with
   | true => exact q7E hb
   | false => exact List.mem_cons_self
  ·cases hb : q2O q (dedup l) with
   | true => exact ih h
   | false => exact List.mem_cons_of_mem _ (ih h)
theorem q3l {ρ : Env} {D : Nat → Prop} {w : World} : ∀ (n : Nat) (H : Heap) (b : Nat), HRel G ρ D w H → HRel G ρ D w (z4a n H b) ∧ (z4a n H b).next = H.next := by
 intro n
 induction n with
 | zero => intro H b h; exact ⟨h, rfl⟩
 | succ n ih =>
  intro H b h
  have e : z4a (n + 1) H b = bif q9w (H.blks.get b) then z4a n (z9T H b) (b + 1) else z4a n H (b + 1) := rfl
  rw [e]
  cases q9w (H.blks.get b) with
  | true =>
   obtain ⟨h1, h2⟩ := ih (z9T H b) (b + 1) (h.kill b)
   exact ⟨h1, by rw [cond_true, h2]; exact Heap.next_put _ _ _⟩
  | false => exact ih H (b + 1) h
theorem z7N {b : Nat} {l : List VH} {p : VH} (hp : p ∈ l) {ρ : Env} {D : Nat → Prop} {w : World} (hH : HRel G ρ D w p.2) :
  ∃ q ∈ z4W b l, q.1 = p.1 ∧ HRel G ρ D w q.2 ∧ q.2.next = p.2.next := by
 unfold z4W
 split
 ·exact ⟨p, hp, rfl, hH, rfl⟩
 ·obtain ⟨h1, h2⟩ := q3l (p.2.next - b) p.2 b hH
  exact ⟨_, j0r (List.mem_map.2 ⟨p, hp, rfl⟩), rfl, h1, h2⟩
theorem z5x {β : Type} : ∀ (l : List AV) (tm : T AV) (i : Nat) (k : T AV → β), ∃ tm', z7V l tm i k = k tm' ∧ ∀ j, tm'.get j = if i ≤ j ∧ j < i + l.length then l[j - i]? else tm.get j := by
 intro l
 induction l with
 | nil => intro tm i k; exact ⟨tm, rfl, fun j => by rw [if_neg (by simp)]⟩
 | cons v l ih =>
  intro tm i k
  obtain ⟨tm', h1, h2⟩ := ih (tm.set i (some v)) (i + 1) k
  refine ⟨tm', ?_, fun j => ?_⟩
  ·rw [← h1]
   show z3V v (fun v => tm.setK i (some v) fun tm' => z7V l tm' (i + 1) k) = _
   rw [z2b, T.setK_eq]
  ·rw [h2 j, T.get_set]
   simp only [List.length_cons]
   by_cases hj : j = i
   ·subst hj
    rw [if_neg (by omega), if_pos rfl, if_pos (by omega)]
    simp
   ·by_cases hj2 : i + 1 ≤ j ∧ j < i + 1 + l.length
    ·rw [if_pos hj2, if_pos (by omega)]
     rw [show j - i = (j - (i + 1)) + 1 from by omega, List.getElem?_cons_succ]
    ·rw [if_neg hj2, if_neg hj, if_neg (by omega)]
theorem z3E {ρ : Env} {D : Nat → Prop} {args : List AV} {tm : T AV} {n : Nat} (ha : okL ρ D args) (htm : ∀ j, tm.get j = if 0 ≤ j ∧ j < 0 + args.length then args[j - 0]? else (T.e : T AV).get j) :
  TmRel ρ D (args.length + (n - args.length)) tm ((concL ρ args).toArray ++ Array.replicate (n - (concL ρ args).toArray.size) undef) := by
 have hl : (concL ρ args).length = args.length := by simp [z0i]
 refine ⟨by simp [hl], fun i => ?_⟩
 unfold slot
 rw [htm i]
 by_cases hi : i < args.length
 ·rw [if_pos ⟨Nat.zero_le _, by omega⟩]
  simp only [Nat.sub_zero]
  have hx : args[i]? = some args[i] := List.getElem?_eq_getElem hi
  rw [hx]
  refine ⟨?_, z0z.1 ha _ (List.getElem_mem hi)⟩
  rw [Array.getD_eq_getD_getElem?, Array.getElem?_append_left (by simp [hl]; exact hi)]
  simp [z0i, hx]
 ·rw [if_neg (by omega)]
  refine ⟨?_, trivial⟩
  have : (T.e : T AV).get i = none := rfl
  rw [this]
  rw [Array.getD_eq_getD_getElem?, Array.getElem?_append_right (by simp [hl]; omega), Array.getElem?_replicate]
  split <;> rfl
def resF (tmps : Array Value) : ResultVar → Sem Value
 | .tmp t => pure (tmps.getD t undef)
 | .cell a t => do loadVar t (← asAddr (tmps.getD a undef))
theorem q7F (fn : Func) (tmps : Array Value) : results fn tmps = (do let vs ← fn.results.mapM (resF tmps); pure (if h : vs.size = 1 then vs[0] else .tuple vs)) := by
 unfold results
 congr 2
theorem q7G (T : TabOk P G) {ρ : Env} {D : Nat → Prop} {w : World} {H : Heap} (hH : HRel G ρ D w H) {n : Nat} {tm : Sx.T AV} {tmps : Array Value} (hT : TmRel ρ D n tm tmps) {r : ResultVar} {v : AV}
  (h : resultA G tm H r = some v) : Val P ρ D w (resF tmps r) v := by
 cases r with
 | tmp t =>
  have := z7E (o := tm.get t) h
  subst this
  obtain ⟨h1, h2⟩ := hT.at_ t
  exact ⟨by simp only [resF, Sem.run_pure, h1]; rfl, h2⟩
 | cell a t =>
  simp only [resultA] at h
  unfold z8M at h
  split at h
  ·rename_i b off hg
   obtain ⟨h1, h2⟩ := hT.at_ a
   unfold slot at h1 h2
   rw [hg] at h1 h2
   obtain ⟨r1, r2⟩ := z8S (P := P) (w := w) T hH h2 h
   refine ⟨?_, r2⟩
   simp only [resF, h1, Option.getD_some, conc, Sem.run_bind, asAddr, Sem.run_pure, Result.andThen_ok]
   exact r1
  ·simp at h
theorem q4P (T : TabOk P G) {ρ : Env} {D : Nat → Prop} {w : World} {H : Heap} (hH : HRel G ρ D w H) {n : Nat} {tm : Sx.T AV} {tmps : Array Value} (hT : TmRel ρ D n tm tmps) : ∀ {l : List ResultVar} {vs : List AV},
  z0C G tm H l = some vs → (l.mapM (resF tmps)).run P w = .ok (concL ρ vs) w ∧ okL ρ D vs := by
 intro l
 induction l with
 | nil => intro vs h; have h : some [] = some vs := h; simp only [Option.some.injEq] at h; subst h; exact ⟨rfl, trivial⟩
 | cons r l ih =>
  intro vs h
  obtain ⟨x, m, hx, hm, rfl⟩ := z2f (a := resultA G tm H r) (o := z0C G tm H l) h
  obtain ⟨r1, r2⟩ := q7G T hH hT hx
  obtain ⟨r3, r4⟩ := ih hm
  refine ⟨?_, r2, r4⟩
  rw [List.mapM_cons]
  simp only [Sem.run_bind, r1, Result.andThen_ok, r3, Sem.run_pure, concL]
theorem z7h (T : TabOk P G) {ρ : Env} {D : Nat → Prop} {w : World} {H : Heap} (hH : HRel G ρ D w H) {n : Nat} {tm : Sx.T AV} {tmps : Array Value} (hT : TmRel ρ D n tm tmps) {fn : Func} {vs : List AV}
  (h : z0C G tm H fn.results.toList = some vs) : (results fn tmps).run P w = .ok (conc ρ (z2a vs)) w ∧ okV ρ D (z2a vs) := by
 obtain ⟨r1, r2⟩ := q4P (P := P) T hH hT h
 rw [q7F, Array.mapM_eq_mapM_toList]
 simp only [map_eq_pure_bind, Sem.run_bind, r1, Result.andThen_ok, Sem.run_pure]
 refine ⟨?_, ?_⟩
 ·match vs with
  | [] => simp [concL, z2a, conc]
  | [v] => simp [concL, z2a]
  | v :: v' :: vs => simp [concL, z2a, conc]
 ·unfold z2a
  split
  ·exact r2.1
  ·exact r2
end
end Go.Sx
namespace Go.Sx
section
variable {P : Program} {G : Tab} {F : Fns}
def ret (b : Frame) (tmps : Array Value) (df : List Deferred) (todo : List Item) : Frame :=
 { fn := b.fn, tmps, todo, defers := df, mode := .returning, kind := b.kind, roundOf := b.roundOf }
theorem HRel.lose {ρ : Env} {D : Nat → Prop} {w w' : World} {H : Heap} (h : HRel G ρ D w H) {b : Nat} {o : ABlk} (hb : D b) (ho : H.blks.get b = some o) (hw : ∀ j, j ≠ ρ.blk b → w'.heap[j]? = w.heap[j]?) (hst : ¬ z0W (some o))
  (hk : Kin w w' := by exact ⟨rfl, rfl, rfl, by simp⟩) : HRel G ρ D w' (z0y H b none) where
 kin := h.kin.trans hk
 rest := fun i q hi => by
  have hne : ρ.blk b ≠ i := fun e => by
   have := (h.rest i q hi).2 b hb e
   rw [ho] at this
   exact hst this
  exact ⟨by rw [hw i (Ne.symm hne)]; exact (h.rest i q hi).1, ((h.kill b).rest i q hi).2⟩
 lt := fun x hx => by rw [Heap.next_put]; exact h.lt x hx
 glob := h.glob
 inj := (h.kill b).inj
 blk := fun x p hx hox => by
  rw [Heap.get_put] at hox
  split at hox
  ·simp at hox
  ·rename_i h1
   exact (h.blk x p hx hox).sub (.refl _ _) hx (hw _ fun he => h1 ((h.inj _ _ _ _ hx hb hox ho he).resolve_right fun e => hst e.2))
theorem z5S {w : World} {r : Nat} {ds : Option (List Deferred)} (h : w.heap[r]? = some (.deferred ds)) : (getObj r).run P w = .ok (.deferred ds) w := by
 simp [getObj, Sem.run, h]
theorem z5T {w : World} {r : Nat} {ds : Option (List Deferred)} {o : Obj} (h : w.heap[r]? = some (.deferred ds)) : (setObj r o).run P w = .ok () { w with heap := w.heap.setIfInBounds r o } := by
 simp [setObj, Sem.run, h]
theorem q3m {b : Frame} {tm : Array Value} {df : List Deferred} {k : List Item} {cs : List Frame} {w : World} {r : Nat} {args : Array Value} (h : w.heap[r]? = some (.deferred (some []))) :
  step P (lone (ret b tm ({ target := .collected r, args := args } :: df) k) cs w) = .next (lone (ret b tm df k) cs { w with heap := w.heap.setIfInBounds r (.deferred none) }) := by
 have e : (Instr.takeDeferred r).run P w = .ok [] { w with heap := w.heap.setIfInBounds r (.deferred none) } := by
  simp only [Instr.takeDeferred, Sem.run_bind, z5S h, Result.andThen_ok, z5T h, Sem.run_pure]
 exact step_lone_go (by simp [stepG, unwind, ret, e])
theorem q4Q {b : Frame} {tm : Array Value} {df : List Deferred} {k : List Item} {cs : List Frame} {w w' : World} {f : FuncId} {first cap args : Array Value} {a : Array Value}
  (h : (callFunc f (first ++ args ++ cap)).run P w = .ok (.enter f a) w') :
  step P (lone (ret b tm ({ target := .fn (.func f) cap, args := first ++ args } :: df) k) cs w) = .next (lone (Frame.enter P f a .deferred) (ret b tm df k :: cs) w') := by
 have e : (invoke (.fn (.func f) cap) (first ++ args)).run P w = .ok (.enter f a) w' := h
 exact step_lone_go (by simp [stepG, unwind, callDeferred, ret, e])
theorem z9Z {fr : Frame} {b : Frame} {tm : Array Value} {df : List Deferred} {k : List Item} {cs : List Frame} {w : World} {v : Value} (hm : fr.mode = .returning) (hd : fr.defers = []) (hk : fr.kind = .deferred)
  {fn : Func} (hf : P.funcs[fr.fn]? = some fn) (hr : (results fn fr.tmps).run P w = .ok v w) : step P (lone fr (ret b tm df k :: cs) w) = .next (lone (ret b tm df k) cs w) :=
 step_lone_go (by simp [stepG, unwind, doReturn, hm, hd, hk, hf, hr, ret])
theorem q4R (hF : FnsOk P G F) {a : ADefer} {H : Heap} {Hs : List Heap} (h : q1q F a H = some Hs) {ρ : Env} {D : Nat → Prop} {w : World} (hH : HRel G ρ D w H) {d : Deferred} (hd : DRel ρ D a d)
  (b : Frame) (tm : Array Value) (df : List Deferred) (k : List Item) (cs : List Frame) :
  ∃ H' ∈ Hs, ∃ ρ' D' w', HRel G ρ' D' w' H' ∧ Ext H ρ D H' ρ' D' ∧ Steps P (lone (ret b tm (d :: df) k) cs w) (lone (ret b tm df k) cs w') := by
 cases a with
 | collected r =>
  obtain ⟨hr, rfl⟩ := hd
  have h : (match H.blks.get r with | some .deferred => some [z9T H r] | _ => none) = some Hs := h
  split at h
  ·rename_i hg
   simp only [Option.some.injEq] at h; subst h
   have hb : w.heap[ρ.blk r]? = some (.deferred (some [])) := hH.blk r _ hr hg
   refine ⟨_, List.mem_singleton.2 rfl, ρ, D, _, hH.lose hr hg (fun j hj => by simp [Array.getElem?_setIfInBounds_ne (Ne.symm hj)]) (fun h => h), .same _ _ (Heap.next_put _ _ _), .one (q3m hb)⟩
  ·simp at h
 | call v args =>
  obtain ⟨hv, ha, hd⟩ := hd
  obtain ⟨l, hl, hall⟩ := z0w (o := q9v F args H v) (f := fun p => some [p.2]) h
  unfold q9v at hl
  split at hl
  ·rename_i fn first cap
   unfold q6u at hl
   split at hl
   ·rename_i f
    rw [z1G, z1G] at hl
    have hd' : d = { target := .fn (.func f) (concL ρ cap).toArray, args := (concL ρ first).toArray ++ (concL ρ args).toArray } := by
     have := congrArg (fun s => s.run P w) hd
     simp only [conc, Deferred.ofValue, Sem.run_pure, Result.ok.injEq, and_true] at this
     exact this.symm
    subst hd'
    obtain ⟨⟨fn, body, hf, hb, hn⟩, p, hpo, ρ', D', w', fr', r1, r2, r3, r4, r5, r6, r7, r8, fn', r9, r10⟩ :=
     hF.callD f _ H l hl ρ D w (ret b tm df k :: cs) hH (z0P hv.2.1 (z0P ha hv.2.2))
    obtain ⟨x, hx, hin⟩ := hall p hpo
    simp only [Option.some.injEq] at hx; subst hx
    refine ⟨p.2, hin _ (List.mem_singleton.2 rfl), ρ', D', w', r1, r2, ?_⟩
    have e : (concL ρ first).toArray ++ (concL ρ args).toArray ++ (concL ρ cap).toArray = (concL ρ (first ++ (args ++ cap))).toArray := by simp [z0i]
    refine Steps.head (q4Q (P := P) (a := (concL ρ (first ++ (args ++ cap))).toArray) (by rw [e]; exact z3D hf hb hn)) (r4.trans (.one ?_))
    exact z9Z r6 r7 r8 (by rw [r5]; exact r9) r10
   ·simp at hl
  ·simp at hl
theorem q3n (hF : FnsOk P G F) (b : Frame) (tm : Array Value) (k : List Item) (cs : List Frame) : ∀ (l : List ADefer) (df : List Deferred) (H : Heap) (Hs : List Heap), z8N F l H = some Hs →
  ∀ (ρ : Env) (D : Nat → Prop) (w : World), HRel G ρ D w H → DfRel ρ D l df →
  ∃ H' ∈ Hs, ∃ ρ' D' w', HRel G ρ' D' w' H' ∧ Ext H ρ D H' ρ' D' ∧ Steps P (lone (ret b tm df k) cs w) (lone (ret b tm [] k) cs w') := by
 intro l
 induction l with
 | nil =>
  intro df H Hs h ρ D w hH hd
  have h : some [H] = some Hs := h
  simp only [Option.some.injEq] at h; subst h
  cases df with
  | nil => exact ⟨H, List.mem_singleton.2 rfl, ρ, D, w, hH, .refl _ _ _, .refl _ _⟩
  | cons d df => exact hd.elim
 | cons a l ih =>
  intro df H Hs h ρ D w hH hd
  cases df with
  | nil => exact hd.elim
  | cons d df =>
   obtain ⟨m, hm, hall⟩ := z0w (o := q1q F a H) (f := z8N F l) h
   obtain ⟨H₁, h1, ρ₁, D₁, w₁, r1, r2, r3⟩ := q4R hF hm hH hd.1 b tm df k cs
   obtain ⟨x, hx, hin⟩ := hall H₁ h1
   obtain ⟨H₂, h2, ρ₂, D₂, w₂, g1, g2, g3⟩ := ih df H₁ x hx ρ₁ D₁ w₁ r1 (DfRel.sub r2.sub hd.2)
   exact ⟨H₂, hin _ h2, ρ₂, D₂, w₂, g1, r2.trans g2, r3.trans g3⟩
theorem z9j {b : Nat} {o : Option (List VH)} {l : List VH} (h : z7C b o = some l) : ∃ m, o = some m ∧ l = z4W b m := by
 cases o with
 | none => simp [z7C] at h
 | some m => simp only [z7C, Option.some.injEq] at h; exact ⟨m, rfl, h.symm⟩
theorem z5y (TT : TabOk P G) (hF : FnsOk P G F) {fn : Func} {p : Ex × St} {x : List VH} (h : z2D F G fn.results.toList p = some x) {size : Nat} {ρ : Env} {D : Nat → Prop} {w : World} {tm : Array Value}
  {df : List Deferred} (hS : SRel G ρ D w size p.2 tm df) (b : Frame) (hb : b.roundOf = none) (cs : List Frame) {m : Machine} (ha : Arr P m b cs [] p.1 tm df w) :
  ∃ q ∈ x, ∃ ρ' D' w' todo, HRel G ρ' D' w' q.2 ∧ Ext p.2.h ρ D q.2 ρ' D' ∧ okV ρ' D' q.1 ∧ Steps P m (lone (ret b tm [] todo) cs w') ∧ (results fn tm).run P w' = .ok (conc ρ' q.1) w' := by
 obtain ⟨hl, h⟩ := z0c h
 obtain ⟨todo, hst⟩ : ∃ todo, Steps P m (lone (ret b tm df todo) cs w) := by
  obtain ⟨e, s⟩ := p
  cases e with
  | normal => exact ⟨[], Steps.trans ha (.one (j0e hb))⟩
  | ret => obtain ⟨k', hs⟩ := ha; exact ⟨_, hs.trans (.one (j0d hb))⟩
  | exit id => simp [z1I] at hl
  | goto id => simp [z1I] at hl
 have res : ∀ {H' : Heap} {y : List VH}, resOut G p.2.tm fn.results.toList H' = some y → ∀ {ρ' : Env} {D' : Nat → Prop} {w' : World}, HRel G ρ' D' w' H' → Ext p.2.h ρ D H' ρ' D' →
   Steps P m (lone (ret b tm [] todo) cs w') →
   ∃ q ∈ y, ∃ ρ' D' w' todo, HRel G ρ' D' w' q.2 ∧ Ext p.2.h ρ D q.2 ρ' D' ∧ okV ρ' D' q.1 ∧ Steps P m (lone (ret b tm [] todo) cs w') ∧ (results fn tm).run P w' = .ok (conc ρ' q.1) w' := by
  intro H' y hy ρ' D' w' hH' hE hs
  obtain ⟨vs, hvs, hy⟩ := z0a hy
  simp only [Option.some.injEq] at hy; subst hy
  obtain ⟨r1, r2⟩ := z7h (P := P) TT hH' (hS.t.sub hE.sub) hvs
  exact ⟨_, List.mem_singleton.2 rfl, ρ', D', w', todo, hH', hE, r2, hs, r1⟩
 split at h
 ·rename_i hdf
  have hd := hS.d
  rw [hdf] at hd
  cases df with
  | nil => exact res h hS.h (.refl _ _ _) hst
  | cons d df => exact hd.elim
 ·obtain ⟨Hs, hHs, hall⟩ := z0w h
  obtain ⟨H', hm, ρ', D', w', r1, r2, r3⟩ := q3n hF b tm todo cs _ df _ Hs hHs ρ D w hS.h hS.d
  obtain ⟨y, hy, hin⟩ := hall H' hm
  obtain ⟨q, hq, r⟩ := res hy r1 r2 (hst.trans r3)
  exact ⟨q, hin _ hq, r⟩
theorem z8k (TT : TabOk P G) (hF : FnsOk P G F) : ∀ f args H outs, q4x F G f args H = some outs → ∀ (ρ : Env) (D : Nat → Prop) (w : World) (kind : CallKind) (cs : List Frame), HRel G ρ D w H → okL ρ D args →
  (∃ fn body, P.funcs[f]? = some fn ∧ fn.body = some body ∧ (fn.name == "runtime.NumGoroutine") = false) ∧
  ∃ p ∈ outs, ∃ ρ' D' w' fr, HRel G ρ' D' w' p.2 ∧ Ext H ρ D p.2 ρ' D' ∧ okV ρ' D' p.1 ∧ Steps P (lone (Frame.enter P f (concL ρ args).toArray kind) cs w) (lone fr cs w') ∧
   fr.fn = f ∧ fr.mode = .returning ∧ fr.defers = [] ∧ fr.kind = kind ∧ ∃ fn, P.funcs[f]? = some fn ∧ (results fn fr.tmps).run P w' = .ok (conc ρ' p.1) w' := by
 intro f args H outs h ρ D w kind cs hH ha
 obtain ⟨fn, hfn, h⟩ := z0a h
 obtain ⟨hf, hn⟩ := TT.funcs f fn hfn
 obtain ⟨body, hbody, h⟩ := z0a h
 refine ⟨⟨fn, body, hf, hbody, hn⟩, ?_⟩
 obtain ⟨tm, e1, e2⟩ := z5x args .e 0 (fun tm => z0G (len args + (fn.ntmps - len args)) fun N => z7C H.next (z1B (F.code ⟨none, N⟩ body ⟨tm, H, []⟩) (z2D F G fn.results.toList)))
 rw [e1, z0h, z0S] at h
 obtain ⟨m, hm, rfl⟩ := z9j h
 obtain ⟨l, hl, hall⟩ := z0w hm
 let b : Frame := { fn := f, tmps := #[], todo := [], defers := [], mode := .run, kind := kind }
 have henter : Frame.enter P f (concL ρ args).toArray kind = fat b ((concL ρ args).toArray ++ Array.replicate (fn.ntmps - (concL ρ args).toArray.size) undef) [] [.code body] := by
  simp [Frame.enter, fat, hf, hbody, b]
 rw [henter]
 obtain ⟨p, hp, ρ', D', w', tm', df', r1, r2, r3⟩ := hF.code body ⟨none, args.length + (fn.ntmps - args.length)⟩ ⟨tm, H, []⟩ l hl ρ D w _ [] b [] cs ⟨hH, z3E ha e2, trivial⟩ rfl
 obtain ⟨x, hx, hin⟩ := hall p hp
 obtain ⟨q, hq, ρ₂, D₂, w₂, todo, g1, g2, g3, g4, g5⟩ := z5y TT hF hx r1 b rfl cs (r3.of_steps z0D)
 obtain ⟨z, hz, z1, z2, z3⟩ := z7N (b := H.next) (hin q hq) g1
 refine ⟨z, hz, ρ₂, D₂, w₂, _, z2, (r2.trans g2).trans (.same _ _ z3), by rw [z1]; exact g3, g4, rfl, rfl, rfl, rfl, fn, hf, by rw [z1]; exact g5⟩
end
end Go.Sx
namespace Go.Sx
section
variable {P : Program} {G : Tab} {F : Fns}
theorem q4S {o : Option ABlk} {r : ALoop} (h : z7B o = some r) : o = some (.loop r) := by
 unfold z7B at h
 split at h
 ·simp only [Option.some.injEq] at h; subst h; rfl
 ·simp at h
theorem z3u {w : World} {l : Nat} {r : Loop} (h : w.heap[l]? = some (.loop r)) : (Instr.getLoop l).run P w = .ok r w := by
 have : (getObj l).run P w = .ok (.loop r) w := by simp [getObj, Sem.run, h]
 simp only [Instr.getLoop, Sem.run_bind, this, Result.andThen_ok, Sem.run_pure]
theorem z6e {w : World} {l : Nat} {r : Loop} {o : Obj} (h : w.heap[l]? = some (.loop r)) : (setObj l o).run P w = .ok () { w with heap := w.heap.setIfInBounds l o } := by
 simp [setObj, Sem.run, h]
theorem z4i {ρ : Env} {D : Nat → Prop} {w : World} {H : Heap} (hH : HRel G ρ D w H) {l : Nat} {r : ALoop} (hl : D l) (h : z7B (H.blks.get l) = some r) :
  H.blks.get l = some (.loop r) ∧ ∃ r', w.heap[ρ.blk l]? = some (.loop r') ∧ LoopRel ρ D r r' := by
 have h1 := q4S h
 exact ⟨h1, hH.blk l _ hl h1⟩
theorem q0G {ρ : Env} {D : Nat → Prop} {w : World} {H : Heap} (hH : HRel G ρ D w H) {l : Nat} {o : ABlk} {r : ALoop} {r' : Loop} (hl : D l) (ho : H.blks.get l = some o) (hr : LoopRel ρ D r r') (hst : ¬ z0W (some o) := by exact fun h => h) :
  HRel G ρ D { w with heap := w.heap.setIfInBounds (ρ.blk l) (.loop r') } (z0y H l (some (.loop r))) := by
 have hlt := (hH.blk l o hl ho).stands
 exact z8X hH hl ho ⟨r', by simp [hlt], hr⟩ hst
theorem q3o {ρ : Env} {D : Nat → Prop} {size : Nat} : ∀ {ts : List Tmp} {vs : List AV} {tm tm' : T AV} {tmps : Array Value}, z8O size ts vs tm = some tm' → okL ρ D vs → TmRel ρ D size tm tmps →
  ts.length = vs.length ∧ TmRel ρ D size tm' ((ts.zip (concL ρ vs)).foldl (fun tmps (t, a) => tmps.setIfInBounds t a) tmps) := by
 intro ts
 induction ts with
 | nil =>
  intro vs tm tm' tmps h hv hT
  obtain ⟨h1, h⟩ := z0c (c := z5I vs) h
  simp only [Option.some.injEq] at h; subst h
  have := (z2v vs).1 h1
  subst this
  exact ⟨rfl, hT⟩
 | cons t ts ih =>
  intro vs tm tm' tmps h hv hT
  cases vs with
  | nil => have h : (none : Option (T AV)) = some tm' := h; simp at h
  | cons v vs =>
   have h : j4Q size t v tm (z8O size ts vs) = some tm' := h
   obtain ⟨h1, h⟩ := z0c h
   rw [z2b, T.setK_eq] at h
   obtain ⟨e1, e2⟩ := ih h hv.2 (hT.put (z1r h1) hv.1)
   exact ⟨by simp [e1], e2⟩
theorem q4T {b : Frame} {tm : Array Value} {df : List Deferred} {c : Frame} {cs : List Frame} {w : World} {l : Nat} {r : Loop} (hb : b.roundOf = some l) (hk : b.kind = .normal)
  (h : w.heap[l]? = some (.loop r)) {todo : List Item} {jump : Option Code}
  (ht : todo = [] ∧ jump = none ∨ (∃ k, todo = .code .ret :: k) ∧ jump = some .ret ∨ (∃ id k, todo = .code (.exit id) :: k ∧ exitTo id k = none ∧ jump = some (.exit id)) ∨
   (∃ id k, todo = .code (.goto id) :: k ∧ gotoIn id k = none ∧ jump = some (.goto id))) :
  step P (lone (fat b tm df todo) (c :: cs) w) =
   .next (lone (c.finish (.bool jump.isNone)) cs { w with heap := w.heap.setIfInBounds l (.loop { r with state := if jump.isNone then .ready else .done, pending := jump }) }) := by
 have e : (Instr.endRound l jump).run P w = .ok (.bool jump.isNone) { w with heap := w.heap.setIfInBounds l (.loop { r with state := if jump.isNone then .ready else .done, pending := jump }) } := by
  simp only [Instr.endRound, Sem.run_bind, z3u h, Result.andThen_ok, z6e h, Sem.run_pure]
 rcases ht with ⟨rfl, rfl⟩ | ⟨⟨k, rfl⟩, rfl⟩ | ⟨id, k, rfl, hx, rfl⟩ | ⟨id, k, rfl, hx, rfl⟩ <;>
  exact step_lone_go (by simp_all [stepG, stepG.exec, fat, doReturn])
theorem q1I {b : Frame} {tm : Array Value} {df : List Deferred} {k : List Item} {cs : List Frame} {w : World} {l : Nat} {r : Loop} (hb : b.roundOf = some l) (h : w.heap[l]? = some (.loop r)) (hr : r.state = .ready) :
  step P (lone (fat b tm df (.beginRound :: k)) cs w) = .next (lone (fat b tm df k) cs { w with heap := w.heap.setIfInBounds l (.loop { r with state := .busy }) }) := by
 have e : (Instr.beginRound l).run P w = .ok () { w with heap := w.heap.setIfInBounds l (.loop { r with state := .busy }) } := by
  simp only [Instr.beginRound, Sem.run_bind, z3u h, Result.andThen_ok, z6e h, hr, Sem.run_pure]
 exact step_lone_go (by simp [stepG, stepG.exec, fat, stepG.apply, hb, e, Frame.finish])
theorem j0s (hF : FnsOk P G F) : ∀ l args H outs, yldB F l args H = some outs → ∀ (ρ : Env) (D : Nat → Prop) (w : World) (c : Frame) (cs : List Frame), HRel G ρ D w H → okL ρ D args → D l →
  ∃ fn tm assign body, (Instr.yield (ρ.blk l) (concL ρ args).toArray).run P w = .ok (.round (ρ.blk l) fn tm assign body) w ∧
  ∃ p ∈ outs, ∃ ρ' D' w', HRel G ρ' D' w' p.2 ∧ Ext H ρ D p.2 ρ' D' ∧ okV ρ' D' p.1 ∧
   Steps P (lone (Frame.round (ρ.blk l) fn tm assign body .normal) (c :: cs) w) (lone (c.finish (conc ρ' p.1)) cs w') := by
 intro l args H outs h ρ D w c cs hH ha hl
 obtain ⟨r, hr, h⟩ := z0a h
 obtain ⟨hb, r', hw, hrel⟩ := z4i hH hl hr
 obtain ⟨h1, h2, h3, h4, h5, h6, h7, h8⟩ := id hrel
 obtain ⟨tm, htm, h⟩ := z0a h
 obtain ⟨outs₁, ho₁, hall₁⟩ := z0w h
 obtain ⟨e1, e2⟩ := q3o htm ha h3
 have hlen : (concL ρ args).length = args.length := by simp [z0i]
 refine ⟨r'.fn, (r'.params.zip (concL ρ args).toArray).foldl (fun tmps (t, a) => tmps.setIfInBounds t a) r'.tmps, r'.assign, r'.body, ?_, ?_⟩
 ·have hsz : ¬ ((concL ρ args).toArray.size ≠ r'.params.size) := by rw [h4]; simp [hlen, e1]
  simp only [Instr.yield, Sem.run_bind, z3u hw, Result.andThen_ok, if_neg hsz, Sem.run_pure]
 let b : Frame := { fn := r'.fn, tmps := #[], todo := [], defers := [], mode := .run, kind := .normal, roundOf := some (ρ.blk l) }
 have htm' : (r'.params.zip (concL ρ args).toArray).foldl (fun tmps (t, a) => tmps.setIfInBounds t a) r'.tmps = (r.params.zip (concL ρ args)).foldl (fun tmps (t, a) => tmps.setIfInBounds t a) r'.tmps := by
  rw [h4, ← Array.foldl_toList]; simp
 rw [htm']
 have hround : Frame.round (ρ.blk l) r'.fn ((r.params.zip (concL ρ args)).foldl (fun tmps (t, a) => tmps.setIfInBounds t a) r'.tmps) r'.assign r'.body .normal =
   fat b ((r.params.zip (concL ρ args)).foldl (fun tmps (t, a) => tmps.setIfInBounds t a) r'.tmps) [] [.code r'.assign, .beginRound, .code r'.body] := rfl
 rw [hround, h5, h6]
 obtain ⟨p, hp, ρ₁, D₁, w₁, tm₁, df₁, g1, g2, g3⟩ := hF.code r.assign ⟨some l, r.size⟩ ⟨tm, H, []⟩ outs₁ ho₁ ρ D w _ [] b [.beginRound, .code r.body] (c :: cs) ⟨hH, e2, trivial⟩ ⟨hl, rfl⟩
 have g3 := Arr.of_steps (P := P) z0D g3
 obtain ⟨x₁, hx₁, hin₁⟩ := hall₁ p hp
 obtain ⟨hn, hx₁⟩ := z0c hx₁
 have hnorm : p.1 = .normal := by
  cases hp1 : p.1 <;> rw [hp1] at hn <;> simp [z2N] at hn ⊢
 rw [hnorm] at g3
 have g3 : Steps P _ _ := g3
 obtain ⟨s₂, hs₂, hx₁⟩ := z0a hx₁
 obtain ⟨r₂, hr₂, hs₂⟩ := z0a hs₂
 have hl₁ : D₁ l := g2.sub.dom _ hl
 have hblk : ρ₁.blk l = ρ.blk l := g2.sub.blk _ hl
 obtain ⟨hb₂, r₂', hw₂, hrel₂⟩ := z4i g1.h hl₁ hr₂
 obtain ⟨k1, k2, k3, k4, k5, k6, k7, k8⟩ := id hrel₂
 obtain ⟨hready, hs₂⟩ := z0c hs₂
 have hready : r₂.state = .ready := by
  unfold q9z at hready
  split at hready
  ·assumption
  ·simp at hready
 rw [z2m] at hs₂
 simp only [Option.some.injEq] at hs₂; subst hs₂
 have hH₂ := q0G (r := ⟨.busy, r₂.pending, r₂.size, r₂.tmps, r₂.params, r₂.assign, r₂.body, r₂.defers⟩) (r' := { r₂' with state := .busy }) g1.h hl₁ hb₂ ⟨rfl, k2, k3, k4, k5, k6, k7, k8⟩
 obtain ⟨outs₃, ho₃, hall₃⟩ := z0w hx₁
 have hstep := q1I (P := P) (b := b) (tm := tm₁) (df := df₁) (k := [.code r.body]) (cs := c :: cs) (l := ρ.blk l) rfl (by rw [← hblk]; exact hw₂) (k1.trans hready)
 rw [hblk] at hH₂
 obtain ⟨q, hq, ρ₃, D₃, w₃, tm₃, df₃, f1, f2, f3⟩ := hF.code r.body ⟨some l, r.size⟩ _ outs₃ ho₃ ρ₁ D₁ _ tm₁ df₁ b [] (c :: cs) ⟨hH₂, g1.t, g1.d⟩ ⟨hl₁, by rw [hblk]⟩
 have f3 := Arr.of_steps (P := P) ((g3.trans (.one hstep)).trans z0D) f3
 obtain ⟨x₃, hx₃, hin₃⟩ := hall₃ q hq
 obtain ⟨_, hx₃⟩ := z0c hx₃
 obtain ⟨r₄, hr₄, hx₃⟩ := z0a hx₃
 rw [z2m] at hx₃
 simp only [Option.some.injEq] at hx₃; subst hx₃
 have hl₃ : D₃ l := f2.sub.dom _ hl₁
 have hblk₃ : ρ₃.blk l = ρ.blk l := (f2.sub.blk _ hl₁).trans hblk
 obtain ⟨hb₄, r₄', hw₄, hrel₄⟩ := z4i f1.h hl₃ hr₄
 obtain ⟨m1, m2, m3, m4, m5, m6, m7, m8⟩ := id hrel₄
 rw [hblk₃] at hw₄
 have fin : ∀ (jump : Option Code) (todo : List Item), q9y q.1 = jump → z2N q.1 = jump.isNone → (todo = [] ∧ jump = none ∨ (∃ k, todo = .code .ret :: k) ∧ jump = some .ret ∨
    (∃ id k, todo = .code (.exit id) :: k ∧ exitTo id k = none ∧ jump = some (.exit id)) ∨ (∃ id k, todo = .code (.goto id) :: k ∧ gotoIn id k = none ∧ jump = some (.goto id))) →
   Steps P (lone (fat b ((r.params.zip (concL ρ args)).foldl (fun tmps (t, a) => tmps.setIfInBounds t a) r'.tmps) [] [.code r.assign, .beginRound, .code r.body]) (c :: cs) w)
    (lone (fat b tm₃ df₃ todo) (c :: cs) w₃) →
   ∃ p ∈ outs, ∃ ρ' D' w', HRel G ρ' D' w' p.2 ∧ Ext H ρ D p.2 ρ' D' ∧ okV ρ' D' p.1 ∧
    Steps P (lone (fat b ((r.params.zip (concL ρ args)).foldl (fun tmps (t, a) => tmps.setIfInBounds t a) r'.tmps) [] [.code r.assign, .beginRound, .code r.body]) (c :: cs) w) (lone (c.finish (conc ρ' p.1)) cs w') := by
  intro jump todo hj hjn ht hs
  have hst : (if jump.isNone then LoopState.ready else .done) = (bif z2N q.1 then .ready else .done) := by
   rw [hjn]; cases jump <;> rfl
  have hH₅ := q0G (r := ⟨bif z2N q.1 then .ready else .done, q9y q.1, r₄.size, r₄.tmps, r₄.params, r₄.assign, r₄.body, r₄.defers⟩)
   (r' := { r₄' with state := if jump.isNone then .ready else .done, pending := jump }) f1.h hl₃ hb₄ ⟨hst, hj.symm, m3, m4, m5, m6, m7, m8⟩
  rw [hblk₃] at hH₅
  refine ⟨_, hin₁ _ (hin₃ _ (List.mem_singleton.2 rfl)), ρ₃, D₃, _, hH₅, ?_, trivial, hs.trans (.one ?_)⟩
  ·exact ((g2.trans (.same _ _ (Heap.next_put _ _ _))).trans f2).trans (.same _ _ (Heap.next_put _ _ _))
  ·have := q4T (P := P) (b := b) (tm := tm₃) (df := df₃) (c := c) (cs := cs) (l := ρ.blk l) rfl rfl hw₄ ht
   rw [this]
   simp only [conc, hjn]
 obtain ⟨e, s₄⟩ := q
 cases e with
 | normal => exact fin none [] rfl rfl (.inl ⟨rfl, rfl⟩) f3
 | ret =>
  obtain ⟨k', hk⟩ := f3
  exact fin (some .ret) _ rfl rfl (.inr (.inl ⟨⟨k', rfl⟩, rfl⟩)) hk
 | exit id =>
  obtain ⟨k', hk1, hk⟩ := f3
  exact fin (some (.exit id)) _ rfl rfl (.inr (.inr (.inl ⟨id, k', rfl, hk1, rfl⟩))) hk
 | goto id =>
  obtain ⟨k', hk1, hk⟩ := f3
  exact fin (some (.goto id)) _ rfl rfl (.inr (.inr (.inr ⟨id, k', rfl, hk1, rfl⟩))) hk
end
end Go.Sx
namespace Go.Sx
section
variable {P : Program} {G : Tab} {F : Fns}
theorem q4U {b : Frame} {tm : Array Value} {df : List Deferred} {k : List Item} {cs : List Frame} {w : World} {l : Nat} {r : Loop} (h : w.heap[l]? = some (.loop r)) (hr : r.state ≠ .busy) :
  step P (lone (fat b tm df (.endRangeFunc l :: k)) cs w) =
   .next (lone (fat b tm df ((r.pending.map Item.code).toList ++ k)) cs { w with heap := w.heap.setIfInBounds l (.loop { r with state := .exhausted }) }) := by
 have hb : (r.state == .busy) = false := by
  cases hs : r.state <;> first | exact absurd hs hr | rfl
 have e : (Instr.endLoop l).run P w = .ok r.pending { w with heap := w.heap.setIfInBounds l (.loop { r with state := .exhausted }) } := by
  simp only [Instr.endLoop, Sem.run_bind, z3u h, Result.andThen_ok, hb, Bool.false_eq_true, if_false, z6e h, Sem.run_pure]
 exact step_lone_go (by simp [stepG, stepG.exec, fat, e])
theorem q4V {l : Nat} {tmA : T AV} {dfA : List ADefer} {H : Heap} {outs : List (Ex × St)} (h : q6s l tmA dfA H = some outs) {ρ : Env} {D : Nat → Prop} {w : World} {size : Nat} {tm : Array Value}
  {df : List Deferred} (hS : SRel G ρ D w size ⟨tmA, H, dfA⟩ tm df) (hl : D l) (b : Frame) (k : List Item) (cs : List Frame) :
  Lands P G ρ D size H (lone (fat b tm df (.endRangeFunc (ρ.blk l) :: k)) cs w) b cs k outs := by
 obtain ⟨r, hr, h⟩ := z0a h
 obtain ⟨hb, r', hw, hrel⟩ := z4i hS.h hl hr
 obtain ⟨h1, h2, _⟩ := id hrel
 obtain ⟨hnb, h⟩ := z0c h
 obtain ⟨e, he, h⟩ := z0a h
 rw [z2m] at h
 simp only [Option.some.injEq] at h; subst h
 have hnb : r'.state ≠ .busy := by
  rw [h1]; intro hs; rw [hs] at hnb; simp [q9u] at hnb
 have hlose := hS.h.lose (w' := { w with heap := w.heap.setIfInBounds (ρ.blk l) (.loop { r' with state := .exhausted }) }) hl hb (fun j hj => by simp [Array.getElem?_setIfInBounds_ne (Ne.symm hj)]) (fun h => h)
 refine ⟨_, List.mem_singleton.2 rfl, ρ, D, _, tm, df, ⟨hlose, hS.t, hS.d⟩, .same _ _ (Heap.next_put _ _ _), ?_⟩
 refine Arr.of_steps (.one (q4U hw hnb)) ?_
 rw [h2]
 unfold exOf at he
 split at he
 ·rename_i hp
  simp only [Option.some.injEq] at he; subst he
  rw [hp]
  exact .refl _ _
 ·rename_i cd hp
  rw [hp]
  unfold q6r at he
  split at he <;> simp only [Option.some.injEq, reduceCtorEq] at he <;> subst he
  ·exact ⟨k, .refl _ _⟩
  ·exact ⟨k, rfl, .refl _ _⟩
  ·exact ⟨k, rfl, .refl _ _⟩
theorem z6B {b : Frame} {tm : Array Value} {df mark : List Deferred} {k : List Item} {cs : List Frame} {w w' : World} {f : Operand} {ps : Array Tmp} {x y : Code} {l : Nat} {v : Value}
  (h : (Instr.enterLoop b.fn tm ps x y b.roundOf).run P w = .ok (l, mark) w') (hv : (fat b tm df []).eval f = v) :
  Applies P (lone (fat b tm df (.code (.rangeFunc f ps x y) :: k)) cs w) (fat b tm (mark ++ df) (.inRangeFunc l :: k)) cs
   (do let d ← Deferred.ofValue v #[.func (.yield l) #[] #[]]; invoke d.target d.args) w' := by
 intro fr' cs' w'' hb
 refine step_lone_go ?_
 have hv' : (fat b tm (mark ++ df) (.inRangeFunc l :: k)).eval f = v := by rw [← hv]; cases f <;> rfl
 have e : (do let d ← resolve (fat b tm (mark ++ df) (.inRangeFunc l :: k)).eval { callee := .value f, args := #[.const (.func (.yield l) #[] #[])], argTypes := #[] } 0; invoke d.target d.args : Sem Next) =
   (do let d ← Deferred.ofValue v #[.func (.yield l) #[] #[]]; invoke d.target d.args) := by
  simp only [resolve, hv']
  simp only [List.map_toArray, List.map_cons, List.map_nil, Frame.eval]
 rw [← e] at hb
 simp only [fat] at h hb ⊢
 simp only [stepG, stepG.exec, Sem.runT_eq, h, GStep.bare_after]
 exact hb
theorem z9k (hF : FnsOk P G F) {c : Ctx} {ps : List Tmp} {x y : Code} {s : St} {dfA : List ADefer} {r : Nat} {H : Heap} {v : AV} {outs : List (Ex × St)} (h : z8g F c ps x y s dfA r H v = some outs)
  {ρ : Env} {D : Nat → Prop} {w : World} {tm : Array Value} {df : List Deferred} (hS : SRel G ρ D w c.size ⟨s.tm, H, dfA⟩ tm df) (hr : D r) (hv : okV ρ D v) {b : Frame} {k : List Item} {cs : List Frame} {m : Machine} {fnn : FuncId}
  (ha : Applies P m (fat b tm df (.inRangeFunc w.heap.size :: k)) cs (do let d ← Deferred.ofValue (conc ρ v) #[.func (.yield w.heap.size) #[] #[]]; invoke d.target d.args)
   { w with heap := w.heap.push (.loop { state := .ready, pending := none, fn := fnn, tmps := tm, params := ps.toArray, assign := x, body := y, defers := ρ.blk r }) }) :
  Lands P G ρ D c.size H m b cs k outs := by
 unfold z8g at h
 rw [z1Y] at h
 obtain ⟨l, hl, hall⟩ := z0w h
 have hfresh : ¬ D H.next := fun hd => Nat.lt_irrefl _ (hS.h.lt _ hd)
 have hsub := ρ.at_sub hfresh w.heap.size 0 0
 obtain ⟨r1, r2⟩ := hS.h.pushEnd (w' := { w with heap := w.heap.push (.loop { state := .ready, pending := none, fn := fnn, tmps := tm, params := ps.toArray, assign := x, body := y, defers := ρ.blk r }) })
  (.loop ⟨.ready, none, c.size, s.tm, ps, x, y, r⟩) (.loop { state := .ready, pending := none, fn := fnn, tmps := tm, params := ps.toArray, assign := x, body := y, defers := ρ.blk r }) 0 rfl
  ⟨{ state := .ready, pending := none, fn := fnn, tmps := tm, params := ps.toArray, assign := x, body := y, defers := ρ.blk r }, by simp [Env.at], rfl, rfl, hS.t.sub hsub, rfl, rfl, rfl, (hsub.blk r hr).symm, .inl hr⟩
 have hblk : (ρ.at H.next w.heap.size 0 0).blk H.next = w.heap.size := by simp [Env.at]
 have hcall := q3g hF hl (P := P) (ρ := ρ.at H.next w.heap.size 0 0) (D := fun x => D x ∨ x = H.next) r1 (show okL _ _ [AV.yld H.next] from ⟨.inr rfl, trivial⟩) (hsub.ok hv)
 obtain ⟨p, hp, ρ', D', w', g1, g2, g3, g4⟩ := hcall m (fat b tm df (.inRangeFunc w.heap.size :: k)) cs (fun _ _ _ _ _ h => by simp [fat] at h) (by
  rw [hsub.eq hv]
  simpa [concL, conc, hblk] using ha)
 obtain ⟨z, hz, hin⟩ := hall p hp
 have hl' : D' H.next := g2.sub.dom _ (.inr rfl)
 have hblk' : ρ'.blk H.next = w.heap.size := (g2.sub.blk _ (.inr rfl)).trans hblk
 have hfin : (fat b tm df (.inRangeFunc w.heap.size :: k)).finish (conc ρ' p.1) = fat b tm df (.endRangeFunc w.heap.size :: k) := rfl
 rw [hfin] at g4
 have := q4V (P := P) hz (size := c.size) (tm := tm) (df := df) ⟨g1, (hS.t.sub r2.sub).sub g2.sub, (DfRel.sub r2.sub hS.d).sub g2.sub⟩ hl' b k cs
 rw [hblk'] at this
 exact (Lands.of_steps g4 (Lands.ext (r2.trans g2) this)).mono hin
theorem z3d (hF : FnsOk P G F) (f : Operand) (ps : Array Tmp) (x y : Code) : z1i P G (z6Z f ps x y F G) (.rangeFunc f ps x y) := by
 intro c s outs h ρ D w tm df b k cs hS hR
 obtain ⟨v, hv, h⟩ := z0a h
 obtain ⟨e1, e2⟩ := z1P (fr := fat b tm df []) hS.h hS.t f v hv
 cases hc : c.rnd with
 | none =>
  rw [hc] at h hR
  have hb : b.roundOf = none := hR
  rw [z1Y] at h
  have hfresh : ¬ D s.h.next := fun hd => Nat.lt_irrefl _ (hS.h.lt _ hd)
  have hsub := ρ.at_sub hfresh w.heap.size 0 0
  obtain ⟨r1, r2⟩ := hS.h.pushEnd (w' := { w with heap := w.heap.push (.deferred (some [])) }) .deferred (.deferred (some [])) 0 rfl (show _ = _ by simp [Env.at])
  have hblk : (ρ.at s.h.next w.heap.size 0 0).blk s.h.next = w.heap.size := by simp [Env.at]
  have henter : (Instr.enterLoop b.fn tm ps x y b.roundOf).run P w = .ok (w.heap.size + 1, [{ target := .collected w.heap.size, args := #[] }])
    { w with heap := (w.heap.push (.deferred (some []))).push (.loop { state := .ready, pending := none, fn := b.fn, tmps := tm, params := ps, assign := x, body := y, defers := w.heap.size }) } := by
   simp [Instr.enterLoop, hb]
   rfl
  have ha := z6B (P := P) (df := df) (k := k) (cs := cs) henter e1
  refine Lands.ext r2 (z9k (P := P) hF h (ρ := ρ.at s.h.next w.heap.size 0 0) (D := fun x => D x ∨ x = s.h.next) (w := { w with heap := w.heap.push (.deferred (some [])) }) (tm := tm)
   (df := [{ target := .collected w.heap.size, args := #[] }] ++ df) ⟨r1, hS.t.sub hsub, (show DfRel _ _ (ADefer.collected s.h.next :: s.df) ({ target := .collected w.heap.size, args := #[] } :: df) from ⟨⟨.inr rfl, by rw [hblk]⟩, DfRel.sub hsub hS.d⟩)⟩ (.inr rfl) (hsub.ok e2) (fnn := b.fn) ?_)
  rw [hblk, hsub.eq e2]
  simp only [Array.size_push, Array.toArray_toList]
  exact ha
 | some l₀ =>
  rw [hc] at h hR
  obtain ⟨hD, hb⟩ := hR
  obtain ⟨r₀, hr₀, h⟩ := z0a h
  obtain ⟨hb₀, r', hw, hrel⟩ := z4i hS.h hD hr₀
  obtain ⟨_, _, _, _, _, _, h7, h8⟩ := id hrel
  have henter : (Instr.enterLoop b.fn tm ps x y b.roundOf).run P w = .ok (w.heap.size, [])
    { w with heap := w.heap.push (.loop { state := .ready, pending := none, fn := b.fn, tmps := tm, params := ps, assign := x, body := y, defers := ρ.blk r₀.defers }) } := by
   simp [Instr.enterLoop, hb, z3u hw, h7]
  have ha := z6B (P := P) (df := df) (k := k) (cs := cs) henter e1
  refine z9k (P := P) hF h (tm := tm) (df := df) ⟨hS.h, hS.t, hS.d⟩ h8 e2 (fnn := b.fn) ?_
  simp only [Array.toArray_toList]
  exact ha
theorem j9Q (TT : TabOk P G) (hD : ∀ F, FnsOk P G F → j0p P G F) : ∀ n, FnsOk P G (fns G n) := by
 intro n
 induction n with
 | zero =>
  refine ⟨fun x c s outs h => ?_, fun body rest c s outs h => ?_, fun f args H outs h => ?_, fun l args H outs h => ?_, fun f args H outs h => ?_⟩
  ·have h : (none : Outs) = some outs := h; simp at h
  ·have h : (none : Outs) = some outs := h; simp at h
  ·have h : (none : Option (List VH)) = some outs := h; simp at h
  ·have h : (none : Option (List VH)) = some outs := h; simp at h
  ·have h : (none : Option (List VH)) = some outs := h; simp at h
 | succ n ih =>
  have hB := z8j ih (z5w TT ih (hD _ ih)) (z3d ih)
  exact ⟨fun x => hB x, q3e ih hB, fun f args H outs h ρ D w kind cs => z8k TT ih f args H outs h ρ D w kind.1 cs, j0s ih, fun f args H outs h ρ D w cs => z8k TT ih f args H outs h ρ D w .deferred cs⟩
end
end Go.Sx
