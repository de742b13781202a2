/-
  Scopes, choices of a range, drawn regions; a reading of the arguments as the executor sees it.
-/
import Derived.Test.YtnhnepmjdgfelaaGreatDoorSxG
import Derived.Test.YtnhnepmjdgfelaaGreatDoorSxF
set_option linter.unusedSimpArgs false
set_option linter.unusedVariables false
namespace Go.Sx
section
variable {P : Program} {G : Tab} {F : Fns} {c : Ctx} {s : St} {Q : Ex → St → Prop}
theorem Gets.scope {x : Code} (h : Gets P G c x s fun e s' => match e with | .goto _ => False | e => Q e s') : Gets P G c (.scope x) s Q :=
 fun ρ D w tm df b k cs hS hR => by
  obtain ⟨e, s', h1, ρ', D', w', tm', df', g1, g2, g3⟩ := h ρ D w tm df b (.inScope x :: k) cs hS hR
  have first : Steps P (lone (fat b tm df (entry (.scope x) k)) cs w) (lone (fat b tm df (entry x (.inScope x :: k))) cs w) := Steps.head st_scope st_entry
  cases e with
  | normal => exact ⟨.normal, s', h1, ρ', D', w', tm', df', g1, g2, first.trans (Steps.trans g3 (.one st_inScope))⟩
  | exit j => exact ⟨_, s', h1, ρ', D', w', tm', df', g1, g2, Arr.of_steps first (Arr.pass (x := .inScope x) (by simp) (fun _ _ => rfl) (fun _ h => by simp at h) g3)⟩
  | ret => exact ⟨_, s', h1, ρ', D', w', tm', df', g1, g2, Arr.of_steps first g3⟩
  | goto l => exact h1.elim
theorem Gets.label (TT : TabOk P G) {l : Nat} (h : Q .normal s) : Gets P G c (.label l) s Q := Gets.last TT (ov := noOv) noOv_ok 0 rfl h
theorem eachL_map {α β : Type} {f : α → Option (List β)} {g : α → β} : ∀ {l : List α}, (∀ a ∈ l, f a = some [g a]) → eachL f l = some (l.map g)
 | [], _ => rfl
 | a :: l, h => by
  show appO (f a) (eachL f l) = _
  rw [h a List.mem_cons_self, eachL_map fun a ha => h a (List.mem_cons_of_mem _ ha)]
  rfl
theorem bindL_map {α β : Type} {f : α → Option (List β)} {g : α → β} {l : List α} (h : ∀ a ∈ l, f a = some [g a]) : bindL (some l) f = some (l.map g) := by
 show each1 f l = _
 match l, h with
 | [], _ => rfl
 | [a], h => exact h a List.mem_cons_self
 | a :: b :: l, h => exact eachL_map h
theorem outs_map (df : List ADefer) (l : List VH) : outs df (some l) = some (l.map fun p => (p.1, df, p.2)) := by
 match l with
 | [] => rfl
 | [_] => rfl
 | _ :: _ :: _ => rfl
theorem normals_map (l : List St) : normals (some l) = some (l.map fun s => (.normal, s)) := by
 match l with
 | [] => rfl
 | [_] => rfl
 | _ :: _ :: _ => rfl
def headT (v : AV) : AV :=
 match v with
 | .tuple (v :: _) => v
 | _ => undefA
theorem Gets.next (TT : TabOk P G) {id : Nat} {x d e : Tmp} {t t' : TypeId} {p p' : String} {a a' : Array Edge} {it : Nat} {l : List VH} (hx : s.tm.get x = some (.ptr it 0)) (hd : d < c.size) (he : e < c.size)
  (hn : nextA s.h (.ptr it 0) false = some l) (hl : ∀ p ∈ l, ∃ v vs, p.1 = .tuple (v :: vs) ∧ Q .normal ⟨(s.tm.set d (some p.1)).set e (some v), p.2, s.df⟩) :
  Gets P G c (.region id #[⟨some d, .next (.tmp x) false, t, p, a, none⟩, ⟨some e, .extract (.tmp d) 0, t', p', a', none⟩] false) s Q := by
 refine Gets.runs TT (ov := noOv) noOv_ok 0 ?_
 have e1 : codeB (.region id #[⟨some d, .next (.tmp x) false, t, p, a, none⟩, ⟨some e, .extract (.tmp d) 0, t', p', a', none⟩] false) (fnsO G noOv 0) G c s =
   normals (seqOps [⟨some d, .next (.tmp x) false, t, p, a, none⟩, ⟨some e, .extract (.tmp d) 0, t', p', a', none⟩] (fnsO G noOv 0) G c [⟨some d, .next (.tmp x) false, t, p, a, none⟩, ⟨some e, .extract (.tmp d) 0, t', p', a', none⟩] s) := rfl
 have e2 : opE (.next (.tmp x) false) (fnsO G noOv 0) G c s.tm s.df s.h = some (l.map fun p => (p.1, s.df, p.2)) := by
  show outs s.df (bindO (orUndef (s.tm.get x)) fun v => nextA s.h v false) = _
  rw [hx]
  show outs s.df (nextA s.h (.ptr it 0) false) = _
  rw [hn, outs_map]
 have e3 : ∀ q ∈ (l.map fun p => (p.1, s.df, p.2)), (fun (p₀ : EOut) => putTm c s.tm (some d) p₀.1 fun tm => seqOps [⟨some e, .extract (.tmp d) 0, t', p', a', none⟩] (fnsO G noOv 0) G c [⟨some d, .next (.tmp x) false, t, p, a, none⟩, ⟨some e, .extract (.tmp d) 0, t', p', a', none⟩] ⟨tm, p₀.2.2, p₀.2.1⟩) q =
   some [(fun q : EOut => (⟨(s.tm.set d (some q.1)).set e (some (headT q.1)), q.2.2, s.df⟩ : St)) q] := by
  intro q hq
  obtain ⟨p₁, hp₁, rfl⟩ := List.mem_map.1 hq
  obtain ⟨v, vs, hv, _⟩ := hl p₁ hp₁
  show putTm c s.tm (some d) p₁.1 _ = _
  rw [s_putTm, if_pos hd, z_ops]
  show stepN (withH p₁.2 (bindO (orUndef ((s.tm.set d (some p₁.1)).get d)) (extractA 0))) (some e) [] _ G c _ _ = _
  rw [T.get_set_eq, hv]
  show stepN (withH p₁.2 (nth (v :: vs) 0)) (some e) [] _ G c _ _ = _
  rw [nth_eq]
  show stepN (some (v, p₁.2)) (some e) [] _ G c _ _ = _
  rw [z_N _ _ _ _ _ _ _ he]; rfl
 refine ⟨l.map fun p => (.normal, ⟨(s.tm.set d (some p.1)).set e (some (headT p.1)), p.2, s.df⟩), ?_, fun q hq => ?_⟩
 ·rw [e1, z_ops]
  show normals (stepE (opE (.next (.tmp x) false) (fnsO G noOv 0) G c s.tm s.df s.h) (some d) _ _ G c _ s) = _
  rw [e2]
  unfold stepE
  rw [bindL_map e3, normals_map, List.map_map, List.map_map]; rfl
 ·obtain ⟨p₁, hp₁, rfl⟩ := List.mem_map.1 hq
  obtain ⟨v, vs, hv, hQ⟩ := hl p₁ hp₁
  show Q .normal ⟨(s.tm.set d (some p₁.1)).set e (some (headT p₁.1)), p₁.2, s.df⟩
  have : headT p₁.1 = v := by rw [hv]; rfl
  rw [this]; exact hQ
theorem z_opRange (t : TypeId) (x : Operand) (tm : T AV) (df : List ADefer) (H : Heap) : opE (.range t x) F G c tm df H = out2 df (bindO (aev G tm x) (rangeA G H t)) := rfl
theorem z_opEntry (x : Operand) (tm : T AV) (H : Heap) : opN (.entry x) G tm H = withH H (bindO (aev G tm x) (entryA H)) := rfl
theorem z_opMF (f : FuncId) (a b : List Operand) (tm : T AV) (H : Heap) : opN (.makeFunc (.func f) a.toArray b.toArray) G tm H = withH H (bindO (aevs G tm a) fun a => bindO (aevs G tm b) fun b => some (.func (.func f) a b)) := rfl
noncomputable def appR (G : Tab) (H : Heap) (ts : List TypeId) (xs : Option (List AV)) : Option VH := bindO xs fun xs => appendA G H ts xs
theorem z_opApp (as : List Operand) (ts : List TypeId) (tm : T AV) (df : List ADefer) (H : Heap) :
  opE (.call ⟨.builtin .append, as.toArray, ts.toArray⟩) F G c tm df H = bindO (aevs G tm as) fun args => out2 df (appendA G H ts args) := rfl
theorem z_opBS1 (G : Tab) (t : TypeId) (n : Nat) (ps : List (Nat × Operand)) (tm : T AV) (H : Heap) : opN (.buildSlice t n ps.toArray) G tm H = bindO (evParts G tm ps) (buildSliceA G H t n) := rfl
noncomputable def chainM (l : List RO) (done : Nat) : Bool := List.rec (fun _ => true) (fun r _ ih m => bif ready r m then ih (Nat.lor m (Nat.pow 2 r.i)) else false) l done
theorem chainM_cons {r : RO} {A : List RO} {m : Nat} (h : chainM (r :: A) m = true) : ready r m = true ∧ chainM A (Nat.lor m (Nat.pow 2 r.i)) = true := by
 have h : (bif ready r m then chainM A (Nat.lor m (Nat.pow 2 r.i)) else false) = true := h
 cases hr : ready r m
 ·rw [hr] at h; simp at h
 ·rw [hr] at h; exact ⟨rfl, h⟩
theorem satur_runM {c : Ctx} {all : List Oper} {R : List RO} {k : DK} : ∀ {A : List RO} {d : DS}, chainM A d.done = true → satur G c all (A ++ R) k d = bindO (runA G c all A d) (satur G c all R k)
 | [], d, _ => rfl
 | r :: A, d, h => by
  obtain ⟨h1, h2⟩ := chainM_cons h
  rw [runA_cons, bindO_assoc]
  show saturStep G c all r (satur G c all (A ++ R)) k d = _
  have hc : ∀ d', stepA G c all r d = some d' → satur G c all (A ++ R) k d' = bindO (runA G c all A d') (satur G c all R k) := fun d' hd' => satur_runM (by rw [stepA_done hd']; exact h2)
  have : bindO (stepA G c all r d) (satur G c all (A ++ R) k) = bindO (stepA G c all r d) fun d' => bindO (runA G c all A d') (satur G c all R k) := by
   cases hs : stepA G c all r d with
   | none => rfl
   | some d' => exact hc d' hs
  rw [← this]
  unfold saturStep stepA
  rw [h1, cond_true, bindO_ite, ← saturDo_eq, ← saturSkip_eq]
theorem seqOps_runM {c : Ctx} {all : List Oper} {rest : List Oper} : ∀ {A : List RO} {d : DS} {m : Nat}, KindsOk A → chainM A m = true → seqOps (A.map (·.o) ++ rest) F G c all d.s = bindO (runA G c all A d) fun d' => seqOps rest F G c all d'.s
 | [], _, _, _, _ => rfl
 | r :: A, d, m, hk, h => by
  obtain ⟨h1, h3⟩ := chainM_cons h
  rw [List.map_cons, List.cons_append, seqOps_step (hk r List.mem_cons_self) (ready_eff h1), runA_cons, bindO_assoc]
  congr 1; funext e
  exact seqOps_runM (fun r hr => hk r (List.mem_cons_of_mem _ hr)) h3
theorem nextEff_atM {done : Nat} {e : RO} {B : List RO} : ∀ {A : List RO} {m : Nat}, chainM A m = true → isEff e.kind = true → Nat.testBit done e.i = false → nextEff done (A ++ e :: B) = some e
 | [], _, _, he, hb => by
  show (bif isEff e.kind then (bif Nat.testBit done e.i then nextEff done B else some e) else nextEff done B) = some e
  rw [he, hb]; rfl
 | r :: A, m, h, he, hb => by
  obtain ⟨h1, h3⟩ := chainM_cons h
  show (bif isEff r.kind then (bif Nat.testBit done r.i then nextEff done (A ++ e :: B) else some r) else nextEff done (A ++ e :: B)) = some e
  rw [ready_eff h1]; exact nextEff_atM h3 he hb
end
end Go.Sx
namespace Go.Sx
section
variable {P : Program} {G : Tab} {F : Fns}
def Knows (H H' : Heap) : Prop := ∀ b o, H.blks.get b = some o → H'.blks.get b = some o
theorem cellIn_mono {H H' : Heap} (hm : Knows H H') {b off : Nat} {v : AV} (h : cellIn (H.blks.get b) off = some v) : cellIn (H'.blks.get b) off = some v := by
 cases ho : H.blks.get b with
 | none => rw [ho] at h; simp [cellIn] at h
 | some o => rw [hm b o ho]; rw [ho] at h; exact h
theorem loadCells_mono {H H' : Heap} (hm : Knows H H') {b off k : Nat} {l : List AV} (h : loadCellsA H b off k = some l) : loadCellsA H' b off k = some l := by
 rw [s_loadCells] at h ⊢
 cases hk : Nat.beq k 0
 ·rw [hk, cond_false] at h
  rw [cond_false]
  cases ho : H.blks.get b with
  | none => rw [ho] at h; simp [cellsIn] at h
  | some o => rw [hm b o ho]; rw [ho] at h; exact h
 ·rw [hk, cond_true] at h; rw [cond_true]; exact h
theorem loadVar_mono {H H' : Heap} (hm : Knows H H') {t : TypeId} {b off : Nat} {v : AV} (h : loadVarA G H t b off = some v) : loadVarA G H' t b off = some v := by
 unfold loadVarA at h ⊢
 split at h
 ·simp at h
 ·rename_i e
  obtain ⟨s, hs, h⟩ := bindO_some h
  rw [hs]
  show aggO (loadCellsA H' b off s) = _
  cases hl : loadCellsA H b off s with
  | none => rw [hl] at h; simp [aggO] at h
  | some l => rw [loadCells_mono hm hl]; rw [hl] at h; exact h
 ·exact cellIn_mono hm h
theorem mapOf_mono {H H' : Heap} (hm : Knows H H') {x : AV} {l : List AEntry} (h : mapOf H x = some l) : mapOf H' x = some l := by
 cases x
 case map r =>
  obtain ⟨p, hp, h⟩ := bindO_some h
  have hb : ∃ o, H.blks.get r = some o := by
   cases ho : H.blks.get r with
   | none => rw [ho] at hp; simp [mapIn] at hp
   | some o => exact ⟨o, rfl⟩
  obtain ⟨o, ho⟩ := hb
  show bindO (mapIn (H'.blks.get r)) (fun p => some p.1) = _
  rw [hm r o ho, ← ho, hp]; exact h
 all_goals exact h
theorem bindO_mono {α β : Type} {o o' : Option α} {f g : α → Option β} {v : β} (ho : ∀ a, o = some a → o' = some a) (hf : ∀ a v, f a = some v → g a = some v) (h : bindO o f = some v) : bindO o' g = some v := by
 obtain ⟨a, ha, h⟩ := bindO_some h
 rw [ho a ha]; exact hf a v h
theorem entry_mono {H H' : Heap} (hm : Knows H H') {x v : AV} (h : entryA H x = some v) : entryA H' x = some v := by
 unfold entryA at h ⊢
 split at h
 ·rename_i it
  cases ho : H.blks.get it with
  | none => rw [ho] at h; simp [entryIn] at h
  | some o =>
   rw [hm it o ho]
   rw [ho] at h
   cases o
   case mapIter m s l p =>
    cases m with
    | none => simp [entryIn] at h
    | some m =>
     simp only [entryIn] at h ⊢
     refine bindO_mono (fun a h => h) (fun a v h => ?_) h
     refine bindO_mono (fun a h => ?_) (fun a v h => h) h
     cases hq : H.blks.get m with
     | none => rw [hq] at h; simp [mapIn] at h
     | some o => rw [hm m o hq]; rw [hq] at h; exact h
   all_goals simp [entryIn] at h
 ·simp at h
theorem lenA_mono {H H' : Heap} (hm : Knows H H') {t : TypeId} {x v : AV} (h : lenA G H t x = some v) : lenA G H' t x = some v := by
 unfold lenA at h ⊢
 refine bindO_mono (fun a h => h) (fun d v h => ?_) h
 unfold lenD at h ⊢
 split at h
 all_goals first
  | exact bindO_mono (fun a h => mapOf_mono hm h) (fun a v h => h) h
  | exact h
theorem withH_mono {H H' : Heap} {o o' : Option AV} {p : VH} (ho : ∀ v, o = some v → o' = some v) (h : withH H o = some p) : withH H' o' = some (p.1, H') := by
 have h1 := withH_some (v := p.1) (H' := p.2) h
 rw [ho _ h1.1]; rfl
theorem opN_mono {H H' : Heap} (hm : Knows H H') {op : Op} (hk : isAlloc (kindOf op) = false) {tm : T AV} {p : VH} (h : opN op G tm H = some p) : opN op G tm H' = some (p.1, H') := by
 cases op
 case makeInterface t x =>
  obtain ⟨d, hd, h⟩ := bindO_some h
  obtain ⟨hn, h⟩ := cond_some h
  show bindO (G.und t) (fun d => bif notIface d then withH H' (bindO (aev G tm x) fun v => some (.iface t v)) else none) = _
  rw [hd]
  show (bif notIface d then withH H' (bindO (aev G tm x) fun v => some (.iface t v)) else none) = _
  rw [hn]
  exact withH_mono (fun v h => h) h
 case makeFunc fn a b =>
  obtain ⟨hp, h⟩ := cond_some h
  show (bif plainFn fn then withH H' _ else none) = _
  rw [hp]
  exact withH_mono (fun v h => h) h
 case load t x =>
  refine withH_mono (fun v h => ?_) h
  refine bindO_mono (fun a h => h) (fun a v h => ?_) h
  cases a
  case ptr b off => exact loadVar_mono hm h
  all_goals exact h
 case lookup t x k ok =>
  refine withH_mono (fun v h => ?_) h
  refine bindO_mono (fun a h => h) (fun a v h => ?_) h
  refine bindO_mono (fun a h => h) (fun j v h => ?_) h
  unfold lookupA at h ⊢
  refine bindO_mono (fun a h => h) (fun kt v h => ?_) h
  exact bindO_mono (fun l h => mapOf_mono hm h) (fun a v h => h) h
 case entry x =>
  refine withH_mono (fun v h => ?_) h
  exact bindO_mono (fun a h => h) (fun a v h => entry_mono hm h) h
 case call cl =>
  refine withH_mono (fun v h => ?_) h
  refine bindO_mono (fun a h => h) (fun b v h => ?_) h
  refine bindO_mono (fun a h => h) (fun xs v h => ?_) h
  unfold builtinN at h ⊢
  split at h
  ·exact h
  ·cases hl : cl.argTypes.toList with
   | nil => simp only [hl, fst1] at h; simp at h
   | cons t ts =>
    cases xs with
    | nil => simp only [hl, fst1] at h; simp at h
    | cons x xs =>
     simp only [hl, fst1] at h ⊢
     exact lenA_mono hm h
  all_goals exact h
 all_goals first
  | exact withH_mono (fun v h => h) h
  | (exfalso; simp [kindOf, isAlloc] at hk; done)
  | (exfalso; have h : (none : Option VH) = some p := h; simp at h)
theorem row_push {H : Heap} {e : TypeId} {x : Bool} {l : List AV} {mk : Nat → AV} {p : VH} (h : newRowA H e x l (fun b H => some (mk b, H)) = some p) :
  p = (mk H.next, H.push (.cells e x l)) ∧ ∀ H' : Heap, H'.next = H.next → newRowA H' e x l (fun b H => some (mk b, H)) = some (mk H.next, H'.push (.cells e x l)) := by
 rw [s_newRowA] at h
 cases ha : allOne l
 ·rw [ha] at h; simp at h
 ·rw [ha] at h
  have h : some (mk H.next, H.push (.cells e x l)) = some p := h
  simp only [Option.some.injEq] at h
  refine ⟨h.symm, fun H' hn => ?_⟩
  rw [s_newRowA, ha, hn]; rfl
def Mints (H : Heap) (p : VH) (f : Heap → Option VH) : Prop := ∃ o, p.2 = H.push o ∧ ABlk.beq o o = true ∧ blockOf p.1 = some H.next ∧ ∀ H' : Heap, H'.next = H.next → f H' = some (p.1, H'.push o)
theorem listBeq_refl {α : Type} {f : α → α → Bool} (hf : ∀ a, f a a = true) : ∀ l, listBeq f l l = true
 | [] => rfl
 | a :: l => by
  show (bif f a a then listBeq f l l else false) = true
  rw [hf, listBeq_refl hf l]; rfl
theorem cells_beq (e : TypeId) (x : Bool) (l : List AV) : ABlk.beq (.cells e x l) (.cells e x l) = true := by
 show (bif Nat.beq e e then (bif bbeq x x then listBeq AV.beq l l else false) else false) = true
 rw [Nat.beq_refl, listBeq_refl AV.beq_refl']; cases x <;> rfl
theorem big_beq (e : TypeId) (n : Nat) (z : List AV) : ABlk.beq (.big e n z) (.big e n z) = true := by
 show (bif Nat.beq e e then (bif Nat.beq n n then listBeq AV.beq z z else false) else false) = true
 rw [Nat.beq_refl, Nat.beq_refl, listBeq_refl AV.beq_refl']; rfl
theorem Mints.row {H : Heap} {e : TypeId} {x : Bool} {l : List AV} {mk : Nat → AV} {p : VH} (hm : ∀ b, blockOf (mk b) = some b) (h : newRowA H e x l (fun b H => some (mk b, H)) = some p) :
  Mints H p fun H => newRowA H e x l (fun b H => some (mk b, H)) := by
 obtain ⟨rfl, h2⟩ := row_push h
 exact ⟨_, rfl, cells_beq _ _ _, hm _, h2⟩
theorem Mints.bind {α : Type} {H : Heap} {p : VH} {o : Option α} {f : Heap → α → Option VH} (h : bindO o (f H) = some p) (hf : ∀ a, o = some a → f H a = some p → Mints H p fun H => f H a) : Mints H p fun H => bindO o (f H) := by
 obtain ⟨a, ha, h⟩ := bindO_some h
 obtain ⟨o', h1, h2, h3, h4⟩ := hf a ha h
 refine ⟨o', h1, h2, h3, fun H' hn => ?_⟩
 show bindO o (f H') = _
 rw [ha]; exact h4 H' hn
theorem Mints.cond {H : Heap} {p : VH} {b : Bool} {f : Heap → Option VH} (h : (bif b then f H else none) = some p) (hf : f H = some p → Mints H p f) : Mints H p fun H => bif b then f H else none := by
 cases b
 ·simp at h
 ·exact hf h
theorem newMap_makes {H : Heap} {p : VH} (h : newMap H = some p) : Mints H p newMap := by
 have e : ∀ H, newMap H = some (.map H.next, H.push (.map [] 0)) := fun H => by unfold newMap; rw [newA_eq]
 rw [e] at h
 simp only [Option.some.injEq] at h; subst h
 exact ⟨_, rfl, rfl, rfl, fun H' hn => (e H').trans (by rw [hn])⟩
theorem opN_makes {H : Heap} {op : Op} (hk : isAlloc (kindOf op) = true) {tm : T AV} {p : VH} (h : opN op G tm H = some p) : Mints H p fun H => opN op G tm H := by
 cases op
 case alloc t =>
  exact Mints.bind h fun z _ h => Mints.row (mk := fun b => .ptr b 0) (fun _ => rfl) h
 case box t x =>
  exact Mints.bind h fun z _ h => Mints.row (mk := fun b => .ptr b 0) (fun _ => rfl) h
 case buildSlice t n ps =>
  refine Mints.bind h fun parts _ h => ?_
  refine Mints.bind h fun e _ h => ?_
  refine Mints.bind h fun z _ h => ?_
  refine Mints.bind h fun zero _ h => ?_
  refine Mints.cond h fun h => ?_
  refine Mints.cond h fun h => ?_
  exact Mints.bind h fun l _ h => Mints.row (mk := fun b => .slice b 0 n false n) (fun _ => rfl) h
 case makeMap t r =>
  cases r with
  | none => exact newMap_makes h
  | some x =>
   refine Mints.bind (f := fun H v => bif reserveOk G t v then newMap H else none) h fun v _ h => ?_
   exact Mints.cond h fun h => newMap_makes h
 case makeSlice t l c =>
  refine Mints.bind (f := fun H a => bindO (aev G tm c) fun b => makeSliceA G H t a b) h fun a _ h => ?_
  refine Mints.bind (f := fun H b => makeSliceA G H t a b) h fun b _ h => ?_
  unfold makeSliceA at h ⊢
  split at h
  ·rename_i n m _ _ _
   refine Mints.bind h fun e _ h => ?_
   refine Mints.bind h fun i _ h => ?_
   refine Mints.bind h fun zero _ h => ?_
   refine Mints.cond h fun h => ?_
   refine Mints.cond h fun h => ?_
   refine Mints.cond h fun h => ?_
   cases hb : Nat.ble (m * i.size) 1000
   ·simp only [hb, cond_false] at h ⊢
    have e : ∀ H, newBig H e n m (m * i.size) zero.cells = some (.slice H.next 0 n false m, H.push (.big e (m * i.size) zero.cells)) := fun H => by unfold newBig; rw [forceN_eq, forceVs_eq, newA_eq]
    rw [e] at h
    simp only [Option.some.injEq] at h; subst h
    exact ⟨_, rfl, big_beq _ _ _, rfl, fun H' hn => (e H').trans (by rw [hn])⟩
   ·simp only [hb, cond_true] at h ⊢
    exact Mints.row (mk := fun b => .slice b 0 n false m) (fun _ => rfl) h
  ·simp at h
 all_goals (exfalso; revert hk; simp [kindOf, isAlloc])
 case call cl => cases cl.callee <;> simp [kindC]; rename_i b; cases b <;> simp [kindB]
def GoodM (G : Tab) (H : Heap) (k : Kept) : Prop :=
 (isAlloc k.r.kind = false ∧ opN k.r.o.op G k.tm H = some (k.v, H)) ∨
 (isAlloc k.r.kind = true ∧ ∃ b o, blockOf k.v = some b ∧ H.blks.get b = some o ∧ ABlk.beq o o = true ∧ ∀ H' : Heap, H'.next = b → opN k.r.o.op G k.tm H' = some (k.v, H'.push o))
theorem GoodM.push {H : Heap} (hN : Neat H) {k : Kept} (hk : k.r.kind = kindOf k.r.o.op) (h : GoodM G H k) (o : ABlk) : GoodM G (H.push o) k := by
 have hm : Knows H (H.push o) := fun b o' hb => by rw [s_push_other _ _ (Nat.ne_of_lt (hN b o' hb))]; exact hb
 rcases h with ⟨h1, h2⟩ | ⟨h1, b, o', h2, h3, h4, h5⟩
 ·exact .inl ⟨h1, opN_mono hm (by rw [← hk]; exact h1) h2⟩
 ·exact .inr ⟨h1, b, o', h2, hm b o' h3, h4, h5⟩
theorem GoodM.now {H : Heap} {k : Kept} (h : GoodM G H k) : keptNow G H k = true := by
 unfold keptNow
 rcases h with ⟨h1, h2⟩ | ⟨h1, b, o, h2, h3, h4, h5⟩
 ·rw [h1, cond_false, h2]; exact AV.beq_refl' _
 ·rw [h1, cond_true, h2]
  show sameMade k.v H b (opN k.r.o.op G k.tm ⟨b, .e⟩) = true
  rw [h5 ⟨b, .e⟩ rfl]
  show (bif AV.beq k.v k.v then sameB ((Heap.push ⟨b, .e⟩ o).blks.get b) (H.blks.get b) else false) = true
  rw [AV.beq_refl', cond_true, h3]
  have : (Heap.push ⟨b, .e⟩ o).blks.get b = some o := s_push_same ⟨b, .e⟩ o
  rw [this]; exact h4
theorem stepM_good {c : Ctx} {all : List Oper} {r : RO} {d d' : DS} (hk : r.kind = kindOf r.o.op) (h : stepA G c all r d = some d') (hN : Neat d.s.h) (hg : ∀ k ∈ d.kept, k.r.kind = kindOf k.r.o.op ∧ GoodM G d.s.h k) :
  Neat d'.s.h ∧ (∀ k ∈ d'.kept, k.r.kind = kindOf k.r.o.op ∧ GoodM G d'.s.h k) ∧ ∀ k ∈ d'.kept, k ∈ d.kept ∨ k.r = r := by
 unfold stepA at h
 cases hw : wantedA all r.o.guard d.s.tm
 ·rw [hw, cond_false] at h
  obtain ⟨_, h⟩ := putTm_split h
  simp only [Option.some.injEq] at h; subst h; exact ⟨hN, hg, fun k hk => .inl hk⟩
 ·rw [hw, cond_true] at h
  obtain ⟨p, hp, h⟩ := bindO_some h
  obtain ⟨_, h⟩ := putTm_split h
  simp only [Option.some.injEq] at h; subst h
  have hin : ∀ k ∈ keepIt r d.s.tm p.1 d.kept, k ∈ d.kept ∨ k = ⟨r, d.s.tm, p.1⟩ := by
   intro k hkk
   unfold keepIt at hkk
   split at hkk
   ·exact .inl hkk
   ·rcases List.mem_cons.1 hkk with h | h
    ·exact .inr h
    ·exact .inl h
  cases ha : isAlloc r.kind
  ·have e := opN_same (by rw [← hk]; exact ha) hp
   simp only [e]
   refine ⟨hN, fun k hkk => ?_, fun k hkk => ?_⟩
   ·rcases hin k hkk with h | h
    ·exact hg k h
    ·subst h; exact ⟨hk, .inl ⟨ha, by show opN r.o.op G d.s.tm d.s.h = _; rw [hp, ← e]⟩⟩
   ·rcases hin k hkk with h | h
    ·exact .inl h
    ·subst h; exact .inr rfl
  ·obtain ⟨o, m1, m2, m3, m4⟩ := opN_makes (by rw [← hk]; exact ha) hp
   simp only [m1]
   refine ⟨hN.push _, fun k hkk => ?_, fun k hkk => ?_⟩
   ·rcases hin k hkk with h | h
    ·exact ⟨(hg k h).1, (hg k h).2.push hN (hg k h).1 o⟩
    ·subst h
     exact ⟨hk, .inr ⟨ha, d.s.h.next, o, m3, s_push_same _ _, m2, m4⟩⟩
   ·rcases hin k hkk with h | h
    ·exact .inl h
    ·subst h; exact .inr rfl
theorem runM_good {c : Ctx} {all : List Oper} : ∀ {A : List RO} {d d' : DS}, KindsOk A → runA G c all A d = some d' → Neat d.s.h → (∀ k ∈ d.kept, k.r.kind = kindOf k.r.o.op ∧ GoodM G d.s.h k) →
  (∀ k ∈ d'.kept, k.r.kind = kindOf k.r.o.op ∧ GoodM G d'.s.h k) ∧ ∀ k ∈ d'.kept, k ∈ d.kept ∨ k.r ∈ A
 | [], d, d', _, h, hN, hg => by have h : some d = some d' := h; simp only [Option.some.injEq] at h; subst h; exact ⟨hg, fun k hk => .inl hk⟩
 | r :: A, d, d', hk, h, hN, hg => by
  obtain ⟨e, g1, g2⟩ := bindO_some h
  obtain ⟨a1, a2, a3⟩ := stepM_good (hk r List.mem_cons_self) g1 hN hg
  obtain ⟨b1, b2⟩ := runM_good (fun r hr => hk r (List.mem_cons_of_mem _ hr)) g2 a1 a2
  refine ⟨b1, fun k hkk => ?_⟩
  rcases b2 k hkk with h | h
  ·rcases a3 k h with h | h
   ·exact .inl h
   ·exact .inr (by rw [h]; exact List.mem_cons_self)
  ·exact .inr (List.mem_cons_of_mem _ h)
theorem keptOk_goodM {H : Heap} {m : Nat} : ∀ {l : List Kept}, (∀ k ∈ l, Nat.testBit m k.r.i = true ∨ GoodM G H k) → keptOk G H m l = true
 | [], _ => rfl
 | k :: l, h => by
  show (bif (bif Nat.testBit m k.r.i then true else keptNow G H k) then keptOk G H m l else false) = true
  rw [keptOk_goodM fun k hk => h k (List.mem_cons_of_mem _ hk)]
  rcases h k List.mem_cons_self with h | h
  ·rw [h]; rfl
  ·rw [h.now]; cases Nat.testBit m k.r.i <;> rfl
theorem draw_effM {all : List Oper} {A B : List RO} {e : RO} (hp : prepGo all 0 .e = some (A ++ e :: B)) (ho : allOk all (A ++ e :: B) (A ++ e :: B) = true) (hc : chainM A 0 = true) (hee : isEff e.kind = true)
  (h1 : Nat.testBit (doneOf A 0) e.i = false) (h2 : noneReady (doneOf A 0) (e :: B) = true) (h3 : noneReady (doneOf A 0) (A ++ e :: B) = true) (h4 : sub e.pre (doneOf A 0) = true)
  (h5 : othersAfter e (doneOf A 0) (A ++ e :: B) = true) (h6 : sealedL e.pre A = true) (h7 : noneReady (Nat.lor (doneOf A 0) (Nat.pow 2 e.i)) (A ++ [e]) = true) (h8 : chainA B (Nat.lor (doneOf A 0) (Nat.pow 2 e.i)) = true)
  (h10 : noneReady (doneOf B (Nat.lor (doneOf A 0) (Nat.pow 2 e.i))) (A ++ e :: B) = true) (h11 : noneEff (doneOf B (Nat.lor (doneOf A 0) (Nat.pow 2 e.i))) (A ++ e :: B) = true)
  (c : Ctx) (s : St) (hN : Neat s.h) : drawOps F G c all s = seqOps all F G c all s := by
 obtain ⟨q1, q2⟩ := prepGo_ops hp
 have kA : KindsOk A := fun r hr => q2 r (List.mem_append.2 (.inl hr))
 have kB : KindsOk B := fun r hr => q2 r (List.mem_append.2 (.inr (List.mem_cons_of_mem _ hr)))
 have e1 : seqOps all F G c all s = bindO (runA G c all A ⟨0, s, []⟩) fun d' => seqOps (e.o :: B.map (·.o)) F G c all d'.s := by
  have := seqOps_runM (G := G) (F := F) (c := c) (all := all) (rest := e.o :: B.map (·.o)) (d := ⟨0, s, []⟩) kA hc
  rw [← this, ← q1]; simp
 have e2 : drawOps F G c all s = satur G c all (A ++ e :: B) (stageEnd F G c all (A ++ e :: B) (stages F G c all (A ++ e :: B) 99) 0) ⟨0, s, []⟩ := by
  unfold drawOps drawOn
  rw [hp]
  show (bif allOk all (A ++ e :: B) (A ++ e :: B) then _ else none) = _
  rw [ho]; rfl
 rw [e1, e2, satur_runM hc]
 cases hr : runA G c all A ⟨0, s, []⟩ with
 | none => rfl
 | some d =>
  have hd : d.done = doneOf A 0 := runA_done hr
  obtain ⟨g2, g3⟩ := runM_good kA hr hN (fun k hk => by simp at hk)
  show satur G c all (e :: B) (stageEnd F G c all (A ++ e :: B) (stages F G c all (A ++ e :: B) 99) 0) d = seqOps (e.o :: B.map (·.o)) F G c all d.s
  rw [satur_skip (by rw [hd]; exact h2)]
  have tail : ∀ (s' : St), stages F G c all (A ++ e :: B) 99 e.pre ⟨Nat.lor d.done (Nat.pow 2 e.i), s', d.kept⟩ = seqOps (B.map (·.o)) F G c all s' := by
   intro s'
   have t1 := satur_runA (G := G) (c := c) (all := all) (R := []) (k := stageEnd F G c all (A ++ e :: B) (stages F G c all (A ++ e :: B) 98) e.pre) (A := B) (d := ⟨Nat.lor d.done (Nat.pow 2 e.i), s', d.kept⟩) (by rw [hd]; exact h8)
   have t2 := seqOps_runA (G := G) (F := F) (c := c) (all := all) (rest := []) (d := ⟨Nat.lor d.done (Nat.pow 2 e.i), s', d.kept⟩) kB h8
   rw [List.append_nil] at t1 t2
   have t3 : stages F G c all (A ++ e :: B) 99 e.pre ⟨Nat.lor d.done (Nat.pow 2 e.i), s', d.kept⟩ = satur G c all B (stageEnd F G c all (A ++ e :: B) (stages F G c all (A ++ e :: B) 98) e.pre) ⟨Nat.lor d.done (Nat.pow 2 e.i), s', d.kept⟩ := by
    show satur G c all (A ++ e :: B) _ _ = _
    have : ∀ (X : List RO) (d₀ : DS), noneReady d₀.done X = true → ∀ (R : List RO) (k : DK), satur G c all (X ++ R) k d₀ = satur G c all R k d₀ := by
     intro X
     induction X with
     | nil => intro _ _ _ _; rfl
     | cons x X ih =>
      intro d₀ h R k
      have h : (bif ready x d₀.done then false else noneReady d₀.done X) = true := h
      cases hx : ready x d₀.done
      ·rw [hx, cond_false] at h
       show (bif ready x d₀.done then _ else satur G c all (X ++ R) k d₀) = _
       rw [hx, cond_false]; exact ih d₀ h R k
      ·rw [hx] at h; simp at h
    have r := this (A ++ [e]) ⟨Nat.lor d.done (Nat.pow 2 e.i), s', d.kept⟩ (by show noneReady (Nat.lor d.done _) _ = true; rw [hd]; exact h7) B
    rw [List.append_assoc] at r
    exact r _
   rw [t3, t1]
   refine Eq.trans ?_ t2.symm
   cases hb : runA G c all B ⟨Nat.lor d.done (Nat.pow 2 e.i), s', d.kept⟩ with
   | none => rfl
   | some d' =>
    have hd' : d'.done = doneOf B (Nat.lor (doneOf A 0) (Nat.pow 2 e.i)) := by rw [runA_done hb, hd]
    obtain ⟨n1, n2⟩ := runA_new kB h8 hb
    show stageEnd F G c all (A ++ e :: B) (stages F G c all (A ++ e :: B) 98) e.pre d' = some [d'.s]
    unfold stageEnd stageOk
    rw [hd', h10, cond_true, noneEff_eq h11, keptOk_good]
    ·rfl
    ·intro k hk
     rcases n2 k hk with hk | hk
     case inr => exact .inr (by rw [n1]; exact hk)
     refine .inl ?_
     rcases g3 k hk with h | h
     ·simp at h
     ·have : ∀ {A : List RO}, sealedL e.pre A = true → ∀ r ∈ A, Nat.testBit e.pre r.i = true := by
       intro A
       induction A with
       | nil => intro _ r hr; simp at hr
       | cons x A ih =>
        intro h r hr
        have h : (bif Nat.testBit e.pre x.i then sealedL e.pre A else false) = true := h
        cases hx : Nat.testBit e.pre x.i
        ·rw [hx] at h; simp at h
        ·rw [hx] at h
         rcases List.mem_cons.1 hr with rfl | hr
         ·exact hx
         ·exact ih h r hr
      exact this h6 _ h
  unfold stageEnd stageOk
  rw [hd, h3, cond_true, keptOk_goodM (fun k hk => .inr (g2 k hk).2), cond_true, nextEff_atM hc hee h1]
  show (bif sub e.pre d.done then (bif othersAfter e d.done (A ++ e :: B) then effRun F G c all e d (stages F G c all (A ++ e :: B) 99 e.pre) else none) else none) = _
  rw [hd, h4, h5, cond_true, cond_true]
  rw [s_ops_cons]
  unfold effRun runOne
  congr 1
  ·have : runKind (kindOf e.o.op) = runE := by
    rw [← q2 e (List.mem_append.2 (.inr List.mem_cons_self))]
    cases h : e.kind
    all_goals first | rfl | (rw [h] at hee; simp [isEff] at hee)
   rw [this]
   unfold effDo runE
   congr 1; funext p
   congr 1; funext tm
   rw [forceN_eq]; exact tail _
  ·unfold effSkip runSkip
   congr 1; funext tm
   rw [forceN_eq]; exact tail _
noncomputable def makeA (all : List Oper) (rs : List RO) (p : List RO × List RO) : Bool :=
 match p.2 with
 | [] => false
 | e :: B => andL [allOk all rs rs, chainM p.1 0, isEff e.kind, bnot (Nat.testBit (doneOf p.1 0) e.i), noneReady (doneOf p.1 0) (e :: B), noneReady (doneOf p.1 0) rs, sub e.pre (doneOf p.1 0), othersAfter e (doneOf p.1 0) rs, sealedL e.pre p.1,
   noneReady (Nat.lor (doneOf p.1 0) (Nat.pow 2 e.i)) (p.1 ++ [e]), chainA B (Nat.lor (doneOf p.1 0) (Nat.pow 2 e.i)), noneReady (doneOf B (Nat.lor (doneOf p.1 0) (Nat.pow 2 e.i))) rs, noneEff (doneOf B (Nat.lor (doneOf p.1 0) (Nat.pow 2 e.i))) rs]
noncomputable def makeDraw (all : List Oper) : Bool := match prepGo all 0 .e with
 | none => false
 | some rs => makeA all rs (spanN rs)
theorem s_drawM {all : List Oper} (i : Nat) (h : makeDraw all = true) (c : Ctx) (s : St) (hN : Neat s.h) : cRegion i all.toArray true F G c s = normals (seqOps all F G c all s) := by
 show normals (drawOps F G c all s) = _
 refine congrArg normals ?_
 unfold makeDraw at h
 split at h
 ·simp at h
 ·rename_i rs hp
  have hs := spanN_eq rs
  generalize spanN rs = p at h hs
  obtain ⟨A, R⟩ := p
  simp only at hs
  subst hs
  cases R with
  | nil => simp [makeA] at h
  | cons e B =>
   have h := andL_ok (show andL [allOk all (A ++ e :: B) (A ++ e :: B), chainM A 0, isEff e.kind, bnot (Nat.testBit (doneOf A 0) e.i), noneReady (doneOf A 0) (e :: B), noneReady (doneOf A 0) (A ++ e :: B), sub e.pre (doneOf A 0),
    othersAfter e (doneOf A 0) (A ++ e :: B), sealedL e.pre A, noneReady (Nat.lor (doneOf A 0) (Nat.pow 2 e.i)) (A ++ [e]), chainA B (Nat.lor (doneOf A 0) (Nat.pow 2 e.i)),
    noneReady (doneOf B (Nat.lor (doneOf A 0) (Nat.pow 2 e.i))) (A ++ e :: B), noneEff (doneOf B (Nat.lor (doneOf A 0) (Nat.pow 2 e.i))) (A ++ e :: B)] = true from h)
   simp only [List.mem_cons, List.not_mem_nil, or_false, forall_eq_or_imp, forall_eq] at h
   obtain ⟨a1, a2, a3, a4, a5, a6, a7, a8, a9, a10, a11, a13, a14⟩ := h
   have h1 : Nat.testBit (doneOf A 0) e.i = false := by
    rw [bnot_eq] at a4; simpa using a4
   exact draw_effM hp a1 a2 a3 h1 a5 a6 a7 a8 a9 a10 a11 a13 a14 c s hN
end
end Go.Sx
namespace Go.Sx
theorem s_cells_int (k : IntKind) (n : Int) : AV.cells (.int k n) = [.int k n] := rfl
theorem s_cells_bool (b : Bool) : AV.cells (.bool b) = [.bool b] := rfl
theorem s_cells_str (s : List UInt8) : AV.cells (.str s) = [.str s] := rfl
theorem s_cells_ptr (b o : Nat) : AV.cells (.ptr b o) = [.ptr b o] := rfl
theorem s_cells_nilptr : AV.cells .nilptr = [.nilptr] := rfl
theorem s_cells_slice (b o l : Nat) (q : Bool) (k : Nat) : AV.cells (.slice b o l q k) = [.slice b o l q k] := rfl
theorem s_cells_nilslice : AV.cells .nilslice = [.nilslice] := rfl
theorem s_cells_map (b : Nat) : AV.cells (.map b) = [.map b] := rfl
theorem s_cells_nilmap : AV.cells .nilmap = [.nilmap] := rfl
theorem s_condT {α : Type} (a b : α) : (bif true then a else b) = a := rfl
theorem s_condF {α : Type} (a b : α) : (bif false then a else b) = b := rfl
theorem s_ifT {α : Type} {h : Decidable True} (a b : α) : @ite α True h a b = a := if_pos trivial
theorem s_ifF {α : Type} {h : Decidable False} (a b : α) : @ite α False h a b = b := if_neg not_false
theorem s_ifS {α : Type} {c : Prop} {h : Decidable c} (a : α) : @ite α c h a a = a := by split <;> rfl
theorem s_nthZ {α : Type} (a : α) (l : List α) : (a :: l)[0]? = some a := rfl
theorem s_nthS {α : Type} (a : α) (l : List α) (i : Nat) : (a :: l)[i + 1]? = l[i]? := rfl
theorem s_nthN {α : Type} (i : Nat) : ([] : List α)[i]? = none := rfl
theorem s_lenZ {α : Type} : ([] : List α).length = 0 := rfl
theorem s_lenS {α : Type} (a : α) (l : List α) : (a :: l).length = l.length + 1 := rfl
theorem s_id {α : Type} (a : α) : id a = a := rfl
theorem s_beqI (a : Int) : (a == a) = true := beq_self_eq_true a
theorem s_beqN (a : Nat) : (a == a) = true := beq_self_eq_true a
theorem s_ne {α : Type} (a b : α) : (a ≠ b) = ¬ a = b := rfl
set_option linter.defProp false in
def sxL := And.intro (And.intro (And.intro (And.intro (And.intro (And.intro (And.intro @s_bindO (And.intro @s_argsK_nil @s_argsK_cons)) (And.intro @forceV_eq (And.intro @T.setK_eq @forceN_eq))) (And.intro (And.intro @s_codeO (And.intro @s_callO @s_callB)) (And.intro (And.intro @s_orX @s_orOv_some) (And.intro @s_orOv_none @s_addOv_eq)))) (And.intro (And.intro (And.intro @s_addOv_ne (And.intro @s_block @s_loop)) (And.intro @s_codeB_loop (And.intro @s_blockEx_normal @s_blockEx_ret))) (And.intro (And.intro @s_blockEx_exit (And.intro @s_iblt @s_ibeq)) (And.intro @s_bnot (And.intro @s_codeB_seq @s_codeB_region))))) (And.intro (And.intro (And.intro (And.intro @s_codeB_cond (And.intro @s_codeB_ret @s_codeB_skip)) (And.intro @s_codeB_block (And.intro @s_codeB_exit @s_seq))) (And.intro (And.intro @s_region (And.intro @s_ops_nil @z_ops)) (And.intro @z_opsG (And.intro @z_G_true @z_G_false)))) (And.intro (And.intro (And.intro @z_G_false0 (And.intro @z_K_pure @z_K_read)) (And.intro @z_K_alloc (And.intro @z_K_eff @z_N))) (And.intro (And.intro @z_N0 (And.intro @z_E @z_E0)) (And.intro @z_opBin (And.intro @z_binR @z_opIdx)))))) (And.intro (And.intro (And.intro (And.intro (And.intro @z_idxR (And.intro @z_opLook @z_lookR)) (And.intro @z_opStore (And.intro @z_storeR @z_out1))) (And.intro (And.intro @z_out2 (And.intro @z_opMap @z_mapR)) (And.intro @z_opMk (And.intro @z_mkR @z_opCall)))) (And.intro (And.intro (And.intro @z_callR (And.intro @z_len @z_opMove)) (And.intro @z_opAssign (And.intro @z_opPick @z_pickR_t))) (And.intro (And.intro @z_pickR_f (And.intro @z_opUn @z_opBox)) (And.intro @z_opAlloc (And.intro @z_opFA @z_opField))))) (And.intro (And.intro (And.intro (And.intro @z_opLoad (And.intro @z_opNil @z_opExtract)) (And.intro @z_opBuild (And.intro @z_opBS @z_opMM))) (And.intro (And.intro @z_evParts_nil (And.intro @z_evParts_cons @z_pairO)) (And.intro @s_withH (And.intro @s_aev_tmp @s_aev_const)))) (And.intro (And.intro (And.intro @s_aev_func (And.intro @T.get_set_eq @s_orUndef)) (And.intro @T.get_set_ne (And.intro @not_false_eq_true @s_binInt))) (And.intro (And.intro @s_binStr (And.intro @s_binAgg @s_dstOf)) (And.intro (And.intro @s_isBool_tt @s_isBool_tf) (And.intro @s_isBool_ft @s_isBool_ff))))))) (And.intro (And.intro (And.intro (And.intro (And.intro (And.intro @s_normals (And.intro @s_bindL @s_contEx_normal)) (And.intro @s_contEx_ret (And.intro @s_contEx_exit @s_merged))) (And.intro (And.intro @s_endCall_ret (And.intro @s_endCall_normal @s_results_nil)) (And.intro @s_results_cons (And.intro @s_consOO @s_oneOf)))) (And.intro (And.intro (And.intro @s_oneOf2 (And.intro @s_newRowA @s_allOne_nil)) (And.intro @s_allOne_cons (And.intro @s_one_int @s_one_bool))) (And.intro (And.intro @s_one_str (And.intro @s_one_ptr @s_one_nilptr)) (And.intro @s_one_slice (And.intro @s_one_nilslice @s_one_map))))) (And.intro (And.intro (And.intro (And.intro @s_one_nilmap (And.intro @s_one_func @s_one_agg)) (And.intro @s_one_tuple (And.intro @s_loadC @s_cast0))) (And.intro (And.intro @s_cells_agg (And.intro @s_argsTm @s_push_next)) (And.intro @s_push_same (And.intro @s_load @s_cellIn)))) (And.intro (And.intro (And.intro @s_aevs_nil (And.intro @s_aevs_cons @s_app_nil)) (And.intro @s_app_cons (And.intro @s_outs @s_bnot_t))) (And.intro (And.intro @s_bnot_f (And.intro @s_aggO @nth_eq)) (And.intro (And.intro @Nat.add_zero @Nat.zero_add) (And.intro @Bool.true_eq_false @Bool.false_eq_true)))))) (And.intro (And.intro (And.intro (And.intro (And.intro @Bool.not_true (And.intro @Bool.not_false @Nat.succ_eq_add_one)) (And.intro @Nat.not_lt_zero (And.intro @decide_true @decide_false))) (And.intro (And.intro @not_true_eq_false (And.intro @s_push_other @s_push_same2)) (And.intro @s_put_next (And.intro @s_put_other @s_put_same)))) (And.intro (And.intro (And.intro @s_ptEq (And.intro @s_ptNe @s_bigIn)) (And.intro @s_andO2 (And.intro @Int.lt_irrefl @Bool.not_not))) (And.intro (And.intro @Bool.true_or (And.intro @Bool.false_or @Bool.or_true)) (And.intro @Bool.or_false (And.intro @Bool.true_and @Bool.false_and))))) (And.intro (And.intro (And.intro (And.intro @Bool.and_true (And.intro @Bool.and_false @s_cells_int)) (And.intro @s_cells_bool (And.intro @s_cells_str @s_cells_ptr))) (And.intro (And.intro @s_cells_nilptr (And.intro @s_cells_slice @s_cells_nilslice)) (And.intro @s_cells_map (And.intro @s_cells_nilmap @s_condT)))) (And.intro (And.intro (And.intro @s_condF (And.intro @s_ifT @s_ifF)) (And.intro @s_ifS (And.intro @s_nthZ @s_nthS))) (And.intro (And.intro @s_nthN (And.intro @s_lenZ @s_lenS)) (And.intro (And.intro @s_id @s_beqI) (And.intro @s_beqN @s_ne)))))))
end Go.Sx
namespace Go.Sx
open Go Go.RowKit
section
variable {H : Type} {enc : TypeId × Value → H} {P : Program} {W : World} {base : Nat} {sp : Nat → Bool} {held : Bool}
def Fit (enc : TypeId × Value → H) (P : Program) (W : World) (base : Nat) (sp : Nat → Bool) (held : Bool) : List TypeId → List Value → Prop
 | [], [] => True
 | u :: ts, c :: cs => (∃ m y, DataW.trod enc P W base sp held m u [c] = some y) ∧ Fit enc P W base sp held ts cs
 | _, _ => False
theorem Fit.len : ∀ {ts : List TypeId} {cs : List Value}, Fit enc P W base sp held ts cs → cs.length = ts.length
 | [], [], _ => rfl
 | [], _ :: _, h => h.elim
 | _ :: _, [], h => h.elim
 | u :: ts, c :: cs, h => by simp [Fit.len h.2]
theorem Fit.append : ∀ {ts ts' : List TypeId} {cs cs' : List Value}, Fit enc P W base sp held ts cs → Fit enc P W base sp held ts' cs' → Fit enc P W base sp held (ts ++ ts') (cs ++ cs')
 | [], _, [], _, _, h' => h'
 | [], _, _ :: _, _, h, _ => h.elim
 | _ :: _, _, [], _, h, _ => h.elim
 | u :: ts, _, c :: cs, _, h, h' => ⟨h.1, Fit.append h.2 h'⟩
theorem Fit.cons {u : TypeId} {ts : List TypeId} {cs : List Value} (h : Fit enc P W base sp held (u :: ts) cs) : ∃ c cs', cs = c :: cs' ∧ (∃ m y, DataW.trod enc P W base sp held m u [c] = some y) ∧ Fit enc P W base sp held ts cs' := by
 cases cs with
 | nil => exact h.elim
 | cons c cs => exact ⟨c, cs, rfl, h.1, h.2⟩
theorem Fit.nil {cs : List Value} (h : Fit enc P W base sp held [] cs) : cs = [] := by
 cases cs with
 | nil => rfl
 | cons c cs => exact h.elim
def leavesF (P : Program) (leafs : TypeId → Option (List TypeId)) : List Field → Nat → Option (List TypeId)
 | [], _ => some []
 | f :: fs, off => match leafs f.type with
  | none => none
  | some ts => if f.offset = off ∧ P.cellsOf f.type = ts.length then (leavesF P leafs fs (off + ts.length)).map (ts ++ ·) else none
noncomputable def leafs (P : Program) : Nat → TypeId → Option (List TypeId)
 | 0, _ => none
 | d + 1, t => match P.underlying t with
  | some (.struct fs) => match leavesF P (leafs P d) fs.toList 0 with
   | none => none
   | some ts => if P.cellsOf t = ts.length then some ts else none
  | some .bool => some [t]
  | some (.int _) => some [t]
  | some .string => some [t]
  | some (.slice _) => some [t]
  | _ => none
theorem leafsF_fit {lv : TypeId → Option (List TypeId)} {n : Nat} {cs : List Value} {xs : List (DataW H × List MemPlace)} {all : List Field}
  (hlv : ∀ (t : TypeId) (ts : List TypeId), lv t = some ts → ∀ (cs : List Value) (x : DataW H × List MemPlace), DataW.trod enc P W base sp held n t cs = some x → Fit enc P W base sp held ts cs)
  (hall : ∀ (i : Nat) (f : Field), all[i]? = some f → ∃ x, DataW.trod enc P W base sp held n f.type ((cs.drop f.offset).take (P.cellsOf f.type)) = some x) :
  ∀ (fs : List Field) (i off : Nat) (ts : List TypeId), (∀ j f, fs[j]? = some f → all[i + j]? = some f) → leavesF P lv fs off = some ts → cs.length = off + ts.length → Fit enc P W base sp held ts (cs.drop off) := by
 intro fs
 induction fs with
 | nil =>
  intro i off ts _ h hl
  simp only [leavesF, Option.some.injEq] at h; subst h
  rw [List.drop_eq_nil_of_le (by simp at hl; omega)]; trivial
 | cons f fs ih =>
  intro i off ts hin h hl
  unfold leavesF at h
  split at h
  ·simp at h
  ·rename_i ts1 h1
   split at h
   ·rename_i h2
    obtain ⟨ts2, h3, e⟩ := Option.map_eq_some_iff.1 h
    subst e
    obtain ⟨x, hx⟩ := hall i f (by have := hin 0 f rfl; simpa using this)
    rw [h2.1, h2.2] at hx
    have f1 := hlv _ _ h1 _ _ hx
    have f2 := ih (i + 1) (off + ts1.length) ts2 (fun j g hg => by have := hin (j + 1) g (by simpa using hg); rw [show i + 1 + j = i + (j + 1) by omega]; exact this) h3 (by rw [List.length_append] at hl; omega)
    have := f1.append f2
    rwa [show cs.drop off = (cs.drop off).take ts1.length ++ cs.drop (off + ts1.length) by rw [← List.drop_drop, List.take_append_drop]]
   ·simp at h
theorem leafs_fit : ∀ (d : Nat) (t : TypeId) (ts : List TypeId), leafs P d t = some ts → ∀ (n : Nat) (cs : List Value) (x : DataW H × List MemPlace), DataW.trod enc P W base sp held n t cs = some x → Fit enc P W base sp held ts cs := by
 intro d
 induction d with
 | zero => intro t ts h; simp [leafs] at h
 | succ d ih =>
  intro t ts h n cs x hx
  unfold leafs at h
  split at h
  ·rename_i fs hu
   split at h
   ·simp at h
   ·rename_i ts' hf
    split at h
    ·rename_i hc
     simp only [Option.some.injEq] at h; subst h
     obtain ⟨xs, m, _, _, hl, hxl, hall⟩ := DataW.trod_struct hu hx
     have := leafsF_fit (lv := leafs P d) (cs := cs) (xs := xs) (all := fs.toList) (n := m) (fun t ts h cs x hx => ih t ts h m cs x hx) (fun i f hf => by
      have hi := hall i f (by simpa using hf)
      have : i < xs.length := by rw [hxl]; have := (List.getElem?_eq_some_iff.1 hf).1; simpa using this
      rw [List.getElem?_eq_getElem this] at hi
      exact ⟨_, hi⟩) fs.toList 0 0 ts' (fun j f hf => by simpa using hf) hf (by rw [hl, hc]; omega)
     simpa using this
    ·simp at h
  ·rename_i hu
   simp only [Option.some.injEq] at h; subst h
   obtain ⟨b, rfl, _⟩ := DataW.trod_bool hu hx
   exact ⟨⟨n, x, hx⟩, trivial⟩
  ·rename_i k hu
   simp only [Option.some.injEq] at h; subst h
   obtain ⟨b, rfl, _⟩ := DataW.trod_int hu hx
   exact ⟨⟨n, x, hx⟩, trivial⟩
  ·rename_i hu
   simp only [Option.some.injEq] at h; subst h
   obtain ⟨b, rfl, _⟩ := DataW.trod_string hu hx
   exact ⟨⟨n, x, hx⟩, trivial⟩
  ·rename_i e hu
   simp only [Option.some.injEq] at h; subst h
   rcases DataW.trod_slice hu hx with ⟨rfl, _⟩ | ⟨_, _, _, _, _, _, _, rfl, _⟩ <;> exact ⟨⟨n, x, hx⟩, trivial⟩
  ·simp at h
end
section
variable {P : Program} {G : Tab} {W : World}
structure Base (G : Tab) (W : World) (ρ : Env) (H : Heap) : Prop where
 rel : HRel G ρ (fun b => b < H.next) W H
 neat : Neat H
 still : ∀ b o, H.blks.get b = some o → StillB (some o)
 rest : ρ.rest = fun i o => W.heap[i]? = some o
 orig : ρ.orig = W
structure More (ρ : Env) (H : Heap) (ρ' : Env) (H' : Heap) : Prop where
 sub : Sub ρ (fun b => b < H.next) ρ' (fun b => b < H'.next)
 grows : Grows H H'
theorem More.refl (ρ : Env) (H : Heap) : More ρ H ρ H := ⟨.refl _ _, .refl _⟩
theorem More.trans {ρ ρ' ρ'' : Env} {H H' H'' : Heap} (h : More ρ H ρ' H') (h' : More ρ' H' ρ'' H'') : More ρ H ρ'' H'' := ⟨h.sub.trans h'.sub, h.grows.trans h'.grows⟩
theorem Base.big {ρ : Env} {H : Heap} (hB : Base G W ρ H) (hg : G.nglob ≤ H.next) {z : List AV} (hz : okL ρ (fun b => b < H.next) z) {blk base : Nat} {arr : Array Value} {el : TypeId} {fz : Nat × Nat} (hblk : W.heap[blk]? = some (.cells arr el fz))
  (hsz : base + z.length ≤ arr.size) (hv : ∀ i v, z[i]? = some v → arr[base + i]? = some (conc ρ v)) (e : TypeId) :
  ∃ ρ', Base G W ρ' (H.push (.big e z.length z)) ∧ More ρ H ρ' (H.push (.big e z.length z)) ∧ ρ'.blk H.next = blk ∧ ρ'.base H.next = base := by
 have hfresh : ¬ (fun b => b < H.next) H.next := Nat.lt_irrefl _
 have hsub0 := ρ.at_sub (D := fun b => b < H.next) (b := H.next) hfresh blk base 0
 have hsub : Sub ρ (fun b => b < H.next) (ρ.at H.next blk base 0) (fun b => b < (H.push (.big e z.length z)).next) :=
  ⟨fun b hb => Nat.lt_succ_of_lt hb, hsub0.blk, hsub0.base, hsub0.cap, rfl, rfl⟩
 have hat : (ρ.at H.next blk base 0).blk H.next = blk := by simp [Env.at]
 have hat2 : (ρ.at H.next blk base 0).base H.next = base := by simp [Env.at]
 refine ⟨ρ.at H.next blk base 0, ⟨⟨fun b hb => hb, fun g hg' => ?_, fun b b' o o' hb hb' ho ho' _ => ?_, fun b o hb ho => ?_, fun i o hi => ?_, ?_⟩, hB.neat.push _, fun b o ho => ?_, hB.rest, hB.orig⟩, ⟨hsub, .push _ _⟩, hat, hat2⟩
 ·obtain ⟨h1, h2, h3⟩ := hB.rel.glob g hg'
  exact ⟨Nat.lt_succ_of_lt h1, by rw [hsub.blk g h1, h2], by rw [hsub.base g h1, h3]⟩
 ·have still : ∀ b o, (H.push (.big e z.length z)).blks.get b = some o → StillB (some o) := fun b o ho => by
   rw [Heap.get_push] at ho
   split at ho
   ·simp only [Option.some.injEq] at ho; subst ho; trivial
   ·exact hB.still b o ho
  exact .inr ⟨still _ _ ho, still _ _ ho'⟩
 ·rw [Heap.get_push] at ho
  split at ho
  ·rename_i e0
   subst e0
   simp only [Option.some.injEq] at ho; subst ho
   refine ⟨(hsub.concL z hz).2, arr, el, fz, by rw [hat]; exact hblk, by rw [hat2]; exact hsz, fun i v hi hv' => ?_⟩
   rw [Nat.mod_eq_of_lt hi] at hv'
   rw [hat2, hv i v hv', hsub.eq (okL_iff.1 hz v (List.mem_of_getElem? hv'))]
  ·have hlt := hB.neat b o ho
   exact (hB.rel.blk b o hlt ho).sub hsub hlt rfl
 ·have hi' : ρ.rest i o := hi
  refine ⟨(hB.rel.rest i o hi').1, fun b _ _ => ?_⟩
  cases ho : (H.push (.big e z.length z)).blks.get b with
  | none => trivial
  | some q =>
   rw [Heap.get_push] at ho
   split at ho
   ·simp only [Option.some.injEq] at ho; subst ho; trivial
   ·exact hB.still b q ho
 ·exact hB.rel.kin
 ·rw [Heap.get_push] at ho
  split at ho
  ·simp only [Option.some.injEq] at ho; subst ho; trivial
  ·exact hB.still b o ho
end
end Go.Sx
namespace Go.Sx
section
variable {G : Tab} {F : Fns}
noncomputable def effsDone (done : Nat) (l : List RO) : Bool := List.rec true (fun r _ ih => bif (bif isEff r.kind then Nat.testBit done r.i else true) then ih else false) l
theorem nextEff_after {done : Nat} {e : RO} {B : List RO} (he : isEff e.kind = true) (hb : Nat.testBit done e.i = false) : ∀ {A : List RO}, effsDone done A = true → nextEff done (A ++ e :: B) = some e
 | [], _ => by
  show (bif isEff e.kind then (bif Nat.testBit done e.i then nextEff done B else some e) else nextEff done B) = some e
  rw [he, hb]; rfl
 | r :: A, h => by
  have h : (bif (bif isEff r.kind then Nat.testBit done r.i else true) then effsDone done A else false) = true := h
  show (bif isEff r.kind then (bif Nat.testBit done r.i then nextEff done (A ++ e :: B) else some r) else nextEff done (A ++ e :: B)) = some e
  obtain ⟨h1, h2⟩ := band_true h
  cases hr : isEff r.kind
  ·exact nextEff_after he hb h2
  ·rw [hr] at h1
   have h1 : Nat.testBit done r.i = true := h1
   rw [h1]; exact nextEff_after he hb h2
theorem nextEff_over {done : Nat} : ∀ {A : List RO}, effsDone done A = true → nextEff done A = none
 | [], _ => rfl
 | r :: A, h => by
  have h : (bif (bif isEff r.kind then Nat.testBit done r.i else true) then effsDone done A else false) = true := h
  show (bif isEff r.kind then (bif Nat.testBit done r.i then nextEff done A else some r) else nextEff done A) = none
  obtain ⟨h1, h2⟩ := band_true h
  cases hr : isEff r.kind
  ·exact nextEff_over h2
  ·rw [hr] at h1
   have h1 : Nat.testBit done r.i = true := h1
   rw [h1]; exact nextEff_over h2
theorem sealedL_mem {m : Nat} : ∀ {A : List RO}, sealedL m A = true → ∀ r ∈ A, Nat.testBit m r.i = true
 | [], _, r, hr => by simp at hr
 | x :: A, h, r, hr => by
  have h : (bif Nat.testBit m x.i then sealedL m A else false) = true := h
  obtain ⟨h1, h2⟩ := band_true h
  rcases List.mem_cons.1 hr with rfl | hr
  ·exact h1
  ·exact sealedL_mem h2 r hr
theorem satur_skip2 {c : Ctx} {all : List Oper} : ∀ (X : List RO) (d₀ : DS), noneReady d₀.done X = true → ∀ (R : List RO) (k : DK), satur G c all (X ++ R) k d₀ = satur G c all R k d₀ := by
 intro X
 induction X with
 | nil => intro _ _ _ _; rfl
 | cons x X ih =>
  intro d₀ h R k
  have h : (bif ready x d₀.done then false else noneReady d₀.done X) = true := h
  cases hx : ready x d₀.done
  ·rw [hx, cond_false] at h
   show (bif ready x d₀.done then _ else satur G c all (X ++ R) k d₀) = _
   rw [hx, cond_false]; exact ih d₀ h R k
  ·rw [hx] at h; simp at h
noncomputable def multiA (rs : List RO) (n : Nat) : Nat → List RO → List RO → Bool := Nat.rec (fun _ _ _ => false) (fun _ ih done pre rest =>
 match (spanN rest).2 with
 | [] => andL [noneReady done pre, chainA (spanN rest).1 done, noneReady (doneOf (spanN rest).1 done) rs, effsDone (doneOf (spanN rest).1 done) rs]
 | e :: B => andL [noneReady done pre, chainA (spanN rest).1 done, noneReady (doneOf (spanN rest).1 done) (e :: B), noneReady (doneOf (spanN rest).1 done) rs, isEff e.kind, bnot (Nat.testBit (doneOf (spanN rest).1 done) e.i),
   effsDone (doneOf (spanN rest).1 done) (pre ++ (spanN rest).1), sub e.pre (doneOf (spanN rest).1 done), othersAfter e (doneOf (spanN rest).1 done) rs, sealedL e.pre (pre ++ (spanN rest).1),
   ih (Nat.lor (doneOf (spanN rest).1 done) (Nat.pow 2 e.i)) (pre ++ (spanN rest).1 ++ [e]) B]) n
theorem runA_from {c : Ctx} {all : List Oper} : ∀ {A : List RO} {m : Nat} {d d' : DS}, KindsOk A → chainA A m = true → runA G c all A d = some d' → ∀ k ∈ d'.kept, k ∈ d.kept ∨ k.r ∈ A
 | [], _, d, d', _, _, h => by have h : some d = some d' := h; simp only [Option.some.injEq] at h; subst h; exact fun k hk => .inl hk
 | r :: A, m, d, d', hk, hc, h => by
  obtain ⟨h1, h2, h3⟩ := chainA_cons hc
  obtain ⟨e, g1, g2⟩ := bindO_some h
  have b := runA_from (fun r hr => hk r (List.mem_cons_of_mem _ hr)) h3 g2
  intro k hkk
  rcases b k hkk with h | h
  ·unfold stepA at g1
   cases hw : wantedA all r.o.guard d.s.tm
   ·rw [hw, cond_false] at g1
    obtain ⟨_, g1⟩ := putTm_split g1
    simp only [Option.some.injEq] at g1; subst g1; exact .inl h
   ·rw [hw, cond_true] at g1
    obtain ⟨p, hp, g1⟩ := bindO_some g1
    obtain ⟨_, g1⟩ := putTm_split g1
    simp only [Option.some.injEq] at g1; subst g1
    have h : k ∈ keepIt r d.s.tm p.1 d.kept := h
    unfold keepIt at h
    split at h
    ·exact .inl h
    ·rcases List.mem_cons.1 h with h | h
     ·exact .inr (by rw [h]; exact List.mem_cons_self)
     ·exact .inl h
  ·exact .inr (List.mem_cons_of_mem _ h)
theorem multi_run {all : List Oper} {rs : List RO} (c : Ctx) : ∀ (n : Nat) (f done : Nat) (pre rest : List RO) (sealed : Nat) (s : St) (kept : List Kept), multiA rs n done pre rest = true → rs = pre ++ rest → KindsOk rest → n ≤ f →
  (∀ k ∈ kept, Nat.testBit sealed k.r.i = true ∧ k.r ∈ pre) → stages F G c all rs f sealed ⟨done, s, kept⟩ = seqOps (rest.map (·.o)) F G c all s := by
 intro n
 induction n with
 | zero => intro f done pre rest sealed s kept h; exact absurd (show (false : Bool) = true from h) (by simp)
 | succ n ih =>
  intro f done pre rest sealed s kept h hrs hk hf hkept
  obtain ⟨f, rfl⟩ : ∃ f', f = f' + 1 := ⟨f - 1, by omega⟩
  have h : (match (spanN rest).2 with
   | [] => andL [noneReady done pre, chainA (spanN rest).1 done, noneReady (doneOf (spanN rest).1 done) rs, effsDone (doneOf (spanN rest).1 done) rs]
   | e :: B => andL [noneReady done pre, chainA (spanN rest).1 done, noneReady (doneOf (spanN rest).1 done) (e :: B), noneReady (doneOf (spanN rest).1 done) rs, isEff e.kind, bnot (Nat.testBit (doneOf (spanN rest).1 done) e.i),
     effsDone (doneOf (spanN rest).1 done) (pre ++ (spanN rest).1), sub e.pre (doneOf (spanN rest).1 done), othersAfter e (doneOf (spanN rest).1 done) rs, sealedL e.pre (pre ++ (spanN rest).1),
     multiA rs n (Nat.lor (doneOf (spanN rest).1 done) (Nat.pow 2 e.i)) (pre ++ (spanN rest).1 ++ [e]) B]) = true := h
  have hs := spanN_eq rest
  generalize spanN rest = p at h hs
  obtain ⟨A, R⟩ := p
  simp only at hs h
  have e0 : stages F G c all rs (f + 1) sealed ⟨done, s, kept⟩ = satur G c all rs (stageEnd F G c all rs (stages F G c all rs f) sealed) ⟨done, s, kept⟩ := rfl
  have kA : KindsOk A := fun r hr => hk r (by rw [← hs]; exact List.mem_append.2 (.inl hr))
  cases R with
  | nil =>
   simp only at h
   have h := andL_ok h
   simp only [List.mem_cons, List.not_mem_nil, or_false, forall_eq_or_imp, forall_eq] at h
   obtain ⟨a1, a2, a3, a4⟩ := h
   rw [List.append_nil] at hs
   subst hs
   have t2 := seqOps_runA (G := G) (F := F) (c := c) (all := all) (rest := []) (d := ⟨done, s, kept⟩) kA a2
   rw [List.append_nil] at t2
   have t1 := satur_runA (G := G) (c := c) (all := all) (R := []) (k := stageEnd F G c all rs (stages F G c all rs f) sealed) (A := A) (d := ⟨done, s, kept⟩) a2
   rw [List.append_nil] at t1
   have hsk := satur_skip2 (G := G) (c := c) (all := all) pre ⟨done, s, kept⟩ a1 A (stageEnd F G c all rs (stages F G c all rs f) sealed)
   rw [e0]
   conv => lhs; rw [show satur G c all rs (stageEnd F G c all rs (stages F G c all rs f) sealed) = satur G c all (pre ++ A) (stageEnd F G c all rs (stages F G c all rs f) sealed) by rw [← hrs]]
   rw [hsk, t1]
   refine Eq.trans ?_ t2.symm
   cases hr : runA G c all A ⟨done, s, kept⟩ with
   | none => rfl
   | some d' =>
    have hd : d'.done = doneOf A done := runA_done hr
    obtain ⟨n1, n2⟩ := runA_new kA a2 hr
    show stageEnd F G c all rs (stages F G c all rs f) sealed d' = some [d'.s]
    unfold stageEnd stageOk
    rw [hd, a3, cond_true, nextEff_over a4, keptOk_good]
    ·rfl
    ·intro k hkk
     rcases n2 k hkk with h | h
     ·exact .inl (hkept k h).1
     ·exact .inr (by rw [n1]; exact h)
  | cons e B =>
   simp only at h
   have h := andL_ok h
   simp only [List.mem_cons, List.not_mem_nil, or_false, forall_eq_or_imp, forall_eq] at h
   obtain ⟨a1, a2, a3, a4, a5, a6, a7, a8, a9, a10, a11⟩ := h
   have h1 : Nat.testBit (doneOf A done) e.i = false := by
    rw [bnot_eq] at a6; simpa using a6
   subst hs
   have t2 := seqOps_runA (G := G) (F := F) (c := c) (all := all) (rest := e.o :: B.map (·.o)) (d := ⟨done, s, kept⟩) kA a2
   have t1 := satur_runA (G := G) (c := c) (all := all) (R := e :: B) (k := stageEnd F G c all rs (stages F G c all rs f) sealed) (A := A) (d := ⟨done, s, kept⟩) a2
   have hsk := satur_skip2 (G := G) (c := c) (all := all) pre ⟨done, s, kept⟩ a1 (A ++ e :: B) (stageEnd F G c all rs (stages F G c all rs f) sealed)
   rw [e0]
   conv => lhs; rw [show satur G c all rs (stageEnd F G c all rs (stages F G c all rs f) sealed) = satur G c all (pre ++ (A ++ e :: B)) (stageEnd F G c all rs (stages F G c all rs f) sealed) by rw [← hrs]]
   rw [hsk, t1]
   have e3 : (A ++ e :: B).map (·.o) = A.map (·.o) ++ e.o :: B.map (·.o) := by simp
   rw [e3]
   refine Eq.trans ?_ t2.symm
   cases hr : runA G c all A ⟨done, s, kept⟩ with
   | none => rfl
   | some d' =>
    have hd : d'.done = doneOf A done := runA_done hr
    obtain ⟨n1, n2⟩ := runA_new kA a2 hr
    have n3 := runA_from kA a2 hr
    have hrs' : rs = (pre ++ A) ++ e :: B := by rw [hrs, List.append_assoc]
    show satur G c all (e :: B) (stageEnd F G c all rs (stages F G c all rs f) sealed) d' = seqOps (e.o :: B.map (·.o)) F G c all d'.s
    rw [satur_skip (by rw [hd]; exact a3)]
    have hne : nextEff (doneOf A done) rs = some e := by rw [hrs']; exact nextEff_after a5 h1 a7
    unfold stageEnd stageOk
    rw [hd, a4, cond_true, hne, keptOk_good (fun k hkk => by
     rcases n2 k hkk with h | h
     ·exact .inl (hkept k h).1
     ·exact .inr (by rw [n1]; exact h)), cond_true]
    show (bif sub e.pre d'.done then (bif othersAfter e d'.done rs then effRun F G c all e d' (stages F G c all rs f e.pre) else none) else none) = _
    rw [hd, a8, a9, cond_true, cond_true, s_ops_cons]
    have tail : ∀ (s' : St), stages F G c all rs f e.pre ⟨Nat.lor d'.done (Nat.pow 2 e.i), s', d'.kept⟩ = seqOps (B.map (·.o)) F G c all s' := fun s' => by
     rw [hd]
     refine ih f _ (pre ++ A ++ [e]) B e.pre s' d'.kept a11 (by rw [hrs']; simp) (fun r hr => hk r (List.mem_append.2 (.inr (List.mem_cons_of_mem _ hr)))) (by omega) fun k hkk => ?_
     have hin : k.r ∈ pre ++ A := by
      rcases n3 k hkk with h | h
      ·exact List.mem_append.2 (.inl (hkept k h).2)
      ·exact List.mem_append.2 (.inr h)
     exact ⟨sealedL_mem a10 _ hin, List.mem_append.2 (.inl hin)⟩
    unfold effRun runOne
    congr 1
    ·have : runKind (kindOf e.o.op) = runE := by
      rw [← hk e (List.mem_append.2 (.inr List.mem_cons_self))]
      cases h : e.kind
      all_goals first | rfl | (rw [h] at a5; simp [isEff] at a5)
     rw [this]
     unfold effDo runE
     congr 1; funext p
     congr 1; funext tm
     rw [forceN_eq]; exact tail _
    ·unfold effSkip runSkip
     congr 1; funext tm
     rw [forceN_eq]; exact tail _
noncomputable def multiDraw (all : List Oper) : Bool := match prepGo all 0 .e with
 | none => false
 | some rs => bif allOk all rs rs then multiA rs 20 0 [] rs else false
theorem s_drawX {all : List Oper} (i : Nat) (h : multiDraw all = true) (c : Ctx) (s : St) : cRegion i all.toArray true F G c s = normals (seqOps all F G c all s) := by
 show normals (drawOps F G c all s) = _
 refine congrArg normals ?_
 unfold multiDraw at h
 split at h
 ·simp at h
 ·rename_i rs hp
  obtain ⟨h1, h2⟩ := band_true h
  obtain ⟨q1, q2⟩ := prepGo_ops hp
  have e2 : drawOps F G c all s = stages F G c all rs 100 0 ⟨0, s, []⟩ := by
   unfold drawOps drawOn
   rw [hp]
   show (bif allOk all rs rs then _ else none) = _
   rw [h1]; rfl
  rw [e2, multi_run c 20 100 0 [] rs 0 s [] h2 rfl q2 (by omega) (fun k hk => by simp at hk), q1]
end
end Go.Sx
namespace Go.Sx
section
variable {P : Program} {G : Tab} {F : Fns}
noncomputable def satL (l : List RO) (done : Nat) : List RO := List.rec (fun _ => []) (fun r _ ih m => bif ready r m then r :: ih (Nat.lor m (Nat.pow 2 r.i)) else ih m) l done
noncomputable def noAlloc (l : List RO) : Bool := List.rec true (fun r _ ih => bif isAlloc r.kind then false else ih) l
noncomputable def appP (A : List RO) (o : Option (List RO)) : Option (List RO) := match o with
 | some l => some (A ++ l)
 | none => none
noncomputable def planStep (rs : List RO) (ih : Nat → Option (List RO)) (done : Nat) (A : List RO) : Option (List RO) :=
 bif andL [noAlloc A, noneReady (doneOf A done) rs] then
  (match nextEff (doneOf A done) rs with
  | none => some A
  | some e => bif andL [sub e.pre (doneOf A done), othersAfter e (doneOf A done) rs] then appP (A ++ [e]) (ih (Nat.lor (doneOf A done) (Nat.pow 2 e.i))) else none)
 else none
noncomputable def planOf (rs : List RO) (n : Nat) : Nat → Option (List RO) := Nat.rec (fun _ => none) (fun _ ih done => planStep rs ih done (satL rs done)) n
theorem satL_cons (r : RO) (l : List RO) (m : Nat) : satL (r :: l) m = bif ready r m then r :: satL l (Nat.lor m (Nat.pow 2 r.i)) else satL l m := rfl
theorem noAlloc_mem : ∀ {A : List RO}, noAlloc A = true → ∀ r ∈ A, isAlloc r.kind = false
 | [], _, r, hr => by simp at hr
 | x :: A, h, r, hr => by
  have h : (bif isAlloc x.kind then false else noAlloc A) = true := h
  cases hx : isAlloc x.kind
  ·rw [hx] at h
   rcases List.mem_cons.1 hr with rfl | hr
   ·exact hx
   ·exact noAlloc_mem h r hr
  ·rw [hx] at h; simp at h
theorem satL_mem : ∀ {l : List RO} {m : Nat}, ∀ r ∈ satL l m, r ∈ l
 | [], _, r, hr => by simp [satL] at hr
 | x :: l, m, r, hr => by
  rw [satL_cons] at hr
  cases hx : ready x m
  ·rw [hx, cond_false] at hr
   exact List.mem_cons_of_mem _ (satL_mem r hr)
  ·rw [hx, cond_true] at hr
   rcases List.mem_cons.1 hr with rfl | hr
   ·exact List.mem_cons_self
   ·exact List.mem_cons_of_mem _ (satL_mem r hr)
theorem satL_chain : ∀ {l : List RO} {m : Nat}, (∀ r ∈ satL l m, isAlloc r.kind = false) → chainA (satL l m) m = true
 | [], _, _ => rfl
 | x :: l, m, h => by
  rw [satL_cons] at h ⊢
  cases hx : ready x m
  ·rw [hx, cond_false] at h
   rw [cond_false]
   exact satL_chain h
  ·rw [hx, cond_true] at h
   rw [cond_true]
   show (bif ready x m then (bif isAlloc x.kind then false else chainA _ _) else false) = true
   rw [hx, h x List.mem_cons_self, cond_true, cond_false]
   exact satL_chain fun r hr => h r (List.mem_cons_of_mem _ hr)
theorem satur_sat {c : Ctx} {all : List Oper} {k : DK} : ∀ {l : List RO} {d : DS}, satur G c all l k d = bindO (runA G c all (satL l d.done) d) k
 | [], _ => rfl
 | r :: l, d => by
  show (bif ready r d.done then (bif wantedA all r.o.guard d.s.tm then saturDo G c r d (satur G c all l k) else saturSkip c r d (satur G c all l k)) else satur G c all l k d) = _
  rw [satL_cons]
  cases hr : ready r d.done
  ·rw [cond_false, cond_false]; exact satur_sat
  ·rw [cond_true, cond_true, runA_cons, bindO_assoc]
   have key : ∀ {o : Option DS}, (∀ e, o = some e → e.done = Nat.lor d.done (Nat.pow 2 r.i)) → bindO o (satur G c all l k) = bindO o fun a => bindO (runA G c all (satL l (Nat.lor d.done (Nat.pow 2 r.i))) a) k := by
    intro o ho
    cases o with
    | none => rfl
    | some e =>
     show satur G c all l k e = bindO (runA G c all (satL l (Nat.lor d.done (Nat.pow 2 r.i))) e) k
     rw [satur_sat, ho e rfl]
   have hd : ∀ e, stepA G c all r d = some e → e.done = Nat.lor d.done (Nat.pow 2 r.i) := fun e he => stepA_done he
   rw [← key hd]
   unfold stepA
   rw [bindO_ite, saturDo_eq, saturSkip_eq]
theorem nextEff_eff {done : Nat} {e : RO} : ∀ {l : List RO}, nextEff done l = some e → isEff e.kind = true ∧ e ∈ l
 | [], h => by simp [nextEff] at h
 | r :: l, h => by
  have h : (bif isEff r.kind then (bif Nat.testBit done r.i then nextEff done l else some r) else nextEff done l) = some e := h
  cases hr : isEff r.kind
  ·rw [hr, cond_false] at h
   exact ⟨(nextEff_eff h).1, List.mem_cons_of_mem _ (nextEff_eff h).2⟩
  ·rw [hr, cond_true] at h
   cases hb : Nat.testBit done r.i
   ·rw [hb, cond_false] at h
    simp only [Option.some.injEq] at h
    subst h; exact ⟨hr, List.mem_cons_self⟩
   ·rw [hb, cond_true] at h
    exact ⟨(nextEff_eff h).1, List.mem_cons_of_mem _ (nextEff_eff h).2⟩
open Classical in
noncomputable def effH (H0 : Heap) (d : Option Tmp) (r : Option (List EOut)) (ih : Run) : Run := fun F G c all s =>
 match r with
 | some [p] => if p.2.2 = H0 then putTm c s.tm d p.1 fun tm => ih F G c all ⟨tm, p.2.2, p.2.1⟩ else none
 | _ => none
noncomputable def oneH (H0 : Heap) (o : Oper) (ih : Run) : Run := fun F G c all s =>
 bif wantedA all o.guard s.tm then (bif isEff (kindOf o.op) then effH H0 o.dst (opE o.op F G c s.tm s.df s.h) ih F G c all s else runN o ih F G c all s) else runSkip o ih F G c all s
noncomputable def seqH (H0 : Heap) (l : List Oper) : Run := List.rec (fun _ _ _ _ s => some [s]) (fun o _ ih => oneH H0 o ih) l
theorem seqH_cons (H0 : Heap) (o : Oper) (l : List Oper) (c : Ctx) (all : List Oper) (s : St) : seqH H0 (o :: l) F G c all s = oneH H0 o (seqH H0 l) F G c all s := rfl
theorem seqH_step {H0 : Heap} {c : Ctx} {all : List Oper} {r : RO} {d : DS} {rest : List Oper} (hk : r.kind = kindOf r.o.op) (he : isEff r.kind = false) :
  seqH H0 (r.o :: rest) F G c all d.s = bindO (stepA G c all r d) fun d' => seqH H0 rest F G c all d'.s := by
 rw [seqH_cons]
 unfold oneH stepA
 rw [bindO_ite, ← hk, he, cond_false]
 congr 1
 ·unfold runN
  rw [bindO_assoc]
  congr 1; funext p
  rw [putTm_bind]; rfl
 ·unfold runSkip
  rw [putTm_bind]; rfl
theorem seqH_runA {H0 : Heap} {c : Ctx} {all : List Oper} {rest : List Oper} : ∀ {A : List RO} {d : DS} {m : Nat}, KindsOk A → chainA A m = true → seqH H0 (A.map (·.o) ++ rest) F G c all d.s = bindO (runA G c all A d) fun d' => seqH H0 rest F G c all d'.s
 | [], _, _, _, _ => rfl
 | r :: A, d, m, hk, h => by
  obtain ⟨h1, h2, h3⟩ := chainA_cons h
  rw [List.map_cons, List.cons_append, seqH_step (hk r List.mem_cons_self) (ready_eff h1), runA_cons, bindO_assoc]
  congr 1; funext e
  exact seqH_runA (fun r hr => hk r (List.mem_cons_of_mem _ hr)) h3
theorem stages_H {all : List Oper} {rs : List RO} (hK : KindsOk rs) (c : Ctx) : ∀ (n f done : Nat) (sealed : Nat) (s : St) (kept : List Kept) (L : List RO) (l : List St), planOf rs n done = some L → n ≤ f →
  (∀ k ∈ kept, Good G s.h k) → seqH s.h (L.map (·.o)) F G c all s = some l → stages F G c all rs f sealed ⟨done, s, kept⟩ = some l := by
 intro n
 induction n with
 | zero => intro f done sealed s kept L l h; exact absurd (show (none : Option (List RO)) = some L from h) (by simp)
 | succ n ih =>
  intro f done sealed s kept L l h hf hkept hl
  obtain ⟨f, rfl⟩ : ∃ f', f = f' + 1 := ⟨f - 1, by omega⟩
  have h : planStep rs (planOf rs n) done (satL rs done) = some L := h
  unfold planStep at h
  obtain ⟨h1, h⟩ := cond_some h
  have h1 := andL_ok h1
  simp only [List.mem_cons, List.not_mem_nil, or_false, forall_eq_or_imp, forall_eq] at h1
  obtain ⟨a1, a2⟩ := h1
  have hmem := noAlloc_mem a1
  have hch : chainA (satL rs done) done = true := satL_chain hmem
  have kA : KindsOk (satL rs done) := fun r hr => hK r (satL_mem r hr)
  show satur G c all rs (stageEnd F G c all rs (stages F G c all rs f) sealed) ⟨done, s, kept⟩ = some l
  rw [satur_sat]
  show bindO (runA G c all (satL rs done) ⟨done, s, kept⟩) _ = some l
  have base : ∀ (rest : List Oper), seqH s.h ((satL rs done).map (·.o) ++ rest) F G c all s = some l → ∃ d', runA G c all (satL rs done) ⟨done, s, kept⟩ = some d' ∧ d'.done = doneOf (satL rs done) done ∧ d'.s.h = s.h ∧
    (∀ k ∈ d'.kept, Good G s.h k) ∧ seqH s.h rest F G c all d'.s = some l := fun rest hr => by
   have t := seqH_runA (G := G) (F := F) (H0 := s.h) (c := c) (all := all) (rest := rest) (d := ⟨done, s, kept⟩) kA hch
   rw [t] at hr
   obtain ⟨d', e1, e2⟩ := bindO_some hr
   obtain ⟨n1, n2⟩ := runA_new kA hch e1
   exact ⟨d', e1, runA_done e1, n1, fun k hk => (n2 k hk).elim (hkept k) id, e2⟩
  cases he : nextEff (doneOf (satL rs done) done) rs with
  | none =>
   rw [he] at h
   simp only [Option.some.injEq] at h
   subst h
   obtain ⟨d', e1, e2, e3, e4, e5⟩ := base [] (by rw [List.append_nil]; exact hl)
   rw [e1]
   show stageEnd F G c all rs (stages F G c all rs f) sealed d' = some l
   unfold stageEnd stageOk
   rw [e2, a2, cond_true, he, keptOk_good fun k hk => .inr (by rw [e3]; exact e4 k hk)]
   exact e5
  | some e =>
   rw [he] at h
   simp only at h
   obtain ⟨h2, h⟩ := cond_some h
   have h2 := andL_ok h2
   simp only [List.mem_cons, List.not_mem_nil, or_false, forall_eq_or_imp, forall_eq] at h2
   obtain ⟨b1, b2⟩ := h2
   unfold appP at h
   split at h
   ·rename_i L' hL'
    simp only [Option.some.injEq] at h
    subst h
    obtain ⟨d', e1, e2, e3, e4, e5⟩ := base (e.o :: L'.map (·.o)) (by simpa using hl)
    rw [e1]
    show stageEnd F G c all rs (stages F G c all rs f) sealed d' = some l
    unfold stageEnd stageOk
    rw [e2, a2, cond_true, he, keptOk_good fun k hk => .inr (by rw [e3]; exact e4 k hk)]
    show (bif sub e.pre d'.done then (bif othersAfter e d'.done rs then effRun F G c all e d' (stages F G c all rs f e.pre) else none) else none) = some l
    rw [e2, b1, b2, cond_true, cond_true]
    obtain ⟨ke, kin⟩ := nextEff_eff he
    rw [seqH_cons] at e5
    unfold oneH at e5
    unfold effRun
    have hk := hK e kin
    rw [← hk, ke] at e5
    cases hw : wantedA all e.o.guard d'.s.tm
    ·rw [hw, cond_false] at e5
     rw [cond_false]
     unfold effSkip
     unfold runSkip at e5
     obtain ⟨tm, g1⟩ : ∃ tm, ∀ (k : T AV → Option (List St)), putTm c d'.s.tm e.o.dst undefA k = k tm := by
      cases hd : e.o.dst with
      | none => exact ⟨_, fun k => rfl⟩
      | some dd =>
       rw [hd, s_putTm] at e5
       by_cases hlt : dd < c.size
       ·exact ⟨_, fun k => by rw [s_putTm, if_pos hlt]⟩
       ·rw [if_neg hlt] at e5; simp at e5
     rw [g1] at e5 ⊢
     rw [forceN_eq, e2]
     exact ih f _ e.pre ⟨tm, d'.s.h, d'.s.df⟩ d'.kept L' l hL' (by omega) (fun k hk => by show Good G d'.s.h k; rw [e3]; exact e4 k hk) (by show seqH d'.s.h _ _ _ _ _ _ = _; rw [e3] at e5 ⊢; exact e5)
    ·rw [hw, cond_true, cond_true] at e5
     rw [cond_true]
     unfold effH at e5
     unfold effDo
     split at e5
     ·rename_i p hp
      split at e5
      ·rename_i hh
       rw [hp]
       obtain ⟨tm, g1⟩ : ∃ tm, ∀ (k : T AV → Option (List St)), putTm c d'.s.tm e.o.dst p.1 k = k tm := by
        cases hd : e.o.dst with
        | none => exact ⟨_, fun k => rfl⟩
        | some dd =>
         rw [hd, s_putTm] at e5
         by_cases hlt : dd < c.size
         ·exact ⟨_, fun k => by rw [s_putTm, if_pos hlt]⟩
         ·rw [if_neg hlt] at e5; simp at e5
       rw [s_bindL, g1]
       rw [g1] at e5
       rw [forceN_eq, e2]
       exact ih f _ e.pre ⟨tm, p.2.2, p.2.1⟩ d'.kept L' l hL' (by omega) (fun k hk => by show Good G p.2.2 k; rw [hh]; exact e4 k hk) (by show seqH p.2.2 _ _ _ _ _ _ = _; rw [hh] at e5 ⊢; exact e5)
      ·simp at e5
     ·simp at e5
   ·simp at h
noncomputable def planOps (all : List Oper) : Option (List Oper) := match prepGo all 0 .e with
 | none => none
 | some rs => bif allOk all rs rs then (match planOf rs 90 0 with | some L => some (L.map (·.o)) | none => none) else none
theorem draw_H {all ops : List Oper} (hp : planOps all = some ops) {i : Nat} {c : Ctx} {s : St} {l : List St} (h : seqH s.h ops F G c all s = some l) : cRegion i all.toArray true F G c s = normals (some l) := by
 show normals (drawOps F G c all s) = _
 unfold planOps at hp
 split at hp
 ·simp at hp
 ·rename_i rs hrs
  obtain ⟨h1, hp⟩ := cond_some hp
  split at hp
  ·rename_i L hL
   simp only [Option.some.injEq] at hp
   subst hp
   have e2 : drawOps F G c all s = stages F G c all rs 100 0 ⟨0, s, []⟩ := by
    unfold drawOps drawOn
    rw [hrs]
    show (bif allOk all rs rs then _ else none) = _
    rw [h1]; rfl
   rw [e2, stages_H (prepGo_ops hrs).2 c 90 100 0 0 s [] L l hL (by omega) (fun k hk => by simp at hk) h]
  ·simp at hp
noncomputable def stepNH (H0 : Heap) (r : Option VH) (d : Option Tmp) (l : List Oper) (F : Fns) (G : Tab) (c : Ctx) (all : List Oper) (s : St) : Option (List St) :=
 bindO r fun p => putTm c s.tm d p.1 fun tm => seqH H0 l F G c all ⟨tm, p.2, s.df⟩
noncomputable def stepKH (H0 : Heap) (k : Kind) (op : Op) (d : Option Tmp) (l : List Oper) (F : Fns) (G : Tab) (c : Ctx) (all : List Oper) (s : St) : Option (List St) :=
 match k with
 | .eff => effH H0 d (opE op F G c s.tm s.df s.h) (seqH H0 l) F G c all s
 | _ => stepNH H0 (opN op G s.tm s.h) d l F G c all s
noncomputable def stepGH (H0 : Heap) (b : Bool) (op : Op) (d : Option Tmp) (l : List Oper) (F : Fns) (G : Tab) (c : Ctx) (all : List Oper) (s : St) : Option (List St) :=
 bif b then stepKH H0 (kindOf op) op d l F G c all s else putTm c s.tm d undefA fun tm => seqH H0 l F G c all ⟨tm, s.h, s.df⟩
variable (H0 : Heap)
theorem h_nil (c : Ctx) (all : List Oper) (s : St) : seqH H0 [] F G c all s = some [s] := rfl
theorem h_ops (o : Option Tmp) (op : Op) (t : TypeId) (p : String) (a : Array Edge) (l : List Oper) (c : Ctx) (all : List Oper) (s : St) :
  seqH H0 (⟨o, op, t, p, a, none⟩ :: l) F G c all s = stepKH H0 (kindOf op) op o l F G c all s := by
 show (bif isEff (kindOf op) then _ else _) = _
 cases kindOf op <;> rfl
theorem h_opsG (o : Option Tmp) (op : Op) (t : TypeId) (p : String) (a : Array Edge) (j : Nat) (w : Bool) (l : List Oper) (c : Ctx) (all : List Oper) (s : St) :
  seqH H0 (⟨o, op, t, p, a, some (j, w)⟩ :: l) F G c all s = stepGH H0 (guardA all s.tm j w) op o l F G c all s := by
 show (bif guardA all s.tm j w then (bif isEff (kindOf op) then _ else _) else _) = _
 unfold stepGH
 cases guardA all s.tm j w
 ·rfl
 ·cases kindOf op <;> rfl
theorem h_G_true (op : Op) (d : Option Tmp) (l : List Oper) (c : Ctx) (all : List Oper) (s : St) : stepGH H0 true op d l F G c all s = stepKH H0 (kindOf op) op d l F G c all s := rfl
theorem h_G_false (op : Op) (d : Tmp) (l : List Oper) (c : Ctx) (all : List Oper) (s : St) (h : d < c.size) : stepGH H0 false op (some d) l F G c all s = seqH H0 l F G c all ⟨s.tm.set d (some undefA), s.h, s.df⟩ := by
 show putTm c s.tm (some d) undefA _ = _
 rw [s_putTm, if_pos h]
theorem h_K_pure (op : Op) (d : Option Tmp) (l : List Oper) (c : Ctx) (all : List Oper) (s : St) : stepKH H0 .pure op d l F G c all s = stepNH H0 (opN op G s.tm s.h) d l F G c all s := rfl
theorem h_K_read (op : Op) (d : Option Tmp) (l : List Oper) (c : Ctx) (all : List Oper) (s : St) : stepKH H0 .read op d l F G c all s = stepNH H0 (opN op G s.tm s.h) d l F G c all s := rfl
theorem h_K_eff (op : Op) (d : Option Tmp) (l : List Oper) (c : Ctx) (all : List Oper) (s : St) : stepKH H0 .eff op d l F G c all s = effH H0 d (opE op F G c s.tm s.df s.h) (seqH H0 l) F G c all s := rfl
theorem h_N (v : AV) (H : Heap) (d : Tmp) (l : List Oper) (c : Ctx) (all : List Oper) (s : St) (h : d < c.size) : stepNH H0 (some (v, H)) (some d) l F G c all s = seqH H0 l F G c all ⟨s.tm.set d (some v), H, s.df⟩ := by
 show putTm c s.tm (some d) v _ = _
 rw [s_putTm, if_pos h]
theorem h_N0 (v : AV) (H : Heap) (l : List Oper) (c : Ctx) (all : List Oper) (s : St) : stepNH H0 (some (v, H)) none l F G c all s = seqH H0 l F G c all ⟨s.tm, H, s.df⟩ := rfl
open Classical in
theorem h_E (v : AV) (df : List ADefer) (d : Tmp) (l : List Oper) (c : Ctx) (all : List Oper) (s : St) (h : d < c.size) :
  effH H0 (some d) (some [(v, df, H0)]) (seqH H0 l) F G c all s = seqH H0 l F G c all ⟨s.tm.set d (some v), H0, df⟩ := by
 show (if H0 = H0 then putTm c s.tm (some d) v _ else none) = _
 rw [if_pos rfl, s_putTm, if_pos h]
open Classical in
theorem h_E0 (v : AV) (df : List ADefer) (l : List Oper) (c : Ctx) (all : List Oper) (s : St) : effH H0 none (some [(v, df, H0)]) (seqH H0 l) F G c all s = seqH H0 l F G c all ⟨s.tm, H0, df⟩ := by
 show (if H0 = H0 then putTm c s.tm none v _ else none) = _
 rw [if_pos rfl]; rfl
end
section
variable {P : Program} {G : Tab} {c : Ctx} {s s' : St} {Q : Ex → St → Prop}
theorem fin_pure2 {H : Heap} {s : St} {a b : AV} {rs : List ResultVar} (hd : s.df = []) (hr : resultsA G s.tm s.h rs = some [a, b]) (hg : Grows H s.h) (hn : Neat H) (hv : ltV H.next (.tuple [a, b])) :
  leaves .ret = true ∧ s.df = [] ∧ ∃ vs, resultsA G s.tm s.h rs = some vs ∧ ∃ p ∈ [(AV.tuple [a, b], H)], Cut H p (oneOf vs) s.h := ⟨rfl, hd, [a, b], hr, (.tuple [a, b], H), List.mem_singleton.2 rfl, .pure hg.next hg.get hn hv⟩
theorem fin_pure3 {H : Heap} {s : St} {a b d : AV} {rs : List ResultVar} (hd : s.df = []) (hr : resultsA G s.tm s.h rs = some [a, b, d]) (hg : Grows H s.h) (hn : Neat H) (hv : ltV H.next (.tuple [a, b, d])) :
  leaves .ret = true ∧ s.df = [] ∧ ∃ vs, resultsA G s.tm s.h rs = some vs ∧ ∃ p ∈ [(AV.tuple [a, b, d], H)], Cut H p (oneOf vs) s.h := ⟨rfl, hd, [a, b, d], hr, (.tuple [a, b, d], H), List.mem_singleton.2 rfl, .pure hg.next hg.get hn hv⟩
def pickC (o : Option Oper) (l : List Oper) : List Oper := match o with
 | some o => o :: l
 | none => []
noncomputable def pickO (all : List Oper) (p : List Nat) : List Oper := List.rec [] (fun i _ ih => pickC all[i]? ih) p
theorem pick_nil (all : List Oper) : pickO all [] = [] := rfl
theorem pick_cons (all : List Oper) (i : Nat) (p : List Nat) : pickO all (i :: p) = pickC all[i]? (pickO all p) := rfl
theorem pick_some (o : Oper) (l : List Oper) : pickC (some o) l = o :: l := rfl
theorem Gets.drawH (TT : TabOk P G) {ov : Ov} (ho : OvOk P G ov) (n : Nat) {i : Nat} {all : List Oper} (ops : List Oper) (hp : planOps all = some ops)
  (h : seqH s.h ops (fnsO G ov n) G c all s = some [s']) (hQ : Q .normal s') : Gets P G c (.region i all.toArray true) s Q :=
 Gets.last TT ho n (s' := s') (by
  show cRegion i all.toArray true (fnsO G ov n) G c s = _
  rw [draw_H hp h]; rfl) hQ
theorem Gets.drawP (TT : TabOk P G) {ov : Ov} (ho : OvOk P G ov) (n : Nat) {i : Nat} {all : List Oper} (p : List Nat) (hp : planOps all = some (pickO all p))
  (h : seqH s.h (pickO all p) (fnsO G ov n) G c all s = some [s']) (hQ : Q .normal s') : Gets P G c (.region i all.toArray true) s Q := Gets.drawH TT ho n _ hp h hQ
end
end Go.Sx
namespace Go.Sx
inductive PStep where
 | rd (i : Nat)
 | sm (i : Nat)
 | lk (i : Nat) (js : List Nat)
 | la (i : Nat) (js as : List Nat)
 | ln (i : Nat) (js : List Nat)
structure KO where
 i : Nat
 op : Op
 tm : T AV
 v : AV
section
variable {P : Program} {G : Tab} {F : Fns}
noncomputable def keepK (k : Kind) (o : KO) (kos : List KO) : List KO := match k with
 | .pure => kos
 | _ => o :: kos
def eachK (G : Tab) (H : Heap) (j : Nat) : List KO → Prop
 | [] => True
 | k :: l => (if k.i = j then opN k.op G k.tm H = some (k.v, H) else True) ∧ eachK G H j l
def lookK (G : Tab) (H : Heap) (kos : List KO) : List Nat → Prop
 | [] => True
 | j :: js => eachK G H j kos ∧ lookK G H kos js
def sameBk (H H' : Heap) (v : AV) : Prop := match blockOf v with
 | some b => H'.blks.get b = H.blks.get b
 | none => False
def eachM (H H' : Heap) (j : Nat) : List KO → Prop
 | [] => True
 | k :: l => (if k.i = j then sameBk H H' k.v else True) ∧ eachM H H' j l
def lookM (H H' : Heap) (kos : List KO) : List Nat → Prop
 | [] => True
 | j :: js => eachM H H' j kos ∧ lookM H H' kos js
abbrev KRun := St → List KO → Option (List St)
noncomputable def rdN (r : Option VH) (d : Option Tmp) (i : Nat) (op : Op) (nxt : KRun) (c : Ctx) (s : St) (kos : List KO) : Option (List St) :=
 bindO r fun q => putTm c s.tm d q.1 fun tm => nxt ⟨tm, q.2, s.df⟩ (keepK (kindOf op) ⟨i, op, s.tm, q.1⟩ kos)
noncomputable def skK (d : Option Tmp) (nxt : KRun) (c : Ctx) (s : St) (kos : List KO) : Option (List St) := putTm c s.tm d undefA fun tm => nxt ⟨tm, s.h, s.df⟩ kos
open Classical in
noncomputable def smE (H0 : Heap) (r : Option (List EOut)) (d : Option Tmp) (nxt : KRun) (c : Ctx) (s : St) (kos : List KO) : Option (List St) := match r with
 | some [q] => if q.2.2 = H0 then putTm c s.tm d q.1 fun tm => nxt ⟨tm, q.2.2, q.2.1⟩ kos else none
 | _ => none
open Classical in
noncomputable def lkE (G : Tab) (js : List Nat) (r : Option (List EOut)) (d : Option Tmp) (nxt : KRun) (c : Ctx) (s : St) (kos : List KO) : Option (List St) := match r with
 | some [q] => if lookK G q.2.2 kos js then putTm c s.tm d q.1 fun tm => nxt ⟨tm, q.2.2, q.2.1⟩ kos else none
 | _ => none
open Classical in
noncomputable def laE (G : Tab) (js as : List Nat) (H0 : Heap) (r : Option (List EOut)) (d : Option Tmp) (nxt : KRun) (c : Ctx) (s : St) (kos : List KO) : Option (List St) := match r with
 | some [q] => if lookK G q.2.2 kos js ∧ lookM H0 q.2.2 kos as then putTm c s.tm d q.1 fun tm => nxt ⟨tm, q.2.2, q.2.1⟩ kos else none
 | _ => none
open Classical in
noncomputable def lnE (G : Tab) (js : List Nat) (r : Option (List EOut)) (d : Option Tmp) (nxt : KRun) (c : Ctx) (s : St) (kos : List KO) : Option (List St) := match r with
 | some [q] => if lookK G q.2.2 kos js ∧ Neat q.2.2 then putTm c s.tm d q.1 fun tm => nxt ⟨tm, q.2.2, q.2.1⟩ kos else none
 | _ => none
noncomputable def rdO (G : Tab) (all : List Oper) (o : Option Oper) (i : Nat) (nxt : KRun) (c : Ctx) (s : St) (kos : List KO) : Option (List St) := match o with
 | some o => bif wantedA all o.guard s.tm then rdN (opN o.op G s.tm s.h) o.dst i o.op nxt c s kos else skK o.dst nxt c s kos
 | none => none
noncomputable def smO (F : Fns) (G : Tab) (all : List Oper) (o : Option Oper) (nxt : KRun) (c : Ctx) (s : St) (kos : List KO) : Option (List St) := match o with
 | some o => bif wantedA all o.guard s.tm then smE s.h (opE o.op F G c s.tm s.df s.h) o.dst nxt c s kos else skK o.dst nxt c s kos
 | none => none
noncomputable def lkO (F : Fns) (G : Tab) (all : List Oper) (o : Option Oper) (js : List Nat) (nxt : KRun) (c : Ctx) (s : St) (kos : List KO) : Option (List St) := match o with
 | some o => bif wantedA all o.guard s.tm then lkE G js (opE o.op F G c s.tm s.df s.h) o.dst nxt c s kos else skK o.dst nxt c s kos
 | none => none
noncomputable def laO (F : Fns) (G : Tab) (all : List Oper) (o : Option Oper) (js as : List Nat) (nxt : KRun) (c : Ctx) (s : St) (kos : List KO) : Option (List St) := match o with
 | some o => bif wantedA all o.guard s.tm then laE G js as s.h (opE o.op F G c s.tm s.df s.h) o.dst nxt c s kos else skK o.dst nxt c s kos
 | none => none
noncomputable def lnO (F : Fns) (G : Tab) (all : List Oper) (o : Option Oper) (js : List Nat) (nxt : KRun) (c : Ctx) (s : St) (kos : List KO) : Option (List St) := match o with
 | some o => bif wantedA all o.guard s.tm then lnE G js (opE o.op F G c s.tm s.df s.h) o.dst nxt c s kos else skK o.dst nxt c s kos
 | none => none
noncomputable def runK (F : Fns) (G : Tab) (c : Ctx) (all : List Oper) (p : List PStep) : KRun := List.rec (fun s _ => some [s]) (fun x _ ih s kos => match x with
 | .rd i => rdO G all all[i]? i ih c s kos
 | .sm i => smO F G all all[i]? ih c s kos
 | .lk i js => lkO F G all all[i]? js ih c s kos
 | .la i js as => laO F G all all[i]? js as ih c s kos
 | .ln i js => lnO F G all all[i]? js ih c s kos) p
noncomputable def matchRd : List RO → List PStep → Option (List PStep)
 | [], p => some p
 | r :: A, .rd i :: p => bif Nat.beq r.i i then matchRd A p else none
 | _ :: _, _ => none
noncomputable def inL (js : List Nat) (l : List RO) : List RO := l.filter fun r => hasNat r.i js
noncomputable def outL (js : List Nat) (l : List RO) : List RO := l.filter fun r => !hasNat r.i js
noncomputable def allAlloc (l : List RO) : Bool := l.all fun r => isAlloc r.kind
noncomputable def stepC (rs : List RO) (ih : Bool → Nat → List RO → List RO → List PStep → Bool) (ok : Bool) (d1 : Nat) (old bad : List RO) (p : List PStep) : Bool :=
 match nextEff d1 rs, p with
 | none, [] => true
 | some e, .sm i :: q => andL [Nat.beq e.i i, sub e.pre d1, othersAfter e d1 rs, sealedL e.pre bad, ih ok (Nat.lor d1 (Nat.pow 2 e.i)) old bad q]
 | some e, .lk i js :: q => andL [Nat.beq e.i i, sub e.pre d1, othersAfter e d1 rs, noAlloc (inL js old), sealedL e.pre (bad ++ outL js old), ih false (Nat.lor d1 (Nat.pow 2 e.i)) old (bad ++ outL js old) q]
 | some e, .la i js as :: q => andL [Nat.beq e.i i, sub e.pre d1, othersAfter e d1 rs, noAlloc (inL js old), sealedL e.pre (bad ++ outL as (outL js old)), allAlloc (inL as (outL js old)), ih false (Nat.lor d1 (Nat.pow 2 e.i)) old (bad ++ outL as (outL js old)) q]
 | some e, .ln i js :: q => andL [Nat.beq e.i i, sub e.pre d1, othersAfter e d1 rs, noAlloc (inL js old), sealedL e.pre (bad ++ outL js old), ih ok (Nat.lor d1 (Nat.pow 2 e.i)) old (bad ++ outL js old) q]
 | _, _ => false
noncomputable def planC (rs : List RO) (n : Nat) : Bool → Nat → List RO → List RO → List PStep → Bool := Nat.rec (fun _ _ _ _ _ => false) (fun _ ih ok done old bad p =>
 match matchRd (satL rs done) p with
 | none => false
 | some p' => bif andL [ok || noAlloc (satL rs done), noneReady (doneOf (satL rs done) done) rs] then stepC rs ih ok (doneOf (satL rs done) done) (old ++ satL rs done) bad p' else false) n
noncomputable def planOk (all : List Oper) (p : List PStep) : Bool := match prepGo all 0 .e with
 | none => false
 | some rs => bif allOk all rs rs then planC rs 90 true 0 [] [] p else false
theorem prepGo_idx : ∀ {l : List Oper} {i : Nat} {acc : T Nat} {rs : List RO}, prepGo l i acc = some rs → ∀ r ∈ rs, i ≤ r.i ∧ l[r.i - i]? = some r.o
 | [], _, _, rs, h => by have h : some [] = some rs := h; simp only [Option.some.injEq] at h; subst h; exact fun r hr => by simp at hr
 | o :: l, i, acc, rs, h => by
  have h : (bindO (preOf acc i o.after.toList 0) fun m => forceN m fun m => acc.setK i (some m) fun acc' => forceN (i + 1) fun i' => consO ⟨i, o, m, kindOf o.op⟩ (prepGo l i' acc')) = some rs := h
  obtain ⟨m, hm, h⟩ := bindO_some h
  rw [forceN_eq, T.setK_eq, forceN_eq] at h
  cases hrs : prepGo l (i + 1) (acc.set i (some m)) with
  | none => rw [hrs] at h; simp [consO] at h
  | some rs' =>
   rw [hrs] at h
   simp only [consO, Option.some.injEq] at h
   subst h
   have ih := prepGo_idx hrs
   intro r hr
   rcases List.mem_cons.1 hr with rfl | hr
   ·exact ⟨Nat.le_refl _, by simp⟩
   ·obtain ⟨h1, h2⟩ := ih r hr
    refine ⟨by omega, ?_⟩
    rw [show r.i - i = (r.i - (i + 1)) + 1 by omega]
    exact h2
theorem putTm_mk {β : Type} {c : Ctx} {tm : T AV} {dst : Option Tmp} {v : AV} {k : T AV → Option β} (h : ∀ d, dst = some d → d < c.size) : putTm c tm dst v k = k (putTs dst tm v) := by
 cases dst with
 | none => rfl
 | some d => rw [s_putTm, if_pos (h d rfl)]; rfl
def koOf (k : Kept) : KO := ⟨k.r.i, k.r.o.op, k.tm, k.v⟩
theorem runK_A {c : Ctx} {all : List Oper} {l : List St} : ∀ {A : List RO} {d : DS} {kos : List KO} {p p' : List PStep}, KindsOk A → (∀ r ∈ A, all[r.i]? = some r.o) → matchRd A p = some p' → runK F G c all p d.s kos = some l →
  ∃ d' kos', runA G c all A d = some d' ∧ runK F G c all p' d'.s kos' = some l ∧ (∀ k ∈ d'.kept, k ∈ d.kept ∨ (k.r ∈ A ∧ koOf k ∈ kos')) ∧ ∀ x ∈ kos, x ∈ kos'
 | [], d, kos, p, p', _, _, hm, h => by
  have hm : some p = some p' := hm
  simp only [Option.some.injEq] at hm; subst hm
  exact ⟨d, kos, rfl, h, fun k hk => .inl hk, fun x hx => hx⟩
 | r :: A, d, kos, p, p', hk, hi, hm, h => by
  match p, hm, h with
  | [], hm, _ => simp [matchRd] at hm
  | .sm _ :: _, hm, _ => simp [matchRd] at hm
  | .lk _ _ :: _, hm, _ => simp [matchRd] at hm
  | .la _ _ _ :: _, hm, _ => simp [matchRd] at hm
  | .ln _ _ :: _, hm, _ => simp [matchRd] at hm
  | .rd i :: q, hm, h =>
   have hm : (bif Nat.beq r.i i then matchRd A q else none) = some p' := hm
   obtain ⟨hb, hm2⟩ := cond_some hm
   obtain rfl := Nat.eq_of_beq_eq_true hb
   have h : rdO G all all[r.i]? r.i (runK F G c all q) c d.s kos = some l := h
   rw [hi r List.mem_cons_self] at h
   have h : (bif wantedA all r.o.guard d.s.tm then rdN (opN r.o.op G d.s.tm d.s.h) r.o.dst r.i r.o.op (runK F G c all q) c d.s kos else skK r.o.dst (runK F G c all q) c d.s kos) = some l := h
   have hkr := hk r List.mem_cons_self
   have kA : KindsOk A := fun r hr => hk r (List.mem_cons_of_mem _ hr)
   have iA : ∀ r ∈ A, all[r.i]? = some r.o := fun r hr => hi r (List.mem_cons_of_mem _ hr)
   rw [runA_cons]
   unfold stepA
   cases hw : wantedA all r.o.guard d.s.tm
   ·rw [hw, cond_false] at h
    unfold skK at h
    obtain ⟨h1, h2⟩ := putTm_split h
    rw [cond_false, putTm_mk h1]
    obtain ⟨d', kos', g1, g2, g3, g4⟩ := runK_A (d := ⟨Nat.lor d.done (Nat.pow 2 r.i), ⟨putTs r.o.dst d.s.tm undefA, d.s.h, d.s.df⟩, d.kept⟩) kA iA hm2 h2
    exact ⟨d', kos', g1, g2, fun k hk => (g3 k hk).elim .inl fun h => .inr ⟨List.mem_cons_of_mem _ h.1, h.2⟩, g4⟩
   ·rw [hw, cond_true] at h
    unfold rdN at h
    obtain ⟨q', hq, h⟩ := bindO_some h
    obtain ⟨h1, h2⟩ := putTm_split h
    rw [cond_true, hq, s_bindO, putTm_mk h1]
    obtain ⟨d', kos', g1, g2, g3, g4⟩ := runK_A (d := ⟨Nat.lor d.done (Nat.pow 2 r.i), ⟨putTs r.o.dst d.s.tm q'.1, q'.2, d.s.df⟩, keepIt r d.s.tm q'.1 d.kept⟩) kA iA hm2 h2
    refine ⟨d', kos', g1, g2, fun k hk => ?_, fun x hx => g4 x ?_⟩
    ·rcases g3 k hk with h | h
     ·have h : k ∈ keepIt r d.s.tm q'.1 d.kept := h
      unfold keepIt at h
      split at h
      ·exact .inl h
      ·rename_i hne
       rcases List.mem_cons.1 h with h | h
       ·refine .inr ⟨by rw [h]; exact List.mem_cons_self, g4 _ ?_⟩
        rw [h]
        unfold keepK
        rw [← hkr]
        split
        ·rename_i e; exact absurd e hne
        ·exact List.mem_cons_self
       ·exact .inl h
     ·exact .inr ⟨List.mem_cons_of_mem _ h.1, h.2⟩
    ·unfold keepK
     split
     ·exact hx
     ·exact List.mem_cons_of_mem _ hx
theorem eachK_mem {H : Heap} {j : Nat} : ∀ {kos : List KO}, eachK G H j kos → ∀ k ∈ kos, k.i = j → opN k.op G k.tm H = some (k.v, H)
 | [], _, k, hk, _ => by simp at hk
 | x :: l, h, k, hk, hj => by
  rcases List.mem_cons.1 hk with rfl | hk
  ·have := h.1; rw [if_pos hj] at this; exact this
  ·exact eachK_mem h.2 k hk hj
theorem lookK_mem {H : Heap} {kos : List KO} : ∀ {js : List Nat}, lookK G H kos js → ∀ k ∈ kos, k.i ∈ js → opN k.op G k.tm H = some (k.v, H)
 | [], _, k, _, hj => by simp at hj
 | x :: l, h, k, hk, hj => by
  rcases List.mem_cons.1 hj with hj | hj
  ·exact eachK_mem h.1 k hk hj
  ·exact lookK_mem h.2 k hk hj
theorem eachM_mem {H H' : Heap} {j : Nat} : ∀ {kos : List KO}, eachM H H' j kos → ∀ k ∈ kos, k.i = j → ∀ b, blockOf k.v = some b → H'.blks.get b = H.blks.get b
 | [], _, k, hk, _, _, _ => by simp at hk
 | x :: l, h, k, hk, hj, b, hb => by
  rcases List.mem_cons.1 hk with rfl | hk
  ·have h1 := h.1
   rw [if_pos hj] at h1
   unfold sameBk at h1
   rw [hb] at h1
   exact h1
  ·exact eachM_mem h.2 k hk hj b hb
theorem lookM_mem {H H' : Heap} {kos : List KO} : ∀ {js : List Nat}, lookM H H' kos js → ∀ k ∈ kos, k.i ∈ js → ∀ b, blockOf k.v = some b → H'.blks.get b = H.blks.get b
 | [], _, k, _, hj, _, _ => by simp at hj
 | x :: l, h, k, hk, hj, b, hb => by
  rcases List.mem_cons.1 hj with hj | hj
  ·exact eachM_mem h.1 k hk hj b hb
  ·exact lookM_mem h.2 k hk hj b hb
theorem allAlloc_mem {l : List RO} (h : allAlloc l = true) : ∀ r ∈ l, isAlloc r.kind = true := fun r hr => List.all_eq_true.1 h r hr
theorem inOut {js : List Nat} {l : List RO} {r : RO} (h : r ∈ l) : r ∈ outL js l ∨ (r ∈ inL js l ∧ hasNat r.i js = true) := by
 cases hh : hasNat r.i js
 ·exact .inl (List.mem_filter.2 ⟨h, by rw [hh]; rfl⟩)
 ·exact .inr ⟨List.mem_filter.2 ⟨h, hh⟩, rfl⟩
theorem stages_K {all : List Oper} {rs : List RO} (hK : KindsOk rs) (hI : ∀ r ∈ rs, all[r.i]? = some r.o) (c : Ctx) : ∀ (n f : Nat) (ok : Bool) (done : Nat) (sealed : Nat) (s : St) (kept : List Kept) (kos : List KO) (old bad : List RO) (p : List PStep) (l : List St),
  planC rs n ok done old bad p = true → n ≤ f → (ok = true → Neat s.h) → (∀ r ∈ bad, Nat.testBit sealed r.i = true) →
  (∀ k ∈ kept, (k.r ∈ old ∧ k.r.kind = kindOf k.r.o.op ∧ koOf k ∈ kos) ∧ (k.r ∈ bad ∨ GoodM G s.h k)) → runK F G c all p s kos = some l → stages F G c all rs f sealed ⟨done, s, kept⟩ = some l := by
 intro n
 induction n with
 | zero => intro f ok done sealed s kept kos old bad p l h; exact absurd (show (false : Bool) = true from h) (by simp)
 | succ n ih =>
  intro f ok done sealed s kept kos old bad p l h hf hN hbad hkept hl
  obtain ⟨f, rfl⟩ : ∃ f', f = f' + 1 := ⟨f - 1, by omega⟩
  have h : (match matchRd (satL rs done) p with
   | none => false
   | some p' => bif andL [ok || noAlloc (satL rs done), noneReady (doneOf (satL rs done) done) rs] then stepC rs (planC rs n) ok (doneOf (satL rs done) done) (old ++ satL rs done) bad p' else false) = true := h
  cases hm : matchRd (satL rs done) p with
  | none => rw [hm] at h; simp at h
  | some p' =>
  rw [hm] at h
  simp only at h
  cases h1 : andL [ok || noAlloc (satL rs done), noneReady (doneOf (satL rs done) done) rs]
  ·rw [h1] at h; simp at h
  rw [h1, cond_true] at h
  have h1 := andL_ok h1
  simp only [List.mem_cons, List.not_mem_nil, or_false, forall_eq_or_imp, forall_eq] at h1
  obtain ⟨a1, a2⟩ := h1
  have kA : KindsOk (satL rs done) := fun r hr => hK r (satL_mem r hr)
  have iA : ∀ r ∈ satL rs done, all[r.i]? = some r.o := fun r hr => hI r (satL_mem r hr)
  obtain ⟨d', kos', e1, e2, e3, e4⟩ := runK_A (d := ⟨done, s, kept⟩) kA iA hm hl
  -- what is known behind the reading
  have base : (ok = true → Neat d'.s.h) ∧ ∀ k ∈ d'.kept, (k.r ∈ old ++ satL rs done ∧ k.r.kind = kindOf k.r.o.op ∧ koOf k ∈ kos') ∧ (k.r ∈ bad ∨ GoodM G d'.s.h k) := by
   have kk : ∀ k ∈ d'.kept, k.r ∈ old ++ satL rs done ∧ k.r.kind = kindOf k.r.o.op ∧ koOf k ∈ kos' := fun k hk => by
    rcases e3 k hk with h | ⟨h, h'⟩
    ·have h : k ∈ kept := h
     obtain ⟨⟨q1, q2, q3⟩, _⟩ := hkept k h
     exact ⟨List.mem_append.2 (.inl q1), q2, e4 _ q3⟩
    ·exact ⟨List.mem_append.2 (.inr h), kA _ h, h'⟩
   by_cases hna : noAlloc (satL rs done) = true
   ·have hch : chainA (satL rs done) done = true := satL_chain (noAlloc_mem hna)
    obtain ⟨n1, n2⟩ := runA_new kA hch e1
    refine ⟨fun h => by rw [n1]; exact hN h, fun k hk => ⟨kk k hk, ?_⟩⟩
    rcases n2 k hk with h | h
    ·have h : k ∈ kept := h
     refine (hkept k h).2.imp id fun h => ?_
     rw [n1]; exact h
    ·refine .inr (.inl ?_)
     rw [n1]; exact h
   ·have hok : ok = true := by simpa [hna] using a1
    -- makings too: the memory grows
    have gen : ∀ {A : List RO} {d d' : DS}, KindsOk A → runA G c all A d = some d' → Neat d.s.h → (∀ k ∈ d.kept, k.r.kind = kindOf k.r.o.op ∧ (k.r ∈ bad ∨ GoodM G d.s.h k)) →
      Neat d'.s.h ∧ ∀ k ∈ d'.kept, k.r.kind = kindOf k.r.o.op ∧ (k.r ∈ bad ∨ GoodM G d'.s.h k) := by
     intro A
     induction A with
     | nil => intro d d' _ h hN hg; have h : some d = some d' := h; simp only [Option.some.injEq] at h; subst h; exact ⟨hN, hg⟩
     | cons r A ihA =>
      intro d d' hk h hN hg
      obtain ⟨e, g1, g2⟩ := bindO_some h
      have hkr := hk r List.mem_cons_self
      -- one operation
      have one : Neat e.s.h ∧ ∀ k ∈ e.kept, k.r.kind = kindOf k.r.o.op ∧ (k.r ∈ bad ∨ GoodM G e.s.h k) := by
       unfold stepA at g1
       cases hw : wantedA all r.o.guard d.s.tm
       ·rw [hw, cond_false] at g1
        obtain ⟨_, g1⟩ := putTm_split g1
        simp only [Option.some.injEq] at g1; subst g1; exact ⟨hN, hg⟩
       ·rw [hw, cond_true] at g1
        obtain ⟨q, hq, g1⟩ := bindO_some g1
        obtain ⟨_, g1⟩ := putTm_split g1
        simp only [Option.some.injEq] at g1; subst g1
        have hin : ∀ k ∈ keepIt r d.s.tm q.1 d.kept, k ∈ d.kept ∨ k = ⟨r, d.s.tm, q.1⟩ := by
         intro k hkk
         unfold keepIt at hkk
         split at hkk
         ·exact .inl hkk
         ·rcases List.mem_cons.1 hkk with h | h
          ·exact .inr h
          ·exact .inl h
        cases ha : isAlloc r.kind
        ·have e := opN_same (by rw [← hkr]; exact ha) hq
         simp only [e]
         refine ⟨hN, fun k hkk => ?_⟩
         rcases hin k hkk with h | h
         ·exact hg k h
         ·subst h; exact ⟨hkr, .inr (.inl ⟨ha, by show opN r.o.op G d.s.tm d.s.h = _; rw [hq, ← e]⟩)⟩
        ·obtain ⟨o, m1, m2, m3, m4⟩ := opN_makes (by rw [← hkr]; exact ha) hq
         simp only [m1]
         refine ⟨hN.push _, fun k hkk => ?_⟩
         rcases hin k hkk with h | h
         ·exact ⟨(hg k h).1, (hg k h).2.imp id fun h2 => h2.push hN (hg k h).1 o⟩
         ·subst h
          exact ⟨hkr, .inr (.inr ⟨ha, d.s.h.next, o, m3, s_push_same _ _, m2, m4⟩)⟩
      exact ihA (fun r hr => hk r (List.mem_cons_of_mem _ hr)) g2 one.1 one.2
    obtain ⟨n1, n2⟩ := gen kA e1 (hN hok) (fun k hk => ⟨(hkept k hk).1.2.1, (hkept k hk).2⟩)
    exact ⟨fun _ => n1, fun k hk => ⟨kk k hk, (n2 k hk).2⟩⟩
  obtain ⟨hN', hk'⟩ := base
  have hd : d'.done = doneOf (satL rs done) done := runA_done e1
  show satur G c all rs (stageEnd F G c all rs (stages F G c all rs f) sealed) ⟨done, s, kept⟩ = some l
  rw [satur_sat]
  show bindO (runA G c all (satL rs done) ⟨done, s, kept⟩) _ = some l
  rw [e1, s_bindO]
  unfold stageEnd stageOk
  rw [hd, a2, cond_true, keptOk_goodM (fun k hk => (hk' k hk).2.imp (hbad _) id), cond_true]
  unfold stepC at h
  split at h
  ·rename_i hne
   rw [hne]
   exact e2
  ·rename_i e i q hne
   rw [hne]
   have h := andL_ok h
   simp only [List.mem_cons, List.not_mem_nil, or_false, forall_eq_or_imp, forall_eq] at h
   obtain ⟨b1, b2, b3, b4, b5⟩ := h
   obtain rfl := Nat.eq_of_beq_eq_true b1
   obtain ⟨ke, kin⟩ := nextEff_eff hne
   have e2 : smO F G all all[e.i]? (runK F G c all q) c d'.s kos' = some l := e2
   rw [hI e kin] at e2
   have e2 : (bif wantedA all e.o.guard d'.s.tm then smE d'.s.h (opE e.o.op F G c d'.s.tm d'.s.df d'.s.h) e.o.dst (runK F G c all q) c d'.s kos' else skK e.o.dst (runK F G c all q) c d'.s kos') = some l := e2
   show (bif sub e.pre d'.done then (bif othersAfter e d'.done rs then effRun F G c all e d' (stages F G c all rs f e.pre) else none) else none) = some l
   rw [hd, b2, b3, cond_true, cond_true]
   unfold effRun
   cases hw : wantedA all e.o.guard d'.s.tm
   ·rw [hw, cond_false] at e2
    rw [cond_false]
    unfold skK at e2
    obtain ⟨g1, g2⟩ := putTm_split e2
    unfold effSkip
    rw [putTm_mk g1, forceN_eq, hd]
    exact ih f ok _ e.pre ⟨_, d'.s.h, d'.s.df⟩ d'.kept kos' _ bad q l b5 (by omega) hN' (sealedL_mem b4) hk' g2
   ·rw [hw, cond_true] at e2
    rw [cond_true]
    unfold smE at e2
    unfold effDo
    split at e2
    ·rename_i qq hq
     split at e2
     ·rename_i hh
      obtain ⟨g1, g2⟩ := putTm_split e2
      rw [hq, s_bindL, putTm_mk g1, forceN_eq, hd]
      exact ih f ok _ e.pre ⟨_, qq.2.2, qq.2.1⟩ d'.kept kos' _ bad q l b5 (by omega) (fun h => by show Neat qq.2.2; rw [hh]; exact hN' h) (sealedL_mem b4) (fun k hk => by show _ ∧ (_ ∨ GoodM G qq.2.2 k); rw [hh]; exact hk' k hk) g2
     ·simp at e2
    ·simp at e2
  ·rename_i e i js q hne
   rw [hne]
   have h := andL_ok h
   simp only [List.mem_cons, List.not_mem_nil, or_false, forall_eq_or_imp, forall_eq] at h
   obtain ⟨b1, b2, b3, b6, b4, b5⟩ := h
   obtain rfl := Nat.eq_of_beq_eq_true b1
   obtain ⟨ke, kin⟩ := nextEff_eff hne
   have e2 : lkO F G all all[e.i]? js (runK F G c all q) c d'.s kos' = some l := e2
   rw [hI e kin] at e2
   have e2 : (bif wantedA all e.o.guard d'.s.tm then lkE G js (opE e.o.op F G c d'.s.tm d'.s.df d'.s.h) e.o.dst (runK F G c all q) c d'.s kos' else skK e.o.dst (runK F G c all q) c d'.s kos') = some l := e2
   show (bif sub e.pre d'.done then (bif othersAfter e d'.done rs then effRun F G c all e d' (stages F G c all rs f e.pre) else none) else none) = some l
   rw [hd, b2, b3, cond_true, cond_true]
   unfold effRun
   cases hw : wantedA all e.o.guard d'.s.tm
   ·rw [hw, cond_false] at e2
    rw [cond_false]
    unfold skK at e2
    obtain ⟨g1, g2⟩ := putTm_split e2
    unfold effSkip
    rw [putTm_mk g1, forceN_eq, hd]
    exact ih f false _ e.pre ⟨_, d'.s.h, d'.s.df⟩ d'.kept kos' _ _ q l b5 (by omega) (fun h => by simp at h) (sealedL_mem b4) (fun k hk => ⟨(hk' k hk).1, (hk' k hk).2.imp (fun h => List.mem_append.2 (.inl h)) id⟩) g2
   ·rw [hw, cond_true] at e2
    rw [cond_true]
    unfold lkE at e2
    unfold effDo
    split at e2
    ·rename_i qq hq
     split at e2
     ·rename_i hh
      obtain ⟨g1, g2⟩ := putTm_split e2
      rw [hq, s_bindL, putTm_mk g1, forceN_eq, hd]
      refine ih f false _ e.pre ⟨_, qq.2.2, qq.2.1⟩ d'.kept kos' _ _ q l b5 (by omega) (fun h => by simp at h) (sealedL_mem b4) (fun k hk => ⟨(hk' k hk).1, ?_⟩) g2
      obtain ⟨q1, q2, q3⟩ := (hk' k hk).1
      rcases inOut (js := js) q1 with h | ⟨h, h'⟩
      ·exact .inl (List.mem_append.2 (.inr h))
      ·exact .inr (.inl ⟨noAlloc_mem b6 _ h, lookK_mem hh _ q3 (by show k.r.i ∈ js; rw [hasNat_eq] at h'; simpa using h')⟩)
     ·simp at e2
    ·simp at e2
  ·rename_i e i js as q hne
   rw [hne]
   have h := andL_ok h
   simp only [List.mem_cons, List.not_mem_nil, or_false, forall_eq_or_imp, forall_eq] at h
   obtain ⟨b1, b2, b3, b6, b4, b7, b5⟩ := h
   obtain rfl := Nat.eq_of_beq_eq_true b1
   obtain ⟨ke, kin⟩ := nextEff_eff hne
   have e2 : laO F G all all[e.i]? js as (runK F G c all q) c d'.s kos' = some l := e2
   rw [hI e kin] at e2
   have e2 : (bif wantedA all e.o.guard d'.s.tm then laE G js as d'.s.h (opE e.o.op F G c d'.s.tm d'.s.df d'.s.h) e.o.dst (runK F G c all q) c d'.s kos' else skK e.o.dst (runK F G c all q) c d'.s kos') = some l := e2
   show (bif sub e.pre d'.done then (bif othersAfter e d'.done rs then effRun F G c all e d' (stages F G c all rs f e.pre) else none) else none) = some l
   rw [hd, b2, b3, cond_true, cond_true]
   unfold effRun
   cases hw : wantedA all e.o.guard d'.s.tm
   ·rw [hw, cond_false] at e2
    rw [cond_false]
    unfold skK at e2
    obtain ⟨g1, g2⟩ := putTm_split e2
    unfold effSkip
    rw [putTm_mk g1, forceN_eq, hd]
    exact ih f false _ e.pre ⟨_, d'.s.h, d'.s.df⟩ d'.kept kos' _ _ q l b5 (by omega) (fun h => by simp at h) (sealedL_mem b4) (fun k hk => ⟨(hk' k hk).1, (hk' k hk).2.imp (fun h => List.mem_append.2 (.inl h)) id⟩) g2
   ·rw [hw, cond_true] at e2
    rw [cond_true]
    unfold laE at e2
    unfold effDo
    split at e2
    ·rename_i qq hq
     split at e2
     ·rename_i hh
      obtain ⟨g1, g2⟩ := putTm_split e2
      rw [hq, s_bindL, putTm_mk g1, forceN_eq, hd]
      refine ih f false _ e.pre ⟨_, qq.2.2, qq.2.1⟩ d'.kept kos' _ _ q l b5 (by omega) (fun h => by simp at h) (sealedL_mem b4) (fun k hk => ⟨(hk' k hk).1, ?_⟩) g2
      obtain ⟨q1, q2, q3⟩ := (hk' k hk).1
      rcases inOut (js := js) q1 with h | ⟨h, h'⟩
      ·rcases inOut (js := as) h with h2 | ⟨h2, h2'⟩
       ·exact .inl (List.mem_append.2 (.inr h2))
       ·rcases (hk' k hk).2 with hb | hg
        ·exact .inl (List.mem_append.2 (.inl hb))
        ·have ha := allAlloc_mem b7 _ h2
         rcases hg with ⟨g1', _⟩ | ⟨_, b, o, z1, z2, z3, z4⟩
         ·rw [ha] at g1'; simp at g1'
         ·exact .inr (.inr ⟨ha, b, o, z1, by
           show qq.2.2.blks.get b = some o
           rw [lookM_mem hh.2 _ q3 (by show k.r.i ∈ as; rw [hasNat_eq] at h2'; simpa using h2') b z1]; exact z2, z3, z4⟩)
      ·exact .inr (.inl ⟨noAlloc_mem b6 _ h, lookK_mem hh.1 _ q3 (by show k.r.i ∈ js; rw [hasNat_eq] at h'; simpa using h')⟩)
     ·simp at e2
    ·simp at e2
  ·rename_i e i js q hne
   rw [hne]
   have h := andL_ok h
   simp only [List.mem_cons, List.not_mem_nil, or_false, forall_eq_or_imp, forall_eq] at h
   obtain ⟨b1, b2, b3, b6, b4, b5⟩ := h
   obtain rfl := Nat.eq_of_beq_eq_true b1
   obtain ⟨ke, kin⟩ := nextEff_eff hne
   have e2 : lnO F G all all[e.i]? js (runK F G c all q) c d'.s kos' = some l := e2
   rw [hI e kin] at e2
   have e2 : (bif wantedA all e.o.guard d'.s.tm then lnE G js (opE e.o.op F G c d'.s.tm d'.s.df d'.s.h) e.o.dst (runK F G c all q) c d'.s kos' else skK e.o.dst (runK F G c all q) c d'.s kos') = some l := e2
   show (bif sub e.pre d'.done then (bif othersAfter e d'.done rs then effRun F G c all e d' (stages F G c all rs f e.pre) else none) else none) = some l
   rw [hd, b2, b3, cond_true, cond_true]
   unfold effRun
   cases hw : wantedA all e.o.guard d'.s.tm
   ·rw [hw, cond_false] at e2
    rw [cond_false]
    unfold skK at e2
    obtain ⟨g1, g2⟩ := putTm_split e2
    unfold effSkip
    rw [putTm_mk g1, forceN_eq, hd]
    exact ih f ok _ e.pre ⟨_, d'.s.h, d'.s.df⟩ d'.kept kos' _ _ q l b5 (by omega) hN' (sealedL_mem b4) (fun k hk => ⟨(hk' k hk).1, (hk' k hk).2.imp (fun h => List.mem_append.2 (.inl h)) id⟩) g2
   ·rw [hw, cond_true] at e2
    rw [cond_true]
    unfold lnE at e2
    unfold effDo
    split at e2
    ·rename_i qq hq
     split at e2
     ·rename_i hh
      obtain ⟨g1, g2⟩ := putTm_split e2
      rw [hq, s_bindL, putTm_mk g1, forceN_eq, hd]
      refine ih f ok _ e.pre ⟨_, qq.2.2, qq.2.1⟩ d'.kept kos' _ _ q l b5 (by omega) (fun _ => hh.2) (sealedL_mem b4) (fun k hk => ⟨(hk' k hk).1, ?_⟩) g2
      obtain ⟨q1, q2, q3⟩ := (hk' k hk).1
      rcases inOut (js := js) q1 with h | ⟨h, h'⟩
      ·exact .inl (List.mem_append.2 (.inr h))
      ·exact .inr (.inl ⟨noAlloc_mem b6 _ h, lookK_mem hh.1 _ q3 (by show k.r.i ∈ js; rw [hasNat_eq] at h'; simpa using h')⟩)
     ·simp at e2
    ·simp at e2
  ·simp at h
theorem draw_K {all : List Oper} (p : List PStep) (hp : planOk all p = true) {i : Nat} {c : Ctx} {s : St} {l : List St} (hN : Neat s.h) (h : runK F G c all p s [] = some l) : cRegion i all.toArray true F G c s = normals (some l) := by
 show normals (drawOps F G c all s) = _
 unfold planOk at hp
 split at hp
 ·simp at hp
 ·rename_i rs hrs
  cases h1 : allOk all rs rs
  ·rw [h1] at hp; simp at hp
  ·rw [h1, cond_true] at hp
   have e2 : drawOps F G c all s = stages F G c all rs 100 0 ⟨0, s, []⟩ := by
    unfold drawOps drawOn
    rw [hrs]
    show (bif allOk all rs rs then _ else none) = _
    rw [h1]; rfl
   rw [e2, stages_K (prepGo_ops hrs).2 (fun r hr => by simpa using (prepGo_idx hrs r hr).2) c 90 100 true 0 0 s [] [] [] [] p l hp (by omega) (fun _ => hN) (fun r hr => by simp at hr) (fun k hk => by simp at hk) h]
variable (all : List Oper) (c : Ctx) (s : St) (kos : List KO)
theorem k_nil : runK F G c all [] s kos = some [s] := rfl
theorem k_rd (i : Nat) (p : List PStep) : runK F G c all (.rd i :: p) s kos = rdO G all all[i]? i (runK F G c all p) c s kos := rfl
theorem k_sm (i : Nat) (p : List PStep) : runK F G c all (.sm i :: p) s kos = smO F G all all[i]? (runK F G c all p) c s kos := rfl
theorem k_lk (i : Nat) (js : List Nat) (p : List PStep) : runK F G c all (.lk i js :: p) s kos = lkO F G all all[i]? js (runK F G c all p) c s kos := rfl
variable (nxt : KRun) (i : Nat) (o : Option Tmp) (op : Op) (t : TypeId) (ps : String) (a : Array Edge) (j : Nat) (w : Bool) (js : List Nat)
noncomputable def rdG (b : Bool) (r : Option VH) (o : Option Tmp) (i : Nat) (op : Op) (nxt : KRun) (c : Ctx) (s : St) (kos : List KO) : Option (List St) := bif b then rdN r o i op nxt c s kos else skK o nxt c s kos
noncomputable def smG (b : Bool) (H0 : Heap) (r : Option (List EOut)) (o : Option Tmp) (nxt : KRun) (c : Ctx) (s : St) (kos : List KO) : Option (List St) := bif b then smE H0 r o nxt c s kos else skK o nxt c s kos
noncomputable def lkG (G : Tab) (b : Bool) (js : List Nat) (r : Option (List EOut)) (o : Option Tmp) (nxt : KRun) (c : Ctx) (s : St) (kos : List KO) : Option (List St) := bif b then lkE G js r o nxt c s kos else skK o nxt c s kos
theorem k_rdO : rdO G all (some ⟨o, op, t, ps, a, none⟩) i nxt c s kos = rdN (opN op G s.tm s.h) o i op nxt c s kos := rfl
theorem k_rdOG : rdO G all (some ⟨o, op, t, ps, a, some (j, w)⟩) i nxt c s kos = rdG (guardA all s.tm j w) (opN op G s.tm s.h) o i op nxt c s kos := rfl
theorem k_rdGt (r : Option VH) : rdG true r o i op nxt c s kos = rdN r o i op nxt c s kos := rfl
theorem k_rdGf (r : Option VH) : rdG false r o i op nxt c s kos = skK o nxt c s kos := rfl
theorem k_smO : smO F G all (some ⟨o, op, t, ps, a, none⟩) nxt c s kos = smE s.h (opE op F G c s.tm s.df s.h) o nxt c s kos := rfl
theorem k_smOG : smO F G all (some ⟨o, op, t, ps, a, some (j, w)⟩) nxt c s kos = smG (guardA all s.tm j w) s.h (opE op F G c s.tm s.df s.h) o nxt c s kos := rfl
theorem k_smGt (H0 : Heap) (r : Option (List EOut)) : smG true H0 r o nxt c s kos = smE H0 r o nxt c s kos := rfl
theorem k_smGf (H0 : Heap) (r : Option (List EOut)) : smG false H0 r o nxt c s kos = skK o nxt c s kos := rfl
theorem k_lkO : lkO F G all (some ⟨o, op, t, ps, a, none⟩) js nxt c s kos = lkE G js (opE op F G c s.tm s.df s.h) o nxt c s kos := rfl
theorem k_lkOG : lkO F G all (some ⟨o, op, t, ps, a, some (j, w)⟩) js nxt c s kos = lkG G (guardA all s.tm j w) js (opE op F G c s.tm s.df s.h) o nxt c s kos := rfl
theorem k_lkGt (r : Option (List EOut)) : lkG G true js r o nxt c s kos = lkE G js r o nxt c s kos := rfl
theorem k_lkGf (r : Option (List EOut)) : lkG G false js r o nxt c s kos = skK o nxt c s kos := rfl
theorem k_rdN (v : AV) (H : Heap) (d : Tmp) (h : d < c.size) : rdN (some (v, H)) (some d) i op nxt c s kos = nxt ⟨s.tm.set d (some v), H, s.df⟩ (keepK (kindOf op) ⟨i, op, s.tm, v⟩ kos) := by
 show putTm c s.tm (some d) v _ = _
 rw [s_putTm, if_pos h]
theorem k_rdN0 (v : AV) (H : Heap) : rdN (some (v, H)) none i op nxt c s kos = nxt ⟨s.tm, H, s.df⟩ (keepK (kindOf op) ⟨i, op, s.tm, v⟩ kos) := rfl
theorem k_sk (d : Tmp) (h : d < c.size) : skK (some d) nxt c s kos = nxt ⟨s.tm.set d (some undefA), s.h, s.df⟩ kos := by
 show putTm c s.tm (some d) undefA _ = _
 rw [s_putTm, if_pos h]
theorem k_sk0 : skK none nxt c s kos = nxt ⟨s.tm, s.h, s.df⟩ kos := rfl
theorem k_smE (H0 : Heap) (v : AV) (df : List ADefer) (d : Tmp) (h : d < c.size) : smE H0 (some [(v, df, H0)]) (some d) nxt c s kos = nxt ⟨s.tm.set d (some v), H0, df⟩ kos := by
 unfold smE
 exact (if_pos rfl).trans (by rw [s_putTm, if_pos h])
theorem k_smE0 (H0 : Heap) (v : AV) (df : List ADefer) : smE H0 (some [(v, df, H0)]) none nxt c s kos = nxt ⟨s.tm, H0, df⟩ kos := by
 unfold smE
 exact if_pos rfl
open Classical in
noncomputable def lkX (p : Prop) (x : Option (List St)) : Option (List St) := if p then x else none
theorem k_lkX (x : Option (List St)) : lkX True x = x := if_pos trivial
theorem k_lkE (v : AV) (df : List ADefer) (H : Heap) (d : Tmp) (h : d < c.size) : lkE G js (some [(v, df, H)]) (some d) nxt c s kos = lkX (lookK G H kos js) (nxt ⟨s.tm.set d (some v), H, df⟩ kos) := by
 unfold lkE lkX
 simp only [s_putTm, if_pos h]
theorem k_lkE0 (v : AV) (df : List ADefer) (H : Heap) : lkE G js (some [(v, df, H)]) none nxt c s kos = lkX (lookK G H kos js) (nxt ⟨s.tm, H, df⟩ kos) := rfl
variable (as : List Nat)
noncomputable def laG (G : Tab) (b : Bool) (js as : List Nat) (H0 : Heap) (r : Option (List EOut)) (o : Option Tmp) (nxt : KRun) (c : Ctx) (s : St) (kos : List KO) : Option (List St) := bif b then laE G js as H0 r o nxt c s kos else skK o nxt c s kos
theorem k_la (i : Nat) (js as : List Nat) (p : List PStep) : runK F G c all (.la i js as :: p) s kos = laO F G all all[i]? js as (runK F G c all p) c s kos := rfl
theorem k_laO : laO F G all (some ⟨o, op, t, ps, a, none⟩) js as nxt c s kos = laE G js as s.h (opE op F G c s.tm s.df s.h) o nxt c s kos := rfl
theorem k_laOG : laO F G all (some ⟨o, op, t, ps, a, some (j, w)⟩) js as nxt c s kos = laG G (guardA all s.tm j w) js as s.h (opE op F G c s.tm s.df s.h) o nxt c s kos := rfl
theorem k_laGt (H0 : Heap) (r : Option (List EOut)) : laG G true js as H0 r o nxt c s kos = laE G js as H0 r o nxt c s kos := rfl
theorem k_laGf (H0 : Heap) (r : Option (List EOut)) : laG G false js as H0 r o nxt c s kos = skK o nxt c s kos := rfl
theorem k_laE (H0 : Heap) (v : AV) (df : List ADefer) (H : Heap) (d : Tmp) (h : d < c.size) : laE G js as H0 (some [(v, df, H)]) (some d) nxt c s kos = lkX (lookK G H kos js ∧ lookM H0 H kos as) (nxt ⟨s.tm.set d (some v), H, df⟩ kos) := by
 unfold laE lkX
 simp only [s_putTm, if_pos h]
 by_cases hp : lookK G H kos js ∧ lookM H0 H kos as
 ·rw [if_pos hp, if_pos hp]
 ·rw [if_neg hp, if_neg hp]
theorem k_laE0 (H0 : Heap) (v : AV) (df : List ADefer) (H : Heap) : laE G js as H0 (some [(v, df, H)]) none nxt c s kos = lkX (lookK G H kos js ∧ lookM H0 H kos as) (nxt ⟨s.tm, H, df⟩ kos) := by
 unfold laE lkX
 by_cases hp : lookK G H kos js ∧ lookM H0 H kos as
 ·simp only [if_pos hp]; rfl
 ·simp only [if_neg hp]
noncomputable def lnG (G : Tab) (b : Bool) (js : List Nat) (r : Option (List EOut)) (o : Option Tmp) (nxt : KRun) (c : Ctx) (s : St) (kos : List KO) : Option (List St) := bif b then lnE G js r o nxt c s kos else skK o nxt c s kos
theorem k_ln (i : Nat) (js : List Nat) (p : List PStep) : runK F G c all (.ln i js :: p) s kos = lnO F G all all[i]? js (runK F G c all p) c s kos := rfl
theorem k_lnO : lnO F G all (some ⟨o, op, t, ps, a, none⟩) js nxt c s kos = lnE G js (opE op F G c s.tm s.df s.h) o nxt c s kos := rfl
theorem k_lnOG : lnO F G all (some ⟨o, op, t, ps, a, some (j, w)⟩) js nxt c s kos = lnG G (guardA all s.tm j w) js (opE op F G c s.tm s.df s.h) o nxt c s kos := rfl
theorem k_lnGt (r : Option (List EOut)) : lnG G true js r o nxt c s kos = lnE G js r o nxt c s kos := rfl
theorem k_lnGf (r : Option (List EOut)) : lnG G false js r o nxt c s kos = skK o nxt c s kos := rfl
theorem k_lnE (v : AV) (df : List ADefer) (H : Heap) (d : Tmp) (h : d < c.size) : lnE G js (some [(v, df, H)]) (some d) nxt c s kos = lkX (lookK G H kos js ∧ Neat H) (nxt ⟨s.tm.set d (some v), H, df⟩ kos) := by
 unfold lnE lkX
 simp only [s_putTm, if_pos h]
 by_cases hp : lookK G H kos js ∧ Neat H
 ·rw [if_pos hp, if_pos hp]
 ·rw [if_neg hp, if_neg hp]
theorem k_lnE0 (v : AV) (df : List ADefer) (H : Heap) : lnE G js (some [(v, df, H)]) none nxt c s kos = lkX (lookK G H kos js ∧ Neat H) (nxt ⟨s.tm, H, df⟩ kos) := by
 unfold lnE lkX
 by_cases hp : lookK G H kos js ∧ Neat H
 ·simp only [if_pos hp]; rfl
 ·simp only [if_neg hp]
theorem k_lookM (H0 H : Heap) : lookM H0 H kos (j :: js) = (eachM H0 H j kos ∧ lookM H0 H kos js) := rfl
theorem k_lookM0 (H0 H : Heap) : lookM H0 H kos [] = True := rfl
theorem k_eachM0 (H0 H : Heap) : eachM H0 H j [] = True := rfl
theorem k_eachM (H0 H : Heap) (tm : T AV) (v : AV) (l : List KO) : eachM H0 H j (⟨i, op, tm, v⟩ :: l) = ((if i = j then sameBk H0 H v else True) ∧ eachM H0 H j l) := rfl
theorem k_samePtr (H0 H : Heap) (b n : Nat) : sameBk H0 H (.ptr b n) = (H.blks.get b = H0.blks.get b) := rfl
theorem k_sameSl (H0 H : Heap) (b n m : Nat) (q : Bool) (k : Nat) : sameBk H0 H (.slice b n m q k) = (H.blks.get b = H0.blks.get b) := rfl
theorem k_keepP (x : KO) : keepK .pure x kos = kos := rfl
theorem k_keepR (x : KO) : keepK .read x kos = x :: kos := rfl
theorem k_keepA (x : KO) : keepK .alloc x kos = x :: kos := rfl
theorem k_look (H : Heap) : lookK G H kos (j :: js) = (eachK G H j kos ∧ lookK G H kos js) := rfl
theorem k_look0 (H : Heap) : lookK G H kos [] = True := rfl
theorem k_each0 (H : Heap) : eachK G H j [] = True := rfl
theorem k_each (H : Heap) (tm : T AV) (v : AV) (l : List KO) : eachK G H j (⟨i, op, tm, v⟩ :: l) = ((if i = j then opN op G tm H = some (v, H) else True) ∧ eachK G H j l) := rfl
end
section
variable {P : Program} {G : Tab} {c : Ctx} {s s' : St} {Q : Ex → St → Prop}
theorem Gets.drawK (TT : TabOk P G) {ov : Ov} (ho : OvOk P G ov) (n : Nat) {i : Nat} {all : List Oper} (p : List PStep) (hp : planOk all p = true) (hN : Neat s.h)
  (h : runK (fnsO G ov n) G c all p s [] = some [s']) (hQ : Q .normal s') : Gets P G c (.region i all.toArray true) s Q :=
 Gets.last TT ho n (s' := s') (by
  show cRegion i all.toArray true (fnsO G ov n) G c s = _
  rw [draw_K p hp hN h]; rfl) hQ
end
end Go.Sx
namespace Go.Sx
section
variable {G : Tab}
theorem splice_one (v : AV) : ∀ (l : List AV) (i : Nat), i < l.length → spliceN [v] l i = some (l.set i v)
 | [], i, h => by simp at h
 | a :: l, 0, _ => rfl
 | a :: l, i + 1, h => by
  show (bif Nat.beq (i + 1) 0 then overN [v] (a :: l) else consO a (spliceN [v] l (i + 1 - 1))) = _
  rw [beq_false (Nat.succ_ne_zero i), cond_false, Nat.add_sub_cancel, splice_one v l i (by simpa using h)]; rfl
theorem store_one {H : Heap} {t : TypeId} {b off : Nat} {e : TypeId} {x : Bool} {old : List AV} {v : AV} (hb : H.blks.get b = some (.cells e x old)) (hz : G.size t = some 1) (ho : off < old.length) (h1 : oneCell v = true) :
  storePtr G H t (.ptr b off) v = some (putBlk H b (some (.cells e x (old.set off v)))) := by
 have e1 : storePtr G H t (.ptr b off) v = bindO (G.size t) fun s => bif Nat.beq (len v.cells) s then storeCellsA H b off v.cells else none := rfl
 rw [e1, hz, s_cells_one h1]
 show storeIn H b off [v] (H.blks.get b) = _
 rw [hb]
 show (bif allOne [v] then putCells H b e x (spliceN [v] old off) else none) = _
 have : allOne [v] = true := by show (bif oneCell v then true else false) = true; rw [h1]; rfl
 rw [this, splice_one v old off ho, cond_true]
 show forceVs (old.set off v) (fun l => putBlkK H b (some (.cells e x l)) some) = _
 rw [forceVs_eq]
 unfold putBlkK putBlk
 rw [T.setK_eq, T.setK_eq]
theorem z_max (as : Array Operand) (ts : Array TypeId) (tm : T AV) (H : Heap) : opN (.call ⟨.builtin .max, as, ts⟩) G tm H = withH H (bindO (aevs G tm as.toList) (fold1 max2A)) := rfl
theorem s_max2 (k k' : IntKind) (a b : Int) : fold1 max2A [.int k a, .int k' b] = some (.int k (max a b)) := by
 show some (AV.int k (bif iblt a b then b else a)) = _
 rw [s_iblt]
 by_cases h : a < b
 ·rw [decide_eq_true h, cond_true, Int.max_eq_right (by omega)]
 ·rw [decide_eq_false h, cond_false, Int.max_eq_left (by omega)]
theorem z_conv {F : Fns} {c : Ctx} (a b : TypeId) (x : Operand) (tm : T AV) (df : List ADefer) (H : Heap) : opE (.convert a b x) F G c tm df H = out2 df (bindO (aev G tm x) (convertA G H a b)) := rfl
theorem s_rem (k : IntKind) {a b : Int} (ha : 0 ≤ a) (hb : b ≠ 0) : remO k a b = some (.int k (a % b)) := by
 unfold remO
 rw [s_ibeq, decide_eq_false hb, cond_false, Int.tmod_eq_emod_of_nonneg ha]
end
end Go.Sx
namespace Go.Sx
open Go
section
variable {P : Program} {G : Tab}
theorem Gets.lessH {c : Ctx} {x : Code} {tm : T AV} {df : List ADefer} {H H' : Heap} {Q : Ex → St → Prop} (hb : ∀ b o, H'.blks.get b = some o → H.blks.get b = some o) (hn : H'.next = H.next)
  (h : Gets P G c x ⟨tm, H', df⟩ Q) : Gets P G c x ⟨tm, H, df⟩ Q := fun ρ D w tmv dfv b k cs hS hR => by
 obtain ⟨e, s', h1, ρ', D', w', tm', df', g1, g2, g3⟩ := h ρ D w tmv dfv b k cs ⟨HRel.less hS.h hb (Nat.le_of_eq hn.symm), hS.t, hS.d⟩ hR
 exact ⟨e, s', h1, ρ', D', w', tm', df', g1, ⟨g2.sub, by have := g2.next; rw [← hn]; exact this, fun b hb => by have := g2.new b hb; rw [← hn]; exact this⟩, g3⟩
noncomputable def posB {α : Type} (v : Option α) (N : Nat) : Bool := match v with
 | none => true
 | some _ => Nat.blt 0 N
noncomputable def belowT {α : Type} (t : T α) : Nat → Bool := T.rec (motive := fun _ => Nat → Bool) (fun _ => true)
 (fun _ v _ l r N => bif posB v N then (bif l (N / 2) then r ((N - 1) / 2) else false) else false) t
theorem belowT_ok {α : Type} : ∀ {t : T α} {N k : Nat} {o : α}, belowT t N = true → t.get k = some o → k < N
 | .e, _, _, _, _, h => by rw [T.get_e] at h; simp at h
 | .n l v r, N, k, o, hb, h => by
  obtain ⟨h1, hb⟩ := band_true (a := posB v N) (b := bif belowT l (N / 2) then belowT r ((N - 1) / 2) else false) hb
  obtain ⟨h2, h3⟩ := band_true hb
  rw [T.get_n] at h
  by_cases hk0 : k = 0
  ·rw [if_pos hk0] at h
   subst h
   have := blt_lt (show Nat.blt 0 N = true from h1)
   omega
  ·rw [if_neg hk0] at h
   by_cases hm : k % 2 = 1
   ·rw [if_pos hm] at h
    have := belowT_ok h2 h
    omega
   ·rw [if_neg hm] at h
    have := belowT_ok h3 h
    omega
noncomputable def neatB (H : Heap) : Bool := belowT H.blks H.next
theorem neatB_ok {H : Heap} (h : neatB H = true) : Neat H := fun _ _ hb => belowT_ok h hb
noncomputable def sameTo (a b : T ABlk) (n : Nat) : Bool := Nat.rec true (fun i ih => bif optBeq ABlk.beq (a.get i) (b.get i) then ih else false) n
theorem sameTo_ok {a b : T ABlk} : ∀ {n : Nat}, sameTo a b n = true → ∀ i, i < n → a.get i = b.get i
 | 0, _, i, hi => by omega
 | n + 1, h, i, hi => by
  have h : (bif optBeq ABlk.beq (a.get n) (b.get n) then sameTo a b n else false) = true := h
  obtain ⟨h1, h2⟩ := band_true h
  by_cases e : i = n
  ·subst e; exact optBeq_eq ABlk.beq_eq h1
  ·exact sameTo_ok h2 i (by omega)
noncomputable def flatV : AV → Bool
 | .bool _ => true
 | .int _ _ => true
 | .str _ => true
 | .nilptr => true
 | .nilslice => true
 | .nilmap => true
 | .nilFunc => true
 | .nilIface => true
 | _ => false
noncomputable def flatL (l : List AV) : Bool := List.rec true (fun v _ ih => bif flatV v then ih else false) l
theorem flatV_ok {v : AV} (h : flatV v = true) (ρ : Env) (D : Nat → Prop) : okV ρ D v ∧ ∀ ρ', conc ρ' v = conc ρ v := by
 cases v <;> first | exact ⟨trivial, fun _ => rfl⟩ | (simp [flatV] at h)
theorem flatV_lt {v : AV} (h : flatV v = true) (N : Nat) : ltV N v := by
 cases v <;> first | trivial | (simp [flatV] at h)
theorem flatL_mem : ∀ {l : List AV}, flatL l = true → ∀ v ∈ l, flatV v = true
 | [], _, v, hv => by simp at hv
 | x :: l, h, v, hv => by
  have h : (bif flatV x then flatL l else false) = true := h
  obtain ⟨h1, h2⟩ := band_true h
  rcases List.mem_cons.1 hv with rfl | hv
  ·exact h1
  ·exact flatL_mem h2 v hv
theorem ltL_iff {N : Nat} : ∀ {l : List AV}, ltL N l ↔ ∀ v ∈ l, ltV N v
 | [] => ⟨fun _ v hv => by simp at hv, fun _ => trivial⟩
 | x :: l => ⟨fun h v hv => by
   rcases List.mem_cons.1 hv with rfl | hv
   ·exact h.1
   ·exact ltL_iff.1 h.2 v hv, fun h => ⟨h x List.mem_cons_self, ltL_iff.2 fun v hv => h v (List.mem_cons_of_mem _ hv)⟩⟩
theorem okL_flat {l : List AV} (h : flatL l = true) (ρ : Env) (D : Nat → Prop) : okL ρ D l ∧ ∀ ρ', concL ρ' l = concL ρ l :=
 ⟨okL_iff.2 fun v hv => (flatV_ok (flatL_mem h v hv) ρ D).1, fun ρ' => by
  rw [concL_eq, concL_eq]
  exact List.map_congr_left fun v hv => (flatV_ok (flatL_mem h v hv) ρ D).2 ρ'⟩
noncomputable def flatW : AV → Bool
 | .agg l => flatL l
 | v => flatV v
theorem flatW_ok {v : AV} (h : flatW v = true) (ρ : Env) (D : Nat → Prop) : okV ρ D v ∧ ∀ ρ', conc ρ' v = conc ρ v := by
 cases v
 case agg l => exact ⟨(okL_flat (show flatL l = true from h) ρ D).1, fun ρ' => by unfold conc; rw [(okL_flat (show flatL l = true from h) ρ D).2 ρ']⟩
 all_goals first | exact ⟨trivial, fun _ => rfl⟩ | (exact absurd (show (false : Bool) = true from h) (by simp))
noncomputable def flatWL (l : List AV) : Bool := List.rec true (fun v _ ih => bif flatW v then ih else false) l
theorem flatWL_mem : ∀ {l : List AV}, flatWL l = true → ∀ v ∈ l, flatW v = true
 | [], _, v, hv => by simp at hv
 | x :: l, h, v, hv => by
  have h : (bif flatW x then flatWL l else false) = true := h
  obtain ⟨h1, h2⟩ := band_true h
  rcases List.mem_cons.1 hv with rfl | hv
  ·exact h1
  ·exact flatWL_mem h2 v hv
theorem okL_flatW {l : List AV} (h : flatWL l = true) (ρ : Env) (D : Nat → Prop) : okL ρ D l ∧ ∀ ρ', concL ρ' l = concL ρ l :=
 ⟨okL_iff.2 fun v hv => (flatW_ok (flatWL_mem h v hv) ρ D).1, fun ρ' => by
  rw [concL_eq, concL_eq]
  exact List.map_congr_left fun v hv => (flatW_ok (flatWL_mem h v hv) ρ D).2 ρ'⟩
noncomputable def flatR : AV → Bool
 | .tuple l => flatWL l
 | .agg l => flatL l
 | v => flatV v
theorem flatR_ok {v : AV} (h : flatR v = true) (ρ : Env) (D : Nat → Prop) : okV ρ D v ∧ ∀ ρ', conc ρ' v = conc ρ v := by
 cases v
 case tuple l => exact ⟨(okL_flatW (show flatWL l = true from h) ρ D).1, fun ρ' => by unfold conc; rw [(okL_flatW (show flatWL l = true from h) ρ D).2 ρ']⟩
 case agg l => exact ⟨(okL_flat (show flatL l = true from h) ρ D).1, fun ρ' => by unfold conc; rw [(okL_flat (show flatL l = true from h) ρ D).2 ρ']⟩
 all_goals first | exact ⟨trivial, fun _ => rfl⟩ | (exact absurd (show (false : Bool) = true from h) (by simp))
noncomputable def onlyV (H0 : Heap) (v : AV) (l : List VH) : Bool := List.rec true (fun p _ ih => bif AV.beq p.1 v then (bif sameTo p.2.blks H0.blks H0.next then ih else false) else false) l
theorem onlyV_ok {H0 : Heap} {v : AV} : ∀ {l : List VH}, onlyV H0 v l = true → ∀ p ∈ l, p.1 = v ∧ ∀ i, i < H0.next → p.2.blks.get i = H0.blks.get i
 | [], _, p, hp => by simp at hp
 | x :: l, h, p, hp => by
  have h : (bif AV.beq x.1 v then (bif sameTo x.2.blks H0.blks H0.next then onlyV H0 v l else false) else false) = true := h
  obtain ⟨h1, h⟩ := band_true h
  obtain ⟨h2, h3⟩ := band_true h
  rcases List.mem_cons.1 hp with rfl | hp
  ·exact ⟨AV.beq_eq _ _ h1, sameTo_ok h2⟩
  ·exact onlyV_ok h3 p hp
theorem env_okE {b a c : Nat → Nat} {r r' : Nat → Obj → Prop} {o o' : World} {D : Nat → Prop} {e : AEntry} (h : okE ⟨b, a, c, r, o⟩ D e) : okE ⟨b, a, c, r', o'⟩ D e := ⟨env_ok _ h.1, env_ok _ h.2⟩
theorem env_concE {b a c : Nat → Nat} {r r' : Nat → Obj → Prop} {o o' : World} (e : AEntry) : concE ⟨b, a, c, r', o'⟩ e = concE ⟨b, a, c, r, o⟩ e := by
 unfold concE
 rw [env_conc (r := r) (r' := r') (o := o) (o' := o') e.key, env_conc (r := r) (r' := r') (o := o) (o' := o') e.val]
theorem env_brel {bl ba ca : Nat → Nat} {r r' : Nat → Obj → Prop} {g g' : World} {D : Nat → Prop} {w : World} {b : Nat} {N : Nat} {o : ABlk} (hn : ltB N o) (h : BRel G ⟨bl, ba, ca, r, g⟩ D w b o) : BRel G ⟨bl, ba, ca, r', g'⟩ D w b o := by
 cases o with
 | cells e ex l =>
  obtain ⟨h1, h2, arr, fz, h3, h4, h5, h6, h7⟩ := h
  exact ⟨env_okL l h1, h2, arr, fz, h3, h4, h5, fun i v hv => by rw [h6 i v hv]; exact congrArg some (env_conc v).symm, h7⟩
 | big e n z =>
  obtain ⟨h1, arr, el, fz, h3, h5, h6⟩ := h
  exact ⟨env_okL z h1, arr, el, fz, h3, h5, fun i v hi hv => by rw [h6 i v hi hv]; exact congrArg some (env_conc v).symm⟩
 | map es c =>
  obtain ⟨h1, es', h2, h3⟩ := h
  exact ⟨fun e he => env_okE (h1 e he), es', h2, by rw [h3]; exact List.map_congr_left fun e _ => (env_concE e).symm⟩
 | mapIter m s l p => exact h
 | strIter s p => exact h
 | loop r => exact hn.elim
 | deferred => exact h
theorem CallTo.embed {f : FuncId} {args : List AV} {H0 : Heap} {l : List VH} {v : AV} (h : CallTo P G f args H0 l) (hv : flatR v = true) (hl : onlyV H0 v l = true) (hg : G.nglob ≤ H0.next) (hb : ∀ b o, H0.blks.get b = some o → b < H0.next ∧ ltB H0.next o)
  (ha : ltL H0.next args) {H : Heap} (hsub : ∀ b o, H0.blks.get b = some o → H.blks.get b = some o) : CallTo P G f args H [(v, H)] := by
 intro ρ D w kind cs hH hargs
 obtain ⟨bl, ba, ca, re, og⟩ := ρ
 have hR : HRel G ⟨bl, ba, ca, fun i o => w.heap[i]? = some o ∧ ∀ b, D b ∧ b < H0.next → bl b = i → StillB (H0.blks.get b), w⟩ (fun b => D b ∧ b < H0.next) w H0 := by
  refine ⟨fun b hb => hb.2, fun g hgl => ⟨⟨(hH.glob g hgl).1, Nat.lt_of_lt_of_le hgl hg⟩, (hH.glob g hgl).2⟩, fun b b' o o' hb1 hb2 ho ho' e => hH.inj b b' o o' hb1.1 hb2.1 (hsub b o ho) (hsub b' o' ho') e,
   fun b o hD ho => ?_, fun i o hi => ⟨hi.1, fun b hD e => hi.2 b hD e⟩, .refl _⟩
  have h1 := hH.blk b o hD.1 (hsub b o ho)
  have h2 : BRel G ⟨bl, ba, ca, re, og⟩ (fun b => D b ∧ b < H0.next) w b o := h1.move (h1.bok.cut (hb b o ho).2) ⟨fun b hb => hb.1, fun _ _ => rfl, fun _ _ => rfl, fun _ _ => rfl, rfl, rfl⟩ (.refl _ _) rfl rfl rfl
  exact env_brel (hb b o ho).2 h2
 obtain ⟨h0, p, hp, ρ', D', w', fr, h1, h2, h3, h4, h5, h6, h7, h8, fn, h9, h10⟩ := h _ _ w kind cs hR (env_okL args (okL_cut args hargs ha))
 obtain ⟨e1, e2⟩ := onlyV_ok hl p hp
 rw [env_concL (r := re) (o := og) args] at h4
 have hrest : ∀ (i : Nat) (o : Obj), (w.heap[i]? = some o ∧ ∀ b, D b ∧ b < H0.next → bl b = i → StillB (H0.blks.get b)) → w'.heap[i]? = some o := fun i o hi => (h1.rest i o (by rw [h2.sub.rest]; exact hi)).1
 have hkin : Kin w w' := by have := h1.kin; rw [h2.sub.orig] at this; exact this
 have hfl := flatR_ok hv ρ' D'
 refine ⟨h0, (v, H), List.mem_singleton.2 rfl, ⟨bl, ba, ca, re, og⟩, D, w', fr, ⟨hH.lt, hH.glob, hH.inj, fun b o hD ho => ?_, fun i o hi => ⟨?_, (hH.rest i o hi).2⟩, hH.kin.trans hkin⟩, .refl _ _ _, (flatR_ok hv _ _).1, h4, h5, h6, h7, h8, fn, h9, ?_⟩
 ·have hb1 := hH.blk b o hD ho
  by_cases hex : ∀ b', D b' ∧ b' < H0.next → bl b' = bl b → StillB (H0.blks.get b')
  ·refine hb1.sub (.refl _ _) hD ?_
   obtain ⟨x, hx⟩ : ∃ x, w.heap[bl b]? = some x := ⟨_, Array.getElem?_eq_getElem hb1.stands⟩
   exact (hrest _ x ⟨hx, hex⟩).trans hx.symm
  ·obtain ⟨b', hh⟩ := Classical.not_forall.1 hex
   obtain ⟨hD', hh⟩ := Classical.not_imp.1 hh
   obtain ⟨hbl, hns⟩ := Classical.not_imp.1 hh
   cases ho' : H0.blks.get b' with
   | none => rw [ho'] at hns; exact absurd trivial hns
   | some o' =>
    rw [ho'] at hns
    rcases hH.inj b b' o o' hD hD'.1 ho (hsub b' o' ho') hbl.symm with rfl | ⟨_, hst⟩
    ·have hoo : o = o' := by
      have := hsub b o' ho'
      rw [ho] at this
      exact Option.some.inj this
     subst hoo
     have hb2 := h1.blk b o (h2.sub.dom b hD') (by rw [e2 b hD'.2]; exact ho')
     have hb3 := (hR.blk b o hD' ho').bok
     have hb4 : BRel G ⟨bl, ba, ca, fun i o => w.heap[i]? = some o ∧ ∀ b, D b ∧ b < H0.next → bl b = i → StillB (H0.blks.get b), w⟩ D w' b o :=
      hb2.move hb3 h2.sub ⟨fun b hb => hb.1, fun _ _ => rfl, fun _ _ => rfl, fun _ _ => rfl, rfl, rfl⟩ (h2.sub.blk b hD').symm (h2.sub.base b hD').symm (h2.sub.cap b hD').symm
     exact env_brel (hb b o ho').2 hb4
    ·exact absurd hst hns
 ·refine hrest i o ⟨(hH.rest i o hi).1, fun b hD e => ?_⟩
  cases hc : H0.blks.get b with
  | none => trivial
  | some o' => have := (hH.rest i o hi).2 b hD.1 e; rw [hsub b o' hc] at this; exact this
 ·rw [h10, e1, (flatR_ok hv ⟨bl, ba, ca, re, og⟩ D).2 ρ']
end
end Go.Sx
namespace Go.Sx
open Go
mutual
def ltVB (N : Nat) : AV → Bool
 | .ptr b _ => Nat.blt b N
 | .slice b _ _ _ _ => Nat.blt b N
 | .map r => Nat.blt r N
 | .yld l => Nat.blt l N
 | .func _ x y => bif ltLB N x then ltLB N y else false
 | .iface _ v => ltVB N v
 | .agg cs => ltLB N cs
 | .tuple vs => ltLB N vs
 | _ => true
def ltLB (N : Nat) : List AV → Bool
 | [] => true
 | v :: l => bif ltVB N v then ltLB N l else false
end
mutual
theorem ltVB_ok {N : Nat} : ∀ v, ltVB N v = true → ltV N v
 | .bool _, _ => trivial
 | .int _ _, _ => trivial
 | .str _, _ => trivial
 | .ptr _ _, h => blt_lt h
 | .nilptr, _ => trivial
 | .slice _ _ _ _ _, h => blt_lt h
 | .nilslice, _ => trivial
 | .odd _ _ _ _, _ => trivial
 | .map _, h => blt_lt h
 | .nilmap, _ => trivial
 | .func _ x y, h => by
  have h : (bif ltLB N x then ltLB N y else false) = true := h
  obtain ⟨h1, h2⟩ := band_true h
  exact ⟨ltLB_ok x h1, ltLB_ok y h2⟩
 | .yld _, h => blt_lt h
 | .nilFunc, _ => trivial
 | .iface _ v, h => ltVB_ok v h
 | .nilIface, _ => trivial
 | .agg cs, h => ltLB_ok cs h
 | .tuple cs, h => ltLB_ok cs h
theorem ltLB_ok {N : Nat} : ∀ l, ltLB N l = true → ltL N l
 | [], _ => trivial
 | v :: l, h => by
  have h : (bif ltVB N v then ltLB N l else false) = true := h
  obtain ⟨h1, h2⟩ := band_true h
  exact ⟨ltVB_ok v h1, ltLB_ok l h2⟩
end
noncomputable def ltEB (N : Nat) (l : List AEntry) : Bool := List.rec true (fun e _ ih => bif ltVB N e.key then (bif ltVB N e.val then ih else false) else false) l
theorem ltEB_ok {N : Nat} : ∀ {l : List AEntry}, ltEB N l = true → ∀ e ∈ l, ltV N e.key ∧ ltV N e.val
 | [], _, e, he => by simp at he
 | x :: l, h, e, he => by
  have h : (bif ltVB N x.key then (bif ltVB N x.val then ltEB N l else false) else false) = true := h
  obtain ⟨h1, h⟩ := band_true h
  obtain ⟨h2, h3⟩ := band_true h
  rcases List.mem_cons.1 he with rfl | he
  ·exact ⟨ltVB_ok _ h1, ltVB_ok _ h2⟩
  ·exact ltEB_ok h3 e he
noncomputable def ltBB (N : Nat) (o : ABlk) : Bool := match o with
 | .cells _ _ l => ltLB N l
 | .big _ _ z => ltLB N z
 | .map es _ => ltEB N es
 | .mapIter m _ _ _ => (match m with | some r => Nat.blt r N | none => true)
 | .strIter _ _ => true
 | .loop _ => false
 | .deferred => true
theorem ltBB_ok {N : Nat} {o : ABlk} (h : ltBB N o = true) : ltB N o := by
 cases o with
 | cells e x l => exact ltLB_ok l h
 | big e n z => exact ltLB_ok z h
 | map es c => exact ltEB_ok h
 | mapIter m s l p => intro r hr; subst hr; exact blt_lt h
 | strIter s p => trivial
 | loop r => exact absurd (show (false : Bool) = true from h) (by simp)
 | deferred => trivial
noncomputable def optB {α : Type} (f : α → Bool) (v : Option α) : Bool := match v with | some a => f a | none => true
noncomputable def allT {α : Type} (f : α → Bool) (t : T α) : Bool := T.rec true (fun _ v _ l r => bif optB f v then (bif l then r else false) else false) t
theorem allT_ok {α : Type} {f : α → Bool} : ∀ {t : T α}, allT f t = true → ∀ k a, t.get k = some a → f a = true
 | .e, _, k, a, h => by rw [T.get_e] at h; simp at h
 | .n l v r, hb, k, a, h => by
  have hb : (bif optB f v then (bif allT f l then allT f r else false) else false) = true := hb
  obtain ⟨h1, hb⟩ := band_true hb
  obtain ⟨h2, h3⟩ := band_true hb
  rw [T.get_n] at h
  split at h
  ·rw [h] at h1; exact h1
  ·split at h
   ·exact allT_ok h2 _ a h
   ·exact allT_ok h3 _ a h
section
variable {P : Program} {G : Tab}
noncomputable def closedB (G : Tab) (H0 : Heap) (as : List AV) : Bool := andL [neatB H0, allT (ltBB H0.next) H0.blks, ltLB H0.next as, Nat.ble G.nglob H0.next]
theorem closedB_ok {H0 : Heap} {as : List AV} (h : closedB G H0 as = true) : (∀ b o, H0.blks.get b = some o → b < H0.next ∧ ltB H0.next o) ∧ ltL H0.next as ∧ G.nglob ≤ H0.next := by
 have h := h
 unfold closedB at h
 obtain ⟨h1, h⟩ := band_true h
 obtain ⟨h2, h⟩ := band_true h
 obtain ⟨h3, h⟩ := band_true h
 obtain ⟨h4, h⟩ := band_true h
 exact ⟨fun b o hb => ⟨neatB_ok h1 b o hb, ltBB_ok (allT_ok h2 b o hb)⟩, ltLB_ok _ h3, ble_le h4⟩
noncomputable def runOnly (H0 : Heap) (v : AV) (o : Option (List VH)) : Bool := match o with
 | some l => onlyV H0 v l
 | none => false
theorem runOnly_ok (TT : TabOk P G) {n : Nat} {f : FuncId} {as : List AV} {H0 : Heap} {v : AV} (h : runOnly H0 v ((fns G n).call f as H0) = true) : ∃ l, CallTo P G f as H0 l ∧ onlyV H0 v l = true := by
 cases hr : (fns G n).call f as H0 with
 | none => rw [hr] at h; simp [runOnly] at h
 | some l =>
  rw [hr] at h
  exact ⟨l, fun ρ D w kind cs hH ha => (fns_sound TT n).call f as H0 _ hr ρ D w kind cs hH ha, h⟩
theorem embed_run (TT : TabOk P G) {n : Nat} {f : FuncId} {as : List AV} {H0 : Heap} {v : AV} (h : runOnly H0 v ((fns G n).call f as H0) = true) (hv : flatR v = true) (hc : closedB G H0 as = true)
  (H : Heap) (hs : ∀ b o, H0.blks.get b = some o → H.blks.get b = some o) : CallTo P G f as H [(v, H)] := by
 obtain ⟨l, h1, h2⟩ := runOnly_ok TT h
 obtain ⟨c1, c2, c3⟩ := closedB_ok hc
 exact CallTo.embed h1 hv h2 c3 c1 c2 hs
end
end Go.Sx
namespace Go.Sx
def NilS (v : AV) : Prop := v = .nilslice ∨ ∃ b o s c, v = .odd b o s c
theorem NilS.one {v : AV} (h : NilS v) : oneCell v = true := by rcases h with rfl | ⟨b, o, s, c, rfl⟩ <;> rfl
theorem NilS.lt {v : AV} (h : NilS v) (n : Nat) : ltV n v := by rcases h with rfl | ⟨b, o, s, c, rfl⟩ <;> trivial
theorem NilS.len {v : AV} (h : NilS v) {G : Tab} {t e : TypeId} (hu : G.und t = some (.slice e)) (H : Heap) : lenA G H t v = some (.int .i64 0) := by
 rcases h with rfl | ⟨b, o, s, c, rfl⟩
 ·exact s_lenNil hu H
 ·unfold lenA; rw [hu]; rfl
theorem big_at {e : TypeId} {n : Nat} {z : List AV} (hz : z.length = n) (off : Nat) : cellIn (some (.big e n z)) off = z[off]? := by
 rw [s_bigIn]
 by_cases h : off < n
 ·rw [if_pos h, hz, Nat.mod_eq_of_lt h]
 ·rw [if_neg h, List.getElem?_eq_none (by omega)]
theorem bigCells_eq {e : TypeId} {n : Nat} {z : List AV} (hz : z.length = n) : ∀ {l : List AV} {off : Nat}, (∀ j v, l[j]? = some v → z[off + j]? = some v) → bigCells n z off l.length = some l
 | [], _, _ => rfl
 | v :: l, off, h => by
  show consOO (bigAt n z off) (bigCells n z (off + 1) l.length) = _
  have h0 : bigAt n z off = some v := by
   have := big_at (e := e) hz off
   have e0 : cellIn (some (.big e n z)) off = bigAt n z off := rfl
   rw [← e0, this]; exact h 0 v rfl
  rw [h0, bigCells_eq (e := e) hz (l := l) (off := off + 1) fun j w hj => by rw [Nat.add_assoc, Nat.add_comm 1 j]; exact h (j + 1) w hj]
  rfl
theorem flat_at {α : Type} {f : α → List AV} {k : Nat} (hf : ∀ a, (f a).length = k) : ∀ {l : List α} {i : Nat} {a : α} {j : Nat}, l[i]? = some a → j < k → (l.flatMap f)[i * k + j]? = (f a)[j]?
 | [], i, a, j, h, _ => by simp at h
 | x :: l, 0, a, j, h, hj => by
  simp only [List.getElem?_cons_zero, Option.some.injEq] at h; subst h
  rw [List.flatMap_cons, Nat.zero_mul, Nat.zero_add, List.getElem?_append_left (by rw [hf]; exact hj)]
 | x :: l, i + 1, a, j, h, hj => by
  rw [List.getElem?_cons_succ] at h
  rw [List.flatMap_cons, List.getElem?_append_right (by rw [hf, Nat.succ_mul]; omega), hf, ← flat_at hf h hj]
  congr 1; rw [Nat.succ_mul]; omega
theorem flat_len {α : Type} {f : α → List AV} {k : Nat} (hf : ∀ a, (f a).length = k) : ∀ l : List α, (l.flatMap f).length = l.length * k
 | [] => by simp
 | x :: l => by rw [List.flatMap_cons, List.length_append, hf, flat_len hf l, List.length_cons, Nat.succ_mul, Nat.add_comm]
def RowsAt {α : Type} (e k : Nat) (f : α → List AV) (H : Heap) (v : AV) (l : List α) : Prop :=
 (NilS v ∧ l = []) ∨ ∃ b c, v = .slice b 0 l.length false c ∧ H.blks.get b = some (.big e (l.length * k) (l.flatMap f))
theorem RowsAt.grow {α : Type} {e k : Nat} {f : α → List AV} {H H' : Heap} {v : AV} {l : List α} (h : RowsAt e k f H v l) (hN : Neat H) (hg : Grows H H') : RowsAt e k f H' v l := by
 rcases h with h | ⟨b, c, h1, h2⟩
 ·exact .inl h
 ·exact .inr ⟨b, c, h1, by rw [hg.get b (hN b _ h2)]; exact h2⟩
theorem RowsAt.one {α : Type} {e k : Nat} {f : α → List AV} {H : Heap} {v : AV} {l : List α} (h : RowsAt e k f H v l) : oneCell v = true := by
 rcases h with ⟨h, _⟩ | ⟨b, c, rfl, _⟩
 ·exact h.one
 ·rfl
theorem RowsAt.len {α : Type} {G : Tab} {t e k : Nat} {f : α → List AV} {H : Heap} {v : AV} {l : List α} (h : RowsAt e k f H v l) (hu : G.und t = some (.slice e)) (H' : Heap) : lenA G H' t v = some (.int .i64 (l.length : Int)) := by
 rcases h with ⟨h, rfl⟩ | ⟨b, c, rfl, _⟩
 ·exact h.len hu H'
 ·exact s_lenSlice hu H' ..
theorem RowsAt.row {α : Type} {G : Tab} {t e k : Nat} {f : α → List AV} {H : Heap} {v : AV} {l : List α} (h : RowsAt e k f H v l) (hu : G.und t = some (.slice e)) (hz : G.size e = some k) (hf : ∀ a, (f a).length = k)
  {i : Nat} {a : α} (ha : l[i]? = some a) : ∃ b, indexAddrA G t v (.int .i64 (i : Int)) = some (.ptr b (i * k)) ∧ (∀ j, j < k → cellIn (H.blks.get b) (i * k + j) = (f a)[j]?) ∧
   ∀ j r, j + r ≤ k → cellsIn (H.blks.get b) (i * k + j) r = some (((f a).drop j).take r) := by
 have hi : i < l.length := (List.getElem?_eq_some_iff.1 ha).1
 rcases h with ⟨_, rfl⟩ | ⟨b, c, rfl, hb⟩
 ·simp at ha
 ·have hlen := flat_len hf l
  refine ⟨b, ?_, fun j hj => ?_, fun j r hj => ?_⟩
  ·rw [s_indexSlice hu hz, if_pos ⟨by omega, by omega⟩]; simp
  ·rw [hb, big_at hlen, flat_at hf ha hj]
  ·rw [hb]
   show bigCells (l.length * k) (l.flatMap f) (i * k + j) r = _
   have hl : (((f a).drop j).take r).length = r := by rw [List.length_take, List.length_drop, hf]; omega
   have := bigCells_eq (e := e) hlen (l := ((f a).drop j).take r) (off := i * k + j) fun q w hq => by
    rw [List.getElem?_take] at hq
    split at hq
    ·rw [List.getElem?_drop] at hq
     rw [Nat.add_assoc, flat_at hf ha (by omega)]; exact hq
    ·simp at hq
   rwa [hl] at this
end Go.Sx
namespace Go.Sx
open Go Go.RowKit
section
variable {H₀ : Type} {enc : TypeId × Value → H₀} {P : Program} {G : Tab} {W : World} {base : Nat} {sp : Nat → Bool} {held : Bool}
theorem add_block (a : Addr) (n : Nat) : (a.add n).block = a.block := by unfold Addr.add; split <;> rfl
theorem add_off (a : Addr) (n : Nat) : (a.add n).off = a.off + n := by
 unfold Addr.add
 split
 ·rename_i h; rw [h]; rfl
 ·rfl
theorem add_add (a : Addr) (m n : Nat) : (a.add m).add n = a.add (m + n) := by
 unfold Addr.add
 by_cases hm : m = 0
 ·subst hm; simp
 ·by_cases hn : n = 0
  ·subst hn; simp
  ·rw [if_neg hm, if_neg hn, if_neg (by omega)]
   simp only
   congr 1; omega
theorem cells_at {a : Addr} {k : Nat} {cs : List Value} (h : W.cells? base a k = some cs) : cs.length = k ∧ ∀ j, j < k → W.cell? (a.add j) = cs[j]? := by
 unfold World.cells? at h
 split at h
 ·exact ⟨by simpa using mapM_some_length h, fun j hj => mapM_some_get h j j (by simp [hj])⟩
 ·simp at h
theorem concL_at {ρ : Env} {l : List AV} {cs : List Value} (h : concL ρ l = cs) (i : Nat) : cs[i]? = l[i]?.map (conc ρ) := by
 rw [← h, concL_eq, List.getElem?_map]
theorem row_lift {α : Type} {e k : Nat} {f : α → List AV} (hf : ∀ a, (f a).length = k) (hk : 0 < k) {R : Heap → α → Prop} (hR : ∀ (H H' : Heap) (a : α), R H a → Neat H → Grows H H' → R H' a)
  (helem : ∀ (ρ : Env) (H : Heap), Base G W ρ H → G.nglob ≤ H.next → ∀ (n : Nat) (cs : List Value) (x : DataW H₀ × List MemPlace), DataW.trod enc P W base sp held n e cs = some x →
   ∃ ρ' H' a, Base G W ρ' H' ∧ More ρ H ρ' H' ∧ R H' a ∧ okL ρ' (fun b => b < H'.next) (f a) ∧ concL ρ' (f a) = cs)
  {t : TypeId} (ht : P.underlying t = some (.slice e)) (hc : P.cellsOf e = k) {n : Nat} {cs : List Value} {x : DataW H₀ × List MemPlace} (h : DataW.trod enc P W base sp held n t cs = some x)
  {ρ : Env} {H : Heap} (hB : Base G W ρ H) (hg : G.nglob ≤ H.next) :
  ∃ ρ' H' av l, Base G W ρ' H' ∧ More ρ H ρ' H' ∧ concL ρ' [av] = cs ∧ okV ρ' (fun b => b < H'.next) av ∧ RowsAt e k f H' av l ∧ ∀ a ∈ l, R H' a := by
 rcases DataW.trod_slice ht h with ⟨rfl, _⟩ | ⟨a, len, cap, elems, rest, m, _, rfl, _, _, hlc, _, hel, hcells, _, _⟩
 ·exact ⟨ρ, H, .nilslice, [], hB, .refl _ _, rfl, trivial, .inl ⟨.inl rfl, rfl⟩, fun a ha => by simp at ha⟩
 ·by_cases h0 : len = 0
  ·subst h0
   exact ⟨ρ, H, .odd a.block a.off a.spot cap, [], hB, .refl _ _, rfl, trivial, .inl ⟨.inr ⟨_, _, _, _, rfl⟩, rfl⟩, fun a ha => by simp at ha⟩
  ·have hex : ∀ i, i < len → ∃ cs y, W.cells? base (a.add (i * k)) k = some cs ∧ DataW.trod enc P W base sp held m e cs = some y := fun i hi => by
    have := hcells i hi
    rw [hc, List.getElem?_eq_getElem (by omega)] at this
    obtain ⟨cs, h1, h2⟩ := Option.bind_eq_some_iff.1 this
    exact ⟨cs, _, h1, h2⟩
   obtain ⟨cs0, y0, hcs0, _⟩ := hex 0 (by omega)
   obtain ⟨hl0, hat0⟩ := cells_at hcs0
   have hc0 := hat0 0 hk
   rw [add_add, Nat.zero_mul, Nat.zero_add] at hc0
   have e0 : a.add 0 = a := by simp [Addr.add]
   rw [e0, List.getElem?_eq_getElem (by omega)] at hc0
   obtain ⟨hspot, arr, el, fz, harr, _⟩ := cell_some hc0
   have harrAt : ∀ i j cs, W.cells? base (a.add (i * k)) k = some cs → j < k → arr[a.off + (i * k + j)]? = cs[j]? := fun i j cs h1 hj => by
    obtain ⟨hl, hat⟩ := cells_at h1
    have h2 := hat j hj
    rw [add_add, List.getElem?_eq_getElem (by omega)] at h2
    obtain ⟨_, c, t, f, h3, h4⟩ := cell_some h2
    rw [add_block, harr] at h3
    simp only [Option.some.injEq, Obj.cells.injEq] at h3
    rw [add_off, ← h3.1] at h4
    rw [h4, List.getElem?_eq_getElem (by omega)]
   have key : ∀ q, q ≤ len → ∃ (ρ' : Env) (H' : Heap) (l : List α), l.length = q ∧ Base G W ρ' H' ∧ More ρ H ρ' H' ∧ (∀ a ∈ l, R H' a) ∧ okL ρ' (fun b => b < H'.next) (l.flatMap f) ∧ ∀ j v, (l.flatMap f)[j]? = some v → arr[a.off + j]? = some (conc ρ' v) := by
    intro q
    induction q with
    | zero => intro _; exact ⟨ρ, H, [], rfl, hB, .refl _ _, fun a ha => by simp at ha, trivial, fun j v hv => by simp at hv⟩
    | succ q ih =>
     intro hq
     obtain ⟨ρ', H', l, hl, hB', hM, hRl, hok, hv⟩ := ih (by omega)
     obtain ⟨cs, y, hcs, hy⟩ := hex q (by omega)
     obtain ⟨ρ'', H'', b, hB'', hM', hRb, hokb, hcb⟩ := helem ρ' H' hB' (Nat.le_trans hg hM.grows.next) m cs y hy
     have hfl : (l.flatMap f).length = q * k := by rw [flat_len hf, hl]
     refine ⟨ρ'', H'', l ++ [b], by simp [hl], hB'', hM.trans hM', fun a ha => ?_, ?_, fun j v hj => ?_⟩
     ·rcases List.mem_append.1 ha with ha | ha
      ·exact hR _ _ _ (hRl a ha) hB'.neat hM'.grows
      ·rw [List.mem_singleton.1 ha]; exact hRb
     ·rw [List.flatMap_append, okL_iff]
      intro v hv
      rcases List.mem_append.1 hv with hv | hv
      ·exact hM'.sub.ok (okL_iff.1 hok v hv)
      ·simp only [List.flatMap_cons, List.flatMap_nil, List.append_nil] at hv
       exact okL_iff.1 hokb v hv
     ·rw [List.flatMap_append] at hj
      simp only [List.flatMap_cons, List.flatMap_nil, List.append_nil] at hj
      by_cases hjl : j < (l.flatMap f).length
      ·rw [List.getElem?_append_left hjl] at hj
       rw [hv j v hj, hM'.sub.eq (okL_iff.1 hok v (List.mem_of_getElem? hj))]
      ·rw [List.getElem?_append_right (by omega), hfl] at hj
       have hjk : j - q * k < k := by have := (List.getElem?_eq_some_iff.1 hj).1; rw [hf] at this; exact this
       have := harrAt q (j - q * k) cs hcs hjk
       rw [show q * k + (j - q * k) = j by omega] at this
       rw [this, concL_at hcb, hj]; rfl
   obtain ⟨ρ', H', l, hl, hB', hM, hRl, hok, hv⟩ := key len (Nat.le_refl _)
   have hfl : (l.flatMap f).length = len * k := by rw [flat_len hf, hl]
   have hpos : 0 < len * k := Nat.mul_pos (by omega) hk
   have hsz : a.off + (l.flatMap f).length ≤ arr.size := by
    have hlast := hv (len * k - 1) _ (List.getElem?_eq_getElem (by omega))
    have := (Array.getElem?_eq_some_iff.1 hlast).1
    omega
   obtain ⟨ρ'', hB'', hM', hb1, hb2⟩ := hB'.big (Nat.le_trans hg hM.grows.next) hok harr hsz hv e
   refine ⟨ρ'', _, .slice H'.next 0 len false cap, l, hB'', hM.trans hM', ?_, ⟨Nat.lt_succ_self _, fun h => by simp at h⟩, .inr ⟨H'.next, cap, by rw [hl], ?_⟩, fun b hb => hR _ _ _ (hRl b hb) hB'.neat hM'.grows⟩
   ·have : a = ⟨a.block, a.off, none⟩ := by rw [← hspot]
    simp only [concL, conc, hb1, hb2, Nat.add_zero]
    rw [this]; rfl
   ·rw [s_push_same, hfl, hl]
end
end Go.Sx
