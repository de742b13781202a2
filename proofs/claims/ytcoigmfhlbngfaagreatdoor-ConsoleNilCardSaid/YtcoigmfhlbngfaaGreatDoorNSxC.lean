/-
  The executor's operations on maps, slices, strings are sound (part 2).
-/
import Derived.Test.YtcoigmfhlbngfaaGreatDoorNSxB
import GoSem.Builtin.Delete
import GoSem.Builtin.Clear
import Derived.Laws.Tables
import GoSem.Builtin.Len
import GoSem.Builtin.Cap
import GoSem.Builtin.Min
import GoSem.Builtin.Max
import GoSem.Builtin.Append
import GoSem.Builtin.Copy
import GoSem.Dispatch
import Derived.Laws.BytesString
import Derived.Lib.Builder
import Derived.Lib.UnsafeStr
set_option linter.unusedSimpArgs false
set_option linter.unusedVariables false
namespace Go.Sx
theorem z3g {β : Type} (H : Heap) (r : Nat) (es : List AEntry) (clock : Nat) (c : Heap → β) : z4P H r es clock c = c (z0y H r (some (.map es clock))) := by
 unfold z4P; rw [q9D, z0h, z2m]
section
variable {P : Program} {G : Tab} {ρ : Env} {D : Nat → Prop} {w : World} {H : Heap}
theorem z4d (hH : HRel G ρ D w H) {r : Nat} {p : List AEntry × Nat} (hr : D r) (hp : z5J (H.blks.get r) = some p) {es : List AEntry} {clock : Nat} {arr : Array MapEntry}
  (he : ∀ e ∈ es, okE ρ D e) (ha : arr.toList = es.map (concE ρ)) :
  HRel G ρ D { w with heap := w.heap.setIfInBounds (ρ.blk r) (.map arr clock) } (z0y H r (some (.map es clock))) := by
 obtain ⟨m1, es', m2, m3⟩ := z1K hH hr hp
 have hlt := (Array.getElem?_eq_some_iff.1 m2).1
 refine hH.write hr (q0y hp) ⟨he, arr, ?_, ha⟩ ?_ (fun h => h)
 ·simp [hlt]
 ·intro j hj
  simp [Array.getElem?_setIfInBounds_ne (Ne.symm hj)]
theorem z7G {α β : Type} (f : α → β) : ∀ (l : List α) (k : Nat), (l.map f).eraseIdx k = (l.eraseIdx k).map f
 | [], _ => rfl
 | _ :: _, 0 => rfl
 | a :: l, k + 1 => by simp [z7G f l k]
theorem z2F {es : Array MapEntry} {l : List MapEntry} {i : Nat} {e : MapEntry} (h : es.toList = l) (he : l[i]? = some e) (f : MapEntry → MapEntry) :
  (es.modify i f).toList = l.set i (f e) := by
 subst h
 apply List.ext_getElem?
 intro j
 rw [List.getElem?_set]
 have hi : i < es.toList.length := (List.getElem?_eq_some_iff.1 he).1
 by_cases hj : i = j
 ·subst hj
  rw [if_pos rfl, if_pos hi]
  have : es[i]? = some e := by simpa using he
  simp [this]
 ·rw [if_neg hj]
  simp [hj]
theorem z8U {v : AV} (h : z3W v = true) (n : Nat) : Instr.sameBits n (conc ρ v) (conc ρ v) = true := by
 cases v <;> simp [z3W] at h <;> cases n <;> first
  | (simp [Instr.sameBits, conc]; done)
  | (simp only [Instr.sameBits, conc]; rw [beq_toListBytes]; simp)
theorem q2X : ∀ {l : List AV}, z6V l = true → ∀ n, ((concL ρ l).zip (concL ρ l)).all (fun (x, y) => Instr.sameBits n x y) = true := by
 intro l
 induction l with
 | nil => intro _ n; rfl
 | cons v l ih =>
  intro h n
  have h' : cond (z3W v) (z6V l) false = true := h
  cases h1 : z3W v <;> rw [h1] at h'
  ·simp at h'
  ·simp only [concL, List.zip_cons_cons, List.all_cons, z8U h1, Bool.true_and]
   exact ih h' n
theorem q9O {v : AV} (h : z8u v = true) : Instr.sameBits 10000 (conc ρ v) (conc ρ v) = true := by
 unfold z8u at h
 split at h
 ·rename_i cs
  simp only [conc, Instr.sameBits]
  have := q2X (ρ := ρ) h 9999
  simp [this]
 ·exact z8U h _
theorem z5d {v : AV} (h : z8u v = true) : (Instr.keyThatStays (conc ρ v) (conc ρ v)).run P w = .ok (conc ρ v) w := by
 simp [Instr.keyThatStays, q9O h]
theorem z7H {es' : Array MapEntry} {es : List AEntry} {i : Nat} {e : AEntry} (h : es'.toList = es.map (concE ρ)) (he : es[i]? = some e) :
  es'[i]? = some (concE ρ e) := by
 have : es'.toList[i]? = some (concE ρ e) := by rw [h, List.getElem?_map, he]; rfl
 simpa using this
theorem q9P {es : List AEntry} {i : Nat} {e : AEntry} (h : ∀ x ∈ es, okE ρ D x) (he : okE ρ D e) : ∀ x ∈ es.set i e, okE ρ D x := fun x hx =>
 (List.mem_or_eq_of_mem_set hx).elim (h x) (fun hx => hx ▸ he)
theorem z6u (T : TabOk P G) (hH : HRel G ρ D w H) {t : TypeId} {x k v : AV} {H' : Heap} (h : z3X G H t x k v = some H') (hx : okV ρ D x) (hk : okV ρ D k) (hv : okV ρ D v) :
  ∃ w', (Instr.mapUpdate t (conc ρ x) (conc ρ k) (conc ρ v)).run P w = .ok () w' ∧ HRel G ρ D w' H' ∧ H'.next = H.next := by
 unfold z3X at h
 split at h
 ·rename_i r
  obtain ⟨kt, hkt, h⟩ := z0a h
  obtain ⟨p, hp, h⟩ := z0a h
  obtain ⟨o, ho, h⟩ := z0a h
  obtain ⟨hu, hok⟩ := z2u T hkt
  have ck := z3r (ρ := ρ) (D := D) (w := w) T false 20 10000 (by omega) hok hk
  obtain ⟨m1, es', m2, m3⟩ := z1K hH hx hp
  have fk := z4c (w := w) T hk hok m1 ho
  unfold j4z at h
  split at h
  ·rename_i i e
   obtain ⟨h1, h⟩ := z0c h
   obtain ⟨h2, h⟩ := z0c h
   rw [z3g] at h
   simp only [Option.some.injEq] at h; subst h
   obtain ⟨_, hie, _⟩ := z8T ho
   simp only [Nat.sub_zero] at hie
   have hke := AV.beq_eq _ _ h1
   have hes := z7H m3 hie
   refine ⟨_, ?_, z4d hH hx hp (arr := es'.modify i fun e => { e with key := conc ρ k, val := conc ρ v }) (clock := p.2) ?_ ?_, Heap.next_put _ _ _⟩
   ·simp only [Instr.mapUpdate, Sem.run_bind, run_underlying hu, Result.andThen_ok, conc, run_getObj_map m2, ck, m3, fk, Option.map_some, hes, Option.getD_some]
    rw [show (concE ρ e).key = conc ρ k from by rw [hke]; rfl]
    rw [z5d h2]
    simp only [Result.andThen_ok]
    exact z0X m2
   ·rw [z6p]
    exact q9P m1 ⟨hke ▸ hk, hv⟩
   ·rw [z6p, z2F m3 (by rw [List.getElem?_map, hie]; rfl)]
    rw [List.map_set]
    simp only [concE, hke]
  ·rw [z3g] at h
   simp only [Option.some.injEq] at h; subst h
   refine ⟨_, ?_, z4d hH hx hp (arr := es'.push { key := conc ρ k, val := conc ρ v, born := p.2 }) (clock := p.2 + 1) ?_ ?_, Heap.next_put _ _ _⟩
   ·simp only [Instr.mapUpdate, Sem.run_bind, run_underlying hu, Result.andThen_ok, conc, run_getObj_map m2, ck, m3, fk, Option.map_none]
    exact z0X m2
   ·rw [z1G]
    intro e he
    rcases List.mem_append.1 he with he | he
    ·exact m1 e he
    ·simp only [List.mem_singleton] at he; subst he; exact ⟨hk, hv⟩
   ·rw [z1G, List.map_append, Array.toList_push, m3]; rfl
 ·simp at h
theorem q2Y (T : TabOk P G) (hH : HRel G ρ D w H) {t : TypeId} {x k v : AV} {H' : Heap} (h : z8y G H t x k = some (v, H')) (hx : okV ρ D x) (hk : okV ρ D k) :
  ∃ w', (Instr.mapEntry t (conc ρ x) (conc ρ k)).run P w = .ok (conc ρ v) w' ∧ HRel G ρ D w' H' ∧ H'.next = H.next ∧ okV ρ D v := by
 unfold z8y at h
 split at h
 ·rename_i r
  obtain ⟨kt, hkt, h⟩ := z0a h
  obtain ⟨p, hp, h⟩ := z0a h
  obtain ⟨o, ho, h⟩ := z0a h
  obtain ⟨hu, hok⟩ := z2u T hkt
  have ck := z3r (ρ := ρ) (D := D) (w := w) T false 20 10000 (by omega) hok hk
  obtain ⟨m1, es', m2, m3⟩ := z1K hH hx hp
  have fk := z4c (w := w) T hk hok m1 ho
  unfold j4A at h
  split at h
  ·rename_i i e
   obtain ⟨h1, h⟩ := z0c h
   obtain ⟨h2, h⟩ := z0c h
   simp only [Option.some.injEq, Prod.mk.injEq] at h
   obtain ⟨rfl, rfl⟩ := h
   obtain ⟨_, hie, _⟩ := z8T ho
   simp only [Nat.sub_zero] at hie
   have hke := AV.beq_eq _ _ h1
   have hes := z7H m3 hie
   have hlt := (Array.getElem?_eq_some_iff.1 m2).1
   have hmod : (es'.modify i fun e => { e with key := conc ρ k }) = es' := by
    apply Array.ext'
    rw [z2F m3 (by rw [List.getElem?_map, hie]; rfl), m3]
    apply List.ext_getElem?
    intro j
    rw [List.getElem?_set]
    by_cases hj : i = j
    ·subst hj
     have hlen : i < (List.map (concE ρ) p.1).length := by
      have := (List.getElem?_eq_some_iff.1 hie).1
      simpa using this
     rw [if_pos rfl, if_pos hlen, List.getElem?_map, hie]
     simp [concE, hke]
    ·rw [if_neg hj]
   have hw : ({ w with heap := w.heap.setIfInBounds (ρ.blk r) (.map es' p.2) } : World) = w := by
    have : w.heap.setIfInBounds (ρ.blk r) (.map es' p.2) = w.heap := by
     apply Array.ext_getElem?
     intro j
     by_cases hj : ρ.blk r = j
     ·subst hj; simp [hlt, m2.symm]
     ·rw [Array.getElem?_setIfInBounds_ne hj]
    rw [this]
   refine ⟨w, ?_, hH, rfl, ⟨(m1 e (List.mem_of_getElem? hie)).2, trivial, trivial⟩⟩
   simp only [Instr.mapEntry, Sem.run_bind, run_underlying hu, Result.andThen_ok, conc, run_getObj_map m2, ck, m3, fk, Option.map_some, hes, Option.getD_some]
   rw [show (concE ρ e).key = conc ρ k from by rw [hke]; rfl]
   rw [z5d h2]
   simp only [Result.andThen_ok, hmod, z0X m2, hw, Sem.run_pure, q6g, conc, concL, goInt, concE]
   rfl
  ·obtain ⟨z, hz, h⟩ := z0a h
   rw [z3g] at h
   simp only [Option.some.injEq, Prod.mk.injEq] at h
   obtain ⟨rfl, rfl⟩ := h
   obtain ⟨_, _, _, _, hc⟩ := T.zero hz
   refine ⟨_, ?_, z4d hH hx hp (arr := es'.push { key := conc ρ k, val := conc ρ z, born := p.2 }) (clock := p.2 + 1) ?_ ?_, Heap.next_put _ _ _, ⟨(hc ρ D).2, trivial, trivial⟩⟩
   ·simp only [Instr.mapEntry, Sem.run_bind, run_underlying hu, Result.andThen_ok, conc, run_getObj_map m2, ck, m3, fk, Option.map_none, T.zeroValue hz ρ, z0X m2, Sem.run_pure,
     q6g, concL, goInt]
    rfl
   ·rw [z1G]
    intro e he
    rcases List.mem_append.1 he with he | he
    ·exact m1 e he
    ·simp only [List.mem_singleton] at he; subst he; exact ⟨hk, (hc ρ D).2⟩
   ·rw [z1G, List.map_append, Array.toList_push, m3]; rfl
 ·simp at h
theorem z8V {n : Nat} : ∀ {es : List AEntry} {i : Nat} {q : Nat × AEntry}, q6h n es i = some q → i ≤ q.1 ∧ es[q.1 - i]? = some q.2 ∧ q.2.born = n ∧
  (es.map (concE ρ)).findIdx? (fun e => (e.born : Int) == (n : Int)) = some (q.1 - i) ∧ (es.map (concE ρ)).find? (fun e => e.born == n) = some (concE ρ q.2) := by
 intro es
 induction es with
 | nil => intro i q h; have h : none = some q := h; simp at h
 | cons e es ih =>
  intro i q h
  have h' : (bif Nat.beq e.born n then some (i, e) else q6h n es (i + 1)) = some q := h
  rcases z0Z h' with ⟨h1, h2⟩ | ⟨h1, h2⟩
  ·have h1 := z0B h1
   simp only [Option.some.injEq] at h2; subst h2
   refine ⟨Nat.le_refl _, by simp, h1, ?_, ?_⟩
   ·simp [List.findIdx?_cons, concE, h1]
   ·simp [concE, h1]
  ·obtain ⟨g1, g2, g3, g4, g5⟩ := ih h2
   have hne : e.born ≠ n := by rintro he; rw [z1k he] at h1; simp at h1
   refine ⟨by omega, ?_, g3, ?_, ?_⟩
   ·rw [show q.1 - i = (q.1 - (i + 1)) + 1 from by omega]; simpa using g2
   ·have hne' : (((concE ρ e).born : Int) == (n : Int)) = false := by
     rw [beq_eq_false_iff_ne]; simp only [concE]; omega
    have : q.1 - i = (q.1 - (i + 1)) + 1 := by omega
    rw [this]
    simp only [List.map_cons, List.findIdx?_cons, hne', Bool.false_eq_true, if_false, g4, Option.map_some]
   ·have hne' : (e.born == n) = false := by simpa using hne
    have hne2 : ((concE ρ e).born == n) = false := hne'
    simp only [List.map_cons, List.find?_cons, hne2]
    exact g5
theorem z9U (hH : HRel G ρ D w H) {t : TypeId} {x s v : AV} {H' : Heap} (h : z5Z H x s v = some H') (hx : okV ρ D x) (hv : okV ρ D v) :
  ∃ w', (Instr.entryStore t (conc ρ x) (conc ρ s) (conc ρ v)).run P w = .ok () w' ∧ HRel G ρ D w' H' ∧ H'.next = H.next := by
 unfold z5Z at h
 split at h
 ·rename_i r k n
  obtain ⟨p, hp, h⟩ := z0a h
  obtain ⟨q, hq, h⟩ := z0a h
  rw [z3g] at h
  simp only [Option.some.injEq] at h; subst h
  obtain ⟨m1, es', m2, m3⟩ := z1K hH hx hp
  obtain ⟨_, g2, g3, g4, _⟩ := z8V (ρ := ρ) hq
  simp only [Nat.sub_zero] at g2 g4
  have hfi : es'.findIdx? (fun e => (e.born : Int) == ((n : Nat) : Int)) = some q.1 := by
   have e : es' = es'.toList.toArray := by simp
   rw [e, List.findIdx?_toArray, m3]; exact g4
  refine ⟨_, ?_, z4d hH hx hp (arr := es'.modify q.1 fun e => { e with val := conc ρ v }) (clock := p.2) ?_ ?_, Heap.next_put _ _ _⟩
  ·simp only [Instr.entryStore, Sem.run_bind, conc, run_getObj_map m2, Result.andThen_ok, asInt, asIntOf, Sem.run_pure, Int.ofNat_eq_natCast, hfi]
   exact z0X m2
  ·rw [z6p]
   have := m1 q.2 (List.mem_of_getElem? g2)
   exact q9P m1 ⟨this.1, hv⟩
  ·rw [z6p, z2F m3 (by rw [List.getElem?_map, g2]; rfl)]
   rw [List.map_set]
   rfl
 ·simp at h
theorem q7p (T : TabOk P G) (hH : HRel G ρ D w H) {t u : TypeId} {x k : AV} {ts : Array TypeId} {H' : Heap} (h : q4n G H t x k = some H') (hx : okV ρ D x) (hk : okV ρ D k) (ht : ts[0]? = some t) :
  ∃ w', (Builtin.delete_ ts u #[conc ρ x, conc ρ k]).run P w = .ok undef w' ∧ HRel G ρ D w' H' ∧ H'.next = H.next := by
 unfold q4n at h
 split at h
 ·obtain ⟨kt, hkt, h⟩ := z0a h
  simp only [Option.some.injEq] at h; subst h
  obtain ⟨hu, hok⟩ := z2u T hkt
  have ck := z3r (ρ := ρ) (D := D) (w := w) T true 20 10000 (by omega) hok hk
  refine ⟨w, ?_, hH, rfl⟩
  simp [Builtin.delete_, ht, run_underlying hu, conc, ck, undef]
 ·rename_i r
  obtain ⟨kt, hkt, h⟩ := z0a h
  obtain ⟨p, hp, h⟩ := z0a h
  obtain ⟨o, ho, h⟩ := z0a h
  obtain ⟨hu, hok⟩ := z2u T hkt
  have ck := fun b => z3r (ρ := ρ) (D := D) (w := w) T b 20 10000 (by omega) hok hk
  obtain ⟨m1, es', m2, m3⟩ := z1K hH hx hp
  have fk := z4c (w := w) T hk hok m1 ho
  have hlt := (Array.getElem?_eq_some_iff.1 m2).1
  unfold j4B at h
  split at h
  ·rename_i i e
   rw [z3g] at h
   simp only [Option.some.injEq] at h; subst h
   refine ⟨_, ?_, z4d hH hx hp (arr := es'.eraseIdxIfInBounds i) (clock := p.2) ?_ ?_, Heap.next_put _ _ _⟩
   ·simp only [Builtin.delete_, ht, List.getElem?_toArray, List.getElem?_cons_zero, List.getElem?_cons_succ, Sem.run_bind, run_underlying hu, Result.andThen_ok, conc, run_getObj_map m2, ck, m3, fk,
     Option.map_some, z0X m2, Sem.run_pure]
    rfl
   ·rw [q2P]
    intro e he
    exact m1 e (List.mem_of_mem_eraseIdx he)
   ·rw [q2P, Array.toList_eraseIdxIfInBounds, m3, z7G]
  ·simp only [Option.some.injEq] at h; subst h
   have hw : ({ w with heap := w.heap.setIfInBounds (ρ.blk r) (.map es' p.2) } : World) = w := by
    have : w.heap.setIfInBounds (ρ.blk r) (.map es' p.2) = w.heap := by
     apply Array.ext_getElem?
     intro j
     by_cases hj : ρ.blk r = j
     ·subst hj; simp [hlt, m2.symm]
     ·rw [Array.getElem?_setIfInBounds_ne hj]
    rw [this]
   refine ⟨w, ?_, hH, rfl⟩
   simp only [Builtin.delete_, ht, List.getElem?_toArray, List.getElem?_cons_zero, List.getElem?_cons_succ, Sem.run_bind, run_underlying hu, Result.andThen_ok, conc, run_getObj_map m2, ck, m3, fk,
     Option.map_none, z0X m2, Sem.run_pure, hw]
   rfl
 ·simp at h
end
end Go.Sx
namespace Go.Sx
theorem q2Z (seen : List Nat) : ∀ (es : List AEntry), z3z seen es = es.filter fun e => !seen.contains e.born := by
 intro es
 induction es with
 | nil => rfl
 | cons e es ih =>
  have : z3z seen (e :: es) = cond (z2j e.born seen) (z3z seen es) (e :: z3z seen es) := rfl
  rw [this, ih, z4b]
  cases h : seen.contains e.born
  ·rw [List.filter_cons_of_pos (by rw [h]; rfl)]; rfl
  ·rw [List.filter_cons_of_neg (by rw [h]; simp)]; rfl
theorem q6B (since : Nat) : ∀ (es : List AEntry), q2F since es = es.filter fun e => decide (e.born < since) := by
 intro es
 induction es with
 | nil => rfl
 | cons e es ih =>
  have : q2F since (e :: es) = cond (Nat.blt e.born since) (e :: q2F since es) (q2F since es) := rfl
  rw [this, ih]
  cases h : Nat.blt e.born since
  ·rw [List.filter_cons_of_neg (by intro h'; have := of_decide_eq_true h'; rw [show Nat.blt e.born since = true from by simpa [Nat.blt_eq] using this] at h; simp at h)]; rfl
  ·rw [List.filter_cons_of_pos (by simpa using z1r h)]; rfl
theorem q6C (since : Nat) : ∀ (es : List AEntry), q1e since es = es.filter fun e => decide (e.born ≥ since) := by
 intro es
 induction es with
 | nil => rfl
 | cons e es ih =>
  have : q1e since (e :: es) = cond (Nat.blt e.born since) (q1e since es) (e :: q1e since es) := rfl
  rw [this, ih]
  cases h : Nat.blt e.born since
  ·have : ¬ e.born < since := by intro h'; rw [show Nat.blt e.born since = true from by simpa [Nat.blt_eq] using h'] at h; simp at h
   rw [List.filter_cons_of_pos (by simp; omega)]; rfl
  ·have := z1r h
   rw [List.filter_cons_of_neg (by simp; omega)]; rfl
theorem q7q (last : Nat) : ∀ (es : List AEntry), q1f last es = !es.all fun e => decide (e.born ≥ last) := by
 intro es
 induction es with
 | nil => rfl
 | cons e es ih =>
  have : q1f last (e :: es) = cond (Nat.blt e.born last) true (q1f last es) := rfl
  rw [this, ih]
  cases h : Nat.blt e.born last
  ·have : ¬ e.born < last := by intro h'; rw [show Nat.blt e.born last = true from by simpa [Nat.blt_eq] using h'] at h; simp at h
   have : decide (e.born ≥ last) = true := by simp; omega
   simp [List.all_cons, this]
  ·have := z1r h
   have : decide (e.born ≥ last) = false := by simp; omega
   simp [List.all_cons, this]
section
variable {P : Program} {G : Tab} {ρ : Env} {D : Nat → Prop} {w : World} {H : Heap}
theorem z3s {r : Nat} {m : Option Nat} {a : Nat} {s : Array Nat} {c : Nat} (h : w.heap[r]? = some (.mapIter m a s c)) : (getObj r).run P w = .ok (.mapIter m a s c) w := by
 simp [getObj, Sem.run, h]
theorem z8W {r : Nat} {m : Option Nat} {a : Nat} {s : Array Nat} {c : Nat} {o : Obj} (h : w.heap[r]? = some (.mapIter m a s c)) : (setObj r o).run P w = .ok () { w with heap := w.heap.setIfInBounds r o } := by
 simp [setObj, Sem.run, h]
theorem z5P {r : Nat} {s : ByteArray} {p : Nat} (h : w.heap[r]? = some (.stringIter s p)) : (getObj r).run P w = .ok (.stringIter s p) w := by
 simp [getObj, Sem.run, h]
theorem z9V {r : Nat} {s : ByteArray} {p : Nat} {o : Obj} (h : w.heap[r]? = some (.stringIter s p)) : (setObj r o).run P w = .ok () { w with heap := w.heap.setIfInBounds r o } := by
 simp [setObj, Sem.run, h]
theorem z8X (hH : HRel G ρ D w H) {b : Nat} {o o' : ABlk} {x : Obj} (hb : D b) (ho : H.blks.get b = some o)
  (hn : BRel G ρ D { w with heap := w.heap.setIfInBounds (ρ.blk b) x } b o') (hst : ¬ z0W (some o)) : HRel G ρ D { w with heap := w.heap.setIfInBounds (ρ.blk b) x } (z0y H b (some o')) :=
 hH.write hb ho hn (fun j hj => by simp [Array.getElem?_setIfInBounds_ne (Ne.symm hj)]) hst
theorem z9W (w : World) (n : Nat) : ∃ c w', (choose (.mapNext n)).run P w = .ok c w' ∧ (0 < n → c < n) ∧ Like w' w := by
 rw [run_choose]
 by_cases h : n ≤ 1
 ·refine ⟨0, w, ?_, fun h => h, ⟨rfl, rfl, rfl, rfl⟩⟩
  simp [Question.forced, h]
 ·refine ⟨w.tape w.drawn (.mapNext n) % n, { w with drawn := w.drawn + 1 }, ?_, fun h => Nat.mod_lt _ h, ⟨rfl, rfl, rfl, rfl⟩⟩
  simp [Question.forced, h, Question.cut]
theorem z7I {it m since clock : Nat} {seen : List Nat} {e : AEntry} : ∀ {es : List AEntry}, e ∈ es →
  (AV.tuple [.bool true, e.key, e.val], z0y H it (some (.mapIter (some m) since (seen ++ [e.born]) clock))) ∈ z4r H it m since seen clock es := by
 intro es
 induction es with
 | nil => intro h; simp at h
 | cons x es ih =>
  intro h
  have e1 : z4r H it m since seen clock (x :: es) =
    (AV.tuple [.bool true, x.key, x.val], z0y H it (some (.mapIter (some m) since (app seen [x.born]) clock))) :: z4r H it m since seen clock es := by
   have e0 : z4r H it m since seen clock (x :: es) =
    z0M H it (some (.mapIter (some m) since (app seen [x.born]) clock)) (fun H' => (AV.tuple [.bool true, x.key, x.val], H') :: z4r H it m since seen clock es) := rfl
   rw [e0, z2m]
  rw [e1, z1G]
  rcases List.mem_cons.1 h with h | h
  ·subst h; simp
  ·exact List.mem_cons_of_mem _ (ih h)
theorem j3b (hH : HRel G ρ D w H) {x : AV} {s : Bool} {t : TypeId} {l : List VH} (h : q4o H x s = some l) (hx : okV ρ D x) :
  ∃ p ∈ l, ∃ w', (Instr.next (conc ρ x) s t).run P w = .ok (conc ρ p.1) w' ∧ HRel G ρ D w' p.2 ∧ p.2.next = H.next ∧ okV ρ D p.1 := by
 unfold q4o at h
 split at h
 ·rename_i it
  have hbase : ∀ {m since seen last}, H.blks.get it = some (.mapIter m since seen last) → conc ρ (.ptr it 0) = .pointer (some ⟨ρ.blk it, 0, none⟩) := by
   intro m since seen last hg
   obtain ⟨_, h2, _⟩ := hH.blk it _ hx hg
   simp [conc, h2]
  unfold j4C at h
  split at h
  ·rename_i a b c hg
   simp only [Option.some.injEq] at h; subst h
   obtain ⟨_, _, h3⟩ := hH.blk it _ hx hg
   refine ⟨(q1g, H), by simp, w, ?_, hH, rfl, ⟨trivial, trivial⟩⟩
   rw [hbase hg]
   simp [Instr.next, z3s h3, q1g, conc, concL]
  ·rename_i m since seen last hg
   obtain ⟨p, hp, h⟩ := z0a h
   obtain ⟨hm, _, h3⟩ := hH.blk it _ hx hg
   obtain ⟨m1, es', m2, m3⟩ := z1K hH (hm m rfl) hp
   unfold q8M at h
   obtain ⟨hc, h⟩ := z0c h
   have hguard : (!seen.toArray.isEmpty && !es'.isEmpty && es'.all (·.born ≥ last)) = false := by
    have e1 : es'.all (fun e => decide (e.born ≥ last)) = p.1.all fun e => decide (e.born ≥ last) := by
     rw [← Array.all_toList, m3, List.all_map]; rfl
    rw [e1]
    cases seen with
    | nil => simp
    | cons a seen =>
     cases hes : p.1 with
     | nil =>
      have : es' = #[] := by apply Array.ext'; rw [m3, hes]; rfl
      simp [this]
     | cons e es =>
      rw [hes] at hc
      simp only [z5I, cond_false] at hc
      rw [q7q] at hc
      rw [← hes] at hc ⊢
      simp only [Bool.not_eq_true'] at hc
      rw [hc]; simp
   have e2 : (es'.filter fun e => !seen.toArray.contains e.born).toList = (z3z seen p.1).map (concE ρ) := by
    rw [Array.toList_filter, m3, q2Z, List.filter_map]
    congr 1
    apply List.filter_congr
    intro e _
    simp only [Function.comp, concE]
    congr 1
    simp
   have e3 : ((es'.filter fun e => !seen.toArray.contains e.born).filter (·.born < since)).toList = (q2F since (z3z seen p.1)).map (concE ρ) := by
    rw [Array.toList_filter, e2, q6B, List.filter_map]; rfl
   have e4 : ((es'.filter fun e => !seen.toArray.contains e.born).filter (·.born ≥ since)).toList = (q1e since (z3z seen p.1)).map (concE ρ) := by
    rw [Array.toList_filter, e2, q6C, List.filter_map]; rfl
   have hsub : ∀ e, e ∈ q2F since (z3z seen p.1) ∨ e ∈ q1e since (z3z seen p.1) → e ∈ p.1 := by
    intro e he
    rw [q6B, q6C, q2Z] at he
    rcases he with he | he <;> exact (List.mem_filter.1 (List.mem_filter.1 he).1).1
   -- the step that takes an entry
   have take : ∀ (w₁ : World) (e : AEntry), Like w₁ w → e ∈ p.1 →
     ∃ w', ((do setObj (ρ.blk it) (.mapIter (some (ρ.blk m)) since (seen.toArray.push (concE ρ e).born) p.2); pure (.tuple #[.bool true, (concE ρ e).key, (concE ρ e).val]) : Sem Value)).run P w₁ =
      .ok (conc ρ (.tuple [.bool true, e.key, e.val])) w' ∧ HRel G ρ D w' (z0y H it (some (.mapIter (some m) since (seen ++ [e.born]) p.2))) ∧
      okV ρ D (.tuple [.bool true, e.key, e.val]) := by
    intro w₁ e hw₁ he
    have h3' : w₁.heap[ρ.blk it]? = some (.mapIter (some (ρ.blk m)) since seen.toArray last) := by rw [hw₁.heap]; exact h3
    have hlt := (Array.getElem?_eq_some_iff.1 h3').1
    refine ⟨_, ?_, z8X (hH.same hw₁) hx hg (o' := .mapIter (some m) since (seen ++ [e.born]) p.2) (x := .mapIter (some (ρ.blk m)) since (seen.toArray.push (concE ρ e).born) p.2) ?_ (fun h => h), ?_⟩
    ·simp only [Sem.run_bind, z8W h3', Result.andThen_ok, Sem.run_pure, conc, concL, concE]
    ·refine ⟨hm, (hH.blk it _ hx hg).2.1, ?_⟩
     simp [hlt, concE]
    ·exact ⟨trivial, (m1 e he).1, (m1 e he).2, trivial⟩
   generalize q2F since (z3z seen p.1) = O at *
   generalize q1e since (z3z seen p.1) = N at *
   generalize hA : (es'.filter fun e => !seen.toArray.contains e.born).filter (·.born < since) = A at *
   generalize hB : (es'.filter fun e => !seen.toArray.contains e.born).filter (·.born ≥ since) = B at *
   -- what the step does once the choice is made
   have run1 : (Instr.next (.pointer (some ⟨ρ.blk it, 0, none⟩)) false t).run P w =
     ((choose (.mapNext ((if A.isEmpty then #[none] else #[]) ++ (A ++ B).map some : Array (Option MapEntry)).size)).run P w).andThen fun c w₁ =>
      ((match ((if A.isEmpty then #[none] else #[]) ++ (A ++ B).map some : Array (Option MapEntry))[c]? with
       | some (some e) => do setObj (ρ.blk it) (.mapIter (some (ρ.blk m)) since (seen.toArray.push e.born) p.2); pure (.tuple #[.bool true, e.key, e.val])
       | some none => pure (.tuple #[.bool false])
       | none => stuck "Next: no such candidate") : Sem Value).run P w₁ := by
    simp only [Instr.next, Sem.run_bind, z3s h3, Result.andThen_ok, Option.map_some, run_getObj_map m2, hguard, Bool.false_eq_true, if_false, hA, hB]
    rfl
   rw [hbase hg, run1]
   obtain ⟨c, w₁, hc1, hc2, hc3⟩ := z9W (P := P) w ((if A.isEmpty then #[none] else #[]) ++ (A ++ B).map some : Array (Option MapEntry)).size
   rw [hc1]
   simp only [Result.andThen_ok]
   have hAB : ∀ j : Nat, ((A ++ B).map some : Array (Option MapEntry))[j]? = ((O ++ N).map (fun e => some (concE ρ e)) : List (Option MapEntry))[j]? := by
    intro j
    have : ((A ++ B).map some : Array (Option MapEntry)).toList = (O ++ N).map fun e => some (concE ρ e) := by
     rw [Array.toList_map, Array.toList_append, e3, e4, ← List.map_append, List.map_map]; rfl
    rw [← this, Array.getElem?_toList]
   -- an entry is taken
   have taken : ∀ e ∈ O ++ N, ((if A.isEmpty then #[none] else #[]) ++ (A ++ B).map some : Array (Option MapEntry))[c]? = some (some (concE ρ e)) →
     ∃ w', ((match ((if A.isEmpty then #[none] else #[]) ++ (A ++ B).map some : Array (Option MapEntry))[c]? with
       | some (some e) => do setObj (ρ.blk it) (.mapIter (some (ρ.blk m)) since (seen.toArray.push e.born) p.2); pure (.tuple #[.bool true, e.key, e.val])
       | some none => pure (.tuple #[.bool false])
       | none => stuck "Next: no such candidate") : Sem Value).run P w₁ = .ok (conc ρ (.tuple [.bool true, e.key, e.val])) w' ∧
      HRel G ρ D w' (z0y H it (some (.mapIter (some m) since (seen ++ [e.born]) p.2))) ∧ okV ρ D (.tuple [.bool true, e.key, e.val]) := by
    intro e he hce
    obtain ⟨w', r1, r2, r3⟩ := take w₁ e hc3 (hsub e (List.mem_append.1 he))
    exact ⟨w', by rw [hce]; exact r1, r2, r3⟩
   cases O with
   | nil =>
    have hAe : A = #[] := by apply Array.ext'; rw [e3]; rfl
    simp only [Option.some.injEq] at h; subst h
    subst hAe
    simp only [Array.isEmpty_empty, if_true, Array.empty_append, List.nil_append] at taken hc2 hAB ⊢
    cases c with
    | zero =>
     refine ⟨(q1g, H), by simp, w₁, ?_, hH.same hc3, rfl, trivial, trivial⟩
     have h0 : (#[none] ++ B.map some : Array (Option MapEntry))[0]? = some none := by
      rw [Array.getElem?_append_left (by simp)]; rfl
     rw [h0]
     simp [q1g, conc, concL]
    | succ c =>
     have hlt : c < N.length := by
      have := hc2 (by simp; omega)
      have hB' : B.size = N.length := by rw [← Array.length_toList, e4, List.length_map]
      simp [hB'] at this; omega
     have hce : (#[none] ++ B.map some : Array (Option MapEntry))[c + 1]? = some (some (concE ρ N[c])) := by
      rw [Array.getElem?_append_right (by simp)]
      have := hAB c
      simp only [List.size_toArray, List.length_cons, List.length_nil, Nat.zero_add, Nat.add_one_sub_one]
      rw [this]; simp [hlt]
     obtain ⟨w', r1, r2, r3⟩ := taken N[c] (List.getElem_mem hlt) hce
     exact ⟨_, List.mem_cons_of_mem _ (z7I (List.getElem_mem hlt)), w', r1, r2, Heap.next_put _ _ _, r3⟩
   | cons o O =>
    have hAe : A.isEmpty = false := by
     have : A.size = (o :: O).length := by rw [← Array.length_toList, e3, List.length_map]
     simp [Array.isEmpty, this]
    simp only [Option.some.injEq] at h; subst h
    simp only [hAe, Bool.false_eq_true, if_false, Array.empty_append] at taken hc2 hAB ⊢
    have hlt : c < (o :: O ++ N).length := by
     have hA' : A.size = (o :: O).length := by rw [← Array.length_toList, e3, List.length_map]
     have hB' : B.size = N.length := by rw [← Array.length_toList, e4, List.length_map]
     have := hc2 (by simp [hA']; omega)
     simp [hA', hB'] at this
     simp; omega
    have hce : ((A ++ B).map some : Array (Option MapEntry))[c]? = some (some (concE ρ (o :: O ++ N)[c])) := by
     rw [hAB c, List.getElem?_map, List.getElem?_eq_getElem hlt]; rfl
    obtain ⟨w', r1, r2, r3⟩ := taken (o :: O ++ N)[c] (List.getElem_mem hlt) hce
    rw [z1G]
    exact ⟨_, z7I (List.getElem_mem hlt), w', r1, r2, Heap.next_put _ _ _, r3⟩
  ·rename_i str pos hg
   obtain ⟨h2, h3⟩ := hH.blk it _ hx hg
   have hb : conc ρ (.ptr it 0) = .pointer (some ⟨ρ.blk it, 0, none⟩) := by simp [conc, h2]
   rw [hb]
   unfold q8N at h
   split at h
   ·rename_i hn
    rw [z2A] at hn
    simp only [Option.some.injEq] at h; subst h
    have hp : ¬ pos < str.length := by simpa using hn
    refine ⟨(q1g, H), by simp, w, ?_, hH, rfl, trivial, trivial⟩
    simp [Instr.next, z5P h3, z4Z, hp, q1g, conc, concL]
   ·rename_i b hn
    rw [z2A] at hn
    obtain ⟨h1, h⟩ := z0c h
    have h1 := z1r h1
    rw [z0h, z2m] at h
    simp only [Option.some.injEq] at h; subst h
    obtain ⟨hp, hbe⟩ := List.getElem?_eq_some_iff.1 hn
    have hlt := (Array.getElem?_eq_some_iff.1 h3).1
    have hdec : Utf8.decode ⟨str.toArray⟩ pos = (b.toNat, 1) := by
     have : (ByteArray.mk str.toArray).get! (pos + 0) = b := by
      simp [ByteArray.get!, hn]
     simp only [Utf8.decode, this]
     rw [if_pos h1]
    refine ⟨_, List.mem_singleton.2 rfl, _, ?_, z8X hH hx hg (o' := .strIter str (pos + 1)) (x := .stringIter ⟨str.toArray⟩ (pos + 1)) ?_ (fun h => h), Heap.next_put _ _ _, ⟨trivial, trivial, trivial, trivial⟩⟩
    ·simp only [Instr.next, Sem.run_bind, z5P h3, Result.andThen_ok, z4Z, hp, if_true, hdec, z9V h3, Sem.run_pure, conc, concL, goInt]
     rfl
    ·exact ⟨h2, by simp [hlt]⟩
  ·simp at h
 ·simp at h
end
end Go.Sx
namespace Go.Sx
theorem q9Q : ∀ (l : List Nat), q6i l = l.getLast? := by
 intro l
 induction l with
 | nil => rfl
 | cons a l ih =>
  have h : q6i (a :: l) = (match q6i l with | none => some a | some b => some b) := rfl
  rw [h, ih]
  cases l with
  | nil => rfl
  | cons b l => simp [List.getLast?_cons_cons]; cases h : (b :: l).getLast? <;> simp_all
section
variable {P : Program} {G : Tab} {ρ : Env} {D : Nat → Prop} {w : World} {H : Heap}
def Makes (P : Program) (G : Tab) (ρ : Env) (D : Nat → Prop) (w : World) (H : Heap) (s : Sem Value) (v : AV) (H' : Heap) : Prop :=
 ∃ ρ' D' w', s.run P w = .ok (conc ρ' v) w' ∧ HRel G ρ' D' w' H' ∧ Ext H ρ D H' ρ' D' ∧ okV ρ' D' v
theorem Makes.of_val {s : Sem Value} {v : AV} (hH : HRel G ρ D w H) (h : Val P ρ D w s v) : Makes P G ρ D w H s v H := ⟨ρ, D, w, h.1, hH, .refl _ _ _, h.2⟩
theorem z8Y (hH : HRel G ρ D w H) {o : ABlk} {x : Obj} {v : AV} {H' : Heap} (h : q2G H o = some (v, H'))
  (hn : BRel G (ρ.at H.next w.heap.size 0 0) (fun x => D x ∨ x = H.next) { w with heap := w.heap.push x } H.next o) :
  Makes P G ρ D w H (do pure (.pointer (some ⟨← newObj x, 0, none⟩))) v H' := by
 unfold q2G at h
 rw [z1Y] at h
 simp only [Option.some.injEq, Prod.mk.injEq] at h
 obtain ⟨rfl, rfl⟩ := h
 obtain ⟨r1, r2⟩ := hH.pushEnd (w' := { w with heap := w.heap.push x }) o x 0 rfl hn
 exact ⟨_, _, _, by simp [conc, Env.at], r1, r2, .inr rfl⟩
theorem q9R (T : TabOk P G) (hH : HRel G ρ D w H) {t : TypeId} {x v : AV} {H' : Heap} (h : q8O G H t x = some (v, H')) (hx : okV ρ D x) :
  Makes P G ρ D w H (Instr.range t (conc ρ x)) v H' := by
 have hfresh : ¬ D H.next := fun hd => Nat.lt_irrefl _ (hH.lt _ hd)
 obtain ⟨d, hd, g⟩ := z0a h
 clear h
 have hu := T.und hd
 unfold j4D at g
 split at g
 ·rename_i s
  have := z8Y (P := P) hH (x := .stringIter ⟨s.toArray⟩ 0) g ⟨by simp [Env.at], by simp [Env.at]⟩
  simpa only [Instr.range, Sem.run_bind, Makes, run_underlying hu, Result.andThen_ok, conc, Sem.run_pure] using this
 ·have := z8Y (P := P) hH (x := .mapIter none 0 #[] 0) g ⟨by simp, by simp [Env.at], by simp [Env.at]⟩
  simpa only [Instr.range, Sem.run_bind, Makes, run_underlying hu, Result.andThen_ok, conc, Sem.run_pure] using this
 ·rename_i r
  obtain ⟨p, hp, g⟩ := z0a g
  obtain ⟨m1, es', m2, m3⟩ := z1K hH hx hp
  have hne : r ≠ H.next := fun e => hfresh (e ▸ hx)
  have := z8Y (P := P) hH (x := .mapIter (some (ρ.blk r)) p.2 #[] p.2) g ⟨fun q hq => by simp only [Option.some.injEq] at hq; subst hq; exact .inl hx, by simp [Env.at], by simp [Env.at, hne]⟩
  simpa only [Instr.range, Sem.run_bind, Makes, run_underlying hu, Result.andThen_ok, conc, Sem.run_pure, run_getObj_map m2] using this
 ·simp at g
theorem q9S (hH : HRel G ρ D w H) {x v : AV} (h : z8z H x = some v) (hx : okV ρ D x) : Val P ρ D w (Instr.entry (conc ρ x)) v := by
 unfold z8z at h
 split at h
 ·rename_i it
  unfold z6W at h
  split at h
  ·rename_i m since seen stepped hg
   obtain ⟨stamp, hs, h⟩ := z0a h
   obtain ⟨p, hp, h⟩ := z0a h
   obtain ⟨hc, h⟩ := z0c h
   obtain ⟨q, hq, h⟩ := z0a h
   simp only [Option.some.injEq] at h; subst h
   have hc := z0B hc
   obtain ⟨hm, h2, h3⟩ := hH.blk it _ hx hg
   obtain ⟨m1, es', m2, m3⟩ := z1K hH (hm m rfl) hp
   obtain ⟨_, g2, g3, _, g5⟩ := z8V (ρ := ρ) hq
   have hf : es'.find? (fun e => e.born == stamp) = some (concE ρ q.2) := by
    rw [← Array.find?_toList, m3]; exact g5
   rw [q9Q] at hs
   have hb : seen.toArray.back? = some stamp := by simp [hs]
   have hok := m1 q.2 (List.mem_of_getElem? g2)
   refine ⟨?_, hok.1, hok.2, trivial⟩
   simp only [Instr.entry, conc, h2, Nat.zero_add, Sem.run_bind, z3s h3, Result.andThen_ok, Option.map_some, hb, run_getObj_map m2, hc, bne_self_eq_false, Bool.false_eq_true, if_false, hf,
    Sem.run_pure, concL, concE]
  ·simp at h
 ·simp at h
theorem q9T (T : TabOk P G) (hH : HRel G ρ D w H) {x : AV} {H' : Heap} {ts : Array TypeId} {t u : TypeId} {d : TypeDesc} (h : q8T H x = some H') (hx : okV ρ D x) (ht : ts[0]? = some t) (hd : G.und t = some d) :
  ∃ w', (Builtin.clear_ ts u #[conc ρ x]).run P w = .ok undef w' ∧ HRel G ρ D w' H' ∧ H'.next = H.next := by
 have hu := T.und hd
 unfold q8T at h
 split at h
 ·simp only [Option.some.injEq] at h; subst h
  refine ⟨w, ?_, hH, rfl⟩
  simp only [Builtin.clear_, ht, List.getElem?_toArray, List.getElem?_cons_zero, Sem.run_bind, run_underlying hu, Result.andThen_ok, conc, Sem.run_pure]
  cases d <;> rfl
 ·simp only [Option.some.injEq] at h; subst h
  refine ⟨w, ?_, hH, rfl⟩
  simp only [Builtin.clear_, ht, List.getElem?_toArray, List.getElem?_cons_zero, Sem.run_bind, run_underlying hu, Result.andThen_ok, conc, Sem.run_pure]
  cases d <;> rfl
 ·rename_i r
  obtain ⟨p, hp, h⟩ := z0a h
  rw [z3g] at h
  simp only [Option.some.injEq] at h; subst h
  obtain ⟨m1, es', m2, m3⟩ := z1K hH hx hp
  refine ⟨_, ?_, z4d hH hx hp (es := []) (arr := #[]) (clock := p.2) (by simp) rfl, Heap.next_put _ _ _⟩
  simp only [Builtin.clear_, ht, List.getElem?_toArray, List.getElem?_cons_zero, Sem.run_bind, run_underlying hu, Result.andThen_ok, conc, run_getObj_map m2, z0X m2, Sem.run_pure]
  cases d <;> simp [undef]
 ·simp at h
theorem q7r (off : Nat) : ∀ (vs : List Value) (i : Nat) (arr : Array Value), off + i + vs.length ≤ arr.size →
  ((vs.zipIdx i).foldl (fun cs (c, j) => cs.setIfInBounds (off + j) c) arr).toList = arr.toList.take (off + i) ++ vs ++ arr.toList.drop (off + i + vs.length) := by
 intro vs
 induction vs with
 | nil => intro i arr _; simp
 | cons v vs ih =>
  intro i arr h
  simp only [List.length_cons] at h
  simp only [List.zipIdx_cons, List.foldl_cons]
  rw [ih (i + 1) _ (by simp; omega)]
  have hlt : off + i < arr.toList.length := by simp; omega
  simp only [Array.toList_setIfInBounds]
  rw [show off + (i + 1) = (off + i) + 1 from by omega]
  rw [List.take_set, List.drop_set_of_lt (by omega)]
  rw [List.take_succ_eq_append_getElem hlt]
  have : (arr.toList.take (off + i) ++ [arr.toList[off + i]]).set (off + i) v = arr.toList.take (off + i) ++ [v] := by
   rw [List.set_append_right _ _ (by simp; omega)]
   have : off + i - (arr.toList.take (off + i)).length = 0 := by simp; omega
   rw [this]; rfl
  rw [this]
  simp [Nat.add_assoc, Nat.add_comm 1]
theorem z8i {place place' : Nat → Option (Nat × Nat)} (hp : ∀ i p, place i = some p → place' i = some p) : ∀ {ps : List (Nat × AV)} {cells cs : List AV}, okL ρ D cells → (∀ q ∈ ps, okV ρ D q.2) →
  q4p place ps cells = some cs → Instr.fill place' (concL ρ cells).toArray (ps.map fun q => (q.1, conc ρ q.2)) = some (concL ρ cs).toArray ∧ okL ρ D cs := by
 intro ps
 induction ps with
 | nil => intro cells cs hc _ h; have h : some cells = some cs := h; simp only [Option.some.injEq] at h; subst h; exact ⟨rfl, hc⟩
 | cons q ps ih =>
  intro cells cs hc hq h
  have h' : z0b (place q.1) (fun p => z0b (z6a cells q.2 p) (q4p place ps)) = some cs := h
  obtain ⟨p, hpl, h'⟩ := z0a h'
  obtain ⟨c1, hf, h'⟩ := z0a h'
  unfold z6a at hf
  obtain ⟨hl, hf⟩ := z0c hf
  have hl := z0B hl
  rw [z0S] at hl
  rw [q0v] at hf
  split at hf
  ·rename_i hle
   simp only [Option.some.injEq] at hf
   have hq0 := hq q (by simp)
   have hc1 : okL ρ D c1 := by subst hf; exact z0P (z0P (q1r hc _) (z1w hq0)) (q1s hc _)
   obtain ⟨r1, r2⟩ := ih hc1 (fun x hx => hq x (by simp [hx])) h'
   refine ⟨?_, r2⟩
   obtain ⟨off, size⟩ := p
   simp only [List.map_cons, Instr.fill, hp _ _ hpl]
   have e1 : (conc ρ q.2).cells = (concL ρ q.2.cells).toArray := z1o _
   have hlen : (concL ρ q.2.cells).length = q.2.cells.length := by simp [z0i]
   rw [e1]
   simp only [List.size_toArray, hlen]
   rw [if_neg (by simp only [Bool.or_eq_true, decide_eq_true_eq, z0i, List.length_map]; simp only at hl hle; omega)]
   rw [← r1]
   congr 1
   apply Array.ext'
   have := q7r off (concL ρ q.2.cells) 0 (concL ρ cells).toArray (by rw [hlen]; simp only [List.size_toArray, z0i, List.length_map]; simpa using hle)
   rw [← Array.foldl_toList]
   simp only [Array.toList_zipIdx] at this ⊢
   rw [this]
   subst hf
   simp [z0i, List.map_take, List.map_drop]
  ·simp at hf
theorem z7e {tm : T AV} {ev : Operand → Value} (he : EvOk G ρ D tm ev) : ∀ {l : List (Nat × Operand)} {ps : List (Nat × AV)}, z2e G tm l = some ps →
  l.map (fun (i, x) => (i, ev x)) = ps.map (fun q => (q.1, conc ρ q.2)) ∧ ∀ q ∈ ps, okV ρ D q.2 := by
 intro l
 induction l with
 | nil => intro ps h; have h : some [] = some ps := h; simp only [Option.some.injEq] at h; subst h; exact ⟨rfl, by simp⟩
 | cons p l ih =>
  intro ps h
  obtain ⟨x, m, hx, hm, rfl⟩ := z2f (a := q7j p.1 (aev G tm p.2)) (o := z2e G tm l) h
  obtain ⟨v, hv, hx⟩ := z0a hx
  simp only [Option.some.injEq] at hx; subst hx
  obtain ⟨h1, h2⟩ := he p.2 v hv
  obtain ⟨h3, h4⟩ := ih hm
  refine ⟨by simp [h1, h3], fun q hq => ?_⟩
  rcases List.mem_cons.1 hq with rfl | hq
  ·exact h2
  ·exact h4 q hq
theorem q4B (T : TabOk P G) : ∀ {fs : List Field} {ps : List (Nat × Nat)}, q1h G fs = some ps → fs.mapM (fun f => (P.info? f.type).map fun i => (f.offset, i.size)) = some ps := by
 intro fs
 induction fs with
 | nil => intro ps h; have h : some [] = some ps := h; simp only [Option.some.injEq] at h; subst h; rfl
 | cons f fs ih =>
  intro ps h
  obtain ⟨x, m, hx, hm, rfl⟩ := z2f (a := q8P f (G.size f.type)) (o := q1h G fs) h
  unfold q8P at hx
  split at hx
  ·simp at hx
  ·rename_i z hz
   simp only [Option.some.injEq] at hx; subst hx
   obtain ⟨i, _, hi, hs⟩ := T.info hz
   rw [List.mapM_cons, ih hm]
   simp [hi, hs]
theorem q9U (T : TabOk P G) {t : TypeId} {ps : List (Nat × AV)} {v : AV} (h : q6j G t ps = some v) (hp : ∀ q ∈ ps, okV ρ D q.2) :
  Val P ρ D w (Instr.build t (ps.map fun q => (q.1, conc ρ q.2)).toArray) v := by
 obtain ⟨zero, hz, h⟩ := z0a h
 obtain ⟨d, hd, h⟩ := z0a h
 have hu := T.und hd
 obtain ⟨it, z, hi, hiz, hc⟩ := T.zero hz
 obtain ⟨c1, c2⟩ := hc ρ D
 have hzc : z.cells = (concL ρ zero.cells).toArray := by rw [← c1]; exact z1o _
 unfold j4E at h
 split at h
 ·rename_i fs
  obtain ⟨pl, hpl, h⟩ := z0a h
  obtain ⟨cs, hcs, rfl⟩ := z6q h
  obtain ⟨f1, f2⟩ := z8i (place' := (pl.toArray[·]?)) (fun i p hip => by rw [z2A] at hip; simpa using hip) (z1w c2) hp hcs
  refine ⟨?_, f2⟩
  refine run_build w t _ _ ?_
  simp only [Program.built, hi, hu, hiz, q4B T hpl, hzc]
  simpa using f1
 ·rename_i n e
  obtain ⟨s, hs, h⟩ := z0a h
  obtain ⟨cs, hcs, rfl⟩ := z6q h
  obtain ⟨ie, _, hie, hsz⟩ := T.info hs
  obtain ⟨f1, f2⟩ := z8i (place' := fun i => some (i * s, s)) (fun i p hip => hip) (z1w c2) hp hcs
  refine ⟨?_, f2⟩
  refine run_build w t _ _ ?_
  simp only [Program.built, hi, hu, hiz, hie, hzc, hsz]
  simpa using f1
 ·simp at h
end
end Go.Sx
namespace Go.Sx
theorem z7J {α : Type} [Inhabited α] (zs : List α) : ∀ n : Nat, (List.range (n * zs.length)).map (fun i => zs[i % zs.length]!) = (List.replicate n zs).flatten := by
 intro n
 induction n with
 | zero => simp
 | succ n ih =>
  rw [show (n + 1) * zs.length = zs.length + n * zs.length from by rw [Nat.add_mul]; omega, List.range_add, List.map_append, List.replicate_succ, List.flatten_cons, List.map_map]
  congr 1
  ·apply List.ext_getElem?
   intro i
   by_cases hi : i < zs.length
   ·simp [hi, Nat.mod_eq_of_lt hi]
   ·simp [hi]
  ·rw [← ih]
   apply List.map_congr_left
   intro i _
   simp
theorem z5t (z : List AV) : ∀ n, z0T z n = (List.replicate n z).flatten := by
 intro n
 induction n with
 | zero => rfl
 | succ n ih => show app z (z0T z n) = _; rw [z1G, ih, List.replicate_succ, List.flatten_cons]
theorem z6v (ρ : Env) (z : List AV) (n : Nat) : concL ρ (z0T z n) = (List.replicate n (concL ρ z)).flatten := by
 rw [z5t, z0i, z0i]
 simp [List.map_flatten]
theorem q9V (m : Nat) : ∀ (r c : Nat), Builtin.growBy m r c ≤ 2 ^ r * (c + 768) := by
 intro r
 induction r with
 | zero => intro c; simp [Builtin.growBy]
 | succ r ih =>
  intro c
  have hp : 0 < 2 ^ r := Nat.two_pow_pos r
  rw [Nat.pow_succ]
  simp only [Builtin.growBy]
  split
  ·calc c ≤ 1 * (c + 768) := by omega
    _ ≤ 2 ^ r * 2 * (c + 768) := Nat.mul_le_mul_right _ (by omega)
  ·refine Nat.le_trans (ih _) ?_
   rw [Nat.mul_assoc]
   exact Nat.mul_le_mul_left _ (by omega)
theorem z5e {m c : Nat} (hm : m ≤ 1000000) (hc : c ≤ 1000000) : Builtin.nextslicecap m c ≤ 17000000 := by
 unfold Builtin.nextslicecap
 split
 ·omega
 ·split
  ·omega
  ·have h := q9V m 4 c
   have : (2 : Nat) ^ 4 * (c + 768) ≤ 16 * (1000000 + 768) := Nat.mul_le_mul_left 16 (by omega)
   exact Nat.le_trans h (Nat.le_trans this (by decide))
theorem z4A (w : World) (P : Program) (need old : Nat) (e : TypeId) : ∃ c w', (choose (.appendCap need old e)).run P w = .ok c w' ∧ need ≤ c ∧ Like w' w := by
 rw [run_choose]
 refine ⟨(Question.appendCap need old e).cut (w.tape w.drawn (.appendCap need old e)), { w with drawn := w.drawn + 1 }, ?_, ?_, ⟨rfl, rfl, rfl, rfl⟩⟩
 ·simp [Question.forced]
 ·simp only [Question.cut]; exact Nat.le_add_right _ _
section
variable {P : Program} {G : Tab} {ρ : Env} {D : Nat → Prop} {w : World} {H : Heap}
theorem z2T {β : Type} {e : TypeId} {ex : Bool} {l : List AV} {c : Nat → Heap → Option β} {b : β} (h : z2q H e ex l c = some b) :
  (∀ v ∈ l, z0F v = true) ∧ c H.next (H.push (.cells e ex l)) = some b := by
 obtain ⟨h1, h⟩ := z0c h
 rw [z1n, z1Y] at h
 exact ⟨z2n.1 h1, h⟩
theorem q9W (hH : HRel G ρ D w H) {e : TypeId} {v u : AV} {H' : Heap} (h : boxA H e v = some (u, H')) (hv : okV ρ D v) :
  Makes P G ρ D w H (do pure (.pointer (some (← newVar e (conc ρ v))))) u H' := by
 obtain ⟨h1, h⟩ := z2T h
 simp only [Option.some.injEq, Prod.mk.injEq] at h
 obtain ⟨rfl, rfl⟩ := h
 obtain ⟨ρ', D', w', r1, r2, r3, r4, _⟩ := q2V (P := P) (e := e) hH (z1w hv) h1 0
 refine ⟨ρ', D', w', ?_, r2, r3, r4⟩
 simp only [newVar, z1o, Sem.run_bind, r1, Result.andThen_ok, Sem.run_pure, conc, adr]
theorem z2G (T : TabOk P G) {t e : TypeId} (h : elemOf G t = some e) : P.underlying t = some (.slice e) := by
 obtain ⟨d, hd, he⟩ := z0a h
 unfold z8A at he
 split at he
 ·simp only [Option.some.injEq] at he; subst he; exact T.und hd
 ·simp at he
theorem z3h {z : List AV} (hz : okL ρ D z) (n : Nat) : okL ρ D (z0T z n) := by
 rw [z5t]
 refine z0z.2 fun x hx => ?_
 obtain ⟨l, hl, hx⟩ := List.mem_flatten.1 hx
 rw [List.eq_of_mem_replicate hl] at hx
 exact z0z.1 hz x hx
theorem z3i (T : TabOk P G) {e : TypeId} {zero : AV} (h : G.zero e = some zero) (ρ : Env) (D : Nat → Prop) :
  ∃ it zv, P.info? e = some it ∧ it.zero = some zv ∧ zv.cells = (concL ρ zero.cells).toArray ∧ conc ρ zero = zv ∧ okV ρ D zero := by
 obtain ⟨it, zv, hi, hiz, hc⟩ := T.zero h
 obtain ⟨c1, c2⟩ := hc ρ D
 exact ⟨it, zv, hi, hiz, by rw [← c1]; exact z1o _, c1, c2⟩
theorem q1B (ρ : Env) (zero : List AV) (n z : Nat) (hz : zero.length = z) :
  (Array.range (n * z)).map (fun i => ((if n * z = 0 then #[] else (concL ρ zero).toArray) : Array Value)[i % ((if n * z = 0 then #[] else (concL ρ zero).toArray) : Array Value).size]!) = (concL ρ (z0T zero n)).toArray := by
 subst hz
 rw [z6v]
 have hl : (concL ρ zero).length = zero.length := by simp [z0i]
 by_cases h0 : n * zero.length = 0
 ·simp only [h0, if_true]
  have : (List.replicate n (concL ρ zero)).flatten = [] := by
   rcases Nat.mul_eq_zero.1 h0 with h | h
   ·simp [h]
   ·have : concL ρ zero = [] := List.eq_nil_of_length_eq_zero (by rw [hl, h])
    simp [this]
  rw [this]; simp
 ·simp only [h0, if_false]
  apply Array.ext'
  have := z7J (concL ρ zero) n
  rw [hl] at this
  rw [← this]
  simp [hl]
theorem z8Z (hH : HRel G ρ D w H) {e n c : Nat} {l : List AV} {v : AV} {H' : Heap} (h : z1c H e n c l = some (v, H')) (hl : okL ρ D l) :
  Makes P G ρ D w H (do pure (.slice (some (← newRow e (concL ρ l).toArray)) n c)) v H' := by
 obtain ⟨h1, h⟩ := z2T h
 simp only [Option.some.injEq, Prod.mk.injEq] at h
 obtain ⟨rfl, rfl⟩ := h
 obtain ⟨ρ', D', w', r1, r2, r3, r4, _⟩ := q2V (P := P) (e := e) hH hl h1 0
 refine ⟨ρ', D', w', ?_, r2, r3, r4, by simp⟩
 simp only [Sem.run_bind, r1, Result.andThen_ok, Sem.run_pure, conc, adr, Bool.false_eq_true, if_false]
theorem z9X (T : TabOk P G) (hH : HRel G ρ D w H) {t : TypeId} {n : Nat} {ps : List (Nat × AV)} {v : AV} {H' : Heap} (h : z1t G H t n ps = some (v, H')) (hp : ∀ q ∈ ps, okV ρ D q.2) :
  Makes P G ρ D w H (Instr.buildSlice t n (ps.map fun q => (q.1, conc ρ q.2)).toArray) v H' := by
 obtain ⟨e, he, h⟩ := z0a h
 obtain ⟨z, hz, h⟩ := z0a h
 obtain ⟨zero, hzero, h⟩ := z0a h
 obtain ⟨h1, h⟩ := z0c h
 obtain ⟨h2, h⟩ := z0c h
 obtain ⟨cs, hcs, h⟩ := z0a h
 have h1 := z1h h1
 have h2 := z0B h2
 rw [z0S] at h2
 have hu := z2G T he
 obtain ⟨it, zv, hi, hiz, hzc, hzv, hok⟩ := z3i T hzero ρ D
 obtain ⟨f1, f2⟩ := z8i (place' := fun i => some (i * z, z)) (fun i p hip => hip) (z3h (z1w hok) n) hp hcs
 obtain ⟨ρ', D', w', r1, r2, r3, r4⟩ := z8Z (P := P) hH h f2
 refine ⟨ρ', D', w', ?_, r2, r3, r4⟩
 rw [← r1]
 have hbig : ¬ (n * z > 2 ^ 24) := by have : (2 : Nat) ^ 24 = 16777216 := rfl; omega
 have key := q1B ρ zero.cells n z h2
 have f1' : Instr.fill (fun i => some (i * z, z)) (concL ρ (z0T zero.cells n)).toArray (List.map (fun q => (q.fst, conc ρ q.snd)) ps).toArray.toList = some (concL ρ cs).toArray := f1
 unfold Instr.buildSlice
 simp only [Sem.run_bind, run_underlying hu, Result.andThen_ok, T.sizeOf hz, if_neg hbig]
 by_cases h0 : n * z = 0
 ·simp only [h0, if_true] at key ⊢
  simp only [Sem.run_bind, Sem.run_pure, Result.andThen_ok, key, f1']
 ·simp only [h0, if_false] at key ⊢
  simp only [Sem.run_bind, Sem.run_pure, Result.andThen_ok, T.zeroValue hzero ρ, z1o, key, f1']
end
end Go.Sx
namespace Go.Sx
section
variable {P : Program} {G : Tab} {ρ : Env} {D : Nat → Prop} {w : World} {H : Heap}
theorem q4C {n : Nat} (h : n ≤ 1000000000) : IntKind.i64.wrap (n : Int) = (n : Int) := IntWalk.i64_in _ ⟨by omega, by omega⟩
theorem q9X (hH : HRel G ρ D w H) {e n c k : Nat} {z : List AV} {v : AV} {H' : Heap} (h : z5N H e n c k z = some (v, H')) (hz : okL ρ D z) {arr : Array Value} (hk : k ≤ arr.size)
  (ha : ∀ i u, i < k → z[i % z.length]? = some u → arr[i]? = some (conc ρ u)) :
  Makes P G ρ D w H (do pure (.slice (some (← newRow e arr)) n c)) v H' := by
 unfold z5N at h
 rw [z0h, z1n, z1Y] at h
 simp only [Option.some.injEq, Prod.mk.injEq] at h
 obtain ⟨rfl, rfl⟩ := h
 have hfresh : ¬ D H.next := fun hd => Nat.lt_irrefl _ (hH.lt _ hd)
 have hsub := ρ.at_sub hfresh w.heap.size 0 0
 obtain ⟨r1, r2⟩ := hH.pushEnd (w' := { w with heap := w.heap.push (.cells arr e (0, 0)) }) (.big e k z) (.cells arr e (0, 0)) 0 rfl (by
  refine ⟨(hsub.concL z hz).2, arr, e, (0, 0), by simp [Env.at], by simp [Env.at, hk], fun i u hi hu => ?_⟩
  have e0 : (ρ.at H.next w.heap.size 0 0).base H.next + i = i := by simp [Env.at]
  rw [e0, ha i u hi hu, hsub.eq (z0z.1 hz u (List.mem_of_getElem? hu))])
 refine ⟨_, _, _, ?_, r1, r2, .inr rfl, by simp⟩
 simp [newRow, conc, Env.at]
theorem q1C (T : TabOk P G) (hH : HRel G ρ D w H) {t : TypeId} {a b v : AV} {H' : Heap} (h : z0R G H t a b = some (v, H')) :
  Makes P G ρ D w H (Instr.makeSlice t (conc ρ a) (conc ρ b)) v H' := by
 unfold z0R at h
 split at h
 ·rename_i n c
  obtain ⟨e, he, h⟩ := z0a h
  obtain ⟨i, hi, h⟩ := z0a h
  have hu := z2G T he
  have hp := T.types e i hi
  obtain ⟨zero, hzero, h⟩ := z0a h
  obtain ⟨h1, h⟩ := z0c h
  obtain ⟨h2, h⟩ := z0c h
  obtain ⟨h3, h⟩ := z0c h
  have h1 := z1h h1
  have h2 := z1h h2
  have h3 := z0B h3
  rw [z0S] at h3
  have hcb : c * (i.bytes + 1) = c * i.bytes + c := by rw [Nat.mul_add, Nat.mul_one]
  have hc : c ≤ 1000000000 := by omega
  have hn : n ≤ 1000000000 := by omega
  obtain ⟨it, zv, hit, hiz, hzc, hzv, hok⟩ := z3i T hzero ρ D
  have key := q1B ρ zero.cells c i.size h3
  -- what the instruction comes to
  have run : ∀ (ρ' : Env) (w' : World) (s : Sem Value),
    (s = do pure (.slice (some (← newRow e (concL ρ (z0T zero.cells c)).toArray)) n c)) → s.run P w = .ok (conc ρ' v) w' →
    (Instr.makeSlice t (conc ρ (.int .i64 (.ofNat n))) (conc ρ (.int .i64 (.ofNat c)))).run P w = .ok (conc ρ' v) w' := by
   intro ρ' w' s hs hr
   rw [← hr, hs]
   have hbytes : ((i.bytes : Int) * (c : Int) > 2 ^ 48) = False := by
    have e1 : (i.bytes : Int) * (c : Int) = ((c * i.bytes : Nat) : Int) := by
     rw [Nat.mul_comm]; simp
    rw [e1]
    simp only [gt_iff_lt, eq_iff_iff, iff_false, Int.not_lt]
    have : (2 : Int) ^ 48 = 281474976710656 := rfl
    rw [this]; omega
   have hc0 : ((c : Int) < 0) = False := by simp
   have hn0 : ((n : Int) < 0) = False := by simp
   have hle : ((n : Int) > (c : Int)) = False := by simp; omega
   unfold Instr.makeSlice
   simp only [Sem.run_bind, run_underlying hu, Result.andThen_ok, conc, asInt, asIntOf, Sem.run_pure, run_typeInfo w hp, q4C hc, q4C hn, hbytes, hc0, hn0, hle, decide_false, Bool.or_self,
    Bool.false_eq_true, if_false, run_askRoom, sizeOf, Int.ofNat_eq_natCast, Int.toNat_natCast]
   by_cases h0 : c * i.size = 0
   ·simp only [h0, if_true] at key ⊢
    simp only [Sem.run_bind, Sem.run_pure, Result.andThen_ok, key]
   ·simp only [h0, if_false] at key ⊢
    simp only [Sem.run_bind, Sem.run_pure, Result.andThen_ok, T.zeroValue hzero ρ, z1o, key]
  rcases z0Z h with ⟨_, h⟩ | ⟨_, h⟩
  ·obtain ⟨ρ', D', w', r1, r2, r3, r4⟩ := z8Z (P := P) hH h (z3h (z1w hok) c)
   exact ⟨ρ', D', w', run _ _ _ rfl r1, r2, r3, r4⟩
  ·obtain ⟨ρ', D', w', r1, r2, r3, r4⟩ := q9X (P := P) hH h (z1w hok) (arr := (concL ρ (z0T zero.cells c)).toArray) (by
     rw [z0i, List.size_toArray, List.length_map, z5t, List.length_flatten, List.map_replicate, List.sum_replicate_nat, h3]; exact Nat.le_refl _) (by
    intro j u hj hu
    rw [z6v, ← z7J]
    have hl : (concL ρ zero.cells).length = zero.cells.length := by simp [z0i]
    rw [hl, h3]
    simp only [List.getElem?_toArray, List.getElem?_map, List.getElem?_range hj, Option.map_some]
    rw [h3] at hu
    have : (concL ρ zero.cells)[j % i.size]? = some (conc ρ u) := by rw [z0i, List.getElem?_map, hu]; rfl
    rw [List.getElem!_eq_getElem?_getD, this]; rfl)
   exact ⟨ρ', D', w', run _ _ _ rfl r1, r2, r3, r4⟩
 ·simp at h
theorem j9M (n : Nat) : conc ρ (natV n) = goInt n := rfl
theorem j7d (T : TabOk P G) (hH : HRel G ρ D w H) {t u : TypeId} {x v : AV} {ts : Array TypeId} (h : lenA G H t x = some v) (hx : okV ρ D x) (ht : ts[0]? = some t) {xs : List AV} :
  Val P ρ D w (Builtin.len_ ts u (concL ρ (x :: xs)).toArray) v := by
 obtain ⟨d, hd, h⟩ := z0a h
 have hu := T.und hd
 have e0 : (concL ρ (x :: xs)).toArray[0]? = some (conc ρ x) := by simp [concL]
 unfold lenD at h
 split at h
 ·rename_i s
  simp only [Option.some.injEq] at h; subst h
  refine ⟨?_, trivial⟩
  simp only [Builtin.len_, ht, e0, Sem.run_bind, run_underlying hu, Result.andThen_ok, conc, Sem.run_pure, z4Z, natV, z0S]; rfl
 ·simp only [Option.some.injEq] at h; subst h
  refine ⟨?_, trivial⟩
  simp only [Builtin.len_, ht, e0, Sem.run_bind, run_underlying hu, Result.andThen_ok, conc, Sem.run_pure, natV]; rfl
 ·simp only [Option.some.injEq] at h; subst h
  refine ⟨?_, trivial⟩
  simp only [Builtin.len_, ht, e0, Sem.run_bind, run_underlying hu, Result.andThen_ok, conc, Sem.run_pure, natV]; rfl
 ·simp only [Option.some.injEq] at h; subst h
  refine ⟨?_, trivial⟩
  simp only [Builtin.len_, ht, e0, Sem.run_bind, run_underlying hu, Result.andThen_ok, conc, Sem.run_pure, natV]; rfl
 ·simp only [Option.some.injEq] at h; subst h
  refine ⟨?_, trivial⟩
  simp only [Builtin.len_, ht, e0, Sem.run_bind, run_underlying hu, Result.andThen_ok, conc, Sem.run_pure, natV]; rfl
 ·simp only [Option.some.injEq] at h; subst h
  refine ⟨?_, trivial⟩
  simp only [Builtin.len_, ht, e0, Sem.run_bind, run_underlying hu, Result.andThen_ok, Sem.run_pure, natV]; rfl
 ·obtain ⟨es, hes, h⟩ := z0a h
  simp only [Option.some.injEq] at h; subst h
  refine ⟨?_, trivial⟩
  unfold q7i at hes
  split at hes
  ·simp only [Option.some.injEq] at hes; subst hes
   simp only [Builtin.len_, ht, e0, Sem.run_bind, run_underlying hu, Result.andThen_ok, conc, Sem.run_pure, natV]; rfl
  ·rename_i r
   obtain ⟨p, hp, hes⟩ := z0a hes
   simp only [Option.some.injEq] at hes; subst hes
   obtain ⟨m1, es', m2, m3⟩ := z1K hH hx hp
   have hsz : es'.size = p.1.length := by rw [← Array.length_toList, m3, List.length_map]
   simp only [Builtin.len_, ht, e0, Sem.run_bind, run_underlying hu, Result.andThen_ok, conc, run_getObj_map m2, Sem.run_pure, natV, z0S, hsz]; rfl
  ·simp at hes
 ·rename_i p _
  obtain ⟨d', hd', h⟩ := z0a h
  unfold j4F at h
  split at h
  ·simp only [Option.some.injEq] at h; subst h
   refine ⟨?_, trivial⟩
   simp only [Builtin.len_, ht, e0, Sem.run_bind, run_underlying hu, T.underlying hd', Result.andThen_ok, Sem.run_pure, natV]; rfl
  ·simp at h
 ·simp at h
theorem j7e (T : TabOk P G) {t u : TypeId} {x v : AV} {ts : Array TypeId} (h : capA G t x = some v) (ht : ts[0]? = some t) {xs : List AV} :
  Val P ρ D w (Builtin.cap_ ts u (concL ρ (x :: xs)).toArray) v := by
 obtain ⟨d, hd, h⟩ := z0a h
 have hu := T.und hd
 have e0 : (concL ρ (x :: xs)).toArray[0]? = some (conc ρ x) := by simp [concL]
 unfold capD at h
 split at h
 ·simp only [Option.some.injEq] at h; subst h
  refine ⟨?_, trivial⟩
  simp only [Builtin.cap_, ht, e0, Sem.run_bind, run_underlying hu, Result.andThen_ok, Sem.run_pure, natV]; rfl
 ·simp only [Option.some.injEq] at h; subst h
  refine ⟨?_, trivial⟩
  simp only [Builtin.cap_, ht, e0, Sem.run_bind, run_underlying hu, Result.andThen_ok, conc, Sem.run_pure, natV]; rfl
 ·simp only [Option.some.injEq] at h; subst h
  refine ⟨?_, trivial⟩
  simp only [Builtin.cap_, ht, e0, Sem.run_bind, run_underlying hu, Result.andThen_ok, conc, Sem.run_pure, natV]; rfl
 ·simp at h
theorem j3c {f : AV → AV → Option AV} {g : Value → Value → Sem Value} (hf : ∀ a b v, f a b = some v → (g (conc ρ a) (conc ρ b)).run P w = .ok (conc ρ v) w ∧ okV ρ D v) :
  ∀ {l : List AV} {a v : AV}, okV ρ D a → j6P f l a = some v → ((concL ρ l).foldlM g (conc ρ a)).run P w = .ok (conc ρ v) w ∧ okV ρ D v := by
 intro l
 induction l with
 | nil => intro a v ha h; have h : some a = some v := h; simp only [Option.some.injEq] at h; subst h; exact ⟨rfl, ha⟩
 | cons b l ih =>
  intro a v ha h
  have h' : z0b (f a b) (j6P f l) = some v := h
  obtain ⟨c, hc, h'⟩ := z0a h'
  obtain ⟨r1, r2⟩ := hf a b c hc
  obtain ⟨r3, r4⟩ := ih r2 h'
  refine ⟨?_, r4⟩
  simp only [concL, List.foldlM_cons, Sem.run_bind, r1, Result.andThen_ok, r3]
theorem j3d {a b v : AV} (h : j6O a b = some v) : (Builtin.min2 (conc ρ a) (conc ρ b)).run P w = .ok (conc ρ v) w ∧ okV ρ D v := by
 unfold j6O at h
 split at h
 ·rename_i k x _ y
  simp only [Option.some.injEq] at h; subst h
  refine ⟨?_, trivial⟩
  simp only [Builtin.min2, conc, Sem.run_pure, z7b]
  congr 2
  by_cases hxy : y < x <;> simp [hxy]
 ·simp at h
theorem j3e {a b v : AV} (h : q8S a b = some v) : (Builtin.max2 (conc ρ a) (conc ρ b)).run P w = .ok (conc ρ v) w ∧ okV ρ D v := by
 unfold q8S at h
 split at h
 ·rename_i k x _ y
  simp only [Option.some.injEq] at h; subst h
  refine ⟨?_, trivial⟩
  simp only [Builtin.max2, conc, Sem.run_pure, z7b]
  congr 2
  by_cases hxy : x < y <;> simp [hxy]
 ·simp at h
end
end Go.Sx
namespace Go.Sx
section
variable {P : Program} {G : Tab} {ρ : Env} {D : Nat → Prop} {w : World} {H : Heap}
theorem q3a : ∀ (l : List UInt8), concL ρ (z0x l) = l.map fun b => Value.int .u8 b.toNat := by
 intro l
 induction l with
 | nil => rfl
 | cons b l ih =>
  have : z0x (b :: l) = z8r b :: z0x l := rfl
  rw [this]
  simp [concL, ih, z8r, conc]
theorem z9a : ∀ (l : List UInt8), okL ρ D (z0x l) := by
 intro l
 induction l with
 | nil => trivial
 | cons b l ih => exact ⟨trivial, ih⟩
theorem z6w (hH : HRel G ρ D w H) {z n : Nat} {x : AV} {l : List AV} (h : z3Y H z n x = some l) (hx : okV ρ D x) (hz : z = 1 ∨ ∀ s, x ≠ .str s) :
  (Builtin.firstCells z n (conc ρ x)).run P w = .ok (concL ρ l).toArray w ∧ okL ρ D l ∧ ((∀ s, x ≠ .str s) → x = .nilslice ∨ l.length = n * z) ∧ (∀ s, x = .str s → l.length = n) := by
 unfold z3Y at h
 split at h
 ·rename_i b off a c d
  obtain ⟨r1, r2, r3⟩ := z1v (P := P) hH hx.1 h
  exact ⟨by simpa [Builtin.firstCells, conc, adr] using r1, r2, fun _ => .inr r3, fun s hs => by simp at hs⟩
 ·simp only [Option.some.injEq] at h; subst h
  exact ⟨rfl, trivial, fun _ => .inl rfl, fun s hs => by simp at hs⟩
 ·rename_i s
  obtain ⟨r, hr, h⟩ := z0a h
  simp only [Option.some.injEq] at h; subst h
  rw [z1O] at hr
  split at hr
  ·rename_i hle
   simp only [Option.some.injEq] at hr; subst hr
   refine ⟨?_, z9a _, fun hs => absurd rfl (hs s), fun s' hs' => ?_⟩
   ·simp only [Builtin.firstCells, conc, Sem.run_pure, q3a]
    congr 1
    apply Array.ext'
    simp [ByteArray.extract, ByteArray.copySlice]
   ·have : ∀ l : List UInt8, (z0x l).length = l.length := by
     intro l
     induction l with
     | nil => rfl
     | cons b l ih => show (z0x l).length + 1 = _; rw [ih]; rfl
    rw [this]; simp [hle]
  ·simp at hr
 ·obtain ⟨q0, q1⟩ := z0c h
  have q2 := z0B q0
  clear h q0
  subst q2
  simp only [Option.some.injEq] at q1; subst q1
  refine ⟨?_, trivial, fun _ => .inr (by simp), fun s hs => by simp at hs⟩
  show (loadCells _ (0 * z)).run P w = _
  rw [Nat.zero_mul]
  rfl
 ·obtain ⟨q0, q1⟩ := z0c h
  have q2 := z0B q0
  clear h q0
  subst q2
  simp only [Option.some.injEq] at q1; subst q1
  refine ⟨?_, trivial, fun _ => .inr (by simp), fun s hs => by simp at hs⟩
  show (loadCells _ (0 * z)).run P w = _
  rw [Nat.zero_mul]
  rfl
 ·simp at h
theorem z9b {x : AV} {n : Nat} (h : z7w x = some n) : (Builtin.lenOf (conc ρ x)).run P w = .ok n w := by
 unfold z7w at h
 split at h <;> simp only [Option.some.injEq, reduceCtorEq] at h <;> subst h <;> simp [Builtin.lenOf, conc, z4Z, z0S]
theorem j3f (hH : HRel G ρ D w H) {e need : Nat} {cells : List AV} {v : AV} {H' : Heap} (h : z2Q H e need cells = some (v, H')) (hc : okL ρ D cells) {rest : Array Value} {cap : Nat}
  (hcap : need ≤ cap) (hlow : ∀ z, G.size e = some z → cells.length ≤ cap * z) (hroom : ∀ z, G.size e = some z → cap * z ≤ cells.length + rest.size) :
  Makes P G ρ D w H (do pure (.slice (some (← newRow e ((concL ρ cells).toArray ++ rest))) need cap)) v H' := by
 obtain ⟨h1, h⟩ := z2T h
 simp only [Option.some.injEq, Prod.mk.injEq] at h
 obtain ⟨rfl, rfl⟩ := h
 have hfresh : ¬ D H.next := fun hd => Nat.lt_irrefl _ (hH.lt _ hd)
 have hsub := ρ.at_sub hfresh w.heap.size 0 cap
 obtain ⟨r1, r2⟩ := hH.pushEnd (w' := { w with heap := w.heap.push (.cells ((concL ρ cells).toArray ++ rest) e (0, 0)) }) (.cells e false cells) (.cells ((concL ρ cells).toArray ++ rest) e (0, 0)) cap rfl (by
  refine ⟨(hsub.concL cells hc).2, h1, (concL ρ cells).toArray ++ rest, (0, 0), by simp [Env.at], .inl rfl, by simp [Env.at, z0i], fun i u hu => ?_, fun _ z hz => ?_, fun h => by simp at h⟩
  ·have hu' := z0z.1 hc u (List.mem_of_getElem? hu)
   have hlt : i < (concL ρ cells).toArray.size := by
    have := (List.getElem?_eq_some_iff.1 hu).1
    simpa [z0i] using this
   have e0 : (ρ.at H.next w.heap.size 0 cap).base H.next + i = i := by simp [Env.at]
   rw [e0, Array.getElem?_append_left hlt]
   simp only [z0i, List.getElem?_toArray, List.getElem?_map, hu, Option.map_some]
   rw [hsub.eq hu']
  ·have := hroom z hz
   have h0 := hlow z hz
   exact ⟨by simpa [Env.at] using h0, by simpa [Env.at, z0i] using this⟩)
 refine ⟨_, _, _, ?_, r1, r2, .inr rfl, fun _ => by simpa [Env.at] using hcap⟩
 simp [newRow, conc, Env.at]
theorem z7f (hH : HRel G ρ D w H) {b off : Nat} {new : List AV} {r v : AV} {H' : Heap} (h : inPlace H b off new r = some (v, H')) (hb : D b) (hn : okL ρ D new) :
  v = r ∧ ∃ w', (storeCells (adr ρ b off) (concL ρ new)).run P w = .ok () w' ∧ HRel G ρ D w' H' ∧ Ext H ρ D H' ρ D := by
 obtain ⟨H1, h1, h⟩ := z0a h
 simp only [Option.some.injEq, Prod.mk.injEq] at h
 obtain ⟨rfl, rfl⟩ := h
 obtain ⟨w', r1, r2, r3⟩ := z3P (P := P) hH hb hn h1
 exact ⟨rfl, w', r1, r2, .same _ _ r3⟩
theorem z9Y (z : Array Value) (n : Nat) : (Builtin.zeroCells z n).size = n * z.size := by simp [Builtin.zeroCells]
theorem z7K {e : TypeId} {o : Option ABlk} {kn : Nat} (h : z3m e o = some kn) : ∃ l, o = some (.cells e false l) ∧ kn = l.length := by
 unfold z3m at h
 split at h
 ·rename_i e' l
  obtain ⟨h1, h⟩ := z0c h
  have h1 := z0B h1
  simp only [Option.some.injEq] at h; subst h; subst h1
  exact ⟨l, rfl, (z0S l)⟩
 ·simp at h
theorem j3g (hH : HRel G ρ D w H) {b e z off c l n : Nat} {m old new : List AV} {v : AV} {H' : Heap} (hb : D b) (hg : H.blks.get b = some (.cells e false m)) (hz : G.size e = some z)
  (hoff : off = c * z) (hcl : c + l ≤ ρ.cap b) (hroom : l + n ≤ ρ.cap b - c) (hl : old.length = l * z) (hnl : new.length = n * z) (hnew : okL ρ D new) (hokold : okL ρ D old)
  (hold : ∀ j u, old[j]? = some u → w.cell? (adr ρ b (off + j)) = some (conc ρ u))
  (h : z2Q (z0y H b none) e (l + n) (app old new) = some (v, H')) :
  ∃ ρ' D' w', (storeCells (adr ρ b (off + l * z)) (concL ρ new)).run P w = .ok () w' ∧ conc ρ' v = .slice (some (adr ρ b off)) (l + n) (ρ.cap b - c) ∧ HRel G ρ' D' w' H' ∧ Ext H ρ D H' ρ' D' ∧ okV ρ' D' v := by
 obtain ⟨h1, h⟩ := z2T h
 simp only [Option.some.injEq, Prod.mk.injEq] at h
 obtain ⟨rfl, rfl⟩ := h
 rw [z1G] at h1 ⊢
 obtain ⟨g1, g2, arr, fz, g3, g4, g5, g6, g7⟩ := hH.blk b _ hb hg
 have hroom' := (g7.1 rfl z hz).2
 have hmul : (c + (l + n)) * z ≤ ρ.cap b * z := Nat.mul_le_mul_right z (by omega)
 have hmul2 : c * z + (ρ.cap b - c) * z = ρ.cap b * z := by rw [← Nat.add_mul]; congr 1; omega
 have hlen : (concL ρ new).length = n * z := by rw [z0i, List.length_map, hnl]
 rw [Nat.add_mul, Nat.add_mul] at hmul
 obtain ⟨arr', w', r1, r2, r3, r4, r5, r6⟩ := z3q P (ρ.blk b) (ρ.base b + (off + l * z)) e fz (concL ρ new) 0 arr w g3 g4 (by rw [hlen]; omega) (by
  intro u hu
  rw [z0i] at hu
  obtain ⟨x, hx, rfl⟩ := List.mem_map.1 hu
  exact z7F (h1 x (List.mem_append.2 (.inr hx))))
 have hK := hH.kill b
 have hKn : (z0y H b none).next = H.next := Heap.next_put _ _ _
 have hfresh : ¬ D H.next := fun hd => Nat.lt_irrefl _ (hH.lt _ hd)
 have hsub := ρ.at_sub hfresh (ρ.blk b) (ρ.base b + off) (ρ.cap b - c)
 have hKget : ∀ b' o', (z0y H b none).blks.get b' = some o' → b' ≠ b ∧ H.blks.get b' = some o' := by
  intro b' o' hget
  rw [Heap.get_put] at hget
  split at hget
  ·simp at hget
  ·exact ⟨by assumption, hget⟩
 have hne : ∀ b' o', D b' → (z0y H b none).blks.get b' = some o' → ρ.blk b' ≠ ρ.blk b := by
  intro b' o' hb' hget heq
  obtain ⟨h2, h3⟩ := hKget b' o' hget
  exact h2 ((hH.inj b' b _ _ hb' hb h3 hg heq).resolve_right fun e => e.2)
 have hpush := hK.push (w' := w') (.cells e false (old ++ new)) (ρ.blk b) (ρ.base b + off) (ρ.cap b - c) hne
 rw [hKn] at hpush
 obtain ⟨p1, p2⟩ := hpush (by
  refine ⟨(hsub.concL _ (z0P hokold hnew)).2, h1, arr', fz, by simp [Env.at, r2], by rw [r3]; exact g4, ?_, ?_, ?_, fun h => by simp at h⟩
  ·rw [r3]; simp only [Env.at, if_true, List.length_append, hl, hnl]; omega
  ·intro i u hu
   have hu' := z0z.1 (z0P hokold hnew) u (List.mem_of_getElem? hu)
   rw [hsub.eq hu', r4, hlen]
   simp only [Env.at, if_true]
   by_cases hi : i < old.length
   ·rw [if_neg (by omega)]
    rw [List.getElem?_append_left hi] at hu
    have := hold i u hu
    simp only [World.cell?, adr, g3] at this
    rw [show ρ.base b + off + i = ρ.base b + (off + i) from by omega]
    simpa using this
   ·rw [List.getElem?_append_right (by omega)] at hu
    have hlt := (List.getElem?_eq_some_iff.1 hu).1
    rw [if_pos (by omega)]
    rw [z0i, List.getElem?_map, show ρ.base b + off + i - (ρ.base b + (off + l * z) + 0) = i - old.length from by omega, hu]
    rfl
  ·intro _ z' hz'
   rw [hz] at hz'
   simp only [Option.some.injEq] at hz'; subst hz'
   rw [r3]
   simp only [Env.at, if_true, List.length_append, hl, hnl]
   refine ⟨?_, by omega⟩
   rw [← Nat.add_mul]
   exact Nat.mul_le_mul_right z hroom) (fun b' o' hb' hget => r5 _ (hne b' o' hb' hget)) (fun i q hi => by
   have hno : ρ.blk b ≠ i := fun e => by
    have := (hH.rest i q hi).2 b hb e
    rw [hg] at this
    exact this
   exact ⟨hno, r5 i (Ne.symm hno)⟩) r6
 refine ⟨_, _, w', r1, ?_, p1, ⟨p2.sub, by rw [← hKn]; exact p2.next, fun x hx => by rw [← hKn]; exact p2.new x hx⟩, ?_⟩
 ·simp [conc, Env.at, hKn, adr]
 ·refine ⟨.inr (by simp [hKn]), fun _ => ?_⟩
  simp only [Env.at, hKn, if_true]; omega
structure AppArgs (P : Program) (G : Tab) (ρ : Env) (D : Nat → Prop) (w : World) (e z n : Nat) (st xt : TypeId) (i : TypeInfo) (zero x : AV) (new : List AV) (xu : TypeDesc) : Prop where
 hst : P.underlying st = some (.slice e)
 hxt : P.underlying xt = some xu
 hxi : ∀ k, xu ≠ .int k
 hp : P.info? e = some i
 hz : i.size = z
 hb : i.bytes ≤ 100000
 hzero : ∀ w', (Go.zeroValue e).run P w' = .ok (conc ρ zero) w'
 hn : ∀ w', (Builtin.lenOf (conc ρ x)).run P w' = .ok n w'
 hnew : ∀ w', Like w' w → (Builtin.firstCells z n (conc ρ x)).run P w' = .ok (concL ρ new).toArray w'
theorem q9Y {e z n l cap : Nat} {st xt u : TypeId} {i : TypeInfo} {zero x : AV} {new : List AV} {xu : TypeDesc} {base : Option Addr} (A : AppArgs P G ρ D w e z n st xt i zero x new xu) (hle : l + n ≤ cap) :
  (Builtin.append_ #[st, xt] u #[.slice base l cap, conc ρ x]).run P w =
   ((match base with | some a => storeCells (a.add (l * z)) (concL ρ new) | none => pure () : Sem Unit).run P w).andThen fun _ w' => .ok (.slice base (l + n) cap) w' := by
 have e1 : (Go.sizeOf e).run P w = .ok z w := by simp [Go.sizeOf, typeInfo, A.hp, A.hz]
 have hxt := A.hxt
 have hxi := A.hxi
 have hn := A.hn
 have hnew := A.hnew w ⟨rfl, rfl, rfl, rfl⟩
 have hst := A.hst
 clear A
 unfold Builtin.append_
 cases xu
 case int k => exact absurd rfl (hxi k)
 all_goals
  simp only [List.getElem?_toArray, List.getElem?_cons_zero, List.getElem?_cons_succ, Sem.run_bind, run_underlying hst, Result.andThen_ok, e1, run_underlying hxt, Sem.run_pure,
   Bool.false_eq_true, if_false, hn, hle, if_true, Bool.not_false, hnew]
  cases base <;> simp
theorem q4D {e z n l cap : Nat} {st xt u : TypeId} {i : TypeInfo} {zero x : AV} {new old : List AV} {xu : TypeDesc} {base : Option Addr} (A : AppArgs P G ρ D w e z n st xt i zero x new xu) (hle : ¬ l + n ≤ cap)
  (hsmall : l + n ≤ 1000000) (hold : ∀ w', Like w' w → (Builtin.firstCells z l (.slice base l cap)).run P w' = .ok (concL ρ old).toArray w') :
  ∃ newCap w₁, l + n ≤ newCap ∧ Like w₁ w ∧ (Builtin.append_ #[st, xt] u #[.slice base l cap, conc ρ x]).run P w =
   (do pure (.slice (some (← newRow e ((concL ρ (old ++ new)).toArray ++ Builtin.zeroCells (conc ρ zero).cells (newCap - (l + n))))) (l + n) newCap) : Sem Value).run P w₁ := by
 obtain ⟨newCap, w₁, c1, c2, c3⟩ := z4A w P (l + n) cap e
 refine ⟨newCap, w₁, c2, c3, ?_⟩
 have e1 : (Go.sizeOf e).run P w = .ok z w := by simp [Go.sizeOf, typeInfo, A.hp, A.hz]
 have e2 : ∀ w', (typeInfo e).run P w' = .ok i w' := fun w' => run_typeInfo w' A.hp
 have hmax : ¬ (((l + n : Nat) : Int) > IntKind.i64.max) := by
  simp [IntKind.max, IntKind.signed, IntKind.bits]; omega
 have hcapb : Builtin.nextslicecap (l + n) cap * i.bytes ≤ 2 ^ 48 := by
  have h1 := z5e (m := l + n) (c := cap) hsmall (by omega)
  have h2 : Builtin.nextslicecap (l + n) cap * i.bytes ≤ 17000000 * 100000 := Nat.mul_le_mul h1 A.hb
  exact Nat.le_trans h2 (by decide)
 have hcapb' : ¬ (Builtin.nextslicecap (l + n) cap * i.bytes > 2 ^ 48) := Nat.not_lt.2 hcapb
 have hxt := A.hxt
 have hxi := A.hxi
 have hn := A.hn
 have hnew := A.hnew w₁ c3
 have hst := A.hst
 have hzero := A.hzero w₁
 have hold := hold w₁ c3
 clear A
 unfold Builtin.append_
 cases xu
 case int k => exact absurd rfl (hxi k)
 all_goals
  simp only [List.getElem?_toArray, List.getElem?_cons_zero, List.getElem?_cons_succ, Sem.run_bind, run_underlying hst, Result.andThen_ok, e1, run_underlying hxt, Sem.run_pure,
   Bool.false_eq_true, if_false, hn, hle, Bool.not_false, if_true, e2, hmax, false_and, hcapb', c1, run_askRoom, hold, hnew, hzero]
  simp only [z0i, List.map_append]
  congr 3
  simp
structure AppRun (P : Program) (G : Tab) (ρ : Env) (D : Nat → Prop) (w : World) (e z n : Nat) (st xt : TypeId) (zero x : AV) (new : List AV) : Prop where
 inn : ∀ (u : TypeId) (l cap : Nat) (base : Option Addr), l + n ≤ cap → (Builtin.append_ #[st, xt] u #[.slice base l cap, conc ρ x]).run P w =
   ((match base with | some a => storeCells (a.add (l * z)) (concL ρ new) | none => pure () : Sem Unit).run P w).andThen fun _ w' => .ok (.slice base (l + n) cap) w'
 grow : ∀ (u : TypeId) (l cap : Nat) (base : Option Addr) (old : List AV), ¬ l + n ≤ cap → l + n ≤ 1000000 →
  (∀ w', Like w' w → (Builtin.firstCells z l (.slice base l cap)).run P w' = .ok (concL ρ old).toArray w') →
  ∃ newCap w₁, l + n ≤ newCap ∧ Like w₁ w ∧ (Builtin.append_ #[st, xt] u #[.slice base l cap, conc ρ x]).run P w =
   (do pure (.slice (some (← newRow e ((concL ρ (old ++ new)).toArray ++ Builtin.zeroCells (conc ρ zero).cells (newCap - (l + n))))) (l + n) newCap) : Sem Value).run P w₁
theorem AppArgs.run {e z n : Nat} {st xt : TypeId} {i : TypeInfo} {zero x : AV} {new : List AV} {xu : TypeDesc} (A : AppArgs P G ρ D w e z n st xt i zero x new xu) : AppRun P G ρ D w e z n st xt zero x new :=
 ⟨fun u _ _ _ h => q9Y (u := u) A h, fun u _ _ _ _ h hs ho => q4D (u := u) A h hs ho⟩
theorem z7L (ρ : Env) (zero : List AV) (n : Nat) : Builtin.zeroCells (concL ρ zero).toArray n = (concL ρ (z0T zero n)).toArray := by
 have key := q1B ρ zero n zero.length rfl
 have hl : (concL ρ zero).toArray.size = zero.length := by simp [z0i]
 unfold Builtin.zeroCells
 rw [hl]
 by_cases h0 : n * zero.length = 0
 ·simp only [h0, if_true] at key ⊢
  rw [← key]; simp
 ·simp only [h0, if_false] at key
  rw [hl] at key
  exact key
theorem q4E (T : TabOk P G) {e n : Nat} {st xt : TypeId} {i : TypeInfo} {zero : AV} {k kx : IntKind} (hst : P.underlying st = some (.slice e)) (hxt : P.underlying xt = some (.int k))
  (hp : P.info? e = some i) (hz0 : i.size ≠ 0) (hb : i.bytes ≤ 100000) (hzero : G.zero e = some zero) (hzl : zero.cells.length = i.size) (hn : n ≤ 1000000) :
  AppRun P G ρ D w e i.size n st xt zero (.int kx (.ofNat n)) (z0T zero.cells n) := by
 have e1 : (Go.sizeOf e).run P w = .ok i.size w := by simp [Go.sizeOf, typeInfo, hp]
 have e2 : ∀ w', (typeInfo e).run P w' = .ok i w' := fun w' => run_typeInfo w' hp
 have hz := fun w' : World => T.zeroValue hzero ρ w'
 have hw : IntKind.i64.wrap (n : Int) = (n : Int) := q4C (by omega)
 have hneg : ((n : Int) < 0) = False := by simp
 have hbytes : ((n : Int) * (i.bytes : Int) > 2 ^ 48) = False := by
  have h1 : n * i.bytes ≤ 1000000 * 100000 := Nat.mul_le_mul hn hb
  have h2 : ((n : Int) * (i.bytes : Int)) = ((n * i.bytes : Nat) : Int) := by simp
  rw [h2]
  simp only [gt_iff_lt, eq_iff_iff, iff_false, Int.not_lt]
  have : (2 : Int) ^ 48 = 281474976710656 := rfl
  rw [this]; omega
 have hnew : ∀ w' : World, ((if n * i.size = 0 then pure #[] else do pure (Builtin.zeroCells (← Go.zeroValue e).cells n) : Sem (Array Value))).run P w' = .ok (concL ρ (z0T zero.cells n)).toArray w' := by
  intro w'
  by_cases h0 : n * i.size = 0
  ·simp only [h0, if_true, Sem.run_pure]
   have hn0 : n = 0 := by
    rcases Nat.mul_eq_zero.1 h0 with h | h
    ·exact h
    ·exact absurd h hz0
   subst hn0; rfl
  ·simp only [h0, if_false, Sem.run_bind, hz, Result.andThen_ok, Sem.run_pure, z1o, z7L]
 refine ⟨fun u l cap base hle => ?_, fun u l cap base old hle hsmall hold => ?_⟩
 ·unfold Builtin.append_
  simp only [List.getElem?_toArray, List.getElem?_cons_zero, List.getElem?_cons_succ, Sem.run_bind, run_underlying hst, Result.andThen_ok, e1, run_underlying hxt, Sem.run_pure, conc, asInt, asIntOf,
   Bool.false_eq_true, if_false, if_true, Int.ofNat_eq_natCast, hw, hneg, e2, hbytes, Int.toNat_natCast, hle, Bool.not_true, hnew]
  cases base <;> simp
 ·obtain ⟨newCap, w₁, c1, c2, c3⟩ := z4A w P (l + n) cap e
  refine ⟨newCap, w₁, c2, c3, ?_⟩
  have hmax : ¬ (((l + n : Nat) : Int) > IntKind.i64.max) := by
   simp [IntKind.max, IntKind.signed, IntKind.bits]; omega
  have hcapb : Builtin.nextslicecap (l + n) cap * i.bytes ≤ 2 ^ 48 := by
   have h1 := z5e (m := l + n) (c := cap) hsmall (by omega)
   have h2 : Builtin.nextslicecap (l + n) cap * i.bytes ≤ 17000000 * 100000 := Nat.mul_le_mul h1 hb
   exact Nat.le_trans h2 (by decide)
  have hcapb' : ¬ (Builtin.nextslicecap (l + n) cap * i.bytes > 2 ^ 48) := Nat.not_lt.2 hcapb
  have hold := hold w₁ c3
  unfold Builtin.append_
  simp only [List.getElem?_toArray, List.getElem?_cons_zero, List.getElem?_cons_succ, Sem.run_bind, run_underlying hst, Result.andThen_ok, e1, run_underlying hxt, Sem.run_pure, conc, asInt, asIntOf,
   Bool.false_eq_true, if_false, if_true, Int.ofNat_eq_natCast, hw, hneg, e2, hbytes, Int.toNat_natCast, hle, Bool.not_true, hmax, false_and, hcapb', c1, run_askRoom, hold, hnew, hz]
  simp only [z0i, List.map_append]
  congr 3
  simp
end
end Go.Sx
namespace Go.Sx
section
variable {P : Program} {G : Tab} {ρ : Env} {D : Nat → Prop} {w : World} {H : Heap}
theorem q4F (b off i : Nat) : (adr ρ b off).add i = adr ρ b (off + i) := by
 rw [adr, adr, q1y, Nat.add_assoc]
theorem Makes.from {K : Heap} {s : Sem Value} {v : AV} {H' : Heap} (h : Makes P G ρ D w K s v H') (hn : K.next = H.next) : Makes P G ρ D w H s v H' := by
 obtain ⟨ρ', D', w', r1, r2, r3, r4⟩ := h
 exact ⟨ρ', D', w', r1, r2, (Ext.same ρ D hn).trans r3, r4⟩
theorem z3Q {e z n l cap : Nat} {st xt u : TypeId} {zero x v : AV} {new old : List AV} {base : Option Addr} {K H' : Heap}
  (A : AppRun P G ρ D w e z n st xt zero x new) (hK : HRel G ρ D w K) (hle : ¬ l + n ≤ cap) (hsmall : l + n ≤ 1000000) (hz : G.size e = some z) (hzl : zero.cells.length = z)
  (hold : ∀ w', Like w' w → (Builtin.firstCells z l (.slice base l cap)).run P w' = .ok (concL ρ old).toArray w')
  (ho : okL ρ D old) (hn : okL ρ D new) (hol : old.length = l * z) (hnl : new.length = n * z) (h : z2Q K e (l + n) (app old new) = some (v, H')) :
  Makes P G ρ D w K (Builtin.append_ #[st, xt] u #[.slice base l cap, conc ρ x]) v H' := by
 obtain ⟨newCap, w₁, c1, c2, c3⟩ := A.grow u _ _ _ _ hle hsmall hold
 rw [z1G] at h
 have hcap : (l + n) * z + (newCap - (l + n)) * z = newCap * z := by rw [← Nat.add_mul]; congr 1; omega
 have hrest : (Builtin.zeroCells (conc ρ zero).cells (newCap - (l + n))).size = (newCap - (l + n)) * z := by
  rw [z9Y, z1o, z0i, List.size_toArray, List.length_map, hzl]
 have hlen : (old ++ new).length = (l + n) * z := by rw [List.length_append, hol, hnl, Nat.add_mul]
 obtain ⟨ρ', D', w', r1, r2, r3, r4⟩ := j3f (P := P) (hK.same c2) h (z0P ho hn) (rest := Builtin.zeroCells (conc ρ zero).cells (newCap - (l + n))) (cap := newCap) c1
  (fun z' hz' => by
   rw [hz] at hz'; simp only [Option.some.injEq] at hz'; subst hz'
   omega)
  (fun z' hz' => by
   rw [hz] at hz'; simp only [Option.some.injEq] at hz'; subst hz'
   rw [hlen, hrest]; omega)
 exact ⟨ρ', D', w', by rw [c3]; exact r1, r2, r3, r4⟩
theorem z9c (hH : HRel G ρ D w H) {e z n : Nat} {st xt u : TypeId} {zero s x v : AV} {new : List AV} {H' : Heap}
  (A : AppRun P G ρ D w e z n st xt zero x new) (hs : okV ρ D s) (hnew : okL ρ D new) (hnl : new.length = n * z) (hz : G.size e = some z) (hz0 : z ≠ 0)
  (hzl : zero.cells.length = z) (hsmall : q1i s + n ≤ 1000000) (h : z1N H e z n s new = some (v, H')) :
  Makes P G ρ D w H (Builtin.append_ #[st, xt] u #[conc ρ s, conc ρ x]) v H' := by
 unfold z1N at h
 split at h
 ·-- nil
  rcases z0Z h with ⟨h0, h⟩ | ⟨h0, h⟩
  ·have h0 := z0B h0
   simp only [Option.some.injEq, Prod.mk.injEq] at h
   obtain ⟨rfl, rfl⟩ := h
   subst h0
   refine ⟨ρ, D, w, ?_, hH, .refl _ _ _, trivial⟩
   have := A.inn u 0 0 none (Nat.le_refl _)
   simp only [conc]
   rw [this]; rfl
  ·have h0 : n ≠ 0 := by
    intro e0; subst e0; simp at h0
   have h' : z2Q H e (0 + n) (app [] new) = some (v, H') := by rw [Nat.zero_add, z1G]; exact h
   exact z3Q (u := u) (l := 0) (cap := 0) (base := none) A hH (by omega) (by simp [q1i] at hsmall; omega) hz hzl (old := []) (fun w' _ => rfl) trivial hnew (by simp) hnl h'
 ·-- exact
  rename_i b off l c
  simp only [q1i] at hsmall
  have hb : D b := hs.1
  unfold z8B at h
  rcases z0Z h with ⟨h0, h⟩ | ⟨h0, h⟩
  ·have h0 := z1h h0
   obtain ⟨rfl, w', r1, r2, r3⟩ := z7f (P := P) hH h hb hnew
   refine ⟨ρ, D, w', ?_, r2, r3, hb, by simp⟩
   have := A.inn u l c (some (adr ρ b off)) h0
   simp only [q4F, r1, Result.andThen_ok] at this
   simpa [conc, adr] using this
  ·obtain ⟨hc, h⟩ := z0c h
   obtain ⟨old, hold, h⟩ := z0a h
   have h0 : ¬ l + n ≤ c := fun h1 => by
    have : Nat.ble (l + n) c = true := by rw [Nat.ble_eq]; exact h1
    rw [this] at h0; simp at h0
   obtain ⟨r1, r2, r3⟩ := z1v (P := P) hH hb hold
   have := z3Q (u := u) (l := l) (cap := c) (base := some (adr ρ b off)) A hH h0 hsmall hz hzl (fun w' hw' => by
    simp only [Builtin.firstCells]
    exact (z1v (P := P) (hH.same hw') hb hold).1) r2 hnew r3 hnl h
   simpa [conc, adr] using this
 ·-- open
  rename_i b off l c
  simp only [q1i] at hsmall
  have hb : D b := hs.1
  have hcl : c + l ≤ ρ.cap b := hs.2 rfl
  unfold q0o at h
  obtain ⟨kn, hkn, h⟩ := z0a h
  obtain ⟨m, hm, rfl⟩ := z7K hkn
  obtain ⟨hoff, h⟩ := z0c h
  have hoff := z0B hoff
  have hbl := hH.blk b _ hb hm
  obtain ⟨g1, g2, arr, fz, g3, g4, g5, g6, g7⟩ := hbl
  have g7 := (g7.1 rfl z hz).1
  rcases z0Z h with ⟨h0, h⟩ | ⟨h0, h⟩
  ·have h0 := z1h h0
   have hroom : c + (l + n) ≤ ρ.cap b := by
    have h1 : (c + (l + n)) * z ≤ ρ.cap b * z := by rw [Nat.add_mul]; omega
    exact Nat.le_of_mul_le_mul_right h1 (Nat.pos_of_ne_zero hz0)
   obtain ⟨rfl, w', r1, r2, r3⟩ := z7f (P := P) hH h hb hnew
   refine ⟨ρ, D, w', ?_, r2, r3, hb, fun _ => hroom⟩
   have := A.inn u l (ρ.cap b - c) (some (adr ρ b off)) (by omega)
   simp only [q4F, r1, Result.andThen_ok] at this
   simpa [conc, adr] using this
  ·obtain ⟨old, hold, h⟩ := z0a h
   rw [z2m] at h
   obtain ⟨r1, r2, r3⟩ := z1v (P := P) hH hb hold
   by_cases hroom : l + n ≤ ρ.cap b - c
   ·obtain ⟨ρ', D', w', s1, s2, s3, s4, s5⟩ := j3g (P := P) hH hb hm hz hoff hcl hroom r3 hnl hnew r2 (by
     intro j t ht
     unfold z0o at hold
     rcases z0Z hold with ⟨k0, k1⟩ | ⟨k0, k1⟩
     ·simp only [Option.some.injEq] at k1; subst k1; simp at ht
     ·exact (q0w (w := w) (fun x hx => hH.blk b x hb hx) k1).2.2 j t ht) h
    refine ⟨ρ', D', w', ?_, s3, s4, s5⟩
    have := A.inn u l (ρ.cap b - c) (some (adr ρ b off)) hroom
    simp only [q4F, s1, Result.andThen_ok] at this
    rw [s2]
    simpa [conc, adr] using this
   ·have := z3Q (u := u) (l := l) (cap := ρ.cap b - c) (base := some (adr ρ b off)) A (hH.kill b) hroom hsmall hz hzl (fun w' hw' => by
     simp only [Builtin.firstCells]
     exact (z1v (P := P) (hH.same hw') hb hold).1) r2 hnew r3 hnl h
    exact Makes.from (by simpa [conc, adr] using this) (Heap.next_put _ _ _)
 ·simp at h
theorem q7s (T : TabOk P G) (hH : HRel G ρ D w H) {ts : Array TypeId} {xs : List AV} {u : TypeId} {v : AV} {H' : Heap} (h : z3n G H ts.toList xs = some (v, H')) (hx : okL ρ D xs) :
  Makes P G ρ D w H (Builtin.append_ ts u (concL ρ xs).toArray) v H' := by
 unfold z3n at h
 split at h
 ·rename_i st xt s x hts
  have hts' : ts = #[st, xt] := by rw [← Array.toArray_toList (xs := ts), hts]
  subst hts'
  obtain ⟨hs, hxx, _⟩ := hx
  obtain ⟨e, he, h⟩ := z0a h
  obtain ⟨xu, hxu, h⟩ := z0a h
  rcases z0Z h with ⟨hint, h⟩ | ⟨hint, h⟩
  ·obtain ⟨i, hi, h⟩ := z0a h
   obtain ⟨n, hn, h⟩ := z0a h
   obtain ⟨zero, hzero, h⟩ := z0a h
   obtain ⟨h0, h⟩ := z1J h
   obtain ⟨h2, h⟩ := z0c h
   obtain ⟨h3, h⟩ := z0c h
   obtain ⟨h4, h⟩ := z0c h
   have h2 := z0B h2
   rw [z0S] at h2
   have h3 := z1h h3
   have h4 := z1h h4
   have hz0 : i.size ≠ 0 := by intro e0; rw [e0] at h0; simp at h0
   have hsz : G.size e = some i.size := by simp [Tab.size, hi]
   have hh := h
   obtain ⟨k, rfl⟩ : ∃ k, xu = .int k := by
    cases xu <;> simp [intD] at hint
    exact ⟨_, rfl⟩
   obtain ⟨kx, rfl⟩ : ∃ kx, x = .int kx (.ofNat n) := by
    unfold j4G at hn
    split at hn
    ·simp only [Option.some.injEq] at hn; subst hn; exact ⟨_, rfl⟩
    ·simp at hn
   obtain ⟨it, zv, hit, hiz, hzc, hzv, hok⟩ := z3i T hzero ρ D
   exact z9c hH (q4E T (z2G T he) (T.und hxu) (T.types e i hi) hz0 h3 hzero h2 (by omega)) hs (z3h (z1w hok) n)
    (by rw [z5t, List.length_flatten, List.map_replicate, List.sum_replicate_nat, h2]) hsz hz0 h2 h4 hh
  obtain ⟨i, hi, h⟩ := z0a h
  obtain ⟨n, hn, h⟩ := z0a h
  obtain ⟨zero, hzero, h⟩ := z0a h
  obtain ⟨h0, h⟩ := z1J h
  obtain ⟨h1, h⟩ := z0c h
  obtain ⟨h2, h⟩ := z0c h
  obtain ⟨h3, h⟩ := z0c h
  obtain ⟨h4, h⟩ := z0c h
  obtain ⟨new, hnew, h⟩ := z0a h
  have h2 := z0B h2
  rw [z0S] at h2
  have h3 := z1h h3
  have h4 := z1h h4
  have hz0 : i.size ≠ 0 := by intro e0; rw [e0] at h0; simp at h0
  have hzs : i.size = 1 ∨ ∀ s, x ≠ .str s := by
   cases x <;> simp_all [q8Q]
  have hf := z6w (P := P) hH hnew hxx hzs
  have hnl : new.length = n * i.size := by
   by_cases hstr : ∃ t, x = .str t
   ·obtain ⟨t, rfl⟩ := hstr
    rw [hf.2.2.2 t rfl]
    rcases hzs with hzs | hzs
    ·rw [hzs, Nat.mul_one]
    ·exact absurd rfl (hzs t)
   ·rcases hf.2.2.1 (fun t ht => hstr ⟨t, ht⟩) with hnil | hl
    ·subst hnil
     simp only [z7w, Option.some.injEq] at hn; subst hn
     simp only [z3Y, Option.some.injEq] at hnew; subst hnew
     simp
    ·exact hl
  have hsz : G.size e = some i.size := by simp [Tab.size, hi]
  have A : AppArgs P G ρ D w e i.size n st xt i zero x new xu := {
   hst := z2G T he
   hxt := T.und hxu
   hxi := fun k hk => by subst hk; simp [intD] at hint
   hp := T.types e i hi
   hz := rfl
   hb := h3
   hzero := fun w' => T.zeroValue hzero ρ w'
   hn := fun w' => z9b hn
   hnew := fun w' hw' => (z6w (P := P) (hH.same hw') hnew hxx hzs).1 }
  exact z9c hH A.run hs hf.2.1 hnl hsz hz0 h2 h4 h
 ·simp at h
theorem j3h (T : TabOk P G) (hH : HRel G ρ D w H) {ts : Array TypeId} {xs : List AV} {u : TypeId} {v : AV} {H' : Heap} (h : j6N G H ts.toList xs = some (v, H')) (hx : okL ρ D xs) :
  Makes P G ρ D w H (Builtin.copy_ ts u (concL ρ xs).toArray) v H' := by
 unfold j6N at h
 split at h
 ·rename_i dt rest d x hts
  have hts' : ts = (dt :: rest).toArray := by rw [← hts]
  subst hts'
  obtain ⟨hd, hxx, _⟩ := hx
  obtain ⟨e, he, h⟩ := z0a h
  obtain ⟨z, hz, h⟩ := z0a h
  obtain ⟨n, hn, h⟩ := z0a h
  obtain ⟨m, hm, h⟩ := z0a h
  obtain ⟨cs, hcs, h⟩ := z0a h
  have hf : (Builtin.firstCells z (Nat.min n m) (conc ρ x)).run P w = .ok (concL ρ cs).toArray w ∧ okL ρ D cs := by
   by_cases hstr : ∃ t, x = .str t
   ·obtain ⟨t, rfl⟩ := hstr
    obtain ⟨a1, a2, _⟩ := z6w (P := P) (z := 1) hH (x := .str t) (by simpa [z3Y] using hcs) hxx (.inl rfl)
    exact ⟨by simpa [Builtin.firstCells, conc] using a1, a2⟩
   ·obtain ⟨a1, a2, _⟩ := z6w (P := P) hH hcs hxx (.inr fun t ht => hstr ⟨t, ht⟩)
    exact ⟨a1, a2⟩
  cases d with
  | slice b off l q c =>
   simp only [z7w, Option.some.injEq] at hm; subst hm
   obtain ⟨rfl, w', r1, r2, r3⟩ := z7f (P := P) hH h hd.1 hf.2
   refine ⟨ρ, D, w', ?_, r2, r3, trivial⟩
   have r1' := r1
   unfold Builtin.copy_
   simp only [concL, conc, List.getElem?_toArray, List.getElem?_cons_zero, List.getElem?_cons_succ, Sem.run_bind, run_underlying (z2G T he), Result.andThen_ok,
    z9b hn, T.sizeOf hz, hf.1, Sem.run_pure, natV]
   rw [show (⟨ρ.blk b, ρ.base b + off, none⟩ : Addr) = adr ρ b off from rfl]
   rw [r1']
   rfl
  | nilslice =>
   simp only [z7w, Option.some.injEq] at hm; subst hm
   simp only [q8R, Option.some.injEq, Prod.mk.injEq] at h
   obtain ⟨rfl, rfl⟩ := h
   refine ⟨ρ, D, w, ?_, hH, .refl _ _ _, trivial⟩
   unfold Builtin.copy_
   simp only [concL, conc, List.getElem?_toArray, List.getElem?_cons_zero, List.getElem?_cons_succ, Sem.run_bind, run_underlying (z2G T he), Result.andThen_ok,
    z9b hn, T.sizeOf hz, hf.1, Sem.run_pure, natV]
   rw [show Nat.min n 0 = 0 from Nat.min_zero n]
   rfl
  | _ => simp [q8R] at h
 ·simp at h
end
end Go.Sx
namespace Go.Sx
section
variable {P : Program} {G : Tab} {ρ : Env} {D : Nat → Prop} {w : World} {H : Heap}
theorem z3C : ∀ l : List UInt8, (z0x l).length = l.length := by
 intro l
 induction l with
 | nil => rfl
 | cons b l ih => show (z0x l).length + 1 = _; rw [ih]; rfl
theorem j7f : ∀ l : List UInt8, ∀ v ∈ z0x l, z0F v = true := by
 intro l
 induction l with
 | nil => intro v hv; simp [z0x] at hv
 | cons b l ih =>
  intro v hv
  have hv : v ∈ z8r b :: z0x l := hv
  rcases List.mem_cons.1 hv with rfl | hv
  ·rfl
  ·exact ih v hv
theorem q4G {α : Type} (a : Array α) (x : α) (f : α → α) : (a.push x).modify a.size f = a.push (f x) := by
 apply Array.ext
 ·simp
 ·intro i h1 h2
  simp only [Array.getElem_modify, Array.getElem_push]
  split
  ·subst_vars; simp
  ·split
   ·rfl
   ·rename_i h3 h4; simp at h1; omega
theorem q7t (T : TabOk P G) (hH : HRel G ρ D w H) {e : TypeId} {s : List UInt8} {d : TypeDesc} {v : AV} {H' : Heap} (hd : G.und e = some d) (h : q8V H e s d = some (v, H')) :
  d = .int .u8 ∧ Makes P G ρ D w H (Conv.stringToBytes e ⟨s.toArray⟩) v H' := by
 obtain ⟨hu, g⟩ := z0c h
 clear h
 have h := g
 clear g
 have hu : d = .int .u8 := by
  unfold u8D at hu
  split at hu
  ·rfl
  ·simp at hu
 refine ⟨hu, ?_⟩
 subst hu
 obtain ⟨hle, h⟩ := z0c h
 obtain ⟨h1, h⟩ := z2T h
 simp only [Option.some.injEq, Prod.mk.injEq] at h
 obtain ⟨rfl, rfl⟩ := h
 rw [z0S]
 obtain ⟨cap, w₁, c1, c2, c3⟩ := z4A w P s.length 0 e
 have hfresh : ¬ D H.next := fun hd => Nat.lt_irrefl _ (hH.lt _ hd)
 have hsub := ρ.at_sub hfresh w₁.heap.size 0 cap
 have hsz : (concL ρ (z0x s)).length = s.length := by rw [z0i, List.length_map, z3C]
 let arr : Array Value := (concL ρ (z0x s)).toArray ++ Array.replicate (cap - s.length) (.int .u8 0)
 have harr : arr.size = cap := by simp [arr, hsz]; omega
 obtain ⟨r1, r2⟩ := (hH.same c3).pushEnd (w' := { w₁ with heap := w₁.heap.push (.cells arr e (arr.size, arr.size + 1)) }) (.cells e false (z0x s)) (.cells arr e (arr.size, arr.size + 1)) cap rfl (by
  refine ⟨(hsub.concL _ (z9a s)).2, h1, arr, (arr.size, arr.size + 1), by simp [Env.at], .inr (Nat.le_refl _), ?_, fun i u hu => ?_, fun _ z hz => ?_, fun h => by simp at h⟩
  ·simp only [Env.at, if_true, harr, z3C]; omega
  ·have hu' := z0z.1 (z9a (ρ := ρ) (D := D) s) u (List.mem_of_getElem? hu)
   have hlt : i < (concL ρ (z0x s)).toArray.size := by
    have := (List.getElem?_eq_some_iff.1 hu).1
    simpa [z0i] using this
   have e0 : (ρ.at H.next w₁.heap.size 0 cap).base H.next + i = i := by simp [Env.at]
   rw [e0, Array.getElem?_append_left hlt]
   simp only [z0i, List.getElem?_toArray, List.getElem?_map, hu, Option.map_some]
   rw [hsub.eq hu']
  ·have := T.byte e z hd hz
   subst this
   simp only [Env.at, if_true, z3C, harr]
   omega)
 refine ⟨_, _, _, ?_, r1, r2, .inr rfl, fun _ => by simpa [Env.at] using c2⟩
 have e1 : (⟨s.toArray⟩ : ByteArray).size = s.length := z4Z s
 have e2 : ((⟨s.toArray⟩ : ByteArray).data.map fun b => Value.int .u8 b.toNat) = (concL ρ (z0x s)).toArray := by rw [q3a]; simp
 unfold Conv.stringToBytes
 simp only [Sem.run_bind, e1, c1, Result.andThen_ok, e2]
 have e3 : (newRow e arr).run P w₁ = .ok ⟨w₁.heap.size, 0, none⟩ { w₁ with heap := w₁.heap.push (.cells arr e (0, 0)) } := by simp [newRow]
 simp only [arr] at e3 harr ⊢
 rw [e3]
 simp only [Result.andThen_ok, markStringish, Sem.run_bind, run_shape, World.shape?, Array.getElem?_push_size, run_freeze, Sem.run_pure, World.freeze, Nat.one_ne_zero, if_false, q4G]
 simp [conc, Env.at]
theorem q3b : ∀ {l : List AV} {s : List UInt8}, z8D l = some s → ∃ ns : List Int, concL ρ l = ns.map (Value.int .u8) ∧ s = ns.map fun n => UInt8.ofNat n.toNat := by
 intro l
 induction l with
 | nil => intro s h; have h : some [] = some s := h; simp only [Option.some.injEq] at h; subst h; exact ⟨[], rfl, rfl⟩
 | cons a l ih =>
  intro s h
  obtain ⟨x, m, hx, hm, rfl⟩ := z2f (a := q8U a) (o := z8D l) h
  obtain ⟨ns, h1, h2⟩ := ih hm
  unfold q8U at hx
  split at hx
  ·rename_i n
   simp only [Option.some.injEq] at hx; subst hx
   exact ⟨Int.ofNat n :: ns, by simp [concL, h1, conc], by simp [h2]⟩
  ·simp at hx
theorem q7u : ∀ (ns : List Int) (s : ByteArray), ns.foldl (fun r n => r.push (UInt8.ofNat n.toNat)) s = ⟨s.data ++ (ns.map fun n => UInt8.ofNat n.toNat).toArray⟩ := by
 intro ns
 induction ns with
 | nil => intro s; simp
 | cons n ns ih => intro s; rw [List.foldl_cons, ih]; simp [ByteArray.push]
theorem HRel.mark (hH : HRel G ρ D w H) {b off : Nat} {e : TypeId} {ex : Bool} {l : List AV} (hb : D b) (ho : H.blks.get b = some (.cells e ex l)) :
  ∃ w', (markStringish (adr ρ b off)).run P w = .ok () w' ∧ HRel G ρ D w' H := by
 obtain ⟨b1, b2, arr, fz, b3, b4, b5⟩ := hH.blk b _ hb ho
 have hst : ¬ z0W (some (.cells e ex l)) := by simp [z0W]
 have hrun : (markStringish (adr ρ b off)).run P w = .ok () (w.freeze ⟨ρ.blk b, arr.size, none⟩ 1) := by
  simp only [markStringish, Sem.run_bind, run_shape, World.shape?, adr, b3, Result.andThen_ok, run_freeze]
 have hw : ∀ j, j ≠ ρ.blk b → (w.freeze ⟨ρ.blk b, arr.size, none⟩ 1).heap[j]? = w.heap[j]? := fun j hj => by
  simp [World.freeze, Array.getElem?_modify, Ne.symm hj]
 obtain ⟨fz', f1, f2⟩ : ∃ fz', (w.freeze ⟨ρ.blk b, arr.size, none⟩ 1).heap[ρ.blk b]? = some (.cells arr e fz') ∧ Loose arr.size fz' := by
  obtain ⟨lo, hi⟩ := fz
  refine ⟨if lo == hi then (arr.size, arr.size + 1) else (min lo arr.size, max hi (arr.size + 1)), ?_, ?_⟩
  ·simp [World.freeze, Array.getElem?_modify, b3]
  ·rcases b4 with b4 | b4
   ·simp only at b4
    simp only [b4, beq_self_eq_true, if_true]
    exact .inr (Nat.le_refl _)
   ·simp only at b4
    split
    ·exact .inr (Nat.le_refl _)
    ·exact .inr (by simp only; omega)
 refine ⟨_, hrun, ⟨hH.lt, hH.glob, hH.inj, fun x o hx hox => ?_, fun i q hi => ?_, hH.kin.trans ⟨rfl, rfl, rfl, by simp [World.freeze]⟩⟩⟩
 ·by_cases hxb : x = b
  ·subst hxb
   rw [ho] at hox
   simp only [Option.some.injEq] at hox; subst hox
   exact ⟨b1, b2, arr, fz', f1, f2, b5⟩
  ·exact (hH.blk x o hx hox).sub (.refl _ _) hx (hw _ fun he => hxb ((hH.inj _ _ _ _ hx hb hox ho he).resolve_right fun e => hst e.2))
 ·obtain ⟨h1, h2⟩ := hH.rest i q hi
  have hne : ρ.blk b ≠ i := fun hxi => by
   have := h2 b hb hxi
   rw [ho] at this
   exact hst this
  exact ⟨by rw [hw i fun e => hne e.symm]; exact h1, h2⟩
theorem j9N {d : TypeDesc} (hu : u8D d = true) : d = .int .u8 := by
 unfold u8D at hu
 split at hu
 ·rfl
 ·simp at hu
theorem q7v {e : TypeId} {z count : Nat} (hc : P.cellsOf e = z) (h0 : z ≠ 0) (hn : 1 ≤ count) : liesAt P P.depth e count 0 e 1 = true := by
 have hd : P.depth = (2 * (P.types.size + Made.depth) + 1) + 1 := rfl
 rw [hd]
 simp only [liesAt, Bool.or_eq_true]
 left
 rw [hd]
 simp [rowAt, hc, h0, hn, sameLayout]
theorem z5Q {u : TypeId} {x v : AV} {H' : Heap} (h : z3Z G H u x = some (v, H')) : (x = .nilptr ∧ v = .nilptr ∧ H' = H) ∨
  ∃ b l z, x = .ptr b 0 ∧ v = .ptr b 0 ∧ H' = H ∧ H.blks.get b = some (.cells u true l) ∧ G.size u = some z ∧ z ≠ 0 ∧ z ≤ l.length := by
 unfold z3Z at h
 split at h
 ·simp only [Option.some.injEq, Prod.mk.injEq] at h
  exact .inl ⟨rfl, h.1.symm, h.2.symm⟩
 ·rename_i b off
  obtain ⟨e, he, h1⟩ := z0a h
  obtain ⟨k1, h2⟩ := z0c h1
  obtain ⟨z, hz, h3⟩ := z0a h2
  obtain ⟨k2, h4⟩ := z1J h3
  obtain ⟨k3, h5⟩ := z0c h4
  simp only [Option.some.injEq, Prod.mk.injEq] at h5
  unfold j4H at he
  split at he
  ·rename_i e0 l hg
   simp only [Option.some.injEq] at he
   subst he
   have k1 : e0 = u := Nat.eq_of_beq_eq_true k1
   subst k1
   have k2 : z ≠ 0 := fun h0 => by rw [h0] at k2; exact absurd k2 (by simp)
   have k3 := z1h k3
   rw [z0S] at k3
   exact .inr ⟨b, l, z, rfl, h5.1.symm, h5.2.symm, hg, hz, k2, k3⟩
  ·simp at he
 ·simp at h
theorem q4H (T : TabOk P G) (hH : HRel G ρ D w H) {src dst u : TypeId} {x v : AV} {H' : Heap} (e1 : P.underlying src = some (.pointer u)) (e2 : P.underlying dst = some .unsafePointer)
  (h : z3Z G H u x = some (v, H')) (hx : okV ρ D x) : Makes P G ρ D w H (convert src dst (conc ρ x)) v H' := by
 rcases z5Q h with ⟨rfl, rfl, rfl⟩ | ⟨b, l, z, rfl, rfl, rfl, hg, hz, h0, hl⟩
 ·refine ⟨ρ, D, w, ?_, hH, .refl _ _ _, trivial⟩
  unfold convert
  simp only [Sem.run_bind, run_underlying e1, run_underlying e2, Result.andThen_ok, conc, Conv.unsafePointer, Sem.run_pure]
 ·obtain ⟨b1, b2, arr, fz, b3, b4, b5, b6, b7⟩ := hH.blk b _ hx hg
  obtain ⟨i, _, hi, hs⟩ := T.info hz
  refine ⟨ρ, D, w, ?_, hH, .refl _ _ _, hx⟩
  have hsh : w.shape? (ρ.blk b) = some (u, arr.size) := by simp [World.shape?, b3]
  have hb0 := b7.2 rfl
  exact Lib.run_to_unsafe w ⟨ρ.blk b, ρ.base b + 0, none⟩ e1 e2 hi (by omega) hsh (by show ρ.base b + 0 < arr.size; omega)
theorem q1D (T : TabOk P G) (hH : HRel G ρ D w H) {src dst u : TypeId} {x v : AV} {H' : Heap} (e1 : P.underlying src = some .unsafePointer) (e2 : P.underlying dst = some (.pointer u))
  (h : z3Z G H u x = some (v, H')) (hx : okV ρ D x) : Makes P G ρ D w H (convert src dst (conc ρ x)) v H' := by
 rcases z5Q h with ⟨rfl, rfl, rfl⟩ | ⟨b, l, z, rfl, rfl, rfl, hg, hz, h0, hl⟩
 ·refine ⟨ρ, D, w, ?_, hH, .refl _ _ _, trivial⟩
  unfold convert
  simp only [Sem.run_bind, run_underlying e1, run_underlying e2, Result.andThen_ok, conc, Conv.unsafePointer, Sem.run_pure]
 ·obtain ⟨b1, b2, arr, fz, b3, b4, b5, b6, b7⟩ := hH.blk b _ hx hg
  obtain ⟨i, _, hi, hs⟩ := T.info hz
  refine ⟨ρ, D, w, ?_, hH, .refl _ _ _, hx⟩
  have hsh : w.shape? (ρ.blk b) = some (u, arr.size) := by simp [World.shape?, b3]
  have hb0 := b7.2 rfl
  have hc : P.cellsOf u = z := by simp [Program.cellsOf, hi, hs]
  have hcount : 1 ≤ arr.size / P.cellsOf u := by rw [hc]; exact (Nat.le_div_iff_mul_le (Nat.pos_of_ne_zero h0)).2 (by omega)
  have hl1 := q7v (P := P) hc h0 hcount
  exact Lib.run_from_unsafe w ⟨ρ.blk b, ρ.base b + 0, none⟩ e1 e2 hi hsh (by show liesAt P P.depth u (arr.size / P.cellsOf u) (ρ.base b + 0) u 1 = true; rw [hb0]; exact hl1)
theorem z9d (T : TabOk P G) (hH : HRel G ρ D w H) {src dst : TypeId} {x v : AV} {H' : Heap} (h : z6n G H src dst x = some (v, H')) (hx : okV ρ D x) :
  Makes P G ρ D w H (convert src dst (conc ρ x)) v H' := by
 obtain ⟨su, hsu, h⟩ := z0a h
 obtain ⟨du, hdu, h⟩ := z0a h
 have e1 := T.und hsu
 have e2 := T.und hdu
 unfold q6k at h
 split at h
 ·exact q4H T hH e1 e2 h hx
 ·exact q1D T hH e1 e2 h hx
 ·rename_i k k' n
  simp only [Option.some.injEq, Prod.mk.injEq] at h
  obtain ⟨rfl, rfl⟩ := h
  refine ⟨ρ, D, w, ?_, hH, .refl _ _ _, trivial⟩
  unfold convert
  simp only [Sem.run_bind, run_underlying e1, run_underlying e2, Result.andThen_ok, conc, Conv.intToInt, Sem.run_pure, z4z]
 ·rename_i s
  simp only [Option.some.injEq, Prod.mk.injEq] at h
  obtain ⟨rfl, rfl⟩ := h
  refine ⟨ρ, D, w, ?_, hH, .refl _ _ _, trivial⟩
  unfold convert
  simp only [Sem.run_bind, run_underlying e1, run_underlying e2, Result.andThen_ok, conc, Sem.run_pure]
 ·rename_i e s
  obtain ⟨d, hd, h⟩ := z0a h
  obtain ⟨rfl, ρ', D', w', r1, r2, r3, r4⟩ := q7t T hH hd h
  refine ⟨ρ', D', w', ?_, r2, r3, r4⟩
  unfold convert
  simp only [Sem.run_bind, run_underlying e1, run_underlying e2, Result.andThen_ok, conc, T.underlying hd, r1]
 ·rename_i y el _ _
  obtain ⟨d, hd, h0⟩ := z0a h
  obtain ⟨hu, h1⟩ := z0c h0
  clear h0 h
  have hu : d = .int .u8 := by
   unfold u8D at hu
   split at hu
   ·rfl
   ·simp at hu
  subst hu
  have h := h1
  clear h1
  cases x with
  | slice b off n q c =>
   obtain ⟨cs, hcs, h⟩ := z0a h
   obtain ⟨s, hs, h⟩ := z0a h
   simp only [Option.some.injEq, Prod.mk.injEq] at h
   obtain ⟨rfl, rfl⟩ := h
   obtain ⟨l1, l2, l3⟩ := z1v (P := P) hH hx.1 hcs
   obtain ⟨ns, n1, n2⟩ := q3b (ρ := ρ) hs
   refine ⟨ρ, D, w, ?_, hH, .refl _ _ _, trivial⟩
   rw [n1] at l1
   have := run_bytesToString (P := P) w (adr ρ b off) n (if q then ρ.cap b - c else c) ns l1
   rw [q7u] at this
   unfold convert
   simp only [adr] at this
   simp only [Sem.run_bind, run_underlying e1, run_underlying e2, Result.andThen_ok, conc, T.underlying hd, this, n2]
   simp
  | nilslice =>
   simp only [Option.some.injEq, Prod.mk.injEq] at h
   obtain ⟨rfl, rfl⟩ := h
   refine ⟨ρ, D, w, ?_, hH, .refl _ _ _, trivial⟩
   unfold convert
   simp only [Sem.run_bind, run_underlying e1, run_underlying e2, Result.andThen_ok, conc, T.underlying hd, Conv.bytesToString, Sem.run_pure]
   rfl
  | tail b o o1 c =>
   simp only [Option.some.injEq, Prod.mk.injEq] at h
   obtain ⟨rfl, rfl⟩ := h
   refine ⟨ρ, D, w, ?_, hH, .refl _ _ _, trivial⟩
   unfold convert
   simp only [Sem.run_bind, run_underlying e1, run_underlying e2, Result.andThen_ok, conc, T.underlying hd, Conv.bytesToString, Sem.run_pure]
   rfl
  | _ => simp at h
 ·rename_i e0 e b o n q c _ _
  obtain ⟨d, hd, h0⟩ := z0a h
  obtain ⟨hsame, h0⟩ := z0c h0
  obtain ⟨hu, h1⟩ := z0c h0
  have hu := j9N hu
  subst hu
  have hsd : src = dst := by simpa using hsame
  subst hsd
  have he : e0 = e := by rw [e1] at e2; simpa using e2
  subst he
  unfold j9F at h1
  split at h1
  ·rename_i ec ex l ho
   simp only [Option.some.injEq, Prod.mk.injEq] at h1
   obtain ⟨rfl, rfl⟩ := h1
   obtain ⟨w', m1, m2⟩ := HRel.mark (P := P) (off := o) hH hx.1 ho
   refine ⟨ρ, D, w', ?_, m2, .refl _ _ _, hx⟩
   unfold convert
   simp only [Sem.run_bind, run_underlying e1, run_underlying e2, Result.andThen_ok, conc, T.underlying hd, beq_self_eq_true]
   simp only [adr] at m1
   rw [m1]
   rfl
  ·simp at h1
 ·simp at h
end
end Go.Sx
namespace Go.Sx
section
variable {P : Program} {G : Tab} {ρ : Env} {D : Nat → Prop} {w : World} {H : Heap}
def Gives (P : Program) (G : Tab) (ρ : Env) (D : Nat → Prop) (w : World) (H : Heap) (s : Sem Next) (v : AV) (H' : Heap) : Prop :=
 ∃ ρ' D' w', (s.run P w = .ok (.value (conc ρ' v)) w' ∨ v = z0A ∧ s.run P w = .ok .skip w') ∧ HRel G ρ' D' w' H' ∧ Ext H ρ D H' ρ' D' ∧ okV ρ' D' v
theorem Makes.gives {s : Sem Value} {v : AV} {H' : Heap} (h : Makes P G ρ D w H s v H') : Gives P G ρ D w H (do pure (.value (← s))) v H' := by
 obtain ⟨ρ', D', w', r1, r2, r3, r4⟩ := h
 exact ⟨ρ', D', w', .inl (by simp only [Sem.run_bind, r1, Result.andThen_ok, Sem.run_pure]), r2, r3, r4⟩
theorem Val.gives {s : Sem Value} {v : AV} (hH : HRel G ρ D w H) (h : Val P ρ D w s v) : Gives P G ρ D w H (do pure (.value (← s))) v H := (Makes.of_val hH h).gives
theorem z5u {s : Sem Unit} {H' : Heap} {w' : World} (h1 : s.run P w = .ok () w') (h2 : HRel G ρ D w' H') (h3 : H'.next = H.next) :
  Gives P G ρ D w H (do s; pure .skip) z0A H' :=
 ⟨ρ, D, w', .inr ⟨rfl, by simp only [Sem.run_bind, h1, Result.andThen_ok, Sem.run_pure]⟩, h2, .same _ _ h3, trivial⟩
theorem z4e (hH : HRel G ρ D w H) {v : AV} (hv : okV ρ D v) : Gives P G ρ D w H (pure (.value (conc ρ v))) v H := ⟨ρ, D, w, .inl rfl, hH, .refl _ _ _, hv⟩
theorem q4I {tm : T AV} {ev : Operand → Value} (he : EvOk G ρ D tm ev) {o : Option Operand} {r : Option AV} (h : opt1 G tm o = some r) : o.map ev = r.map (conc ρ) := by
 cases o with
 | none => simp only [opt1, Option.some.injEq] at h; subst h; rfl
 | some x =>
  obtain ⟨v, hv, h⟩ := z0a h
  simp only [Option.some.injEq] at h; subst h
  simp [(he x v hv).1]
theorem q7w (T : TabOk P G) (hH : HRel G ρ D w H) {t : TypeId} {a v : AV} (h : loadPtr G H t a = some v) (ha : okV ρ D a) : Val P ρ D w (Instr.loadAt t (conc ρ a)) v := by
 unfold loadPtr at h
 split at h
 ·rename_i b off
  obtain ⟨r1, r2⟩ := z8S T hH ha h
  exact ⟨by simpa [Instr.loadAt, conc, Instr.sureAddr, adr] using r1, r2⟩
 ·simp at h
theorem q4J (T : TabOk P G) (hH : HRel G ρ D w H) {t : TypeId} {a v : AV} {H' : Heap} (h : z2r G H t a v = some H') (ha : okV ρ D a) (hv : okV ρ D v) :
  ∃ w', (Instr.storeAt t (conc ρ a) (conc ρ v)).run P w = .ok () w' ∧ HRel G ρ D w' H' ∧ H'.next = H.next := by
 unfold z2r at h
 split at h
 ·rename_i b off
  obtain ⟨w', r1, r2, r3⟩ := q2U T hH ha hv h
  exact ⟨w', by simpa [Instr.storeAt, conc, Instr.sureAddr, adr] using r1, r2, r3⟩
 ·simp at h
theorem q3c (hH : HRel G ρ D w H) {v : AV} {H' : Heap} (h : z2y H = some (v, H')) : Makes P G ρ D w H (do pure (.map (some (← newObj (.map #[] 0))))) v H' := by
 unfold z2y at h
 rw [z1Y] at h
 simp only [Option.some.injEq, Prod.mk.injEq] at h
 obtain ⟨rfl, rfl⟩ := h
 obtain ⟨r1, r2⟩ := hH.pushEnd (w' := { w with heap := w.heap.push (.map #[] 0) }) (.map [] 0) (.map #[] 0) 0 rfl ⟨fun e he => by simp at he, #[], by simp [Env.at], rfl⟩
 exact ⟨_, _, _, by simp [conc, Env.at], r1, r2, .inr rfl⟩
theorem q6D {f : AV → AV → Option AV} {g : Value → Value → Sem Value} (hf : ∀ a b v, f a b = some v → (g (conc ρ a) (conc ρ b)).run P w = .ok (conc ρ v) w ∧ okV ρ D v)
  {xs : List AV} {v : AV} (hx : okL ρ D xs) (h : q7l f xs = some v) : ∃ a l, xs = a :: l ∧ ((concL ρ l).foldlM g (conc ρ a)).run P w = .ok (conc ρ v) w ∧ okV ρ D v := by
 cases xs with
 | nil => simp [q7l] at h
 | cons a l => exact ⟨a, l, rfl, j3c hf hx.1 h⟩
theorem q4K (T : TabOk P G) (hH : HRel G ρ D w H) {b : Builtin} {ts : Array TypeId} {u : TypeId} {cs : Array Bool} {xs : List AV} {v : AV} (h : z4u b G ts.toList xs H = some v) (hx : okL ρ D xs) :
  Gives P G ρ D w H (builtin b ts u cs (concL ρ xs).toArray) v H := by
 unfold z4u at h
 split at h
 ·unfold q0s at h
  split at h
  ·rename_i x
   unfold q0r at h
   split at h
   ·simp only [Option.some.injEq] at h; subst h
    exact Val.gives hH ⟨Lib.run_unsafeSliceData_nil w ts u 0 0, trivial⟩
   ·rename_i b0 off n c
    obtain ⟨k, h1⟩ := z1J h
    simp only [Option.some.injEq] at h1; subst h1
    have hn : n ≠ 0 := fun h0 => by rw [h0] at k; exact absurd k (by simp)
    have hc : c + n ≤ ρ.cap b0 := hx.1.2 rfl
    exact Val.gives hH ⟨Lib.run_unsafeSliceData_row w ts u ⟨ρ.blk b0, ρ.base b0 + off, none⟩ n (ρ.cap b0 - c) (by omega), hx.1.1⟩
   ·simp at h
  ·simp at h
 ·unfold fst1 at h
  split at h
  ·simp at h
  ·rename_i t ts' hts
   cases xs with
   | nil => simp at h
   | cons x xs =>
    exact Val.gives hH (j7d T hH h hx.1 (by rw [← Array.getElem?_toList, hts]; rfl))
 ·unfold fst1 at h
  split at h
  ·simp at h
  ·rename_i t ts' hts
   cases xs with
   | nil => simp at h
   | cons x xs =>
    exact Val.gives hH (j7e T h (by rw [← Array.getElem?_toList, hts]; rfl))
 ·obtain ⟨a, l, rfl, r1, r2⟩ := q6D (P := P) (w := w) (fun a b v h => j3d h) hx h
  exact Val.gives hH ⟨by simpa [Builtin.min_, concL] using r1, r2⟩
 ·obtain ⟨a, l, rfl, r1, r2⟩ := q6D (P := P) (w := w) (fun a b v h => j3e h) hx h
  exact Val.gives hH ⟨by simpa [Builtin.max_, concL] using r1, r2⟩
 ·simp at h
theorem z7g {tm : T AV} {ev : Operand → Value} (he : EvOk G ρ D tm ev) {l : Array Operand} {as : List AV} (h : aevs G tm l.toList = some as) :
  l.map ev = (concL ρ as).toArray ∧ okL ρ D as := by
 obtain ⟨h1, h2⟩ := he.list h
 refine ⟨?_, h2⟩
 rw [← h1]
 apply Array.ext'
 simp
theorem q7x {fn : Fn} (h : z8E fn = true) : ∃ f, fn = .func f := by
 unfold z8E at h
 split at h
 ·exact ⟨_, rfl⟩
 ·simp at h
theorem q1E {α : Type} {a b : Option α} {x : α} (h : orX a b = some x) : a = some x ∨ b = some x := by
 cases a with
 | none => exact .inr h
 | some y => exact .inl h
theorem q9Z (T : TabOk P G) (hH : HRel G ρ D w H) {t : TypeId} {x v : AV} {lo hi : Option AV} (h : q2I G H t x lo hi = some v) (hx : okV ρ D x) :
  Val P ρ D w (Instr.sliceAt t (conc ρ x) (lo.map (conc ρ)) (hi.map (conc ρ)) none) v := by
 obtain ⟨d, hd, g⟩ := z0a h
 clear h
 have hu := T.und hd
 unfold q4s at g
 split at g
 ·rename_i e b off n c k1 l k2 h'
  obtain ⟨z, hz, g1⟩ := z0a g
  obtain ⟨kn, hkn, g2⟩ := z0a g1
  obtain ⟨m, hm, rfl⟩ := z7K hkn
  obtain ⟨q0, g3⟩ := z1J g2
  obtain ⟨q1, g4⟩ := z0c g3
  obtain ⟨q2, g5⟩ := z0c g4
  obtain ⟨q3, g6⟩ := z0c g5
  simp only [Option.some.injEq] at g6; subst g6
  have hz0 : z ≠ 0 := by intro e0; rw [e0] at q0; simp at q0
  have hoff := z0B q1
  have hkn2 := z1h q2
  have hlt := z1r q3
  obtain ⟨_, _, arr, fz, _, _, _, _, f7⟩ := hH.blk b _ hx.1 hm
  have f7 := (f7.1 rfl z hz).1
  have hroom : c + h' ≤ ρ.cap b := by
   have h1 : (c + h') * z ≤ ρ.cap b * z := by rw [Nat.add_mul]; omega
   exact Nat.le_of_mul_le_mul_right h1 (Nat.pos_of_ne_zero hz0)
  refine ⟨?_, hx.1, fun _ => by omega⟩
  have e1 := z1C (P := P) (ρ := ρ) (w := w) (lo := some (.int k1 (.ofNat l))) (hi := some (.int k2 (.ofNat h'))) true (n := n) (most := h') (C := ρ.cap b - c) (by omega)
   (show (bif Nat.ble h' h' then some h' else none) = some h' by rw [Nat.ble_eq_true_of_le (Nat.le_refl _)]; rfl) (show (bif Nat.ble l h' then some l else none) = some l by rw [Nat.ble_eq_true_of_le (Nat.le_of_lt hlt)]; rfl)
  have hne : ¬ (ρ.cap b - c = l) := by omega
  have e7 : ρ.cap b - c - l = ρ.cap b - (c + l) := by omega
  simp only [Instr.sliceAt, Sem.run_bind, run_underlying hu, Result.andThen_ok, Instr.slice, conc, if_true, e1, T.sizeOf hz, Sem.run_pure]
  rw [if_neg hne, e7]
  simp only [Option.map_some, Addr.add]
  split
  ·rename_i h0; simp [h0]
  ·simp [Nat.add_assoc]
 ·simp at g
theorem j0a (T : TabOk P G) (hH : HRel G ρ D w H) {q : Bool} {t : TypeId} {x v : AV} {lo hi mx : Option AV} (h : z7y G H q t x lo hi mx = some v) (hx : okV ρ D x) :
  Val P ρ D w (Instr.sliceAt t (conc ρ x) (lo.map (conc ρ)) (hi.map (conc ρ)) (mx.map (conc ρ))) v := by
 unfold z7y at h
 split at h
 ·rcases q1E h with h | h
  ·exact q2T T h hx
  ·exact q9Z T hH h hx
 ·exact q2T T h hx
theorem z2O {H : Heap} {x v : AV} {d : TypeDesc} (h : fstO (z1Z H x d) = some v) : z1Z H x d = some (v, H) := by
 obtain ⟨p, h1, h2⟩ := z0a h
 simp only [Option.some.injEq] at h2; subst h2
 have : p.2 = H := by
  unfold z1Z at h1
  obtain ⟨_, h1⟩ := z0c h1
  split at h1
  ·obtain ⟨cs, _, h1⟩ := z0a h1
   obtain ⟨l, _, h1⟩ := z0a h1
   simp only [Option.some.injEq] at h1; subst h1; rfl
  ·simp only [Option.some.injEq] at h1; subst h1; rfl
  ·simp only [Option.some.injEq] at h1; subst h1; rfl
  ·simp at h1
 rw [h1]; cases p; simp_all
theorem j0b {a b : TypeId} {x v : AV} {H : Heap} (h : z8I G H a b x = some v) : z6n G H a b x = some (v, H) := by
 obtain ⟨su, h1, h⟩ := z0a h
 obtain ⟨du, h2, h⟩ := z0a h
 unfold z6n
 rw [h1, h2]
 unfold j6R at h
 split at h
 ·simp only [Option.some.injEq] at h; subst h
  cases su <;> rfl
 ·obtain ⟨d, hd, h⟩ := z0a h
  show z0b (G.und _) _ = _
  rw [hd]; exact z2O h
 ·obtain ⟨d, hd, h⟩ := z0a h
  show z0b (G.und _) _ = _
  rw [hd]; exact z2O h
 ·obtain ⟨d, hd, h⟩ := z0a h
  show z0b (G.und _) _ = _
  rw [hd]; exact z2O h
 ·simp at h
theorem q6E (T : TabOk P G) (hH : HRel G ρ D w H) {tm : Sx.T AV} {ev : Operand → Value} (he : EvOk G ρ D tm ev) {o : Oper} {v : AV} {H' : Heap} (h : opN o.op G tm H = some (v, H')) :
  Gives P G ρ D w H (execOp ev o) v H' := by
 obtain ⟨dst, op, type, pos, after, guard⟩ := o
 simp only at h
 cases op
 case move x =>
  obtain ⟨hx, rfl⟩ := z0k h
  obtain ⟨e1, e2⟩ := he x v hx
  simp only [execOp, e1]; exact z4e hH e2
 case assign x =>
  obtain ⟨hx, rfl⟩ := z0k h
  obtain ⟨e1, e2⟩ := he x v hx
  simp only [execOp, e1]; exact z4e hH e2
 case pick c a b =>
  obtain ⟨hx, rfl⟩ := z0k h
  obtain ⟨cv, hc, hx⟩ := z0a hx
  obtain ⟨e1, e2⟩ := he c cv hc
  unfold q7k at hx
  split at hx
  ·obtain ⟨e3, e4⟩ := he a v hx
   have := z4e (P := P) hH e4
   simpa [execOp, e1, conc, asBool, e3, Gives] using this
  ·obtain ⟨e3, e4⟩ := he b v hx
   have := z4e (P := P) hH e4
   simpa [execOp, e1, conc, asBool, e3, Gives] using this
  ·simp at hx
 case alloc t =>
  obtain ⟨z, hz, h⟩ := z0a h
  obtain ⟨_, _, _, _, hc⟩ := T.zero hz
  obtain ⟨ρ', D', w', r1, r2, r3, r4⟩ := q9W (P := P) hH h (hc ρ D).2
  refine Makes.gives ⟨ρ', D', w', ?_, r2, r3, r4⟩
  simp only [Instr.alloc, Sem.run_bind, T.zeroValue hz ρ, Result.andThen_ok]
  simpa only [Sem.run_bind] using r1
 case box t x =>
  obtain ⟨z, hz, h⟩ := z0a h
  obtain ⟨e1, e2⟩ := he x z hz
  simp only [execOp, e1]
  exact (q9W hH h e2).gives
 case build t ps =>
  obtain ⟨hx, rfl⟩ := z0k h
  obtain ⟨qs, hq, hx⟩ := z0a hx
  obtain ⟨e1, e2⟩ := z7e he hq
  have := q9U (P := P) (w := w) T hx e2
  simp only [execOp]
  rw [show (ps.map fun (i, x) => (i, ev x)) = (qs.map fun q => (q.1, conc ρ q.2)).toArray from by rw [← e1]; apply Array.ext'; simp]
  exact Val.gives hH this
 case buildSlice t n ps =>
  obtain ⟨qs, hq, hx⟩ := z0a h
  obtain ⟨e1, e2⟩ := z7e he hq
  have := z9X (P := P) (w := w) T hH hx e2
  simp only [execOp]
  rw [show (ps.map fun (i, x) => (i, ev x)) = (qs.map fun q => (q.1, conc ρ q.2)).toArray from by rw [← e1]; apply Array.ext'; simp]
  exact this.gives
 case load t a =>
  obtain ⟨hx, rfl⟩ := z0k h
  obtain ⟨av, ha, hx⟩ := z0a hx
  obtain ⟨e1, e2⟩ := he a av ha
  simp only [execOp, e1]
  exact Val.gives hH (q7w T hH hx e2)
 case nilCheck x =>
  obtain ⟨hx, rfl⟩ := z0k h
  obtain ⟨av, ha, hx⟩ := z0a hx
  obtain ⟨e1, e2⟩ := he x av ha
  unfold nilCheckA at hx
  split at hx <;> simp only [Option.some.injEq, reduceCtorEq] at hx <;> subst hx <;> simp only [execOp, e1, conc] <;> exact z4e hH e2
 case binOp op t x y yt =>
  obtain ⟨hx, rfl⟩ := z0k h
  obtain ⟨a, ha, hx⟩ := z0a hx
  obtain ⟨b, hb, hx⟩ := z0a hx
  obtain ⟨e1, e2⟩ := he x a ha
  obtain ⟨e3, e4⟩ := he y b hb
  simp only [execOp, e1, e3]
  exact Val.gives hH (j7c T hx e2 e4)
 case unOp op t x =>
  obtain ⟨hx, rfl⟩ := z0k h
  obtain ⟨a, ha, hx⟩ := z0a hx
  obtain ⟨e1, e2⟩ := he x a ha
  simp only [execOp, e1]
  exact Val.gives hH (j9L hx)
 case makeInterface t x =>
  obtain ⟨d, hd, h⟩ := z0a h
  obtain ⟨hn, h⟩ := z0c h
  obtain ⟨hx, rfl⟩ := z0k h
  obtain ⟨a, ha, hx⟩ := z0a hx
  simp only [Option.some.injEq] at hx; subst hx
  obtain ⟨e1, e2⟩ := he x a ha
  simp only [execOp, e1]
  refine Val.gives hH ⟨?_, e2⟩
  simp only [Instr.makeInterface, Sem.run_bind, T.underlying hd, Result.andThen_ok]
  cases d <;> first | rfl | simp [z4t] at hn
 case typeAssert x xt t ok =>
  obtain ⟨hx, rfl⟩ := z0k h
  obtain ⟨a, ha, hx⟩ := z0a hx
  obtain ⟨e1, e2⟩ := he x a ha
  unfold q9f at hx
  split at hx
  ·rename_i t' v'
   obtain ⟨d, hd, hx⟩ := z0a hx
   obtain ⟨hn, hx⟩ := z0c hx
   obtain ⟨ht, hx⟩ := z0c hx
   simp only [Option.some.injEq] at hx; subst hx
   have ht : t' = t := by simpa using ht
   subst ht
   have hv : okV ρ D v' := e2
   simp only [execOp, e1]
   rw [show conc ρ (.iface t' v') = .iface t' (conc ρ v') from rfl]
   refine Val.gives hH ⟨?_, ?_⟩
   ·simp only [Instr.typeAssert, Sem.run_bind, T.underlying hd, Result.andThen_ok]
    cases d <;> first | (simp [z4t] at hn; done) | (cases ok <;> simp [conc, concL])
   ·cases ok
    ·exact hv
    ·exact ⟨hv, trivial, trivial⟩
  ·simp at hx
 case makeFunc fn a b =>
  obtain ⟨hp, h⟩ := z0c h
  obtain ⟨hx, rfl⟩ := z0k h
  obtain ⟨xs, hxs, hx⟩ := z0a hx
  obtain ⟨ys, hys, hx⟩ := z0a hx
  simp only [Option.some.injEq] at hx; subst hx
  obtain ⟨e1, e2⟩ := z7g he hxs
  obtain ⟨e3, e4⟩ := z7g he hys
  simp only [execOp, e1, e3]
  refine Val.gives hH ⟨rfl, ?_, e2, e4⟩
  obtain ⟨f, rfl⟩ := q7x hp
  trivial
 case makeMap t r =>
  cases r with
  | none =>
   have h : z2y H = some (v, H') := h
   have := q3c (P := P) hH h
   simp only [execOp, Option.map_none, Instr.makeMap]
   exact this.gives
  | some x =>
   obtain ⟨a, ha, h⟩ := z0a h
   obtain ⟨e1, e2⟩ := he x a ha
   obtain ⟨hr, h⟩ := z0c h
   obtain ⟨ρ', D', w', r1, r2, r3, r4⟩ := q3c (P := P) hH h
   refine Makes.gives ⟨ρ', D', w', ?_, r2, r3, r4⟩
   unfold z4R at hr
   split at hr
   ·rename_i hu
    simp only [Option.map_some, Instr.makeMap, e1, Sem.run_bind, T.underlying hu, Result.andThen_ok, conc, asInt, asIntOf, Sem.run_pure]
    simpa only [Sem.run_bind, Sem.run_pure] using r1
   ·simp at hr
 case makeSlice t l c =>
  obtain ⟨a, ha, h⟩ := z0a h
  obtain ⟨b, hb, h⟩ := z0a h
  obtain ⟨e1, e2⟩ := he l a ha
  obtain ⟨e3, e4⟩ := he c b hb
  simp only [execOp, e1, e3]
  exact (q1C T hH h).gives
 case convert a d x =>
  obtain ⟨hx, rfl⟩ := z0k h
  obtain ⟨a0, ha, hx⟩ := z0a hx
  obtain ⟨e1, e2⟩ := he x a0 ha
  simp only [execOp, e1]
  exact (z9d T hH (j0b hx) e2).gives
 case slice t x lo hi mx =>
  obtain ⟨hx, rfl⟩ := z0k h
  obtain ⟨a, ha, hx⟩ := z0a hx
  obtain ⟨e1, e2⟩ := he x a ha
  obtain ⟨a1, h1, hx⟩ := z0a hx
  obtain ⟨a2, h2, hx⟩ := z0a hx
  obtain ⟨a3, h3, hx⟩ := z0a hx
  simp only [execOp, e1, q4I he h1, q4I he h2, q4I he h3]
  exact Val.gives hH (j0a T hH hx e2)
 case fieldAddr s x f =>
  obtain ⟨hx, rfl⟩ := z0k h
  obtain ⟨a, ha, hx⟩ := z0a hx
  obtain ⟨e1, e2⟩ := he x a ha
  simp only [execOp, e1]
  exact Val.gives hH (q1v T hx e2)
 case field s x f =>
  obtain ⟨hx, rfl⟩ := z0k h
  obtain ⟨a, ha, hx⟩ := z0a hx
  obtain ⟨e1, e2⟩ := he x a ha
  simp only [execOp, e1]
  exact Val.gives hH (q9M T hx e2)
 case indexAddr t x i =>
  obtain ⟨hx, rfl⟩ := z0k h
  obtain ⟨a, ha, hx⟩ := z0a hx
  obtain ⟨e1, e2⟩ := he x a ha
  obtain ⟨b, hb, hx⟩ := z0a hx
  obtain ⟨e3, e4⟩ := he i b hb
  simp only [execOp, e1, e3]
  exact Val.gives hH (q1x T hx e2)
 case index t x i =>
  obtain ⟨hx, rfl⟩ := z0k h
  obtain ⟨a, ha, hx⟩ := z0a hx
  obtain ⟨e1, e2⟩ := he x a ha
  obtain ⟨b, hb, hx⟩ := z0a hx
  obtain ⟨e3, e4⟩ := he i b hb
  simp only [execOp, e1, e3]
  exact Val.gives hH (q9N T hx e2)
 case lookup t x i ok =>
  obtain ⟨hx, rfl⟩ := z0k h
  obtain ⟨a, ha, hx⟩ := z0a hx
  obtain ⟨e1, e2⟩ := he x a ha
  obtain ⟨b, hb, hx⟩ := z0a hx
  obtain ⟨e3, e4⟩ := he i b hb
  simp only [execOp, e1, e3]
  exact Val.gives hH (q7o T hH hx e2 e4)
 case entry x =>
  obtain ⟨hx, rfl⟩ := z0k h
  obtain ⟨a, ha, hx⟩ := z0a hx
  obtain ⟨e1, e2⟩ := he x a ha
  simp only [execOp, e1]
  exact Val.gives hH (q9S hH hx e2)
 case extract x i =>
  obtain ⟨hx, rfl⟩ := z0k h
  obtain ⟨a, ha, hx⟩ := z0a hx
  obtain ⟨e1, e2⟩ := he x a ha
  simp only [execOp, e1]
  unfold extractA at hx
  split at hx
  ·rename_i vs
   rw [z2A] at hx
   refine Val.gives hH ⟨?_, z0z.1 e2 _ (List.mem_of_getElem? hx)⟩
   simp [Instr.extract, conc, z0i, hx]
  ·simp at hx
 case call c =>
  obtain ⟨hx, rfl⟩ := z0k h
  obtain ⟨b, hb, hx⟩ := z0a hx
  obtain ⟨xs, hxs, hx⟩ := z0a hx
  obtain ⟨e1, e2⟩ := z7g he hxs
  unfold q1j at hb
  split at hb
  ·rename_i b' hb'
   simp only [Option.some.injEq] at hb; subst hb
   have := q4K (P := P) (u := type) (cs := c.args.map fun | .const _ => true | _ => false) T hH hx e2
   simp only [execOp, resolve, hb', e1]
   exact this
  ·simp at hb
 all_goals (first | (have h : (none : Option VH) = some (v, H') := h; simp at h))
end
end Go.Sx
