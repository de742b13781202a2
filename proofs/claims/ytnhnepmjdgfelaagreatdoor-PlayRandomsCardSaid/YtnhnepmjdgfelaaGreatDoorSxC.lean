/-
  The executor's operations on maps, slices, strings are sound (part 2).
-/
import Derived.Test.YtnhnepmjdgfelaaGreatDoorSxB
import GoSem.Builtin.Delete
import GoSem.Builtin.Clear
import Derived.Laws.Tables
import GoSem.Builtin.Len
import GoSem.Builtin.Cap
import GoSem.Builtin.Min
import GoSem.Builtin.Max
import GoSem.Builtin.Append
import GoSem.Builtin.Copy
import GoSem.Dispatch
import Derived.Laws.BytesString
import Derived.Lib.Builder
import Derived.Lib.UnsafeStr
set_option linter.unusedSimpArgs false
set_option linter.unusedVariables false
namespace Go.Sx
theorem putMapK_eq {β : Type} (H : Heap) (r : Nat) (es : List AEntry) (clock : Nat) (c : Heap → β) : putMapK H r es clock c = c (putBlk H r (some (.map es clock))) := by
 unfold putMapK; rw [forceE_eq, forceN_eq, putBlkK_eq]
section
variable {P : Program} {G : Tab} {ρ : Env} {D : Nat → Prop} {w : World} {H : Heap}
theorem putMap_ok (hH : HRel G ρ D w H) {r : Nat} {p : List AEntry × Nat} (hr : D r) (hp : mapIn (H.blks.get r) = some p) {es : List AEntry} {clock : Nat} {arr : Array MapEntry}
  (he : ∀ e ∈ es, okE ρ D e) (ha : arr.toList = es.map (concE ρ)) :
  HRel G ρ D { w with heap := w.heap.setIfInBounds (ρ.blk r) (.map arr clock) } (putBlk H r (some (.map es clock))) := by
 obtain ⟨m1, es', m2, m3⟩ := map_block hH hr hp
 have hlt := (Array.getElem?_eq_some_iff.1 m2).1
 refine hH.write hr (mapIn_some hp) ⟨he, arr, ?_, ha⟩ ?_ (fun h => h)
 ·simp [hlt]
 ·intro j hj
  simp [Array.getElem?_setIfInBounds_ne (Ne.symm hj)]
theorem eraseIdx_map {α β : Type} (f : α → β) : ∀ (l : List α) (k : Nat), (l.map f).eraseIdx k = (l.eraseIdx k).map f
 | [], _ => rfl
 | _ :: _, 0 => rfl
 | a :: l, k + 1 => by simp [eraseIdx_map f l k]
theorem toList_modify_set {es : Array MapEntry} {l : List MapEntry} {i : Nat} {e : MapEntry} (h : es.toList = l) (he : l[i]? = some e) (f : MapEntry → MapEntry) :
  (es.modify i f).toList = l.set i (f e) := by
 subst h
 apply List.ext_getElem?
 intro j
 rw [List.getElem?_set]
 have hi : i < es.toList.length := (List.getElem?_eq_some_iff.1 he).1
 by_cases hj : i = j
 ·subst hj
  rw [if_pos rfl, if_pos hi]
  have : es[i]? = some e := by simpa using he
  simp [this]
 ·rw [if_neg hj]
  simp [hj]
theorem scalar_same {v : AV} (h : scalarKey v = true) (n : Nat) : Instr.sameBits n (conc ρ v) (conc ρ v) = true := by
 cases v <;> simp [scalarKey] at h <;> cases n <;> first
  | (simp [Instr.sameBits, conc]; done)
  | (simp only [Instr.sameBits, conc]; rw [beq_toListBytes]; simp)
theorem scalars_same : ∀ {l : List AV}, scalarKeys l = true → ∀ n, ((concL ρ l).zip (concL ρ l)).all (fun (x, y) => Instr.sameBits n x y) = true := by
 intro l
 induction l with
 | nil => intro _ n; rfl
 | cons v l ih =>
  intro h n
  have h' : cond (scalarKey v) (scalarKeys l) false = true := h
  cases h1 : scalarKey v <;> rw [h1] at h'
  ·simp at h'
  ·simp only [concL, List.zip_cons_cons, List.all_cons, scalar_same h1, Bool.true_and]
   exact ih h' n
theorem flat_same {v : AV} (h : flatKey v = true) : Instr.sameBits 10000 (conc ρ v) (conc ρ v) = true := by
 unfold flatKey at h
 split at h
 ·rename_i cs
  simp only [conc, Instr.sameBits]
  have := scalars_same (ρ := ρ) h 9999
  simp [this]
 ·exact scalar_same h _
theorem keyThatStays_ok {v : AV} (h : flatKey v = true) : (Instr.keyThatStays (conc ρ v) (conc ρ v)).run P w = .ok (conc ρ v) w := by
 simp [Instr.keyThatStays, flat_same h]
theorem run_getD_key {es' : Array MapEntry} {es : List AEntry} {i : Nat} {e : AEntry} (h : es'.toList = es.map (concE ρ)) (he : es[i]? = some e) :
  es'[i]? = some (concE ρ e) := by
 have : es'.toList[i]? = some (concE ρ e) := by rw [h, List.getElem?_map, he]; rfl
 simpa using this
theorem okE_set {es : List AEntry} {i : Nat} {e : AEntry} (h : ∀ x ∈ es, okE ρ D x) (he : okE ρ D e) : ∀ x ∈ es.set i e, okE ρ D x := fun x hx =>
 (List.mem_or_eq_of_mem_set hx).elim (h x) (fun hx => hx ▸ he)
theorem mapUpdateA_ok (T : TabOk P G) (hH : HRel G ρ D w H) {t : TypeId} {x k v : AV} {H' : Heap} (h : mapUpdateA G H t x k v = some H') (hx : okV ρ D x) (hk : okV ρ D k) (hv : okV ρ D v) :
  ∃ w', (Instr.mapUpdate t (conc ρ x) (conc ρ k) (conc ρ v)).run P w = .ok () w' ∧ HRel G ρ D w' H' ∧ H'.next = H.next := by
 unfold mapUpdateA at h
 split at h
 ·rename_i r
  obtain ⟨kt, hkt, h⟩ := bindO_some h
  obtain ⟨p, hp, h⟩ := bindO_some h
  obtain ⟨o, ho, h⟩ := bindO_some h
  obtain ⟨hu, hok⟩ := keyTypes_some T hkt
  have ck := checkKey_ok (ρ := ρ) (D := D) (w := w) T false 20 10000 (by omega) hok hk
  obtain ⟨m1, es', m2, m3⟩ := map_block hH hx hp
  have fk := findKey_ok (w := w) T hk hok m1 ho
  unfold mapPut at h
  split at h
  ·rename_i i e
   obtain ⟨h1, h⟩ := cond_some h
   obtain ⟨h2, h⟩ := cond_some h
   rw [putMapK_eq] at h
   simp only [Option.some.injEq] at h; subst h
   obtain ⟨_, hie, _⟩ := findA_mem ho
   simp only [Nat.sub_zero] at hie
   have hke := AV.beq_eq _ _ h1
   have hes := run_getD_key m3 hie
   refine ⟨_, ?_, putMap_ok hH hx hp (arr := es'.modify i fun e => { e with key := conc ρ k, val := conc ρ v }) (clock := p.2) ?_ ?_, Heap.next_put _ _ _⟩
   ·simp only [Instr.mapUpdate, Sem.run_bind, run_underlying hu, Result.andThen_ok, conc, run_getObj_map m2, ck, m3, fk, Option.map_some, hes, Option.getD_some]
    rw [show (concE ρ e).key = conc ρ k from by rw [hke]; rfl]
    rw [keyThatStays_ok h2]
    simp only [Result.andThen_ok]
    exact run_setObj_map m2
   ·rw [setNth_eq]
    exact okE_set m1 ⟨hke ▸ hk, hv⟩
   ·rw [setNth_eq, toList_modify_set m3 (by rw [List.getElem?_map, hie]; rfl)]
    rw [List.map_set]
    simp only [concE, hke]
  ·rw [putMapK_eq] at h
   simp only [Option.some.injEq] at h; subst h
   refine ⟨_, ?_, putMap_ok hH hx hp (arr := es'.push { key := conc ρ k, val := conc ρ v, born := p.2 }) (clock := p.2 + 1) ?_ ?_, Heap.next_put _ _ _⟩
   ·simp only [Instr.mapUpdate, Sem.run_bind, run_underlying hu, Result.andThen_ok, conc, run_getObj_map m2, ck, m3, fk, Option.map_none]
    exact run_setObj_map m2
   ·rw [app_eq]
    intro e he
    rcases List.mem_append.1 he with he | he
    ·exact m1 e he
    ·simp only [List.mem_singleton] at he; subst he; exact ⟨hk, hv⟩
   ·rw [app_eq, List.map_append, Array.toList_push, m3]; rfl
 ·simp at h
theorem mapEntryA_ok (T : TabOk P G) (hH : HRel G ρ D w H) {t : TypeId} {x k v : AV} {H' : Heap} (h : mapEntryA G H t x k = some (v, H')) (hx : okV ρ D x) (hk : okV ρ D k) :
  ∃ w', (Instr.mapEntry t (conc ρ x) (conc ρ k)).run P w = .ok (conc ρ v) w' ∧ HRel G ρ D w' H' ∧ H'.next = H.next ∧ okV ρ D v := by
 unfold mapEntryA at h
 split at h
 ·rename_i r
  obtain ⟨kt, hkt, h⟩ := bindO_some h
  obtain ⟨p, hp, h⟩ := bindO_some h
  obtain ⟨o, ho, h⟩ := bindO_some h
  obtain ⟨hu, hok⟩ := keyTypes_some T hkt
  have ck := checkKey_ok (ρ := ρ) (D := D) (w := w) T false 20 10000 (by omega) hok hk
  obtain ⟨m1, es', m2, m3⟩ := map_block hH hx hp
  have fk := findKey_ok (w := w) T hk hok m1 ho
  unfold mapEnt at h
  split at h
  ·rename_i i e
   obtain ⟨h1, h⟩ := cond_some h
   obtain ⟨h2, h⟩ := cond_some h
   simp only [Option.some.injEq, Prod.mk.injEq] at h
   obtain ⟨rfl, rfl⟩ := h
   obtain ⟨_, hie, _⟩ := findA_mem ho
   simp only [Nat.sub_zero] at hie
   have hke := AV.beq_eq _ _ h1
   have hes := run_getD_key m3 hie
   have hlt := (Array.getElem?_eq_some_iff.1 m2).1
   have hmod : (es'.modify i fun e => { e with key := conc ρ k }) = es' := by
    apply Array.ext'
    rw [toList_modify_set m3 (by rw [List.getElem?_map, hie]; rfl), m3]
    apply List.ext_getElem?
    intro j
    rw [List.getElem?_set]
    by_cases hj : i = j
    ·subst hj
     have hlen : i < (List.map (concE ρ) p.1).length := by
      have := (List.getElem?_eq_some_iff.1 hie).1
      simpa using this
     rw [if_pos rfl, if_pos hlen, List.getElem?_map, hie]
     simp [concE, hke]
    ·rw [if_neg hj]
   have hw : ({ w with heap := w.heap.setIfInBounds (ρ.blk r) (.map es' p.2) } : World) = w := by
    have : w.heap.setIfInBounds (ρ.blk r) (.map es' p.2) = w.heap := by
     apply Array.ext_getElem?
     intro j
     by_cases hj : ρ.blk r = j
     ·subst hj; simp [hlt, m2.symm]
     ·rw [Array.getElem?_setIfInBounds_ne hj]
    rw [this]
   refine ⟨w, ?_, hH, rfl, ⟨(m1 e (List.mem_of_getElem? hie)).2, trivial, trivial⟩⟩
   simp only [Instr.mapEntry, Sem.run_bind, run_underlying hu, Result.andThen_ok, conc, run_getObj_map m2, ck, m3, fk, Option.map_some, hes, Option.getD_some]
   rw [show (concE ρ e).key = conc ρ k from by rw [hke]; rfl]
   rw [keyThatStays_ok h2]
   simp only [Result.andThen_ok, hmod, run_setObj_map m2, hw, Sem.run_pure, entryV, conc, concL, goInt, concE]
   rfl
  ·obtain ⟨z, hz, h⟩ := bindO_some h
   rw [putMapK_eq] at h
   simp only [Option.some.injEq, Prod.mk.injEq] at h
   obtain ⟨rfl, rfl⟩ := h
   obtain ⟨_, _, _, _, hc⟩ := T.zero hz
   refine ⟨_, ?_, putMap_ok hH hx hp (arr := es'.push { key := conc ρ k, val := conc ρ z, born := p.2 }) (clock := p.2 + 1) ?_ ?_, Heap.next_put _ _ _, ⟨(hc ρ D).2, trivial, trivial⟩⟩
   ·simp only [Instr.mapEntry, Sem.run_bind, run_underlying hu, Result.andThen_ok, conc, run_getObj_map m2, ck, m3, fk, Option.map_none, T.zeroValue hz ρ, run_setObj_map m2, Sem.run_pure,
     entryV, concL, goInt]
    rfl
   ·rw [app_eq]
    intro e he
    rcases List.mem_append.1 he with he | he
    ·exact m1 e he
    ·simp only [List.mem_singleton] at he; subst he; exact ⟨hk, (hc ρ D).2⟩
   ·rw [app_eq, List.map_append, Array.toList_push, m3]; rfl
 ·simp at h
theorem bornAt_some {n : Nat} : ∀ {es : List AEntry} {i : Nat} {q : Nat × AEntry}, bornAt n es i = some q → i ≤ q.1 ∧ es[q.1 - i]? = some q.2 ∧ q.2.born = n ∧
  (es.map (concE ρ)).findIdx? (fun e => (e.born : Int) == (n : Int)) = some (q.1 - i) ∧ (es.map (concE ρ)).find? (fun e => e.born == n) = some (concE ρ q.2) := by
 intro es
 induction es with
 | nil => intro i q h; have h : none = some q := h; simp at h
 | cons e es ih =>
  intro i q h
  have h' : (bif Nat.beq e.born n then some (i, e) else bornAt n es (i + 1)) = some q := h
  rcases cond_ok h' with ⟨h1, h2⟩ | ⟨h1, h2⟩
  ·have h1 := beq_of h1
   simp only [Option.some.injEq] at h2; subst h2
   refine ⟨Nat.le_refl _, by simp, h1, ?_, ?_⟩
   ·simp [List.findIdx?_cons, concE, h1]
   ·simp [concE, h1]
  ·obtain ⟨g1, g2, g3, g4, g5⟩ := ih h2
   have hne : e.born ≠ n := by rintro he; rw [beq_true he] at h1; simp at h1
   refine ⟨by omega, ?_, g3, ?_, ?_⟩
   ·rw [show q.1 - i = (q.1 - (i + 1)) + 1 from by omega]; simpa using g2
   ·have hne' : (((concE ρ e).born : Int) == (n : Int)) = false := by
     rw [beq_eq_false_iff_ne]; simp only [concE]; omega
    have : q.1 - i = (q.1 - (i + 1)) + 1 := by omega
    rw [this]
    simp only [List.map_cons, List.findIdx?_cons, hne', Bool.false_eq_true, if_false, g4, Option.map_some]
   ·have hne' : (e.born == n) = false := by simpa using hne
    have hne2 : ((concE ρ e).born == n) = false := hne'
    simp only [List.map_cons, List.find?_cons, hne2]
    exact g5
theorem entryStoreA_ok (hH : HRel G ρ D w H) {t : TypeId} {x s v : AV} {H' : Heap} (h : entryStoreA H x s v = some H') (hx : okV ρ D x) (hv : okV ρ D v) :
  ∃ w', (Instr.entryStore t (conc ρ x) (conc ρ s) (conc ρ v)).run P w = .ok () w' ∧ HRel G ρ D w' H' ∧ H'.next = H.next := by
 unfold entryStoreA at h
 split at h
 ·rename_i r k n
  obtain ⟨p, hp, h⟩ := bindO_some h
  obtain ⟨q, hq, h⟩ := bindO_some h
  rw [putMapK_eq] at h
  simp only [Option.some.injEq] at h; subst h
  obtain ⟨m1, es', m2, m3⟩ := map_block hH hx hp
  obtain ⟨_, g2, g3, g4, _⟩ := bornAt_some (ρ := ρ) hq
  simp only [Nat.sub_zero] at g2 g4
  have hfi : es'.findIdx? (fun e => (e.born : Int) == ((n : Nat) : Int)) = some q.1 := by
   have e : es' = es'.toList.toArray := by simp
   rw [e, List.findIdx?_toArray, m3]; exact g4
  refine ⟨_, ?_, putMap_ok hH hx hp (arr := es'.modify q.1 fun e => { e with val := conc ρ v }) (clock := p.2) ?_ ?_, Heap.next_put _ _ _⟩
  ·simp only [Instr.entryStore, Sem.run_bind, conc, run_getObj_map m2, Result.andThen_ok, asInt, asIntOf, Sem.run_pure, Int.ofNat_eq_natCast, hfi]
   exact run_setObj_map m2
  ·rw [setNth_eq]
   have := m1 q.2 (List.mem_of_getElem? g2)
   exact okE_set m1 ⟨this.1, hv⟩
  ·rw [setNth_eq, toList_modify_set m3 (by rw [List.getElem?_map, g2]; rfl)]
   rw [List.map_set]
   rfl
 ·simp at h
theorem deleteA_ok (T : TabOk P G) (hH : HRel G ρ D w H) {t u : TypeId} {x k : AV} {ts : Array TypeId} {H' : Heap} (h : deleteA G H t x k = some H') (hx : okV ρ D x) (hk : okV ρ D k) (ht : ts[0]? = some t) :
  ∃ w', (Builtin.delete_ ts u #[conc ρ x, conc ρ k]).run P w = .ok undef w' ∧ HRel G ρ D w' H' ∧ H'.next = H.next := by
 unfold deleteA at h
 split at h
 ·obtain ⟨kt, hkt, h⟩ := bindO_some h
  simp only [Option.some.injEq] at h; subst h
  obtain ⟨hu, hok⟩ := keyTypes_some T hkt
  have ck := checkKey_ok (ρ := ρ) (D := D) (w := w) T true 20 10000 (by omega) hok hk
  refine ⟨w, ?_, hH, rfl⟩
  simp [Builtin.delete_, ht, run_underlying hu, conc, ck, undef]
 ·rename_i r
  obtain ⟨kt, hkt, h⟩ := bindO_some h
  obtain ⟨p, hp, h⟩ := bindO_some h
  obtain ⟨o, ho, h⟩ := bindO_some h
  obtain ⟨hu, hok⟩ := keyTypes_some T hkt
  have ck := fun b => checkKey_ok (ρ := ρ) (D := D) (w := w) T b 20 10000 (by omega) hok hk
  obtain ⟨m1, es', m2, m3⟩ := map_block hH hx hp
  have fk := findKey_ok (w := w) T hk hok m1 ho
  have hlt := (Array.getElem?_eq_some_iff.1 m2).1
  unfold mapDel at h
  split at h
  ·rename_i i e
   rw [putMapK_eq] at h
   simp only [Option.some.injEq] at h; subst h
   refine ⟨_, ?_, putMap_ok hH hx hp (arr := es'.eraseIdxIfInBounds i) (clock := p.2) ?_ ?_, Heap.next_put _ _ _⟩
   ·simp only [Builtin.delete_, ht, List.getElem?_toArray, List.getElem?_cons_zero, List.getElem?_cons_succ, Sem.run_bind, run_underlying hu, Result.andThen_ok, conc, run_getObj_map m2, ck, m3, fk,
     Option.map_some, run_setObj_map m2, Sem.run_pure]
    rfl
   ·rw [delNth_eq]
    intro e he
    exact m1 e (List.mem_of_mem_eraseIdx he)
   ·rw [delNth_eq, Array.toList_eraseIdxIfInBounds, m3, eraseIdx_map]
  ·simp only [Option.some.injEq] at h; subst h
   have hw : ({ w with heap := w.heap.setIfInBounds (ρ.blk r) (.map es' p.2) } : World) = w := by
    have : w.heap.setIfInBounds (ρ.blk r) (.map es' p.2) = w.heap := by
     apply Array.ext_getElem?
     intro j
     by_cases hj : ρ.blk r = j
     ·subst hj; simp [hlt, m2.symm]
     ·rw [Array.getElem?_setIfInBounds_ne hj]
    rw [this]
   refine ⟨w, ?_, hH, rfl⟩
   simp only [Builtin.delete_, ht, List.getElem?_toArray, List.getElem?_cons_zero, List.getElem?_cons_succ, Sem.run_bind, run_underlying hu, Result.andThen_ok, conc, run_getObj_map m2, ck, m3, fk,
     Option.map_none, run_setObj_map m2, Sem.run_pure, hw]
   rfl
 ·simp at h
end
end Go.Sx
namespace Go.Sx
theorem leftOf_eq (seen : List Nat) : ∀ (es : List AEntry), leftOf seen es = es.filter fun e => !seen.contains e.born := by
 intro es
 induction es with
 | nil => rfl
 | cons e es ih =>
  have : leftOf seen (e :: es) = cond (hasNat e.born seen) (leftOf seen es) (e :: leftOf seen es) := rfl
  rw [this, ih, hasNat_eq]
  cases h : seen.contains e.born
  ·rw [List.filter_cons_of_pos (by rw [h]; rfl)]; rfl
  ·rw [List.filter_cons_of_neg (by rw [h]; simp)]; rfl
theorem oldOf_eq (since : Nat) : ∀ (es : List AEntry), oldOf since es = es.filter fun e => decide (e.born < since) := by
 intro es
 induction es with
 | nil => rfl
 | cons e es ih =>
  have : oldOf since (e :: es) = cond (Nat.blt e.born since) (e :: oldOf since es) (oldOf since es) := rfl
  rw [this, ih]
  cases h : Nat.blt e.born since
  ·rw [List.filter_cons_of_neg (by intro h'; have := of_decide_eq_true h'; rw [show Nat.blt e.born since = true from by simpa [Nat.blt_eq] using this] at h; simp at h)]; rfl
  ·rw [List.filter_cons_of_pos (by simpa using blt_lt h)]; rfl
theorem newOf_eq (since : Nat) : ∀ (es : List AEntry), newOf since es = es.filter fun e => decide (e.born ≥ since) := by
 intro es
 induction es with
 | nil => rfl
 | cons e es ih =>
  have : newOf since (e :: es) = cond (Nat.blt e.born since) (newOf since es) (e :: newOf since es) := rfl
  rw [this, ih]
  cases h : Nat.blt e.born since
  ·have : ¬ e.born < since := by intro h'; rw [show Nat.blt e.born since = true from by simpa [Nat.blt_eq] using h'] at h; simp at h
   rw [List.filter_cons_of_pos (by simp; omega)]; rfl
  ·have := blt_lt h
   rw [List.filter_cons_of_neg (by simp; omega)]; rfl
theorem someOld_eq (last : Nat) : ∀ (es : List AEntry), someOld last es = !es.all fun e => decide (e.born ≥ last) := by
 intro es
 induction es with
 | nil => rfl
 | cons e es ih =>
  have : someOld last (e :: es) = cond (Nat.blt e.born last) true (someOld last es) := rfl
  rw [this, ih]
  cases h : Nat.blt e.born last
  ·have : ¬ e.born < last := by intro h'; rw [show Nat.blt e.born last = true from by simpa [Nat.blt_eq] using h'] at h; simp at h
   have : decide (e.born ≥ last) = true := by simp; omega
   simp [List.all_cons, this]
  ·have := blt_lt h
   have : decide (e.born ≥ last) = false := by simp; omega
   simp [List.all_cons, this]
section
variable {P : Program} {G : Tab} {ρ : Env} {D : Nat → Prop} {w : World} {H : Heap}
theorem run_getObj_iter {r : Nat} {m : Option Nat} {a : Nat} {s : Array Nat} {c : Nat} (h : w.heap[r]? = some (.mapIter m a s c)) : (getObj r).run P w = .ok (.mapIter m a s c) w := by
 simp [getObj, Sem.run, h]
theorem run_setObj_iter {r : Nat} {m : Option Nat} {a : Nat} {s : Array Nat} {c : Nat} {o : Obj} (h : w.heap[r]? = some (.mapIter m a s c)) : (setObj r o).run P w = .ok () { w with heap := w.heap.setIfInBounds r o } := by
 simp [setObj, Sem.run, h]
theorem run_getObj_str {r : Nat} {s : ByteArray} {p : Nat} (h : w.heap[r]? = some (.stringIter s p)) : (getObj r).run P w = .ok (.stringIter s p) w := by
 simp [getObj, Sem.run, h]
theorem run_setObj_str {r : Nat} {s : ByteArray} {p : Nat} {o : Obj} (h : w.heap[r]? = some (.stringIter s p)) : (setObj r o).run P w = .ok () { w with heap := w.heap.setIfInBounds r o } := by
 simp [setObj, Sem.run, h]
theorem putObj_ok (hH : HRel G ρ D w H) {b : Nat} {o o' : ABlk} {x : Obj} (hb : D b) (ho : H.blks.get b = some o)
  (hn : BRel G ρ D { w with heap := w.heap.setIfInBounds (ρ.blk b) x } b o') (hst : ¬ StillB (some o)) : HRel G ρ D { w with heap := w.heap.setIfInBounds (ρ.blk b) x } (putBlk H b (some o')) :=
 hH.write hb ho hn (fun j hj => by simp [Array.getElem?_setIfInBounds_ne (Ne.symm hj)]) hst
theorem run_choose_map (w : World) (n : Nat) : ∃ c w', (choose (.mapNext n)).run P w = .ok c w' ∧ (0 < n → c < n) ∧ Like w' w := by
 rw [run_choose]
 by_cases h : n ≤ 1
 ·refine ⟨0, w, ?_, fun h => h, ⟨rfl, rfl, rfl, rfl⟩⟩
  simp [Question.forced, h]
 ·refine ⟨w.tape w.drawn (.mapNext n) % n, { w with drawn := w.drawn + 1 }, ?_, fun h => Nat.mod_lt _ h, ⟨rfl, rfl, rfl, rfl⟩⟩
  simp [Question.forced, h, Question.cut]
theorem mem_nextEach {it m since clock : Nat} {seen : List Nat} {e : AEntry} : ∀ {es : List AEntry}, e ∈ es →
  (AV.tuple [.bool true, e.key, e.val], putBlk H it (some (.mapIter (some m) since (seen ++ [e.born]) clock))) ∈ nextEach H it m since seen clock es := by
 intro es
 induction es with
 | nil => intro h; simp at h
 | cons x es ih =>
  intro h
  have e1 : nextEach H it m since seen clock (x :: es) =
    (AV.tuple [.bool true, x.key, x.val], putBlk H it (some (.mapIter (some m) since (app seen [x.born]) clock))) :: nextEach H it m since seen clock es := by
   have e0 : nextEach H it m since seen clock (x :: es) =
    putBlkK H it (some (.mapIter (some m) since (app seen [x.born]) clock)) (fun H' => (AV.tuple [.bool true, x.key, x.val], H') :: nextEach H it m since seen clock es) := rfl
   rw [e0, putBlkK_eq]
  rw [e1, app_eq]
  rcases List.mem_cons.1 h with h | h
  ·subst h; simp
  ·exact List.mem_cons_of_mem _ (ih h)
theorem nextA_ok (hH : HRel G ρ D w H) {x : AV} {s : Bool} {t : TypeId} {l : List VH} (h : nextA H x s = some l) (hx : okV ρ D x) :
  ∃ p ∈ l, ∃ w', (Instr.next (conc ρ x) s t).run P w = .ok (conc ρ p.1) w' ∧ HRel G ρ D w' p.2 ∧ p.2.next = H.next ∧ okV ρ D p.1 := by
 unfold nextA at h
 split at h
 ·rename_i it
  have hbase : ∀ {m since seen last}, H.blks.get it = some (.mapIter m since seen last) → conc ρ (.ptr it 0) = .pointer (some ⟨ρ.blk it, 0, none⟩) := by
   intro m since seen last hg
   obtain ⟨_, h2, _⟩ := hH.blk it _ hx hg
   simp [conc, h2]
  unfold nextIn at h
  split at h
  ·rename_i a b c hg
   simp only [Option.some.injEq] at h; subst h
   obtain ⟨_, _, h3⟩ := hH.blk it _ hx hg
   refine ⟨(overV, H), by simp, w, ?_, hH, rfl, ⟨trivial, trivial⟩⟩
   rw [hbase hg]
   simp [Instr.next, run_getObj_iter h3, overV, conc, concL]
  ·rename_i m since seen last hg
   obtain ⟨p, hp, h⟩ := bindO_some h
   obtain ⟨hm, _, h3⟩ := hH.blk it _ hx hg
   obtain ⟨m1, es', m2, m3⟩ := map_block hH (hm m rfl) hp
   unfold nextMap at h
   obtain ⟨hc, h⟩ := cond_some h
   have hguard : (!seen.toArray.isEmpty && !es'.isEmpty && es'.all (·.born ≥ last)) = false := by
    have e1 : es'.all (fun e => decide (e.born ≥ last)) = p.1.all fun e => decide (e.born ≥ last) := by
     rw [← Array.all_toList, m3, List.all_map]; rfl
    rw [e1]
    cases seen with
    | nil => simp
    | cons a seen =>
     cases hes : p.1 with
     | nil =>
      have : es' = #[] := by apply Array.ext'; rw [m3, hes]; rfl
      simp [this]
     | cons e es =>
      rw [hes] at hc
      simp only [isNil, cond_false] at hc
      rw [someOld_eq] at hc
      rw [← hes] at hc ⊢
      simp only [Bool.not_eq_true'] at hc
      rw [hc]; simp
   have e2 : (es'.filter fun e => !seen.toArray.contains e.born).toList = (leftOf seen p.1).map (concE ρ) := by
    rw [Array.toList_filter, m3, leftOf_eq, List.filter_map]
    congr 1
    apply List.filter_congr
    intro e _
    simp only [Function.comp, concE]
    congr 1
    simp
   have e3 : ((es'.filter fun e => !seen.toArray.contains e.born).filter (·.born < since)).toList = (oldOf since (leftOf seen p.1)).map (concE ρ) := by
    rw [Array.toList_filter, e2, oldOf_eq, List.filter_map]; rfl
   have e4 : ((es'.filter fun e => !seen.toArray.contains e.born).filter (·.born ≥ since)).toList = (newOf since (leftOf seen p.1)).map (concE ρ) := by
    rw [Array.toList_filter, e2, newOf_eq, List.filter_map]; rfl
   have hsub : ∀ e, e ∈ oldOf since (leftOf seen p.1) ∨ e ∈ newOf since (leftOf seen p.1) → e ∈ p.1 := by
    intro e he
    rw [oldOf_eq, newOf_eq, leftOf_eq] at he
    rcases he with he | he <;> exact (List.mem_filter.1 (List.mem_filter.1 he).1).1
   -- the step that takes an entry
   have take : ∀ (w₁ : World) (e : AEntry), Like w₁ w → e ∈ p.1 →
     ∃ w', ((do setObj (ρ.blk it) (.mapIter (some (ρ.blk m)) since (seen.toArray.push (concE ρ e).born) p.2); pure (.tuple #[.bool true, (concE ρ e).key, (concE ρ e).val]) : Sem Value)).run P w₁ =
      .ok (conc ρ (.tuple [.bool true, e.key, e.val])) w' ∧ HRel G ρ D w' (putBlk H it (some (.mapIter (some m) since (seen ++ [e.born]) p.2))) ∧
      okV ρ D (.tuple [.bool true, e.key, e.val]) := by
    intro w₁ e hw₁ he
    have h3' : w₁.heap[ρ.blk it]? = some (.mapIter (some (ρ.blk m)) since seen.toArray last) := by rw [hw₁.heap]; exact h3
    have hlt := (Array.getElem?_eq_some_iff.1 h3').1
    refine ⟨_, ?_, putObj_ok (hH.same hw₁) hx hg (o' := .mapIter (some m) since (seen ++ [e.born]) p.2) (x := .mapIter (some (ρ.blk m)) since (seen.toArray.push (concE ρ e).born) p.2) ?_ (fun h => h), ?_⟩
    ·simp only [Sem.run_bind, run_setObj_iter h3', Result.andThen_ok, Sem.run_pure, conc, concL, concE]
    ·refine ⟨hm, (hH.blk it _ hx hg).2.1, ?_⟩
     simp [hlt, concE]
    ·exact ⟨trivial, (m1 e he).1, (m1 e he).2, trivial⟩
   generalize oldOf since (leftOf seen p.1) = O at *
   generalize newOf since (leftOf seen p.1) = N at *
   generalize hA : (es'.filter fun e => !seen.toArray.contains e.born).filter (·.born < since) = A at *
   generalize hB : (es'.filter fun e => !seen.toArray.contains e.born).filter (·.born ≥ since) = B at *
   -- what the step does once the choice is made
   have run1 : (Instr.next (.pointer (some ⟨ρ.blk it, 0, none⟩)) false t).run P w =
     ((choose (.mapNext ((if A.isEmpty then #[none] else #[]) ++ (A ++ B).map some : Array (Option MapEntry)).size)).run P w).andThen fun c w₁ =>
      ((match ((if A.isEmpty then #[none] else #[]) ++ (A ++ B).map some : Array (Option MapEntry))[c]? with
       | some (some e) => do setObj (ρ.blk it) (.mapIter (some (ρ.blk m)) since (seen.toArray.push e.born) p.2); pure (.tuple #[.bool true, e.key, e.val])
       | some none => pure (.tuple #[.bool false])
       | none => stuck "Next: no such candidate") : Sem Value).run P w₁ := by
    simp only [Instr.next, Sem.run_bind, run_getObj_iter h3, Result.andThen_ok, Option.map_some, run_getObj_map m2, hguard, Bool.false_eq_true, if_false, hA, hB]
    rfl
   rw [hbase hg, run1]
   obtain ⟨c, w₁, hc1, hc2, hc3⟩ := run_choose_map (P := P) w ((if A.isEmpty then #[none] else #[]) ++ (A ++ B).map some : Array (Option MapEntry)).size
   rw [hc1]
   simp only [Result.andThen_ok]
   have hAB : ∀ j : Nat, ((A ++ B).map some : Array (Option MapEntry))[j]? = ((O ++ N).map (fun e => some (concE ρ e)) : List (Option MapEntry))[j]? := by
    intro j
    have : ((A ++ B).map some : Array (Option MapEntry)).toList = (O ++ N).map fun e => some (concE ρ e) := by
     rw [Array.toList_map, Array.toList_append, e3, e4, ← List.map_append, List.map_map]; rfl
    rw [← this, Array.getElem?_toList]
   -- an entry is taken
   have taken : ∀ e ∈ O ++ N, ((if A.isEmpty then #[none] else #[]) ++ (A ++ B).map some : Array (Option MapEntry))[c]? = some (some (concE ρ e)) →
     ∃ w', ((match ((if A.isEmpty then #[none] else #[]) ++ (A ++ B).map some : Array (Option MapEntry))[c]? with
       | some (some e) => do setObj (ρ.blk it) (.mapIter (some (ρ.blk m)) since (seen.toArray.push e.born) p.2); pure (.tuple #[.bool true, e.key, e.val])
       | some none => pure (.tuple #[.bool false])
       | none => stuck "Next: no such candidate") : Sem Value).run P w₁ = .ok (conc ρ (.tuple [.bool true, e.key, e.val])) w' ∧
      HRel G ρ D w' (putBlk H it (some (.mapIter (some m) since (seen ++ [e.born]) p.2))) ∧ okV ρ D (.tuple [.bool true, e.key, e.val]) := by
    intro e he hce
    obtain ⟨w', r1, r2, r3⟩ := take w₁ e hc3 (hsub e (List.mem_append.1 he))
    exact ⟨w', by rw [hce]; exact r1, r2, r3⟩
   cases O with
   | nil =>
    have hAe : A = #[] := by apply Array.ext'; rw [e3]; rfl
    simp only [Option.some.injEq] at h; subst h
    subst hAe
    simp only [Array.isEmpty_empty, if_true, Array.empty_append, List.nil_append] at taken hc2 hAB ⊢
    cases c with
    | zero =>
     refine ⟨(overV, H), by simp, w₁, ?_, hH.same hc3, rfl, trivial, trivial⟩
     have h0 : (#[none] ++ B.map some : Array (Option MapEntry))[0]? = some none := by
      rw [Array.getElem?_append_left (by simp)]; rfl
     rw [h0]
     simp [overV, conc, concL]
    | succ c =>
     have hlt : c < N.length := by
      have := hc2 (by simp; omega)
      have hB' : B.size = N.length := by rw [← Array.length_toList, e4, List.length_map]
      simp [hB'] at this; omega
     have hce : (#[none] ++ B.map some : Array (Option MapEntry))[c + 1]? = some (some (concE ρ N[c])) := by
      rw [Array.getElem?_append_right (by simp)]
      have := hAB c
      simp only [List.size_toArray, List.length_cons, List.length_nil, Nat.zero_add, Nat.add_one_sub_one]
      rw [this]; simp [hlt]
     obtain ⟨w', r1, r2, r3⟩ := taken N[c] (List.getElem_mem hlt) hce
     exact ⟨_, List.mem_cons_of_mem _ (mem_nextEach (List.getElem_mem hlt)), w', r1, r2, Heap.next_put _ _ _, r3⟩
   | cons o O =>
    have hAe : A.isEmpty = false := by
     have : A.size = (o :: O).length := by rw [← Array.length_toList, e3, List.length_map]
     simp [Array.isEmpty, this]
    simp only [Option.some.injEq] at h; subst h
    simp only [hAe, Bool.false_eq_true, if_false, Array.empty_append] at taken hc2 hAB ⊢
    have hlt : c < (o :: O ++ N).length := by
     have hA' : A.size = (o :: O).length := by rw [← Array.length_toList, e3, List.length_map]
     have hB' : B.size = N.length := by rw [← Array.length_toList, e4, List.length_map]
     have := hc2 (by simp [hA']; omega)
     simp [hA', hB'] at this
     simp; omega
    have hce : ((A ++ B).map some : Array (Option MapEntry))[c]? = some (some (concE ρ (o :: O ++ N)[c])) := by
     rw [hAB c, List.getElem?_map, List.getElem?_eq_getElem hlt]; rfl
    obtain ⟨w', r1, r2, r3⟩ := taken (o :: O ++ N)[c] (List.getElem_mem hlt) hce
    rw [app_eq]
    exact ⟨_, mem_nextEach (List.getElem_mem hlt), w', r1, r2, Heap.next_put _ _ _, r3⟩
  ·rename_i str pos hg
   obtain ⟨h2, h3⟩ := hH.blk it _ hx hg
   have hb : conc ρ (.ptr it 0) = .pointer (some ⟨ρ.blk it, 0, none⟩) := by simp [conc, h2]
   rw [hb]
   unfold nextStr at h
   split at h
   ·rename_i hn
    rw [nth_eq] at hn
    simp only [Option.some.injEq] at h; subst h
    have hp : ¬ pos < str.length := by simpa using hn
    refine ⟨(overV, H), by simp, w, ?_, hH, rfl, trivial, trivial⟩
    simp [Instr.next, run_getObj_str h3, size_mk, hp, overV, conc, concL]
   ·rename_i b hn
    rw [nth_eq] at hn
    obtain ⟨h1, h⟩ := cond_some h
    have h1 := blt_lt h1
    rw [forceN_eq, putBlkK_eq] at h
    simp only [Option.some.injEq] at h; subst h
    obtain ⟨hp, hbe⟩ := List.getElem?_eq_some_iff.1 hn
    have hlt := (Array.getElem?_eq_some_iff.1 h3).1
    have hdec : Utf8.decode ⟨str.toArray⟩ pos = (b.toNat, 1) := by
     have : (ByteArray.mk str.toArray).get! (pos + 0) = b := by
      simp [ByteArray.get!, hn]
     simp only [Utf8.decode, this]
     rw [if_pos h1]
    refine ⟨_, List.mem_singleton.2 rfl, _, ?_, putObj_ok hH hx hg (o' := .strIter str (pos + 1)) (x := .stringIter ⟨str.toArray⟩ (pos + 1)) ?_ (fun h => h), Heap.next_put _ _ _, ⟨trivial, trivial, trivial, trivial⟩⟩
    ·simp only [Instr.next, Sem.run_bind, run_getObj_str h3, Result.andThen_ok, size_mk, hp, if_true, hdec, run_setObj_str h3, Sem.run_pure, conc, concL, goInt]
     rfl
    ·exact ⟨h2, by simp [hlt]⟩
  ·simp at h
 ·simp at h
end
end Go.Sx
namespace Go.Sx
theorem lastOf_eq : ∀ (l : List Nat), lastOf l = l.getLast? := by
 intro l
 induction l with
 | nil => rfl
 | cons a l ih =>
  have h : lastOf (a :: l) = (match lastOf l with | none => some a | some b => some b) := rfl
  rw [h, ih]
  cases l with
  | nil => rfl
  | cons b l => simp [List.getLast?_cons_cons]; cases h : (b :: l).getLast? <;> simp_all
section
variable {P : Program} {G : Tab} {ρ : Env} {D : Nat → Prop} {w : World} {H : Heap}
def Makes (P : Program) (G : Tab) (ρ : Env) (D : Nat → Prop) (w : World) (H : Heap) (s : Sem Value) (v : AV) (H' : Heap) : Prop :=
 ∃ ρ' D' w', s.run P w = .ok (conc ρ' v) w' ∧ HRel G ρ' D' w' H' ∧ Ext H ρ D H' ρ' D' ∧ okV ρ' D' v
theorem Makes.of_val {s : Sem Value} {v : AV} (hH : HRel G ρ D w H) (h : Val P ρ D w s v) : Makes P G ρ D w H s v H := ⟨ρ, D, w, h.1, hH, .refl _ _ _, h.2⟩
theorem newPtr_ok (hH : HRel G ρ D w H) {o : ABlk} {x : Obj} {v : AV} {H' : Heap} (h : newPtr H o = some (v, H'))
  (hn : BRel G (ρ.at H.next w.heap.size 0 0) (fun x => D x ∨ x = H.next) { w with heap := w.heap.push x } H.next o) :
  Makes P G ρ D w H (do pure (.pointer (some ⟨← newObj x, 0, none⟩))) v H' := by
 unfold newPtr at h
 rw [newA_eq] at h
 simp only [Option.some.injEq, Prod.mk.injEq] at h
 obtain ⟨rfl, rfl⟩ := h
 obtain ⟨r1, r2⟩ := hH.pushEnd (w' := { w with heap := w.heap.push x }) o x 0 rfl hn
 exact ⟨_, _, _, by simp [conc, Env.at], r1, r2, .inr rfl⟩
theorem rangeA_ok (T : TabOk P G) (hH : HRel G ρ D w H) {t : TypeId} {x v : AV} {H' : Heap} (h : rangeA G H t x = some (v, H')) (hx : okV ρ D x) :
  Makes P G ρ D w H (Instr.range t (conc ρ x)) v H' := by
 have hfresh : ¬ D H.next := fun hd => Nat.lt_irrefl _ (hH.lt _ hd)
 obtain ⟨d, hd, g⟩ := bindO_some h
 clear h
 have hu := T.und hd
 unfold rangeD at g
 split at g
 ·rename_i s
  have := newPtr_ok (P := P) hH (x := .stringIter ⟨s.toArray⟩ 0) g ⟨by simp [Env.at], by simp [Env.at]⟩
  simpa only [Instr.range, Sem.run_bind, Makes, run_underlying hu, Result.andThen_ok, conc, Sem.run_pure] using this
 ·have := newPtr_ok (P := P) hH (x := .mapIter none 0 #[] 0) g ⟨by simp, by simp [Env.at], by simp [Env.at]⟩
  simpa only [Instr.range, Sem.run_bind, Makes, run_underlying hu, Result.andThen_ok, conc, Sem.run_pure] using this
 ·rename_i r
  obtain ⟨p, hp, g⟩ := bindO_some g
  obtain ⟨m1, es', m2, m3⟩ := map_block hH hx hp
  have hne : r ≠ H.next := fun e => hfresh (e ▸ hx)
  have := newPtr_ok (P := P) hH (x := .mapIter (some (ρ.blk r)) p.2 #[] p.2) g ⟨fun q hq => by simp only [Option.some.injEq] at hq; subst hq; exact .inl hx, by simp [Env.at], by simp [Env.at, hne]⟩
  simpa only [Instr.range, Sem.run_bind, Makes, run_underlying hu, Result.andThen_ok, conc, Sem.run_pure, run_getObj_map m2] using this
 ·simp at g
theorem entryA_ok (hH : HRel G ρ D w H) {x v : AV} (h : entryA H x = some v) (hx : okV ρ D x) : Val P ρ D w (Instr.entry (conc ρ x)) v := by
 unfold entryA at h
 split at h
 ·rename_i it
  unfold entryIn at h
  split at h
  ·rename_i m since seen stepped hg
   obtain ⟨stamp, hs, h⟩ := bindO_some h
   obtain ⟨p, hp, h⟩ := bindO_some h
   obtain ⟨hc, h⟩ := cond_some h
   obtain ⟨q, hq, h⟩ := bindO_some h
   simp only [Option.some.injEq] at h; subst h
   have hc := beq_of hc
   obtain ⟨hm, h2, h3⟩ := hH.blk it _ hx hg
   obtain ⟨m1, es', m2, m3⟩ := map_block hH (hm m rfl) hp
   obtain ⟨_, g2, g3, _, g5⟩ := bornAt_some (ρ := ρ) hq
   have hf : es'.find? (fun e => e.born == stamp) = some (concE ρ q.2) := by
    rw [← Array.find?_toList, m3]; exact g5
   rw [lastOf_eq] at hs
   have hb : seen.toArray.back? = some stamp := by simp [hs]
   have hok := m1 q.2 (List.mem_of_getElem? g2)
   refine ⟨?_, hok.1, hok.2, trivial⟩
   simp only [Instr.entry, conc, h2, Nat.zero_add, Sem.run_bind, run_getObj_iter h3, Result.andThen_ok, Option.map_some, hb, run_getObj_map m2, hc, bne_self_eq_false, Bool.false_eq_true, if_false, hf,
    Sem.run_pure, concL, concE]
  ·simp at h
 ·simp at h
theorem clearA_ok (T : TabOk P G) (hH : HRel G ρ D w H) {x : AV} {H' : Heap} {ts : Array TypeId} {t u : TypeId} {d : TypeDesc} (h : clearA H x = some H') (hx : okV ρ D x) (ht : ts[0]? = some t) (hd : G.und t = some d) :
  ∃ w', (Builtin.clear_ ts u #[conc ρ x]).run P w = .ok undef w' ∧ HRel G ρ D w' H' ∧ H'.next = H.next := by
 have hu := T.und hd
 unfold clearA at h
 split at h
 ·simp only [Option.some.injEq] at h; subst h
  refine ⟨w, ?_, hH, rfl⟩
  simp only [Builtin.clear_, ht, List.getElem?_toArray, List.getElem?_cons_zero, Sem.run_bind, run_underlying hu, Result.andThen_ok, conc, Sem.run_pure]
  cases d <;> rfl
 ·simp only [Option.some.injEq] at h; subst h
  refine ⟨w, ?_, hH, rfl⟩
  simp only [Builtin.clear_, ht, List.getElem?_toArray, List.getElem?_cons_zero, Sem.run_bind, run_underlying hu, Result.andThen_ok, conc, Sem.run_pure]
  cases d <;> rfl
 ·rename_i r
  obtain ⟨p, hp, h⟩ := bindO_some h
  rw [putMapK_eq] at h
  simp only [Option.some.injEq] at h; subst h
  obtain ⟨m1, es', m2, m3⟩ := map_block hH hx hp
  refine ⟨_, ?_, putMap_ok hH hx hp (es := []) (arr := #[]) (clock := p.2) (by simp) rfl, Heap.next_put _ _ _⟩
  simp only [Builtin.clear_, ht, List.getElem?_toArray, List.getElem?_cons_zero, Sem.run_bind, run_underlying hu, Result.andThen_ok, conc, run_getObj_map m2, run_setObj_map m2, Sem.run_pure]
  cases d <;> simp [undef]
 ·simp at h
theorem foldl_over (off : Nat) : ∀ (vs : List Value) (i : Nat) (arr : Array Value), off + i + vs.length ≤ arr.size →
  ((vs.zipIdx i).foldl (fun cs (c, j) => cs.setIfInBounds (off + j) c) arr).toList = arr.toList.take (off + i) ++ vs ++ arr.toList.drop (off + i + vs.length) := by
 intro vs
 induction vs with
 | nil => intro i arr _; simp
 | cons v vs ih =>
  intro i arr h
  simp only [List.length_cons] at h
  simp only [List.zipIdx_cons, List.foldl_cons]
  rw [ih (i + 1) _ (by simp; omega)]
  have hlt : off + i < arr.toList.length := by simp; omega
  simp only [Array.toList_setIfInBounds]
  rw [show off + (i + 1) = (off + i) + 1 from by omega]
  rw [List.take_set, List.drop_set_of_lt (by omega)]
  rw [List.take_succ_eq_append_getElem hlt]
  have : (arr.toList.take (off + i) ++ [arr.toList[off + i]]).set (off + i) v = arr.toList.take (off + i) ++ [v] := by
   rw [List.set_append_right _ _ (by simp; omega)]
   have : off + i - (arr.toList.take (off + i)).length = 0 := by simp; omega
   rw [this]; rfl
  rw [this]
  simp [Nat.add_assoc, Nat.add_comm 1]
theorem fillA_ok {place place' : Nat → Option (Nat × Nat)} (hp : ∀ i p, place i = some p → place' i = some p) : ∀ {ps : List (Nat × AV)} {cells cs : List AV}, okL ρ D cells → (∀ q ∈ ps, okV ρ D q.2) →
  fillA place ps cells = some cs → Instr.fill place' (concL ρ cells).toArray (ps.map fun q => (q.1, conc ρ q.2)) = some (concL ρ cs).toArray ∧ okL ρ D cs := by
 intro ps
 induction ps with
 | nil => intro cells cs hc _ h; have h : some cells = some cs := h; simp only [Option.some.injEq] at h; subst h; exact ⟨rfl, hc⟩
 | cons q ps ih =>
  intro cells cs hc hq h
  have h' : bindO (place q.1) (fun p => bindO (fillOne cells q.2 p) (fillA place ps)) = some cs := h
  obtain ⟨p, hpl, h'⟩ := bindO_some h'
  obtain ⟨c1, hf, h'⟩ := bindO_some h'
  unfold fillOne at hf
  obtain ⟨hl, hf⟩ := cond_some hf
  have hl := beq_of hl
  rw [len_eq] at hl
  rw [spliceN_eq] at hf
  split at hf
  ·rename_i hle
   simp only [Option.some.injEq] at hf
   have hq0 := hq q (by simp)
   have hc1 : okL ρ D c1 := by subst hf; exact okL_append (okL_append (okL_take hc _) (ok_cells hq0)) (okL_drop hc _)
   obtain ⟨r1, r2⟩ := ih hc1 (fun x hx => hq x (by simp [hx])) h'
   refine ⟨?_, r2⟩
   obtain ⟨off, size⟩ := p
   simp only [List.map_cons, Instr.fill, hp _ _ hpl]
   have e1 : (conc ρ q.2).cells = (concL ρ q.2.cells).toArray := conc_cells _
   have hlen : (concL ρ q.2.cells).length = q.2.cells.length := by simp [concL_eq]
   rw [e1]
   simp only [List.size_toArray, hlen]
   rw [if_neg (by simp only [Bool.or_eq_true, decide_eq_true_eq, concL_eq, List.length_map]; simp only at hl hle; omega)]
   rw [← r1]
   congr 1
   apply Array.ext'
   have := foldl_over off (concL ρ q.2.cells) 0 (concL ρ cells).toArray (by rw [hlen]; simp only [List.size_toArray, concL_eq, List.length_map]; simpa using hle)
   rw [← Array.foldl_toList]
   simp only [Array.toList_zipIdx] at this ⊢
   rw [this]
   subst hf
   simp [concL_eq, List.map_take, List.map_drop]
  ·simp at hf
theorem evParts_ok {tm : T AV} {ev : Operand → Value} (he : EvOk G ρ D tm ev) : ∀ {l : List (Nat × Operand)} {ps : List (Nat × AV)}, evParts G tm l = some ps →
  l.map (fun (i, x) => (i, ev x)) = ps.map (fun q => (q.1, conc ρ q.2)) ∧ ∀ q ∈ ps, okV ρ D q.2 := by
 intro l
 induction l with
 | nil => intro ps h; have h : some [] = some ps := h; simp only [Option.some.injEq] at h; subst h; exact ⟨rfl, by simp⟩
 | cons p l ih =>
  intro ps h
  obtain ⟨x, m, hx, hm, rfl⟩ := consOO_some (a := pairO p.1 (aev G tm p.2)) (o := evParts G tm l) h
  obtain ⟨v, hv, hx⟩ := bindO_some hx
  simp only [Option.some.injEq] at hx; subst hx
  obtain ⟨h1, h2⟩ := he p.2 v hv
  obtain ⟨h3, h4⟩ := ih hm
  refine ⟨by simp [h1, h3], fun q hq => ?_⟩
  rcases List.mem_cons.1 hq with rfl | hq
  ·exact h2
  ·exact h4 q hq
theorem placesOf_ok (T : TabOk P G) : ∀ {fs : List Field} {ps : List (Nat × Nat)}, placesOf G fs = some ps → fs.mapM (fun f => (P.info? f.type).map fun i => (f.offset, i.size)) = some ps := by
 intro fs
 induction fs with
 | nil => intro ps h; have h : some [] = some ps := h; simp only [Option.some.injEq] at h; subst h; rfl
 | cons f fs ih =>
  intro ps h
  obtain ⟨x, m, hx, hm, rfl⟩ := consOO_some (a := placeO f (G.size f.type)) (o := placesOf G fs) h
  unfold placeO at hx
  split at hx
  ·simp at hx
  ·rename_i z hz
   simp only [Option.some.injEq] at hx; subst hx
   obtain ⟨i, _, hi, hs⟩ := T.info hz
   rw [List.mapM_cons, ih hm]
   simp [hi, hs]
theorem buildA_ok (T : TabOk P G) {t : TypeId} {ps : List (Nat × AV)} {v : AV} (h : buildA G t ps = some v) (hp : ∀ q ∈ ps, okV ρ D q.2) :
  Val P ρ D w (Instr.build t (ps.map fun q => (q.1, conc ρ q.2)).toArray) v := by
 obtain ⟨zero, hz, h⟩ := bindO_some h
 obtain ⟨d, hd, h⟩ := bindO_some h
 have hu := T.und hd
 obtain ⟨it, z, hi, hiz, hc⟩ := T.zero hz
 obtain ⟨c1, c2⟩ := hc ρ D
 have hzc : z.cells = (concL ρ zero.cells).toArray := by rw [← c1]; exact conc_cells _
 unfold buildD at h
 split at h
 ·rename_i fs
  obtain ⟨pl, hpl, h⟩ := bindO_some h
  obtain ⟨cs, hcs, rfl⟩ := aggO_some h
  obtain ⟨f1, f2⟩ := fillA_ok (place' := (pl.toArray[·]?)) (fun i p hip => by rw [nth_eq] at hip; simpa using hip) (ok_cells c2) hp hcs
  refine ⟨?_, f2⟩
  refine run_build w t _ _ ?_
  simp only [Program.built, hi, hu, hiz, placesOf_ok T hpl, hzc]
  simpa using f1
 ·rename_i n e
  obtain ⟨s, hs, h⟩ := bindO_some h
  obtain ⟨cs, hcs, rfl⟩ := aggO_some h
  obtain ⟨ie, _, hie, hsz⟩ := T.info hs
  obtain ⟨f1, f2⟩ := fillA_ok (place' := fun i => some (i * s, s)) (fun i p hip => hip) (ok_cells c2) hp hcs
  refine ⟨?_, f2⟩
  refine run_build w t _ _ ?_
  simp only [Program.built, hi, hu, hiz, hie, hzc, hsz]
  simpa using f1
 ·simp at h
end
end Go.Sx
namespace Go.Sx
theorem range_repeat {α : Type} [Inhabited α] (zs : List α) : ∀ n : Nat, (List.range (n * zs.length)).map (fun i => zs[i % zs.length]!) = (List.replicate n zs).flatten := by
 intro n
 induction n with
 | zero => simp
 | succ n ih =>
  rw [show (n + 1) * zs.length = zs.length + n * zs.length from by rw [Nat.add_mul]; omega, List.range_add, List.map_append, List.replicate_succ, List.flatten_cons, List.map_map]
  congr 1
  ·apply List.ext_getElem?
   intro i
   by_cases hi : i < zs.length
   ·simp [hi, Nat.mod_eq_of_lt hi]
   ·simp [hi]
  ·rw [← ih]
   apply List.map_congr_left
   intro i _
   simp
theorem repeatL_eq (z : List AV) : ∀ n, repeatL z n = (List.replicate n z).flatten := by
 intro n
 induction n with
 | zero => rfl
 | succ n ih => show app z (repeatL z n) = _; rw [app_eq, ih, List.replicate_succ, List.flatten_cons]
theorem concL_flatten (ρ : Env) (z : List AV) (n : Nat) : concL ρ (repeatL z n) = (List.replicate n (concL ρ z)).flatten := by
 rw [repeatL_eq, concL_eq, concL_eq]
 simp [List.map_flatten]
theorem growBy_le (m : Nat) : ∀ (r c : Nat), Builtin.growBy m r c ≤ 2 ^ r * (c + 768) := by
 intro r
 induction r with
 | zero => intro c; simp [Builtin.growBy]
 | succ r ih =>
  intro c
  have hp : 0 < 2 ^ r := Nat.two_pow_pos r
  rw [Nat.pow_succ]
  simp only [Builtin.growBy]
  split
  ·calc c ≤ 1 * (c + 768) := by omega
    _ ≤ 2 ^ r * 2 * (c + 768) := Nat.mul_le_mul_right _ (by omega)
  ·refine Nat.le_trans (ih _) ?_
   rw [Nat.mul_assoc]
   exact Nat.mul_le_mul_left _ (by omega)
theorem nextslicecap_le {m c : Nat} (hm : m ≤ 1000000) (hc : c ≤ 1000000) : Builtin.nextslicecap m c ≤ 17000000 := by
 unfold Builtin.nextslicecap
 split
 ·omega
 ·split
  ·omega
  ·have h := growBy_le m 4 c
   have : (2 : Nat) ^ 4 * (c + 768) ≤ 16 * (1000000 + 768) := Nat.mul_le_mul_left 16 (by omega)
   exact Nat.le_trans h (Nat.le_trans this (by decide))
theorem appendCap_cut (w : World) (P : Program) (need old : Nat) (e : TypeId) : ∃ c w', (choose (.appendCap need old e)).run P w = .ok c w' ∧ need ≤ c ∧ Like w' w := by
 rw [run_choose]
 refine ⟨(Question.appendCap need old e).cut (w.tape w.drawn (.appendCap need old e)), { w with drawn := w.drawn + 1 }, ?_, ?_, ⟨rfl, rfl, rfl, rfl⟩⟩
 ·simp [Question.forced]
 ·simp only [Question.cut]; exact Nat.le_add_right _ _
section
variable {P : Program} {G : Tab} {ρ : Env} {D : Nat → Prop} {w : World} {H : Heap}
theorem newRowA_some {β : Type} {e : TypeId} {ex : Bool} {l : List AV} {c : Nat → Heap → Option β} {b : β} (h : newRowA H e ex l c = some b) :
  (∀ v ∈ l, oneCell v = true) ∧ c H.next (H.push (.cells e ex l)) = some b := by
 obtain ⟨h1, h⟩ := cond_some h
 rw [forceVs_eq, newA_eq] at h
 exact ⟨allOne_iff.1 h1, h⟩
theorem boxA_ok (hH : HRel G ρ D w H) {e : TypeId} {v u : AV} {H' : Heap} (h : boxA H e v = some (u, H')) (hv : okV ρ D v) :
  Makes P G ρ D w H (do pure (.pointer (some (← newVar e (conc ρ v))))) u H' := by
 obtain ⟨h1, h⟩ := newRowA_some h
 simp only [Option.some.injEq, Prod.mk.injEq] at h
 obtain ⟨rfl, rfl⟩ := h
 obtain ⟨ρ', D', w', r1, r2, r3, r4, _⟩ := newRow_ok (P := P) (e := e) hH (ok_cells hv) h1 0
 refine ⟨ρ', D', w', ?_, r2, r3, r4⟩
 simp only [newVar, conc_cells, Sem.run_bind, r1, Result.andThen_ok, Sem.run_pure, conc, adr]
theorem elemOf_some (T : TabOk P G) {t e : TypeId} (h : elemOf G t = some e) : P.underlying t = some (.slice e) := by
 obtain ⟨d, hd, he⟩ := bindO_some h
 unfold sliceElem at he
 split at he
 ·simp only [Option.some.injEq] at he; subst he; exact T.und hd
 ·simp at he
theorem repeatL_ok {z : List AV} (hz : okL ρ D z) (n : Nat) : okL ρ D (repeatL z n) := by
 rw [repeatL_eq]
 refine okL_iff.2 fun x hx => ?_
 obtain ⟨l, hl, hx⟩ := List.mem_flatten.1 hx
 rw [List.eq_of_mem_replicate hl] at hx
 exact okL_iff.1 hz x hx
theorem zero_cells (T : TabOk P G) {e : TypeId} {zero : AV} (h : G.zero e = some zero) (ρ : Env) (D : Nat → Prop) :
  ∃ it zv, P.info? e = some it ∧ it.zero = some zv ∧ zv.cells = (concL ρ zero.cells).toArray ∧ conc ρ zero = zv ∧ okV ρ D zero := by
 obtain ⟨it, zv, hi, hiz, hc⟩ := T.zero h
 obtain ⟨c1, c2⟩ := hc ρ D
 exact ⟨it, zv, hi, hiz, by rw [← c1]; exact conc_cells _, c1, c2⟩
theorem zeros_eq (ρ : Env) (zero : List AV) (n z : Nat) (hz : zero.length = z) :
  (Array.range (n * z)).map (fun i => ((if n * z = 0 then #[] else (concL ρ zero).toArray) : Array Value)[i % ((if n * z = 0 then #[] else (concL ρ zero).toArray) : Array Value).size]!) = (concL ρ (repeatL zero n)).toArray := by
 subst hz
 rw [concL_flatten]
 have hl : (concL ρ zero).length = zero.length := by simp [concL_eq]
 by_cases h0 : n * zero.length = 0
 ·simp only [h0, if_true]
  have : (List.replicate n (concL ρ zero)).flatten = [] := by
   rcases Nat.mul_eq_zero.1 h0 with h | h
   ·simp [h]
   ·have : concL ρ zero = [] := List.eq_nil_of_length_eq_zero (by rw [hl, h])
    simp [this]
  rw [this]; simp
 ·simp only [h0, if_false]
  apply Array.ext'
  have := range_repeat (concL ρ zero) n
  rw [hl] at this
  rw [← this]
  simp [hl]
theorem newSlice_ok (hH : HRel G ρ D w H) {e n c : Nat} {l : List AV} {v : AV} {H' : Heap} (h : newSlice H e n c l = some (v, H')) (hl : okL ρ D l) :
  Makes P G ρ D w H (do pure (.slice (some (← newRow e (concL ρ l).toArray)) n c)) v H' := by
 obtain ⟨h1, h⟩ := newRowA_some h
 simp only [Option.some.injEq, Prod.mk.injEq] at h
 obtain ⟨rfl, rfl⟩ := h
 obtain ⟨ρ', D', w', r1, r2, r3, r4, _⟩ := newRow_ok (P := P) (e := e) hH hl h1 0
 refine ⟨ρ', D', w', ?_, r2, r3, r4, by simp⟩
 simp only [Sem.run_bind, r1, Result.andThen_ok, Sem.run_pure, conc, adr, Bool.false_eq_true, if_false]
theorem buildSliceA_ok (T : TabOk P G) (hH : HRel G ρ D w H) {t : TypeId} {n : Nat} {ps : List (Nat × AV)} {v : AV} {H' : Heap} (h : buildSliceA G H t n ps = some (v, H')) (hp : ∀ q ∈ ps, okV ρ D q.2) :
  Makes P G ρ D w H (Instr.buildSlice t n (ps.map fun q => (q.1, conc ρ q.2)).toArray) v H' := by
 obtain ⟨e, he, h⟩ := bindO_some h
 obtain ⟨z, hz, h⟩ := bindO_some h
 obtain ⟨zero, hzero, h⟩ := bindO_some h
 obtain ⟨h1, h⟩ := cond_some h
 obtain ⟨h2, h⟩ := cond_some h
 obtain ⟨cs, hcs, h⟩ := bindO_some h
 have h1 := ble_le h1
 have h2 := beq_of h2
 rw [len_eq] at h2
 have hu := elemOf_some T he
 obtain ⟨it, zv, hi, hiz, hzc, hzv, hok⟩ := zero_cells T hzero ρ D
 obtain ⟨f1, f2⟩ := fillA_ok (place' := fun i => some (i * z, z)) (fun i p hip => hip) (repeatL_ok (ok_cells hok) n) hp hcs
 obtain ⟨ρ', D', w', r1, r2, r3, r4⟩ := newSlice_ok (P := P) hH h f2
 refine ⟨ρ', D', w', ?_, r2, r3, r4⟩
 rw [← r1]
 have hbig : ¬ (n * z > 2 ^ 24) := by have : (2 : Nat) ^ 24 = 16777216 := rfl; omega
 have key := zeros_eq ρ zero.cells n z h2
 have f1' : Instr.fill (fun i => some (i * z, z)) (concL ρ (repeatL zero.cells n)).toArray (List.map (fun q => (q.fst, conc ρ q.snd)) ps).toArray.toList = some (concL ρ cs).toArray := f1
 unfold Instr.buildSlice
 simp only [Sem.run_bind, run_underlying hu, Result.andThen_ok, T.sizeOf hz, if_neg hbig]
 by_cases h0 : n * z = 0
 ·simp only [h0, if_true] at key ⊢
  simp only [Sem.run_bind, Sem.run_pure, Result.andThen_ok, key, f1']
 ·simp only [h0, if_false] at key ⊢
  simp only [Sem.run_bind, Sem.run_pure, Result.andThen_ok, T.zeroValue hzero ρ, conc_cells, key, f1']
end
end Go.Sx
namespace Go.Sx
section
variable {P : Program} {G : Tab} {ρ : Env} {D : Nat → Prop} {w : World} {H : Heap}
theorem i64_nat {n : Nat} (h : n ≤ 1000000000) : IntKind.i64.wrap (n : Int) = (n : Int) := IntWalk.i64_in _ ⟨by omega, by omega⟩
theorem newBig_ok (hH : HRel G ρ D w H) {e n c k : Nat} {z : List AV} {v : AV} {H' : Heap} (h : newBig H e n c k z = some (v, H')) (hz : okL ρ D z) {arr : Array Value} (hk : k ≤ arr.size)
  (ha : ∀ i u, i < k → z[i % z.length]? = some u → arr[i]? = some (conc ρ u)) :
  Makes P G ρ D w H (do pure (.slice (some (← newRow e arr)) n c)) v H' := by
 unfold newBig at h
 rw [forceN_eq, forceVs_eq, newA_eq] at h
 simp only [Option.some.injEq, Prod.mk.injEq] at h
 obtain ⟨rfl, rfl⟩ := h
 have hfresh : ¬ D H.next := fun hd => Nat.lt_irrefl _ (hH.lt _ hd)
 have hsub := ρ.at_sub hfresh w.heap.size 0 0
 obtain ⟨r1, r2⟩ := hH.pushEnd (w' := { w with heap := w.heap.push (.cells arr e (0, 0)) }) (.big e k z) (.cells arr e (0, 0)) 0 rfl (by
  refine ⟨(hsub.concL z hz).2, arr, e, (0, 0), by simp [Env.at], by simp [Env.at, hk], fun i u hi hu => ?_⟩
  have e0 : (ρ.at H.next w.heap.size 0 0).base H.next + i = i := by simp [Env.at]
  rw [e0, ha i u hi hu, hsub.eq (okL_iff.1 hz u (List.mem_of_getElem? hu))])
 refine ⟨_, _, _, ?_, r1, r2, .inr rfl, by simp⟩
 simp [newRow, conc, Env.at]
theorem makeSliceA_ok (T : TabOk P G) (hH : HRel G ρ D w H) {t : TypeId} {a b v : AV} {H' : Heap} (h : makeSliceA G H t a b = some (v, H')) :
  Makes P G ρ D w H (Instr.makeSlice t (conc ρ a) (conc ρ b)) v H' := by
 unfold makeSliceA at h
 split at h
 ·rename_i n c
  obtain ⟨e, he, h⟩ := bindO_some h
  obtain ⟨i, hi, h⟩ := bindO_some h
  have hu := elemOf_some T he
  have hp := T.types e i hi
  obtain ⟨zero, hzero, h⟩ := bindO_some h
  obtain ⟨h1, h⟩ := cond_some h
  obtain ⟨h2, h⟩ := cond_some h
  obtain ⟨h3, h⟩ := cond_some h
  have h1 := ble_le h1
  have h2 := ble_le h2
  have h3 := beq_of h3
  rw [len_eq] at h3
  have hcb : c * (i.bytes + 1) = c * i.bytes + c := by rw [Nat.mul_add, Nat.mul_one]
  have hc : c ≤ 1000000000 := by omega
  have hn : n ≤ 1000000000 := by omega
  obtain ⟨it, zv, hit, hiz, hzc, hzv, hok⟩ := zero_cells T hzero ρ D
  have key := zeros_eq ρ zero.cells c i.size h3
  -- what the instruction comes to
  have run : ∀ (ρ' : Env) (w' : World) (s : Sem Value),
    (s = do pure (.slice (some (← newRow e (concL ρ (repeatL zero.cells c)).toArray)) n c)) → s.run P w = .ok (conc ρ' v) w' →
    (Instr.makeSlice t (conc ρ (.int .i64 (.ofNat n))) (conc ρ (.int .i64 (.ofNat c)))).run P w = .ok (conc ρ' v) w' := by
   intro ρ' w' s hs hr
   rw [← hr, hs]
   have hbytes : ((i.bytes : Int) * (c : Int) > 2 ^ 48) = False := by
    have e1 : (i.bytes : Int) * (c : Int) = ((c * i.bytes : Nat) : Int) := by
     rw [Nat.mul_comm]; simp
    rw [e1]
    simp only [gt_iff_lt, eq_iff_iff, iff_false, Int.not_lt]
    have : (2 : Int) ^ 48 = 281474976710656 := rfl
    rw [this]; omega
   have hc0 : ((c : Int) < 0) = False := by simp
   have hn0 : ((n : Int) < 0) = False := by simp
   have hle : ((n : Int) > (c : Int)) = False := by simp; omega
   unfold Instr.makeSlice
   simp only [Sem.run_bind, run_underlying hu, Result.andThen_ok, conc, asInt, asIntOf, Sem.run_pure, run_typeInfo w hp, i64_nat hc, i64_nat hn, hbytes, hc0, hn0, hle, decide_false, Bool.or_self,
    Bool.false_eq_true, if_false, run_askRoom, sizeOf, Int.ofNat_eq_natCast, Int.toNat_natCast]
   by_cases h0 : c * i.size = 0
   ·simp only [h0, if_true] at key ⊢
    simp only [Sem.run_bind, Sem.run_pure, Result.andThen_ok, key]
   ·simp only [h0, if_false] at key ⊢
    simp only [Sem.run_bind, Sem.run_pure, Result.andThen_ok, T.zeroValue hzero ρ, conc_cells, key]
  rcases cond_ok h with ⟨_, h⟩ | ⟨_, h⟩
  ·obtain ⟨ρ', D', w', r1, r2, r3, r4⟩ := newSlice_ok (P := P) hH h (repeatL_ok (ok_cells hok) c)
   exact ⟨ρ', D', w', run _ _ _ rfl r1, r2, r3, r4⟩
  ·obtain ⟨ρ', D', w', r1, r2, r3, r4⟩ := newBig_ok (P := P) hH h (ok_cells hok) (arr := (concL ρ (repeatL zero.cells c)).toArray) (by
     rw [concL_eq, List.size_toArray, List.length_map, repeatL_eq, List.length_flatten, List.map_replicate, List.sum_replicate_nat, h3]; exact Nat.le_refl _) (by
    intro j u hj hu
    rw [concL_flatten, ← range_repeat]
    have hl : (concL ρ zero.cells).length = zero.cells.length := by simp [concL_eq]
    rw [hl, h3]
    simp only [List.getElem?_toArray, List.getElem?_map, List.getElem?_range hj, Option.map_some]
    rw [h3] at hu
    have : (concL ρ zero.cells)[j % i.size]? = some (conc ρ u) := by rw [concL_eq, List.getElem?_map, hu]; rfl
    rw [List.getElem!_eq_getElem?_getD, this]; rfl)
   exact ⟨ρ', D', w', run _ _ _ rfl r1, r2, r3, r4⟩
 ·simp at h
theorem natV_conc (n : Nat) : conc ρ (natV n) = goInt n := rfl
theorem lenA_ok (T : TabOk P G) (hH : HRel G ρ D w H) {t u : TypeId} {x v : AV} {ts : Array TypeId} (h : lenA G H t x = some v) (hx : okV ρ D x) (ht : ts[0]? = some t) {xs : List AV} :
  Val P ρ D w (Builtin.len_ ts u (concL ρ (x :: xs)).toArray) v := by
 obtain ⟨d, hd, h⟩ := bindO_some h
 have hu := T.und hd
 have e0 : (concL ρ (x :: xs)).toArray[0]? = some (conc ρ x) := by simp [concL]
 unfold lenD at h
 split at h
 ·rename_i s
  simp only [Option.some.injEq] at h; subst h
  refine ⟨?_, trivial⟩
  simp only [Builtin.len_, ht, e0, Sem.run_bind, run_underlying hu, Result.andThen_ok, conc, Sem.run_pure, size_mk, natV, len_eq]; rfl
 ·simp only [Option.some.injEq] at h; subst h
  refine ⟨?_, trivial⟩
  simp only [Builtin.len_, ht, e0, Sem.run_bind, run_underlying hu, Result.andThen_ok, conc, Sem.run_pure, natV]; rfl
 ·simp only [Option.some.injEq] at h; subst h
  refine ⟨?_, trivial⟩
  simp only [Builtin.len_, ht, e0, Sem.run_bind, run_underlying hu, Result.andThen_ok, conc, Sem.run_pure, natV]; rfl
 ·simp only [Option.some.injEq] at h; subst h
  refine ⟨?_, trivial⟩
  simp only [Builtin.len_, ht, e0, Sem.run_bind, run_underlying hu, Result.andThen_ok, conc, Sem.run_pure, natV]; rfl
 ·simp only [Option.some.injEq] at h; subst h
  refine ⟨?_, trivial⟩
  simp only [Builtin.len_, ht, e0, Sem.run_bind, run_underlying hu, Result.andThen_ok, Sem.run_pure, natV]; rfl
 ·obtain ⟨es, hes, h⟩ := bindO_some h
  simp only [Option.some.injEq] at h; subst h
  refine ⟨?_, trivial⟩
  unfold mapOf at hes
  split at hes
  ·simp only [Option.some.injEq] at hes; subst hes
   simp only [Builtin.len_, ht, e0, Sem.run_bind, run_underlying hu, Result.andThen_ok, conc, Sem.run_pure, natV]; rfl
  ·rename_i r
   obtain ⟨p, hp, hes⟩ := bindO_some hes
   simp only [Option.some.injEq] at hes; subst hes
   obtain ⟨m1, es', m2, m3⟩ := map_block hH hx hp
   have hsz : es'.size = p.1.length := by rw [← Array.length_toList, m3, List.length_map]
   simp only [Builtin.len_, ht, e0, Sem.run_bind, run_underlying hu, Result.andThen_ok, conc, run_getObj_map m2, Sem.run_pure, natV, len_eq, hsz]; rfl
  ·simp at hes
 ·rename_i p _
  obtain ⟨d', hd', h⟩ := bindO_some h
  unfold arrLen at h
  split at h
  ·simp only [Option.some.injEq] at h; subst h
   refine ⟨?_, trivial⟩
   simp only [Builtin.len_, ht, e0, Sem.run_bind, run_underlying hu, T.underlying hd', Result.andThen_ok, Sem.run_pure, natV]; rfl
  ·simp at h
 ·simp at h
theorem capA_ok (T : TabOk P G) {t u : TypeId} {x v : AV} {ts : Array TypeId} (h : capA G t x = some v) (ht : ts[0]? = some t) {xs : List AV} :
  Val P ρ D w (Builtin.cap_ ts u (concL ρ (x :: xs)).toArray) v := by
 obtain ⟨d, hd, h⟩ := bindO_some h
 have hu := T.und hd
 have e0 : (concL ρ (x :: xs)).toArray[0]? = some (conc ρ x) := by simp [concL]
 unfold capD at h
 split at h
 ·simp only [Option.some.injEq] at h; subst h
  refine ⟨?_, trivial⟩
  simp only [Builtin.cap_, ht, e0, Sem.run_bind, run_underlying hu, Result.andThen_ok, Sem.run_pure, natV]; rfl
 ·simp only [Option.some.injEq] at h; subst h
  refine ⟨?_, trivial⟩
  simp only [Builtin.cap_, ht, e0, Sem.run_bind, run_underlying hu, Result.andThen_ok, conc, Sem.run_pure, natV]; rfl
 ·simp only [Option.some.injEq] at h; subst h
  refine ⟨?_, trivial⟩
  simp only [Builtin.cap_, ht, e0, Sem.run_bind, run_underlying hu, Result.andThen_ok, conc, Sem.run_pure, natV]; rfl
 ·simp at h
theorem fold2_ok {f : AV → AV → Option AV} {g : Value → Value → Sem Value} (hf : ∀ a b v, f a b = some v → (g (conc ρ a) (conc ρ b)).run P w = .ok (conc ρ v) w ∧ okV ρ D v) :
  ∀ {l : List AV} {a v : AV}, okV ρ D a → fold2 f l a = some v → ((concL ρ l).foldlM g (conc ρ a)).run P w = .ok (conc ρ v) w ∧ okV ρ D v := by
 intro l
 induction l with
 | nil => intro a v ha h; have h : some a = some v := h; simp only [Option.some.injEq] at h; subst h; exact ⟨rfl, ha⟩
 | cons b l ih =>
  intro a v ha h
  have h' : bindO (f a b) (fold2 f l) = some v := h
  obtain ⟨c, hc, h'⟩ := bindO_some h'
  obtain ⟨r1, r2⟩ := hf a b c hc
  obtain ⟨r3, r4⟩ := ih r2 h'
  refine ⟨?_, r4⟩
  simp only [concL, List.foldlM_cons, Sem.run_bind, r1, Result.andThen_ok, r3]
theorem min2A_ok {a b v : AV} (h : min2A a b = some v) : (Builtin.min2 (conc ρ a) (conc ρ b)).run P w = .ok (conc ρ v) w ∧ okV ρ D v := by
 unfold min2A at h
 split at h
 ·rename_i k x _ y
  simp only [Option.some.injEq] at h; subst h
  refine ⟨?_, trivial⟩
  simp only [Builtin.min2, conc, Sem.run_pure, iblt_eq]
  congr 2
  by_cases hxy : y < x <;> simp [hxy]
 ·simp at h
theorem max2A_ok {a b v : AV} (h : max2A a b = some v) : (Builtin.max2 (conc ρ a) (conc ρ b)).run P w = .ok (conc ρ v) w ∧ okV ρ D v := by
 unfold max2A at h
 split at h
 ·rename_i k x _ y
  simp only [Option.some.injEq] at h; subst h
  refine ⟨?_, trivial⟩
  simp only [Builtin.max2, conc, Sem.run_pure, iblt_eq]
  congr 2
  by_cases hxy : x < y <;> simp [hxy]
 ·simp at h
end
end Go.Sx
namespace Go.Sx
section
variable {P : Program} {G : Tab} {ρ : Env} {D : Nat → Prop} {w : World} {H : Heap}
theorem bytesA_eq : ∀ (l : List UInt8), concL ρ (bytesA l) = l.map fun b => Value.int .u8 b.toNat := by
 intro l
 induction l with
 | nil => rfl
 | cons b l ih =>
  have : bytesA (b :: l) = byteV b :: bytesA l := rfl
  rw [this]
  simp [concL, ih, byteV, conc]
theorem bytesA_ok : ∀ (l : List UInt8), okL ρ D (bytesA l) := by
 intro l
 induction l with
 | nil => trivial
 | cons b l ih => exact ⟨trivial, ih⟩
theorem firstA_ok (hH : HRel G ρ D w H) {z n : Nat} {x : AV} {l : List AV} (h : firstA H z n x = some l) (hx : okV ρ D x) (hz : z = 1 ∨ ∀ s, x ≠ .str s) :
  (Builtin.firstCells z n (conc ρ x)).run P w = .ok (concL ρ l).toArray w ∧ okL ρ D l ∧ ((∀ s, x ≠ .str s) → x = .nilslice ∨ l.length = n * z) ∧ (∀ s, x = .str s → l.length = n) := by
 unfold firstA at h
 split at h
 ·rename_i b off a c d
  obtain ⟨r1, r2, r3⟩ := loadCellsA_ok (P := P) hH hx.1 h
  exact ⟨by simpa [Builtin.firstCells, conc, adr] using r1, r2, fun _ => .inr r3, fun s hs => by simp at hs⟩
 ·simp only [Option.some.injEq] at h; subst h
  exact ⟨rfl, trivial, fun _ => .inl rfl, fun s hs => by simp at hs⟩
 ·rename_i s
  obtain ⟨r, hr, h⟩ := bindO_some h
  simp only [Option.some.injEq] at h; subst h
  rw [takeN_eq] at hr
  split at hr
  ·rename_i hle
   simp only [Option.some.injEq] at hr; subst hr
   refine ⟨?_, bytesA_ok _, fun hs => absurd rfl (hs s), fun s' hs' => ?_⟩
   ·simp only [Builtin.firstCells, conc, Sem.run_pure, bytesA_eq]
    congr 1
    apply Array.ext'
    simp [ByteArray.extract, ByteArray.copySlice]
   ·have : ∀ l : List UInt8, (bytesA l).length = l.length := by
     intro l
     induction l with
     | nil => rfl
     | cons b l ih => show (bytesA l).length + 1 = _; rw [ih]; rfl
    rw [this]; simp [hle]
  ·simp at hr
 ·simp at h
theorem lenOfA_ok {x : AV} {n : Nat} (h : lenOfA x = some n) : (Builtin.lenOf (conc ρ x)).run P w = .ok n w := by
 unfold lenOfA at h
 split at h <;> simp only [Option.some.injEq, reduceCtorEq] at h <;> subst h <;> simp [Builtin.lenOf, conc, size_mk, len_eq]
theorem growA_ok (hH : HRel G ρ D w H) {e need : Nat} {cells : List AV} {v : AV} {H' : Heap} (h : growA H e need cells = some (v, H')) (hc : okL ρ D cells) {rest : Array Value} {cap : Nat}
  (hcap : need ≤ cap) (hlow : ∀ z, G.size e = some z → cells.length ≤ cap * z) (hroom : ∀ z, G.size e = some z → cap * z ≤ cells.length + rest.size) :
  Makes P G ρ D w H (do pure (.slice (some (← newRow e ((concL ρ cells).toArray ++ rest))) need cap)) v H' := by
 obtain ⟨h1, h⟩ := newRowA_some h
 simp only [Option.some.injEq, Prod.mk.injEq] at h
 obtain ⟨rfl, rfl⟩ := h
 have hfresh : ¬ D H.next := fun hd => Nat.lt_irrefl _ (hH.lt _ hd)
 have hsub := ρ.at_sub hfresh w.heap.size 0 cap
 obtain ⟨r1, r2⟩ := hH.pushEnd (w' := { w with heap := w.heap.push (.cells ((concL ρ cells).toArray ++ rest) e (0, 0)) }) (.cells e false cells) (.cells ((concL ρ cells).toArray ++ rest) e (0, 0)) cap rfl (by
  refine ⟨(hsub.concL cells hc).2, h1, (concL ρ cells).toArray ++ rest, (0, 0), by simp [Env.at], .inl rfl, by simp [Env.at, concL_eq], fun i u hu => ?_, fun _ z hz => ?_, fun h => by simp at h⟩
  ·have hu' := okL_iff.1 hc u (List.mem_of_getElem? hu)
   have hlt : i < (concL ρ cells).toArray.size := by
    have := (List.getElem?_eq_some_iff.1 hu).1
    simpa [concL_eq] using this
   have e0 : (ρ.at H.next w.heap.size 0 cap).base H.next + i = i := by simp [Env.at]
   rw [e0, Array.getElem?_append_left hlt]
   simp only [concL_eq, List.getElem?_toArray, List.getElem?_map, hu, Option.map_some]
   rw [hsub.eq hu']
  ·have := hroom z hz
   have h0 := hlow z hz
   exact ⟨by simpa [Env.at] using h0, by simpa [Env.at, concL_eq] using this⟩)
 refine ⟨_, _, _, ?_, r1, r2, .inr rfl, fun _ => by simpa [Env.at] using hcap⟩
 simp [newRow, conc, Env.at]
theorem inPlace_ok (hH : HRel G ρ D w H) {b off : Nat} {new : List AV} {r v : AV} {H' : Heap} (h : inPlace H b off new r = some (v, H')) (hb : D b) (hn : okL ρ D new) :
  v = r ∧ ∃ w', (storeCells (adr ρ b off) (concL ρ new)).run P w = .ok () w' ∧ HRel G ρ D w' H' ∧ Ext H ρ D H' ρ D := by
 obtain ⟨H1, h1, h⟩ := bindO_some h
 simp only [Option.some.injEq, Prod.mk.injEq] at h
 obtain ⟨rfl, rfl⟩ := h
 obtain ⟨w', r1, r2, r3⟩ := storeCellsA_ok (P := P) hH hb hn h1
 exact ⟨rfl, w', r1, r2, .same _ _ r3⟩
theorem zeroCells_size (z : Array Value) (n : Nat) : (Builtin.zeroCells z n).size = n * z.size := by simp [Builtin.zeroCells]
theorem knownIn_some {e : TypeId} {o : Option ABlk} {kn : Nat} (h : knownIn e o = some kn) : ∃ l, o = some (.cells e false l) ∧ kn = l.length := by
 unfold knownIn at h
 split at h
 ·rename_i e' l
  obtain ⟨h1, h⟩ := cond_some h
  have h1 := beq_of h1
  simp only [Option.some.injEq] at h; subst h; subst h1
  exact ⟨l, rfl, (len_eq l)⟩
 ·simp at h
theorem spill_ok (hH : HRel G ρ D w H) {b e z off c l n : Nat} {m old new : List AV} {v : AV} {H' : Heap} (hb : D b) (hg : H.blks.get b = some (.cells e false m)) (hz : G.size e = some z)
  (hoff : off = c * z) (hcl : c + l ≤ ρ.cap b) (hroom : l + n ≤ ρ.cap b - c) (hl : old.length = l * z) (hnl : new.length = n * z) (hnew : okL ρ D new) (hokold : okL ρ D old)
  (hold : ∀ j u, old[j]? = some u → w.cell? (adr ρ b (off + j)) = some (conc ρ u))
  (h : growA (putBlk H b none) e (l + n) (app old new) = some (v, H')) :
  ∃ ρ' D' w', (storeCells (adr ρ b (off + l * z)) (concL ρ new)).run P w = .ok () w' ∧ conc ρ' v = .slice (some (adr ρ b off)) (l + n) (ρ.cap b - c) ∧ HRel G ρ' D' w' H' ∧ Ext H ρ D H' ρ' D' ∧ okV ρ' D' v := by
 obtain ⟨h1, h⟩ := newRowA_some h
 simp only [Option.some.injEq, Prod.mk.injEq] at h
 obtain ⟨rfl, rfl⟩ := h
 rw [app_eq] at h1 ⊢
 obtain ⟨g1, g2, arr, fz, g3, g4, g5, g6, g7⟩ := hH.blk b _ hb hg
 have hroom' := (g7.1 rfl z hz).2
 have hmul : (c + (l + n)) * z ≤ ρ.cap b * z := Nat.mul_le_mul_right z (by omega)
 have hmul2 : c * z + (ρ.cap b - c) * z = ρ.cap b * z := by rw [← Nat.add_mul]; congr 1; omega
 have hlen : (concL ρ new).length = n * z := by rw [concL_eq, List.length_map, hnl]
 rw [Nat.add_mul, Nat.add_mul] at hmul
 obtain ⟨arr', w', r1, r2, r3, r4, r5, r6⟩ := run_storeCells_over P (ρ.blk b) (ρ.base b + (off + l * z)) e fz (concL ρ new) 0 arr w g3 g4 (by rw [hlen]; omega) (by
  intro u hu
  rw [concL_eq] at hu
  obtain ⟨x, hx, rfl⟩ := List.mem_map.1 hu
  exact oneCell_conc (h1 x (List.mem_append.2 (.inr hx))))
 have hK := hH.kill b
 have hKn : (putBlk H b none).next = H.next := Heap.next_put _ _ _
 have hfresh : ¬ D H.next := fun hd => Nat.lt_irrefl _ (hH.lt _ hd)
 have hsub := ρ.at_sub hfresh (ρ.blk b) (ρ.base b + off) (ρ.cap b - c)
 have hKget : ∀ b' o', (putBlk H b none).blks.get b' = some o' → b' ≠ b ∧ H.blks.get b' = some o' := by
  intro b' o' hget
  rw [Heap.get_put] at hget
  split at hget
  ·simp at hget
  ·exact ⟨by assumption, hget⟩
 have hne : ∀ b' o', D b' → (putBlk H b none).blks.get b' = some o' → ρ.blk b' ≠ ρ.blk b := by
  intro b' o' hb' hget heq
  obtain ⟨h2, h3⟩ := hKget b' o' hget
  exact h2 ((hH.inj b' b _ _ hb' hb h3 hg heq).resolve_right fun e => e.2)
 have hpush := hK.push (w' := w') (.cells e false (old ++ new)) (ρ.blk b) (ρ.base b + off) (ρ.cap b - c) hne
 rw [hKn] at hpush
 obtain ⟨p1, p2⟩ := hpush (by
  refine ⟨(hsub.concL _ (okL_append hokold hnew)).2, h1, arr', fz, by simp [Env.at, r2], by rw [r3]; exact g4, ?_, ?_, ?_, fun h => by simp at h⟩
  ·rw [r3]; simp only [Env.at, if_true, List.length_append, hl, hnl]; omega
  ·intro i u hu
   have hu' := okL_iff.1 (okL_append hokold hnew) u (List.mem_of_getElem? hu)
   rw [hsub.eq hu', r4, hlen]
   simp only [Env.at, if_true]
   by_cases hi : i < old.length
   ·rw [if_neg (by omega)]
    rw [List.getElem?_append_left hi] at hu
    have := hold i u hu
    simp only [World.cell?, adr, g3] at this
    rw [show ρ.base b + off + i = ρ.base b + (off + i) from by omega]
    simpa using this
   ·rw [List.getElem?_append_right (by omega)] at hu
    have hlt := (List.getElem?_eq_some_iff.1 hu).1
    rw [if_pos (by omega)]
    rw [concL_eq, List.getElem?_map, show ρ.base b + off + i - (ρ.base b + (off + l * z) + 0) = i - old.length from by omega, hu]
    rfl
  ·intro _ z' hz'
   rw [hz] at hz'
   simp only [Option.some.injEq] at hz'; subst hz'
   rw [r3]
   simp only [Env.at, if_true, List.length_append, hl, hnl]
   refine ⟨?_, by omega⟩
   rw [← Nat.add_mul]
   exact Nat.mul_le_mul_right z hroom) (fun b' o' hb' hget => r5 _ (hne b' o' hb' hget)) (fun i q hi => by
   have hno : ρ.blk b ≠ i := fun e => by
    have := (hH.rest i q hi).2 b hb e
    rw [hg] at this
    exact this
   exact ⟨hno, r5 i (Ne.symm hno)⟩) r6
 refine ⟨_, _, w', r1, ?_, p1, ⟨p2.sub, by rw [← hKn]; exact p2.next, fun x hx => by rw [← hKn]; exact p2.new x hx⟩, ?_⟩
 ·simp [conc, Env.at, hKn, adr]
 ·refine ⟨.inr (by simp [hKn]), fun _ => ?_⟩
  simp only [Env.at, hKn, if_true]; omega
structure AppArgs (P : Program) (G : Tab) (ρ : Env) (D : Nat → Prop) (w : World) (e z n : Nat) (st xt : TypeId) (i : TypeInfo) (zero x : AV) (new : List AV) (xu : TypeDesc) : Prop where
 hst : P.underlying st = some (.slice e)
 hxt : P.underlying xt = some xu
 hxi : ∀ k, xu ≠ .int k
 hp : P.info? e = some i
 hz : i.size = z
 hb : i.bytes ≤ 100000
 hzero : ∀ w', (Go.zeroValue e).run P w' = .ok (conc ρ zero) w'
 hn : ∀ w', (Builtin.lenOf (conc ρ x)).run P w' = .ok n w'
 hnew : ∀ w', Like w' w → (Builtin.firstCells z n (conc ρ x)).run P w' = .ok (concL ρ new).toArray w'
theorem append_in {e z n l cap : Nat} {st xt u : TypeId} {i : TypeInfo} {zero x : AV} {new : List AV} {xu : TypeDesc} {base : Option Addr} (A : AppArgs P G ρ D w e z n st xt i zero x new xu) (hle : l + n ≤ cap) :
  (Builtin.append_ #[st, xt] u #[.slice base l cap, conc ρ x]).run P w =
   ((match base with | some a => storeCells (a.add (l * z)) (concL ρ new) | none => pure () : Sem Unit).run P w).andThen fun _ w' => .ok (.slice base (l + n) cap) w' := by
 have e1 : (Go.sizeOf e).run P w = .ok z w := by simp [Go.sizeOf, typeInfo, A.hp, A.hz]
 have hxt := A.hxt
 have hxi := A.hxi
 have hn := A.hn
 have hnew := A.hnew w ⟨rfl, rfl, rfl, rfl⟩
 have hst := A.hst
 clear A
 unfold Builtin.append_
 cases xu
 case int k => exact absurd rfl (hxi k)
 all_goals
  simp only [List.getElem?_toArray, List.getElem?_cons_zero, List.getElem?_cons_succ, Sem.run_bind, run_underlying hst, Result.andThen_ok, e1, run_underlying hxt, Sem.run_pure,
   Bool.false_eq_true, if_false, hn, hle, if_true, Bool.not_false, hnew]
  cases base <;> simp
theorem append_grow {e z n l cap : Nat} {st xt u : TypeId} {i : TypeInfo} {zero x : AV} {new old : List AV} {xu : TypeDesc} {base : Option Addr} (A : AppArgs P G ρ D w e z n st xt i zero x new xu) (hle : ¬ l + n ≤ cap)
  (hsmall : l + n ≤ 1000000) (hold : ∀ w', Like w' w → (Builtin.firstCells z l (.slice base l cap)).run P w' = .ok (concL ρ old).toArray w') :
  ∃ newCap w₁, l + n ≤ newCap ∧ Like w₁ w ∧ (Builtin.append_ #[st, xt] u #[.slice base l cap, conc ρ x]).run P w =
   (do pure (.slice (some (← newRow e ((concL ρ (old ++ new)).toArray ++ Builtin.zeroCells (conc ρ zero).cells (newCap - (l + n))))) (l + n) newCap) : Sem Value).run P w₁ := by
 obtain ⟨newCap, w₁, c1, c2, c3⟩ := appendCap_cut w P (l + n) cap e
 refine ⟨newCap, w₁, c2, c3, ?_⟩
 have e1 : (Go.sizeOf e).run P w = .ok z w := by simp [Go.sizeOf, typeInfo, A.hp, A.hz]
 have e2 : ∀ w', (typeInfo e).run P w' = .ok i w' := fun w' => run_typeInfo w' A.hp
 have hmax : ¬ (((l + n : Nat) : Int) > IntKind.i64.max) := by
  simp [IntKind.max, IntKind.signed, IntKind.bits]; omega
 have hcapb : Builtin.nextslicecap (l + n) cap * i.bytes ≤ 2 ^ 48 := by
  have h1 := nextslicecap_le (m := l + n) (c := cap) hsmall (by omega)
  have h2 : Builtin.nextslicecap (l + n) cap * i.bytes ≤ 17000000 * 100000 := Nat.mul_le_mul h1 A.hb
  exact Nat.le_trans h2 (by decide)
 have hcapb' : ¬ (Builtin.nextslicecap (l + n) cap * i.bytes > 2 ^ 48) := Nat.not_lt.2 hcapb
 have hxt := A.hxt
 have hxi := A.hxi
 have hn := A.hn
 have hnew := A.hnew w₁ c3
 have hst := A.hst
 have hzero := A.hzero w₁
 have hold := hold w₁ c3
 clear A
 unfold Builtin.append_
 cases xu
 case int k => exact absurd rfl (hxi k)
 all_goals
  simp only [List.getElem?_toArray, List.getElem?_cons_zero, List.getElem?_cons_succ, Sem.run_bind, run_underlying hst, Result.andThen_ok, e1, run_underlying hxt, Sem.run_pure,
   Bool.false_eq_true, if_false, hn, hle, Bool.not_false, if_true, e2, hmax, false_and, hcapb', c1, run_askRoom, hold, hnew, hzero]
  simp only [concL_eq, List.map_append]
  congr 3
  simp
end
end Go.Sx
namespace Go.Sx
section
variable {P : Program} {G : Tab} {ρ : Env} {D : Nat → Prop} {w : World} {H : Heap}
theorem adr_add (b off i : Nat) : (adr ρ b off).add i = adr ρ b (off + i) := by
 rw [adr, adr, addr_add, Nat.add_assoc]
theorem Makes.from {K : Heap} {s : Sem Value} {v : AV} {H' : Heap} (h : Makes P G ρ D w K s v H') (hn : K.next = H.next) : Makes P G ρ D w H s v H' := by
 obtain ⟨ρ', D', w', r1, r2, r3, r4⟩ := h
 exact ⟨ρ', D', w', r1, r2, (Ext.same ρ D hn).trans r3, r4⟩
theorem append_grow_ok {e z n l cap : Nat} {st xt u : TypeId} {i : TypeInfo} {zero x v : AV} {new old : List AV} {xu : TypeDesc} {base : Option Addr} {K H' : Heap}
  (A : AppArgs P G ρ D w e z n st xt i zero x new xu) (hK : HRel G ρ D w K) (hle : ¬ l + n ≤ cap) (hsmall : l + n ≤ 1000000) (hz : G.size e = some z) (hzl : zero.cells.length = z)
  (hold : ∀ w', Like w' w → (Builtin.firstCells z l (.slice base l cap)).run P w' = .ok (concL ρ old).toArray w')
  (ho : okL ρ D old) (hn : okL ρ D new) (hol : old.length = l * z) (hnl : new.length = n * z) (h : growA K e (l + n) (app old new) = some (v, H')) :
  Makes P G ρ D w K (Builtin.append_ #[st, xt] u #[.slice base l cap, conc ρ x]) v H' := by
 obtain ⟨newCap, w₁, c1, c2, c3⟩ := append_grow (u := u) A hle hsmall hold
 rw [app_eq] at h
 have hcap : (l + n) * z + (newCap - (l + n)) * z = newCap * z := by rw [← Nat.add_mul]; congr 1; omega
 have hrest : (Builtin.zeroCells (conc ρ zero).cells (newCap - (l + n))).size = (newCap - (l + n)) * z := by
  rw [zeroCells_size, conc_cells, concL_eq, List.size_toArray, List.length_map, hzl]
 have hlen : (old ++ new).length = (l + n) * z := by rw [List.length_append, hol, hnl, Nat.add_mul]
 obtain ⟨ρ', D', w', r1, r2, r3, r4⟩ := growA_ok (P := P) (hK.same c2) h (okL_append ho hn) (rest := Builtin.zeroCells (conc ρ zero).cells (newCap - (l + n))) (cap := newCap) c1
  (fun z' hz' => by
   rw [hz] at hz'; simp only [Option.some.injEq] at hz'; subst hz'
   omega)
  (fun z' hz' => by
   rw [hz] at hz'; simp only [Option.some.injEq] at hz'; subst hz'
   rw [hlen, hrest]; omega)
 exact ⟨ρ', D', w', by rw [c3]; exact r1, r2, r3, r4⟩
theorem appendTo_ok (hH : HRel G ρ D w H) {e z n : Nat} {st xt u : TypeId} {i : TypeInfo} {zero s x v : AV} {new : List AV} {xu : TypeDesc} {H' : Heap}
  (A : AppArgs P G ρ D w e z n st xt i zero x new xu) (hs : okV ρ D s) (hnew : okL ρ D new) (hnl : new.length = n * z) (hz : G.size e = some z) (hz0 : z ≠ 0)
  (hzl : zero.cells.length = z) (hsmall : slenA s + n ≤ 1000000) (h : appendTo H e z n s new = some (v, H')) :
  Makes P G ρ D w H (Builtin.append_ #[st, xt] u #[conc ρ s, conc ρ x]) v H' := by
 unfold appendTo at h
 split at h
 ·-- nil
  rcases cond_ok h with ⟨h0, h⟩ | ⟨h0, h⟩
  ·have h0 := beq_of h0
   simp only [Option.some.injEq, Prod.mk.injEq] at h
   obtain ⟨rfl, rfl⟩ := h
   subst h0
   refine ⟨ρ, D, w, ?_, hH, .refl _ _ _, trivial⟩
   have := append_in (u := u) (l := 0) (cap := 0) (base := none) A (Nat.le_refl _)
   simp only [conc]
   rw [this]; rfl
  ·have h0 : n ≠ 0 := by
    intro e0; subst e0; simp at h0
   have h' : growA H e (0 + n) (app [] new) = some (v, H') := by rw [Nat.zero_add, app_eq]; exact h
   exact append_grow_ok (u := u) (l := 0) (cap := 0) (base := none) A hH (by omega) (by simp [slenA] at hsmall; omega) hz hzl (old := []) (fun w' _ => rfl) trivial hnew (by simp) hnl h'
 ·-- exact
  rename_i b off l c
  simp only [slenA] at hsmall
  have hb : D b := hs.1
  unfold appendExact at h
  rcases cond_ok h with ⟨h0, h⟩ | ⟨h0, h⟩
  ·have h0 := ble_le h0
   obtain ⟨rfl, w', r1, r2, r3⟩ := inPlace_ok (P := P) hH h hb hnew
   refine ⟨ρ, D, w', ?_, r2, r3, hb, by simp⟩
   have := append_in (u := u) (l := l) (cap := c) (base := some (adr ρ b off)) A h0
   simp only [adr_add, r1, Result.andThen_ok] at this
   simpa [conc, adr] using this
  ·obtain ⟨hc, h⟩ := cond_some h
   obtain ⟨old, hold, h⟩ := bindO_some h
   have h0 : ¬ l + n ≤ c := fun h1 => by
    have : Nat.ble (l + n) c = true := by rw [Nat.ble_eq]; exact h1
    rw [this] at h0; simp at h0
   obtain ⟨r1, r2, r3⟩ := loadCellsA_ok (P := P) hH hb hold
   have := append_grow_ok (u := u) (l := l) (cap := c) (base := some (adr ρ b off)) A hH h0 hsmall hz hzl (fun w' hw' => by
    simp only [Builtin.firstCells]
    exact (loadCellsA_ok (P := P) (hH.same hw') hb hold).1) r2 hnew r3 hnl h
   simpa [conc, adr] using this
 ·-- open
  rename_i b off l c
  simp only [slenA] at hsmall
  have hb : D b := hs.1
  have hcl : c + l ≤ ρ.cap b := hs.2 rfl
  unfold appendOpen at h
  obtain ⟨kn, hkn, h⟩ := bindO_some h
  obtain ⟨m, hm, rfl⟩ := knownIn_some hkn
  obtain ⟨hoff, h⟩ := cond_some h
  have hoff := beq_of hoff
  have hbl := hH.blk b _ hb hm
  obtain ⟨g1, g2, arr, fz, g3, g4, g5, g6, g7⟩ := hbl
  have g7 := (g7.1 rfl z hz).1
  rcases cond_ok h with ⟨h0, h⟩ | ⟨h0, h⟩
  ·have h0 := ble_le h0
   have hroom : c + (l + n) ≤ ρ.cap b := by
    have h1 : (c + (l + n)) * z ≤ ρ.cap b * z := by rw [Nat.add_mul]; omega
    exact Nat.le_of_mul_le_mul_right h1 (Nat.pos_of_ne_zero hz0)
   obtain ⟨rfl, w', r1, r2, r3⟩ := inPlace_ok (P := P) hH h hb hnew
   refine ⟨ρ, D, w', ?_, r2, r3, hb, fun _ => hroom⟩
   have := append_in (u := u) (l := l) (cap := ρ.cap b - c) (base := some (adr ρ b off)) A (by omega)
   simp only [adr_add, r1, Result.andThen_ok] at this
   simpa [conc, adr] using this
  ·obtain ⟨old, hold, h⟩ := bindO_some h
   rw [putBlkK_eq] at h
   obtain ⟨r1, r2, r3⟩ := loadCellsA_ok (P := P) hH hb hold
   by_cases hroom : l + n ≤ ρ.cap b - c
   ·obtain ⟨ρ', D', w', s1, s2, s3, s4, s5⟩ := spill_ok (P := P) hH hb hm hz hoff hcl hroom r3 hnl hnew r2 (by
     intro j t ht
     unfold loadCellsA at hold
     rcases cond_ok hold with ⟨k0, k1⟩ | ⟨k0, k1⟩
     ·simp only [Option.some.injEq] at k1; subst k1; simp at ht
     ·exact (cellsIn_ok (w := w) (fun x hx => hH.blk b x hb hx) k1).2.2 j t ht) h
    refine ⟨ρ', D', w', ?_, s3, s4, s5⟩
    have := append_in (u := u) (l := l) (cap := ρ.cap b - c) (base := some (adr ρ b off)) A hroom
    simp only [adr_add, s1, Result.andThen_ok] at this
    rw [s2]
    simpa [conc, adr] using this
   ·have := append_grow_ok (u := u) (l := l) (cap := ρ.cap b - c) (base := some (adr ρ b off)) A (hH.kill b) hroom hsmall hz hzl (fun w' hw' => by
     simp only [Builtin.firstCells]
     exact (loadCellsA_ok (P := P) (hH.same hw') hb hold).1) r2 hnew r3 hnl h
    exact Makes.from (by simpa [conc, adr] using this) (Heap.next_put _ _ _)
 ·simp at h
theorem appendA_ok (T : TabOk P G) (hH : HRel G ρ D w H) {ts : Array TypeId} {xs : List AV} {u : TypeId} {v : AV} {H' : Heap} (h : appendA G H ts.toList xs = some (v, H')) (hx : okL ρ D xs) :
  Makes P G ρ D w H (Builtin.append_ ts u (concL ρ xs).toArray) v H' := by
 unfold appendA at h
 split at h
 ·rename_i st xt s x hts
  have hts' : ts = #[st, xt] := by rw [← Array.toArray_toList (xs := ts), hts]
  subst hts'
  obtain ⟨hs, hxx, _⟩ := hx
  obtain ⟨e, he, h⟩ := bindO_some h
  obtain ⟨xu, hxu, h⟩ := bindO_some h
  obtain ⟨hint, h⟩ := cond_none h
  obtain ⟨i, hi, h⟩ := bindO_some h
  obtain ⟨n, hn, h⟩ := bindO_some h
  obtain ⟨zero, hzero, h⟩ := bindO_some h
  obtain ⟨h0, h⟩ := cond_none h
  obtain ⟨h1, h⟩ := cond_some h
  obtain ⟨h2, h⟩ := cond_some h
  obtain ⟨h3, h⟩ := cond_some h
  obtain ⟨h4, h⟩ := cond_some h
  obtain ⟨new, hnew, h⟩ := bindO_some h
  have h2 := beq_of h2
  rw [len_eq] at h2
  have h3 := ble_le h3
  have h4 := ble_le h4
  have hz0 : i.size ≠ 0 := by intro e0; rw [e0] at h0; simp at h0
  have hzs : i.size = 1 ∨ ∀ s, x ≠ .str s := by
   cases x <;> simp_all [srcOk]
  have hf := firstA_ok (P := P) hH hnew hxx hzs
  have hnl : new.length = n * i.size := by
   by_cases hstr : ∃ t, x = .str t
   ·obtain ⟨t, rfl⟩ := hstr
    rw [hf.2.2.2 t rfl]
    rcases hzs with hzs | hzs
    ·rw [hzs, Nat.mul_one]
    ·exact absurd rfl (hzs t)
   ·rcases hf.2.2.1 (fun t ht => hstr ⟨t, ht⟩) with hnil | hl
    ·subst hnil
     simp only [lenOfA, Option.some.injEq] at hn; subst hn
     simp only [firstA, Option.some.injEq] at hnew; subst hnew
     simp
    ·exact hl
  have hsz : G.size e = some i.size := by simp [Tab.size, hi]
  have A : AppArgs P G ρ D w e i.size n st xt i zero x new xu := {
   hst := elemOf_some T he
   hxt := T.und hxu
   hxi := fun k hk => by subst hk; simp [intD] at hint
   hp := T.types e i hi
   hz := rfl
   hb := h3
   hzero := fun w' => T.zeroValue hzero ρ w'
   hn := fun w' => lenOfA_ok hn
   hnew := fun w' hw' => (firstA_ok (P := P) (hH.same hw') hnew hxx hzs).1 }
  exact appendTo_ok hH A hs hf.2.1 hnl hsz hz0 h2 h4 h
 ·simp at h
theorem copyA_ok (T : TabOk P G) (hH : HRel G ρ D w H) {ts : Array TypeId} {xs : List AV} {u : TypeId} {v : AV} {H' : Heap} (h : copyA G H ts.toList xs = some (v, H')) (hx : okL ρ D xs) :
  Makes P G ρ D w H (Builtin.copy_ ts u (concL ρ xs).toArray) v H' := by
 unfold copyA at h
 split at h
 ·rename_i dt rest d x hts
  have hts' : ts = (dt :: rest).toArray := by rw [← hts]
  subst hts'
  obtain ⟨hd, hxx, _⟩ := hx
  obtain ⟨e, he, h⟩ := bindO_some h
  obtain ⟨z, hz, h⟩ := bindO_some h
  obtain ⟨n, hn, h⟩ := bindO_some h
  obtain ⟨m, hm, h⟩ := bindO_some h
  obtain ⟨cs, hcs, h⟩ := bindO_some h
  have hf : (Builtin.firstCells z (Nat.min n m) (conc ρ x)).run P w = .ok (concL ρ cs).toArray w ∧ okL ρ D cs := by
   by_cases hstr : ∃ t, x = .str t
   ·obtain ⟨t, rfl⟩ := hstr
    obtain ⟨a1, a2, _⟩ := firstA_ok (P := P) (z := 1) hH (x := .str t) (by simpa [firstA] using hcs) hxx (.inl rfl)
    exact ⟨by simpa [Builtin.firstCells, conc] using a1, a2⟩
   ·obtain ⟨a1, a2, _⟩ := firstA_ok (P := P) hH hcs hxx (.inr fun t ht => hstr ⟨t, ht⟩)
    exact ⟨a1, a2⟩
  cases d with
  | slice b off l q c =>
   simp only [lenOfA, Option.some.injEq] at hm; subst hm
   obtain ⟨rfl, w', r1, r2, r3⟩ := inPlace_ok (P := P) hH h hd.1 hf.2
   refine ⟨ρ, D, w', ?_, r2, r3, trivial⟩
   have r1' := r1
   unfold Builtin.copy_
   simp only [concL, conc, List.getElem?_toArray, List.getElem?_cons_zero, List.getElem?_cons_succ, Sem.run_bind, run_underlying (elemOf_some T he), Result.andThen_ok,
    lenOfA_ok hn, T.sizeOf hz, hf.1, Sem.run_pure, natV]
   rw [show (⟨ρ.blk b, ρ.base b + off, none⟩ : Addr) = adr ρ b off from rfl]
   rw [r1']
   rfl
  | nilslice =>
   simp only [lenOfA, Option.some.injEq] at hm; subst hm
   simp only [copyTo, Option.some.injEq, Prod.mk.injEq] at h
   obtain ⟨rfl, rfl⟩ := h
   refine ⟨ρ, D, w, ?_, hH, .refl _ _ _, trivial⟩
   unfold Builtin.copy_
   simp only [concL, conc, List.getElem?_toArray, List.getElem?_cons_zero, List.getElem?_cons_succ, Sem.run_bind, run_underlying (elemOf_some T he), Result.andThen_ok,
    lenOfA_ok hn, T.sizeOf hz, hf.1, Sem.run_pure, natV]
   rw [show Nat.min n 0 = 0 from Nat.min_zero n]
   rfl
  | _ => simp [copyTo] at h
 ·simp at h
end
end Go.Sx
namespace Go.Sx
section
variable {P : Program} {G : Tab} {ρ : Env} {D : Nat → Prop} {w : World} {H : Heap}
theorem bytes_length : ∀ l : List UInt8, (bytesA l).length = l.length := by
 intro l
 induction l with
 | nil => rfl
 | cons b l ih => show (bytesA l).length + 1 = _; rw [ih]; rfl
theorem bytes_cells : ∀ l : List UInt8, ∀ v ∈ bytesA l, oneCell v = true := by
 intro l
 induction l with
 | nil => intro v hv; simp [bytesA] at hv
 | cons b l ih =>
  intro v hv
  have hv : v ∈ byteV b :: bytesA l := hv
  rcases List.mem_cons.1 hv with rfl | hv
  ·rfl
  ·exact ih v hv
theorem modify_push {α : Type} (a : Array α) (x : α) (f : α → α) : (a.push x).modify a.size f = a.push (f x) := by
 apply Array.ext
 ·simp
 ·intro i h1 h2
  simp only [Array.getElem_modify, Array.getElem_push]
  split
  ·subst_vars; simp
  ·split
   ·rfl
   ·rename_i h3 h4; simp at h1; omega
theorem toBytes_ok (T : TabOk P G) (hH : HRel G ρ D w H) {e : TypeId} {s : List UInt8} {d : TypeDesc} {v : AV} {H' : Heap} (hd : G.und e = some d) (h : toBytes H e s d = some (v, H')) :
  d = .int .u8 ∧ Makes P G ρ D w H (Conv.stringToBytes e ⟨s.toArray⟩) v H' := by
 obtain ⟨hu, g⟩ := cond_some h
 clear h
 have h := g
 clear g
 have hu : d = .int .u8 := by
  unfold u8D at hu
  split at hu
  ·rfl
  ·simp at hu
 refine ⟨hu, ?_⟩
 subst hu
 obtain ⟨hle, h⟩ := cond_some h
 obtain ⟨h1, h⟩ := newRowA_some h
 simp only [Option.some.injEq, Prod.mk.injEq] at h
 obtain ⟨rfl, rfl⟩ := h
 rw [len_eq]
 obtain ⟨cap, w₁, c1, c2, c3⟩ := appendCap_cut w P s.length 0 e
 have hfresh : ¬ D H.next := fun hd => Nat.lt_irrefl _ (hH.lt _ hd)
 have hsub := ρ.at_sub hfresh w₁.heap.size 0 cap
 have hsz : (concL ρ (bytesA s)).length = s.length := by rw [concL_eq, List.length_map, bytes_length]
 let arr : Array Value := (concL ρ (bytesA s)).toArray ++ Array.replicate (cap - s.length) (.int .u8 0)
 have harr : arr.size = cap := by simp [arr, hsz]; omega
 obtain ⟨r1, r2⟩ := (hH.same c3).pushEnd (w' := { w₁ with heap := w₁.heap.push (.cells arr e (arr.size, arr.size + 1)) }) (.cells e false (bytesA s)) (.cells arr e (arr.size, arr.size + 1)) cap rfl (by
  refine ⟨(hsub.concL _ (bytesA_ok s)).2, h1, arr, (arr.size, arr.size + 1), by simp [Env.at], .inr (Nat.le_refl _), ?_, fun i u hu => ?_, fun _ z hz => ?_, fun h => by simp at h⟩
  ·simp only [Env.at, if_true, harr, bytes_length]; omega
  ·have hu' := okL_iff.1 (bytesA_ok (ρ := ρ) (D := D) s) u (List.mem_of_getElem? hu)
   have hlt : i < (concL ρ (bytesA s)).toArray.size := by
    have := (List.getElem?_eq_some_iff.1 hu).1
    simpa [concL_eq] using this
   have e0 : (ρ.at H.next w₁.heap.size 0 cap).base H.next + i = i := by simp [Env.at]
   rw [e0, Array.getElem?_append_left hlt]
   simp only [concL_eq, List.getElem?_toArray, List.getElem?_map, hu, Option.map_some]
   rw [hsub.eq hu']
  ·have := T.byte e z hd hz
   subst this
   simp only [Env.at, if_true, bytes_length, harr]
   omega)
 refine ⟨_, _, _, ?_, r1, r2, .inr rfl, fun _ => by simpa [Env.at] using c2⟩
 have e1 : (⟨s.toArray⟩ : ByteArray).size = s.length := size_mk s
 have e2 : ((⟨s.toArray⟩ : ByteArray).data.map fun b => Value.int .u8 b.toNat) = (concL ρ (bytesA s)).toArray := by rw [bytesA_eq]; simp
 unfold Conv.stringToBytes
 simp only [Sem.run_bind, e1, c1, Result.andThen_ok, e2]
 have e3 : (newRow e arr).run P w₁ = .ok ⟨w₁.heap.size, 0, none⟩ { w₁ with heap := w₁.heap.push (.cells arr e (0, 0)) } := by simp [newRow]
 simp only [arr] at e3 harr ⊢
 rw [e3]
 simp only [Result.andThen_ok, markStringish, Sem.run_bind, run_shape, World.shape?, Array.getElem?_push_size, run_freeze, Sem.run_pure, World.freeze, Nat.one_ne_zero, if_false, modify_push]
 simp [conc, Env.at]
theorem unbytes_some : ∀ {l : List AV} {s : List UInt8}, unbytes l = some s → ∃ ns : List Int, concL ρ l = ns.map (Value.int .u8) ∧ s = ns.map fun n => UInt8.ofNat n.toNat := by
 intro l
 induction l with
 | nil => intro s h; have h : some [] = some s := h; simp only [Option.some.injEq] at h; subst h; exact ⟨[], rfl, rfl⟩
 | cons a l ih =>
  intro s h
  obtain ⟨x, m, hx, hm, rfl⟩ := consOO_some (a := unbyte a) (o := unbytes l) h
  obtain ⟨ns, h1, h2⟩ := ih hm
  unfold unbyte at hx
  split at hx
  ·rename_i n
   simp only [Option.some.injEq] at hx; subst hx
   exact ⟨Int.ofNat n :: ns, by simp [concL, h1, conc], by simp [h2]⟩
  ·simp at hx
theorem foldl_push : ∀ (ns : List Int) (s : ByteArray), ns.foldl (fun r n => r.push (UInt8.ofNat n.toNat)) s = ⟨s.data ++ (ns.map fun n => UInt8.ofNat n.toNat).toArray⟩ := by
 intro ns
 induction ns with
 | nil => intro s; simp
 | cons n ns ih => intro s; rw [List.foldl_cons, ih]; simp [ByteArray.push]
theorem HRel.mark (hH : HRel G ρ D w H) {b off : Nat} {e : TypeId} {ex : Bool} {l : List AV} (hb : D b) (ho : H.blks.get b = some (.cells e ex l)) :
  ∃ w', (markStringish (adr ρ b off)).run P w = .ok () w' ∧ HRel G ρ D w' H := by
 obtain ⟨b1, b2, arr, fz, b3, b4, b5⟩ := hH.blk b _ hb ho
 have hst : ¬ StillB (some (.cells e ex l)) := by simp [StillB]
 have hrun : (markStringish (adr ρ b off)).run P w = .ok () (w.freeze ⟨ρ.blk b, arr.size, none⟩ 1) := by
  simp only [markStringish, Sem.run_bind, run_shape, World.shape?, adr, b3, Result.andThen_ok, run_freeze]
 have hw : ∀ j, j ≠ ρ.blk b → (w.freeze ⟨ρ.blk b, arr.size, none⟩ 1).heap[j]? = w.heap[j]? := fun j hj => by
  simp [World.freeze, Array.getElem?_modify, Ne.symm hj]
 obtain ⟨fz', f1, f2⟩ : ∃ fz', (w.freeze ⟨ρ.blk b, arr.size, none⟩ 1).heap[ρ.blk b]? = some (.cells arr e fz') ∧ Loose arr.size fz' := by
  obtain ⟨lo, hi⟩ := fz
  refine ⟨if lo == hi then (arr.size, arr.size + 1) else (min lo arr.size, max hi (arr.size + 1)), ?_, ?_⟩
  ·simp [World.freeze, Array.getElem?_modify, b3]
  ·rcases b4 with b4 | b4
   ·simp only at b4
    simp only [b4, beq_self_eq_true, if_true]
    exact .inr (Nat.le_refl _)
   ·simp only at b4
    split
    ·exact .inr (Nat.le_refl _)
    ·exact .inr (by simp only; omega)
 refine ⟨_, hrun, ⟨hH.lt, hH.glob, hH.inj, fun x o hx hox => ?_, fun i q hi => ?_, hH.kin.trans ⟨rfl, rfl, rfl, by simp [World.freeze]⟩⟩⟩
 ·by_cases hxb : x = b
  ·subst hxb
   rw [ho] at hox
   simp only [Option.some.injEq] at hox; subst hox
   exact ⟨b1, b2, arr, fz', f1, f2, b5⟩
  ·exact (hH.blk x o hx hox).sub (.refl _ _) hx (hw _ fun he => hxb ((hH.inj _ _ _ _ hx hb hox ho he).resolve_right fun e => hst e.2))
 ·obtain ⟨h1, h2⟩ := hH.rest i q hi
  have hne : ρ.blk b ≠ i := fun hxi => by
   have := h2 b hb hxi
   rw [ho] at this
   exact hst this
  exact ⟨by rw [hw i fun e => hne e.symm]; exact h1, h2⟩
theorem u8D_eq {d : TypeDesc} (hu : u8D d = true) : d = .int .u8 := by
 unfold u8D at hu
 split at hu
 ·rfl
 ·simp at hu
theorem liesAt_one {e : TypeId} {z count : Nat} (hc : P.cellsOf e = z) (h0 : z ≠ 0) (hn : 1 ≤ count) : liesAt P P.depth e count 0 e 1 = true := by
 have hd : P.depth = (2 * (P.types.size + Made.depth) + 1) + 1 := rfl
 rw [hd]
 simp only [liesAt, Bool.or_eq_true]
 left
 rw [hd]
 simp [rowAt, hc, h0, hn, sameLayout]
theorem unsafePtr_some {u : TypeId} {x v : AV} {H' : Heap} (h : unsafePtr G H u x = some (v, H')) : (x = .nilptr ∧ v = .nilptr ∧ H' = H) ∨
  ∃ b l z, x = .ptr b 0 ∧ v = .ptr b 0 ∧ H' = H ∧ H.blks.get b = some (.cells u true l) ∧ G.size u = some z ∧ z ≠ 0 ∧ z ≤ l.length := by
 unfold unsafePtr at h
 split at h
 ·simp only [Option.some.injEq, Prod.mk.injEq] at h
  exact .inl ⟨rfl, h.1.symm, h.2.symm⟩
 ·rename_i b off
  obtain ⟨e, he, h1⟩ := bindO_some h
  obtain ⟨k1, h2⟩ := cond_some h1
  obtain ⟨z, hz, h3⟩ := bindO_some h2
  obtain ⟨k2, h4⟩ := cond_none h3
  obtain ⟨k3, h5⟩ := cond_some h4
  simp only [Option.some.injEq, Prod.mk.injEq] at h5
  unfold headOf at he
  split at he
  ·rename_i e0 l hg
   simp only [Option.some.injEq] at he
   subst he
   have k1 : e0 = u := Nat.eq_of_beq_eq_true k1
   subst k1
   have k2 : z ≠ 0 := fun h0 => by rw [h0] at k2; exact absurd k2 (by simp)
   have k3 := ble_le k3
   rw [len_eq] at k3
   exact .inr ⟨b, l, z, rfl, h5.1.symm, h5.2.symm, hg, hz, k2, k3⟩
  ·simp at he
 ·simp at h
theorem toUnsafe_ok (T : TabOk P G) (hH : HRel G ρ D w H) {src dst u : TypeId} {x v : AV} {H' : Heap} (e1 : P.underlying src = some (.pointer u)) (e2 : P.underlying dst = some .unsafePointer)
  (h : unsafePtr G H u x = some (v, H')) (hx : okV ρ D x) : Makes P G ρ D w H (convert src dst (conc ρ x)) v H' := by
 rcases unsafePtr_some h with ⟨rfl, rfl, rfl⟩ | ⟨b, l, z, rfl, rfl, rfl, hg, hz, h0, hl⟩
 ·refine ⟨ρ, D, w, ?_, hH, .refl _ _ _, trivial⟩
  unfold convert
  simp only [Sem.run_bind, run_underlying e1, run_underlying e2, Result.andThen_ok, conc, Conv.unsafePointer, Sem.run_pure]
 ·obtain ⟨b1, b2, arr, fz, b3, b4, b5, b6, b7⟩ := hH.blk b _ hx hg
  obtain ⟨i, _, hi, hs⟩ := T.info hz
  refine ⟨ρ, D, w, ?_, hH, .refl _ _ _, hx⟩
  have hsh : w.shape? (ρ.blk b) = some (u, arr.size) := by simp [World.shape?, b3]
  have hb0 := b7.2 rfl
  exact Lib.run_to_unsafe w ⟨ρ.blk b, ρ.base b + 0, none⟩ e1 e2 hi (by omega) hsh (by show ρ.base b + 0 < arr.size; omega)
theorem fromUnsafe_ok (T : TabOk P G) (hH : HRel G ρ D w H) {src dst u : TypeId} {x v : AV} {H' : Heap} (e1 : P.underlying src = some .unsafePointer) (e2 : P.underlying dst = some (.pointer u))
  (h : unsafePtr G H u x = some (v, H')) (hx : okV ρ D x) : Makes P G ρ D w H (convert src dst (conc ρ x)) v H' := by
 rcases unsafePtr_some h with ⟨rfl, rfl, rfl⟩ | ⟨b, l, z, rfl, rfl, rfl, hg, hz, h0, hl⟩
 ·refine ⟨ρ, D, w, ?_, hH, .refl _ _ _, trivial⟩
  unfold convert
  simp only [Sem.run_bind, run_underlying e1, run_underlying e2, Result.andThen_ok, conc, Conv.unsafePointer, Sem.run_pure]
 ·obtain ⟨b1, b2, arr, fz, b3, b4, b5, b6, b7⟩ := hH.blk b _ hx hg
  obtain ⟨i, _, hi, hs⟩ := T.info hz
  refine ⟨ρ, D, w, ?_, hH, .refl _ _ _, hx⟩
  have hsh : w.shape? (ρ.blk b) = some (u, arr.size) := by simp [World.shape?, b3]
  have hb0 := b7.2 rfl
  have hc : P.cellsOf u = z := by simp [Program.cellsOf, hi, hs]
  have hcount : 1 ≤ arr.size / P.cellsOf u := by rw [hc]; exact (Nat.le_div_iff_mul_le (Nat.pos_of_ne_zero h0)).2 (by omega)
  have hl1 := liesAt_one (P := P) hc h0 hcount
  exact Lib.run_from_unsafe w ⟨ρ.blk b, ρ.base b + 0, none⟩ e1 e2 hi hsh (by show liesAt P P.depth u (arr.size / P.cellsOf u) (ρ.base b + 0) u 1 = true; rw [hb0]; exact hl1)
theorem convertA_ok (T : TabOk P G) (hH : HRel G ρ D w H) {src dst : TypeId} {x v : AV} {H' : Heap} (h : convertA G H src dst x = some (v, H')) (hx : okV ρ D x) :
  Makes P G ρ D w H (convert src dst (conc ρ x)) v H' := by
 obtain ⟨su, hsu, h⟩ := bindO_some h
 obtain ⟨du, hdu, h⟩ := bindO_some h
 have e1 := T.und hsu
 have e2 := T.und hdu
 unfold convertD at h
 split at h
 ·exact toUnsafe_ok T hH e1 e2 h hx
 ·exact fromUnsafe_ok T hH e1 e2 h hx
 ·rename_i k k' n
  simp only [Option.some.injEq, Prod.mk.injEq] at h
  obtain ⟨rfl, rfl⟩ := h
  refine ⟨ρ, D, w, ?_, hH, .refl _ _ _, trivial⟩
  unfold convert
  simp only [Sem.run_bind, run_underlying e1, run_underlying e2, Result.andThen_ok, conc, Conv.intToInt, Sem.run_pure, awrap_eq]
 ·rename_i s
  simp only [Option.some.injEq, Prod.mk.injEq] at h
  obtain ⟨rfl, rfl⟩ := h
  refine ⟨ρ, D, w, ?_, hH, .refl _ _ _, trivial⟩
  unfold convert
  simp only [Sem.run_bind, run_underlying e1, run_underlying e2, Result.andThen_ok, conc, Sem.run_pure]
 ·rename_i e s
  obtain ⟨d, hd, h⟩ := bindO_some h
  obtain ⟨rfl, ρ', D', w', r1, r2, r3, r4⟩ := toBytes_ok T hH hd h
  refine ⟨ρ', D', w', ?_, r2, r3, r4⟩
  unfold convert
  simp only [Sem.run_bind, run_underlying e1, run_underlying e2, Result.andThen_ok, conc, T.underlying hd, r1]
 ·rename_i y el _ _
  obtain ⟨d, hd, h0⟩ := bindO_some h
  obtain ⟨hu, h1⟩ := cond_some h0
  clear h0 h
  have hu : d = .int .u8 := by
   unfold u8D at hu
   split at hu
   ·rfl
   ·simp at hu
  subst hu
  have h := h1
  clear h1
  cases x with
  | slice b off n q c =>
   obtain ⟨cs, hcs, h⟩ := bindO_some h
   obtain ⟨s, hs, h⟩ := bindO_some h
   simp only [Option.some.injEq, Prod.mk.injEq] at h
   obtain ⟨rfl, rfl⟩ := h
   obtain ⟨l1, l2, l3⟩ := loadCellsA_ok (P := P) hH hx.1 hcs
   obtain ⟨ns, n1, n2⟩ := unbytes_some (ρ := ρ) hs
   refine ⟨ρ, D, w, ?_, hH, .refl _ _ _, trivial⟩
   rw [n1] at l1
   have := run_bytesToString (P := P) w (adr ρ b off) n (if q then ρ.cap b - c else c) ns l1
   rw [foldl_push] at this
   unfold convert
   simp only [adr] at this
   simp only [Sem.run_bind, run_underlying e1, run_underlying e2, Result.andThen_ok, conc, T.underlying hd, this, n2]
   simp
  | nilslice =>
   simp only [Option.some.injEq, Prod.mk.injEq] at h
   obtain ⟨rfl, rfl⟩ := h
   refine ⟨ρ, D, w, ?_, hH, .refl _ _ _, trivial⟩
   unfold convert
   simp only [Sem.run_bind, run_underlying e1, run_underlying e2, Result.andThen_ok, conc, T.underlying hd, Conv.bytesToString, Sem.run_pure]
   rfl
  | _ => simp at h
 ·rename_i e0 e b o n q c _ _
  obtain ⟨d, hd, h0⟩ := bindO_some h
  obtain ⟨hsame, h0⟩ := cond_some h0
  obtain ⟨hu, h1⟩ := cond_some h0
  have hu := u8D_eq hu
  subst hu
  have hsd : src = dst := by simpa using hsame
  subst hsd
  have he : e0 = e := by rw [e1] at e2; simpa using e2
  subst he
  unfold rowIn at h1
  split at h1
  ·rename_i ec ex l ho
   simp only [Option.some.injEq, Prod.mk.injEq] at h1
   obtain ⟨rfl, rfl⟩ := h1
   obtain ⟨w', m1, m2⟩ := HRel.mark (P := P) (off := o) hH hx.1 ho
   refine ⟨ρ, D, w', ?_, m2, .refl _ _ _, hx⟩
   unfold convert
   simp only [Sem.run_bind, run_underlying e1, run_underlying e2, Result.andThen_ok, conc, T.underlying hd, beq_self_eq_true]
   simp only [adr] at m1
   rw [m1]
   rfl
  ·simp at h1
 ·simp at h
end
end Go.Sx
namespace Go.Sx
section
variable {P : Program} {G : Tab} {ρ : Env} {D : Nat → Prop} {w : World} {H : Heap}
theorem HRel.freezeKill (hH : HRel G ρ D w H) {b o n : Nat} {e : TypeId} {ex : Bool} {l : List AV} (hb : D b) (ho : H.blks.get b = some (.cells e ex l)) : HRel G ρ D (w.freeze ⟨ρ.blk b, o, none⟩ n) (killA H b) := by
 have hst : ¬ StillB (some (.cells e ex l)) := by simp [StillB]
 have hw : ∀ j, j ≠ ρ.blk b → (w.freeze ⟨ρ.blk b, o, none⟩ n).heap[j]? = w.heap[j]? := fun j hj => by
  unfold World.freeze
  split
  ·rfl
  ·simp [Array.getElem?_modify, Ne.symm hj]
 have hK := hH.kill b
 refine ⟨hK.lt, hK.glob, hK.inj, fun x q hx hq => ?_, fun i q hi => ?_, hH.kin.trans ⟨?_, ?_, ?_, ?_⟩⟩
 ·have hq' := hq
  unfold killA at hq'
  rw [Heap.get_put] at hq'
  split at hq'
  ·simp at hq'
  ·rename_i hxb
   exact (hK.blk x q hx hq).sub (.refl _ _) hx (hw _ fun he => hxb ((hH.inj _ _ _ _ hx hb hq' ho he).resolve_right fun e => hst e.2))
 ·obtain ⟨h1, h2⟩ := hK.rest i q hi
  have hne : ρ.blk b ≠ i := fun hxi => by
   have := (hH.rest i q hi).2 b hb hxi
   rw [ho] at this
   exact hst this
  exact ⟨by rw [hw i fun e => hne e.symm]; exact h1, h2⟩
 all_goals (unfold World.freeze; split <;> simp)
theorem liesAt_row {e : TypeId} (hc : P.cellsOf e = 1) (count off n : Nat) (hn : off + n ≤ count) : liesAt P P.depth e count off e n = true := by
 have hd : P.depth = (2 * (P.types.size + Made.depth) + 1) + 1 := rfl
 rw [hd]
 simp only [liesAt, Bool.or_eq_true]
 left
 rw [hd]
 simp [rowAt, hc, hn, sameLayout, Nat.mod_one]
theorem bytesA_at : ∀ (s : List UInt8) (j : Nat) (x : UInt8), s[j]? = some x → (bytesA s)[j]? = some (byteV x)
 | [], j, x, h => by simp at h
 | b :: s, 0, x, h => by simp at h; subst h; rfl
 | b :: s, j + 1, x, h => by
  show (bytesA s)[j]? = _
  exact bytesA_at s j x (by simpa using h)
theorem listBeq_av : ∀ (l m : List AV), listBeq AV.beq l m = true → l = m
 | [], [], _ => rfl
 | [], _ :: _, h => by simp [listBeq, isNil] at h
 | a :: l, [], h => by simp [listBeq] at h
 | a :: l, b :: m, h => by
  have h : (bif AV.beq a b then listBeq AV.beq l m else false) = true := h
  cases hb : AV.beq a b
  ·rw [hb] at h; simp at h
  ·rw [hb] at h
   rw [AV.beq_eq a b hb, listBeq_av l m h]
theorem run_unsafeString_at (ts : Array TypeId) (ty pt e : TypeId) (hts : ts[0]? = some pt) (hp : P.underlying pt = some (.pointer e)) (hc : P.cellsOf e = 1) (g o cells : Nat) (hsh : w.shape? g = some (e, cells)) (l : List UInt8) (h0 : l ≠ []) (hn : o + l.length ≤ cells) (h63 : l.length ≤ 9223372036854775807)
  (hcell : ∀ j x, l[j]? = some x → w.cell? ((⟨g, o, none⟩ : Addr).add j) = some (.int .u8 x.toNat)) :
  (Builtin.unsafeString_ ts ty #[.pointer (some ⟨g, o, none⟩), .int .i64 l.length]).run P w = .ok (.string ⟨l.toArray⟩) (w.freeze ⟨g, o, none⟩ l.length) := by
 have hl : l.length ≠ 0 := by simpa using h0
 have hlb := Lib.run_loadBytes (P := P) w l ⟨g, o, none⟩ .empty hcell
 have hlies := liesAt_row (P := P) hc (cells / P.cellsOf e) o l.length (by rw [hc]; simpa using hn)
 have h63' : ¬ (9223372036854775807 : Int) < (l.length : Int) := by omega
 have hmax : IntKind.i64.max = 9223372036854775807 := rfl
 have hneg : ¬ (l.length : Int) < 0 := by omega
 have hdef : Builtin.unsafeString_ ts ty #[.pointer (some ⟨g, o, none⟩), .int .i64 l.length] =
   (do
    let n ← asInt (.int .i64 l.length)
    let some pt := ts[0]? | stuck "unsafe.String: no argument types"
    if n < 0 then runtimePanic (.error "unsafe.String: len out of range")
    if n > IntKind.i64.max then unsupported (.unsafePointer "String: a length above the largest int")
    if n = 0 then pure (.string .empty)
    else if ← variablesAt ⟨g, o, none⟩ (← Go.elemOf pt) n.toNat then do
     let s ← loadBytes ⟨g, o, none⟩ .empty n.toNat
     freeze ⟨g, o, none⟩ n.toNat
     pure (.string s)
    else unsupported (.unsafePointer "String: not so many bytes at ptr")) := rfl
 rw [hdef, hts]
 simp [asInt, asIntOf, hmax, h63', hneg, hl, variablesAt, hsh, Go.elemOf, run_underlying hp, hlies, hlb]
theorem run_unsafeString_nil (ts : Array TypeId) (ty pt : TypeId) (hts : ts[0]? = some pt) : (Builtin.unsafeString_ ts ty #[.pointer none, .int .i64 0]).run P w = .ok (.string .empty) w := by
 have hmax : ¬ IntKind.i64.max < 0 := by decide
 have hdef : Builtin.unsafeString_ ts ty #[.pointer none, .int .i64 0] =
   (do
    let n ← asInt (.int .i64 0)
    let some pt := ts[0]? | stuck "unsafe.String: no argument types"
    if n < 0 then runtimePanic (.error "unsafe.String: len out of range")
    if n > IntKind.i64.max then unsupported (.unsafePointer "String: a length above the largest int")
    if n = 0 then pure (.string .empty)
    else runtimePanic (.error "unsafe.String: ptr is nil and len is not zero")) := rfl
 rw [hdef, hts]
 simp [asInt, asIntOf, hmax]
theorem unsafeStr2_ok (T : TabOk P G) (hH : HRel G ρ D w H) {ts : Array TypeId} {u : TypeId} {xs : List AV} {v : AV} {H' : Heap} (h : unsafeStr2 G H ts.toList xs = some (v, H')) (hx : okL ρ D xs) :
  Makes P G ρ D w H (Builtin.unsafeString_ ts u (concL ρ xs).toArray) v H' := by
 unfold unsafeStr2 at h
 split at h
 ·rename_i t ts' p n hts
  have hts0 : ts[0]? = some t := by rw [← Array.getElem?_toList, hts]; rfl
  unfold unsafeStr at h
  split at h
  ·simp only [Option.some.injEq, Prod.mk.injEq] at h
   obtain ⟨rfl, rfl⟩ := h
   exact ⟨ρ, D, w, run_unsafeString_nil ts u t hts0, hH, .refl _ _ _, trivial⟩
  ·rename_i b off k
   unfold strOfRow at h
   split at h
   ·rename_i e l hg
    obtain ⟨q, hq, h1⟩ := bindO_some h
    obtain ⟨k1, h2⟩ := cond_some h1
    obtain ⟨z, hz, h3⟩ := bindO_some h2
    obtain ⟨k2, h4⟩ := cond_some h3
    obtain ⟨k3, h5⟩ := cond_some h4
    obtain ⟨cs, hcs, h6⟩ := bindO_some h5
    obtain ⟨s, hs, h7⟩ := bindO_some h6
    obtain ⟨k4, h8⟩ := cond_some h7
    simp only [Option.some.injEq, Prod.mk.injEq] at h8
    obtain ⟨rfl, rfl⟩ := h8
    have k1 : q = e := Nat.eq_of_beq_eq_true k1
    have k2 : z = 1 := Nat.eq_of_beq_eq_true k2
    have k3 := ble_le k3
    have k4 := listBeq_av _ _ k4
    obtain ⟨d, hd, hq⟩ := bindO_some hq
    have hd' : d = .pointer e := by
     unfold ptrElem at hq
     split at hq
     ·simp only [Option.some.injEq] at hq; rw [hq, k1]
     ·simp at hq
    rw [hd'] at hd
    rw [dropN_eq, takeN_eq] at hcs
    split at hcs
    ·rename_i hle
     simp only [Option.some.injEq] at hcs
     have hlen : s.length = k + 1 := by
      have := congrArg List.length (k4.trans hcs.symm)
      rw [bytes_length, List.length_take] at this
      omega
     have hb : D b := hx.1
     obtain ⟨b1, b2, arr, fz, b3, b4, b5, b6, b7⟩ := hH.blk b _ hb hg
     obtain ⟨i, _, hi, hsz⟩ := T.info hz
     have hc : P.cellsOf e = 1 := by simp [Program.cellsOf, hi, hsz, k2]
     have hld : (l.drop off).length = l.length - off := List.length_drop
     have hrun := run_unsafeString_at (P := P) (w := w) ts u t e hts0 (T.und hd) hc (ρ.blk b) (ρ.base b + off) arr.size (by simp [World.shape?, b3]) s (by intro h0; rw [h0] at hlen; simp at hlen) (by omega) (by omega) (fun j x hj => by
      have hj1 : cs[j]? = some (byteV x) := by
       rw [← k4]
       exact bytesA_at s j x hj
      rw [← hcs] at hj1
      have hjl : j < k + 1 := by have := (List.getElem?_eq_some_iff.1 hj).1; omega
      rw [List.getElem?_take_of_lt hjl, List.getElem?_drop] at hj1
      have := b6 _ _ hj1
      have e0 : ((⟨ρ.blk b, ρ.base b + off, none⟩ : Addr).add j) = ⟨ρ.blk b, ρ.base b + (off + j), none⟩ := by
       unfold Addr.add
       split
       ·rename_i h0; rw [h0]; rfl
       ·rw [Nat.add_assoc]
      rw [e0]
      simp only [World.cell?, b3]
      simpa [conc, byteV] using this)
     refine ⟨ρ, D, w.freeze ⟨ρ.blk b, ρ.base b + off, none⟩ s.length, ?_, hH.freezeKill hb hg, .same _ _ (Heap.next_put _ _ _), trivial⟩
     have e1 : (concL ρ [AV.ptr b off, .int .i64 (.ofNat (k + 1))]).toArray = #[.pointer (some ⟨ρ.blk b, ρ.base b + off, none⟩), .int .i64 s.length] := by
      rw [hlen]; rfl
     rw [e1]
     exact hrun
    ·simp at hcs
   ·simp at h
  ·simp at h
 ·simp at h
end
end Go.Sx
namespace Go.Sx
section
variable {P : Program} {G : Tab} {ρ : Env} {D : Nat → Prop} {w : World} {H : Heap}
def Gives (P : Program) (G : Tab) (ρ : Env) (D : Nat → Prop) (w : World) (H : Heap) (s : Sem Next) (v : AV) (H' : Heap) : Prop :=
 ∃ ρ' D' w', (s.run P w = .ok (.value (conc ρ' v)) w' ∨ v = undefA ∧ s.run P w = .ok .skip w') ∧ HRel G ρ' D' w' H' ∧ Ext H ρ D H' ρ' D' ∧ okV ρ' D' v
theorem Makes.gives {s : Sem Value} {v : AV} {H' : Heap} (h : Makes P G ρ D w H s v H') : Gives P G ρ D w H (do pure (.value (← s))) v H' := by
 obtain ⟨ρ', D', w', r1, r2, r3, r4⟩ := h
 exact ⟨ρ', D', w', .inl (by simp only [Sem.run_bind, r1, Result.andThen_ok, Sem.run_pure]), r2, r3, r4⟩
theorem Val.gives {s : Sem Value} {v : AV} (hH : HRel G ρ D w H) (h : Val P ρ D w s v) : Gives P G ρ D w H (do pure (.value (← s))) v H := (Makes.of_val hH h).gives
theorem gives_unit {s : Sem Unit} {H' : Heap} {w' : World} (h1 : s.run P w = .ok () w') (h2 : HRel G ρ D w' H') (h3 : H'.next = H.next) :
  Gives P G ρ D w H (do s; pure .skip) undefA H' :=
 ⟨ρ, D, w', .inr ⟨rfl, by simp only [Sem.run_bind, h1, Result.andThen_ok, Sem.run_pure]⟩, h2, .same _ _ h3, trivial⟩
theorem gives_pure (hH : HRel G ρ D w H) {v : AV} (hv : okV ρ D v) : Gives P G ρ D w H (pure (.value (conc ρ v))) v H := ⟨ρ, D, w, .inl rfl, hH, .refl _ _ _, hv⟩
theorem opt1_ok {tm : T AV} {ev : Operand → Value} (he : EvOk G ρ D tm ev) {o : Option Operand} {r : Option AV} (h : opt1 G tm o = some r) : o.map ev = r.map (conc ρ) := by
 cases o with
 | none => simp only [opt1, Option.some.injEq] at h; subst h; rfl
 | some x =>
  obtain ⟨v, hv, h⟩ := bindO_some h
  simp only [Option.some.injEq] at h; subst h
  simp [(he x v hv).1]
theorem loadPtr_ok (T : TabOk P G) (hH : HRel G ρ D w H) {t : TypeId} {a v : AV} (h : loadPtr G H t a = some v) (ha : okV ρ D a) : Val P ρ D w (Instr.loadAt t (conc ρ a)) v := by
 unfold loadPtr at h
 split at h
 ·rename_i b off
  obtain ⟨r1, r2⟩ := loadVarA_ok T hH ha h
  exact ⟨by simpa [Instr.loadAt, conc, Instr.sureAddr, adr] using r1, r2⟩
 ·simp at h
theorem storePtr_ok (T : TabOk P G) (hH : HRel G ρ D w H) {t : TypeId} {a v : AV} {H' : Heap} (h : storePtr G H t a v = some H') (ha : okV ρ D a) (hv : okV ρ D v) :
  ∃ w', (Instr.storeAt t (conc ρ a) (conc ρ v)).run P w = .ok () w' ∧ HRel G ρ D w' H' ∧ H'.next = H.next := by
 unfold storePtr at h
 split at h
 ·rename_i b off
  obtain ⟨w', r1, r2, r3⟩ := storeVarA_ok T hH ha hv h
  exact ⟨w', by simpa [Instr.storeAt, conc, Instr.sureAddr, adr] using r1, r2, r3⟩
 ·simp at h
theorem newMap_ok (hH : HRel G ρ D w H) {v : AV} {H' : Heap} (h : newMap H = some (v, H')) : Makes P G ρ D w H (do pure (.map (some (← newObj (.map #[] 0))))) v H' := by
 unfold newMap at h
 rw [newA_eq] at h
 simp only [Option.some.injEq, Prod.mk.injEq] at h
 obtain ⟨rfl, rfl⟩ := h
 obtain ⟨r1, r2⟩ := hH.pushEnd (w' := { w with heap := w.heap.push (.map #[] 0) }) (.map [] 0) (.map #[] 0) 0 rfl ⟨fun e he => by simp at he, #[], by simp [Env.at], rfl⟩
 exact ⟨_, _, _, by simp [conc, Env.at], r1, r2, .inr rfl⟩
theorem fold1_ok {f : AV → AV → Option AV} {g : Value → Value → Sem Value} (hf : ∀ a b v, f a b = some v → (g (conc ρ a) (conc ρ b)).run P w = .ok (conc ρ v) w ∧ okV ρ D v)
  {xs : List AV} {v : AV} (hx : okL ρ D xs) (h : fold1 f xs = some v) : ∃ a l, xs = a :: l ∧ ((concL ρ l).foldlM g (conc ρ a)).run P w = .ok (conc ρ v) w ∧ okV ρ D v := by
 cases xs with
 | nil => simp [fold1] at h
 | cons a l => exact ⟨a, l, rfl, fold2_ok hf hx.1 h⟩
theorem builtinN_ok (T : TabOk P G) (hH : HRel G ρ D w H) {b : Builtin} {ts : Array TypeId} {u : TypeId} {cs : Array Bool} {xs : List AV} {v : AV} (h : builtinN b G ts.toList xs H = some v) (hx : okL ρ D xs) :
  Gives P G ρ D w H (builtin b ts u cs (concL ρ xs).toArray) v H := by
 unfold builtinN at h
 split at h
 ·unfold sliceData1 at h
  split at h
  ·rename_i x
   unfold sliceDataA at h
   split at h
   ·simp only [Option.some.injEq] at h; subst h
    exact Val.gives hH ⟨Lib.run_unsafeSliceData_nil w ts u 0 0, trivial⟩
   ·rename_i b0 off n c
    obtain ⟨k, h1⟩ := cond_none h
    simp only [Option.some.injEq] at h1; subst h1
    have hn : n ≠ 0 := fun h0 => by rw [h0] at k; exact absurd k (by simp)
    have hc : c + n ≤ ρ.cap b0 := hx.1.2 rfl
    exact Val.gives hH ⟨Lib.run_unsafeSliceData_row w ts u ⟨ρ.blk b0, ρ.base b0 + off, none⟩ n (ρ.cap b0 - c) (by omega), hx.1.1⟩
   ·simp at h
  ·simp at h
 ·unfold fst1 at h
  split at h
  ·simp at h
  ·rename_i t ts' hts
   cases xs with
   | nil => simp at h
   | cons x xs =>
    exact Val.gives hH (lenA_ok T hH h hx.1 (by rw [← Array.getElem?_toList, hts]; rfl))
 ·unfold fst1 at h
  split at h
  ·simp at h
  ·rename_i t ts' hts
   cases xs with
   | nil => simp at h
   | cons x xs =>
    exact Val.gives hH (capA_ok T h (by rw [← Array.getElem?_toList, hts]; rfl))
 ·obtain ⟨a, l, rfl, r1, r2⟩ := fold1_ok (P := P) (w := w) (fun a b v h => min2A_ok h) hx h
  exact Val.gives hH ⟨by simpa [Builtin.min_, concL] using r1, r2⟩
 ·obtain ⟨a, l, rfl, r1, r2⟩ := fold1_ok (P := P) (w := w) (fun a b v h => max2A_ok h) hx h
  exact Val.gives hH ⟨by simpa [Builtin.max_, concL] using r1, r2⟩
 ·simp at h
theorem args_eq {tm : T AV} {ev : Operand → Value} (he : EvOk G ρ D tm ev) {l : Array Operand} {as : List AV} (h : aevs G tm l.toList = some as) :
  l.map ev = (concL ρ as).toArray ∧ okL ρ D as := by
 obtain ⟨h1, h2⟩ := he.list h
 refine ⟨?_, h2⟩
 rw [← h1]
 apply Array.ext'
 simp
theorem plainFn_ok {fn : Fn} (h : plainFn fn = true) : ∃ f, fn = .func f := by
 unfold plainFn at h
 split at h
 ·exact ⟨_, rfl⟩
 ·simp at h
theorem opN_ok (T : TabOk P G) (hH : HRel G ρ D w H) {tm : Sx.T AV} {ev : Operand → Value} (he : EvOk G ρ D tm ev) {o : Oper} {v : AV} {H' : Heap} (h : opN o.op G tm H = some (v, H')) :
  Gives P G ρ D w H (execOp ev o) v H' := by
 obtain ⟨dst, op, type, pos, after, guard⟩ := o
 simp only at h
 cases op
 case move x =>
  obtain ⟨hx, rfl⟩ := withH_some h
  obtain ⟨e1, e2⟩ := he x v hx
  simp only [execOp, e1]; exact gives_pure hH e2
 case assign x =>
  obtain ⟨hx, rfl⟩ := withH_some h
  obtain ⟨e1, e2⟩ := he x v hx
  simp only [execOp, e1]; exact gives_pure hH e2
 case pick c a b =>
  obtain ⟨hx, rfl⟩ := withH_some h
  obtain ⟨cv, hc, hx⟩ := bindO_some hx
  obtain ⟨e1, e2⟩ := he c cv hc
  unfold pickB at hx
  split at hx
  ·obtain ⟨e3, e4⟩ := he a v hx
   have := gives_pure (P := P) hH e4
   simpa [execOp, e1, conc, asBool, e3, Gives] using this
  ·obtain ⟨e3, e4⟩ := he b v hx
   have := gives_pure (P := P) hH e4
   simpa [execOp, e1, conc, asBool, e3, Gives] using this
  ·simp at hx
 case alloc t =>
  obtain ⟨z, hz, h⟩ := bindO_some h
  obtain ⟨_, _, _, _, hc⟩ := T.zero hz
  obtain ⟨ρ', D', w', r1, r2, r3, r4⟩ := boxA_ok (P := P) hH h (hc ρ D).2
  refine Makes.gives ⟨ρ', D', w', ?_, r2, r3, r4⟩
  simp only [Instr.alloc, Sem.run_bind, T.zeroValue hz ρ, Result.andThen_ok]
  simpa only [Sem.run_bind] using r1
 case box t x =>
  obtain ⟨z, hz, h⟩ := bindO_some h
  obtain ⟨e1, e2⟩ := he x z hz
  simp only [execOp, e1]
  exact (boxA_ok hH h e2).gives
 case build t ps =>
  obtain ⟨hx, rfl⟩ := withH_some h
  obtain ⟨qs, hq, hx⟩ := bindO_some hx
  obtain ⟨e1, e2⟩ := evParts_ok he hq
  have := buildA_ok (P := P) (w := w) T hx e2
  simp only [execOp]
  rw [show (ps.map fun (i, x) => (i, ev x)) = (qs.map fun q => (q.1, conc ρ q.2)).toArray from by rw [← e1]; apply Array.ext'; simp]
  exact Val.gives hH this
 case buildSlice t n ps =>
  obtain ⟨qs, hq, hx⟩ := bindO_some h
  obtain ⟨e1, e2⟩ := evParts_ok he hq
  have := buildSliceA_ok (P := P) (w := w) T hH hx e2
  simp only [execOp]
  rw [show (ps.map fun (i, x) => (i, ev x)) = (qs.map fun q => (q.1, conc ρ q.2)).toArray from by rw [← e1]; apply Array.ext'; simp]
  exact this.gives
 case load t a =>
  obtain ⟨hx, rfl⟩ := withH_some h
  obtain ⟨av, ha, hx⟩ := bindO_some hx
  obtain ⟨e1, e2⟩ := he a av ha
  simp only [execOp, e1]
  exact Val.gives hH (loadPtr_ok T hH hx e2)
 case nilCheck x =>
  obtain ⟨hx, rfl⟩ := withH_some h
  obtain ⟨av, ha, hx⟩ := bindO_some hx
  obtain ⟨e1, e2⟩ := he x av ha
  unfold nilCheckA at hx
  split at hx <;> simp only [Option.some.injEq, reduceCtorEq] at hx <;> subst hx <;> simp only [execOp, e1, conc] <;> exact gives_pure hH e2
 case binOp op t x y yt =>
  obtain ⟨hx, rfl⟩ := withH_some h
  obtain ⟨a, ha, hx⟩ := bindO_some hx
  obtain ⟨b, hb, hx⟩ := bindO_some hx
  obtain ⟨e1, e2⟩ := he x a ha
  obtain ⟨e3, e4⟩ := he y b hb
  simp only [execOp, e1, e3]
  exact Val.gives hH (binA_ok T hx e2 e4)
 case unOp op t x =>
  obtain ⟨hx, rfl⟩ := withH_some h
  obtain ⟨a, ha, hx⟩ := bindO_some hx
  obtain ⟨e1, e2⟩ := he x a ha
  simp only [execOp, e1]
  exact Val.gives hH (unA_ok hx)
 case makeInterface t x =>
  obtain ⟨d, hd, h⟩ := bindO_some h
  obtain ⟨hn, h⟩ := cond_some h
  obtain ⟨hx, rfl⟩ := withH_some h
  obtain ⟨a, ha, hx⟩ := bindO_some hx
  simp only [Option.some.injEq] at hx; subst hx
  obtain ⟨e1, e2⟩ := he x a ha
  simp only [execOp, e1]
  refine Val.gives hH ⟨?_, e2⟩
  simp only [Instr.makeInterface, Sem.run_bind, T.underlying hd, Result.andThen_ok]
  cases d <;> first | rfl | simp [notIface] at hn
 case typeAssert x xt t ok =>
  obtain ⟨hx, rfl⟩ := withH_some h
  obtain ⟨a, ha, hx⟩ := bindO_some hx
  obtain ⟨e1, e2⟩ := he x a ha
  unfold assertV at hx
  split at hx
  ·rename_i t' v'
   obtain ⟨d, hd, hx⟩ := bindO_some hx
   obtain ⟨hn, hx⟩ := cond_some hx
   obtain ⟨ht, hx⟩ := cond_some hx
   simp only [Option.some.injEq] at hx; subst hx
   have ht : t' = t := by simpa using ht
   subst ht
   have hv : okV ρ D v' := e2
   simp only [execOp, e1]
   rw [show conc ρ (.iface t' v') = .iface t' (conc ρ v') from rfl]
   refine Val.gives hH ⟨?_, ?_⟩
   ·simp only [Instr.typeAssert, Sem.run_bind, T.underlying hd, Result.andThen_ok]
    cases d <;> first | (simp [notIface] at hn; done) | (cases ok <;> simp [conc, concL])
   ·cases ok
    ·exact hv
    ·exact ⟨hv, trivial, trivial⟩
  ·simp at hx
 case makeFunc fn a b =>
  obtain ⟨hp, h⟩ := cond_some h
  obtain ⟨hx, rfl⟩ := withH_some h
  obtain ⟨xs, hxs, hx⟩ := bindO_some hx
  obtain ⟨ys, hys, hx⟩ := bindO_some hx
  simp only [Option.some.injEq] at hx; subst hx
  obtain ⟨e1, e2⟩ := args_eq he hxs
  obtain ⟨e3, e4⟩ := args_eq he hys
  simp only [execOp, e1, e3]
  refine Val.gives hH ⟨rfl, ?_, e2, e4⟩
  obtain ⟨f, rfl⟩ := plainFn_ok hp
  trivial
 case makeMap t r =>
  cases r with
  | none =>
   have h : newMap H = some (v, H') := h
   have := newMap_ok (P := P) hH h
   simp only [execOp, Option.map_none, Instr.makeMap]
   exact this.gives
  | some x =>
   obtain ⟨a, ha, h⟩ := bindO_some h
   obtain ⟨e1, e2⟩ := he x a ha
   obtain ⟨hr, h⟩ := cond_some h
   obtain ⟨ρ', D', w', r1, r2, r3, r4⟩ := newMap_ok (P := P) hH h
   refine Makes.gives ⟨ρ', D', w', ?_, r2, r3, r4⟩
   unfold reserveOk at hr
   split at hr
   ·rename_i hu
    simp only [Option.map_some, Instr.makeMap, e1, Sem.run_bind, T.underlying hu, Result.andThen_ok, conc, asInt, asIntOf, Sem.run_pure]
    simpa only [Sem.run_bind, Sem.run_pure] using r1
   ·simp at hr
 case makeSlice t l c =>
  obtain ⟨a, ha, h⟩ := bindO_some h
  obtain ⟨b, hb, h⟩ := bindO_some h
  obtain ⟨e1, e2⟩ := he l a ha
  obtain ⟨e3, e4⟩ := he c b hb
  simp only [execOp, e1, e3]
  exact (makeSliceA_ok T hH h).gives
 case slice t x lo hi mx =>
  obtain ⟨hx, rfl⟩ := withH_some h
  obtain ⟨a, ha, hx⟩ := bindO_some hx
  obtain ⟨e1, e2⟩ := he x a ha
  obtain ⟨a1, h1, hx⟩ := bindO_some hx
  obtain ⟨a2, h2, hx⟩ := bindO_some hx
  obtain ⟨a3, h3, hx⟩ := bindO_some hx
  simp only [execOp, e1, opt1_ok he h1, opt1_ok he h2, opt1_ok he h3]
  exact Val.gives hH (sliceA_ok T hx e2)
 case fieldAddr s x f =>
  obtain ⟨hx, rfl⟩ := withH_some h
  obtain ⟨a, ha, hx⟩ := bindO_some hx
  obtain ⟨e1, e2⟩ := he x a ha
  simp only [execOp, e1]
  exact Val.gives hH (fieldAddrA_ok T hx e2)
 case field s x f =>
  obtain ⟨hx, rfl⟩ := withH_some h
  obtain ⟨a, ha, hx⟩ := bindO_some hx
  obtain ⟨e1, e2⟩ := he x a ha
  simp only [execOp, e1]
  exact Val.gives hH (fieldA_ok T hx e2)
 case indexAddr t x i =>
  obtain ⟨hx, rfl⟩ := withH_some h
  obtain ⟨a, ha, hx⟩ := bindO_some hx
  obtain ⟨e1, e2⟩ := he x a ha
  obtain ⟨b, hb, hx⟩ := bindO_some hx
  obtain ⟨e3, e4⟩ := he i b hb
  simp only [execOp, e1, e3]
  exact Val.gives hH (indexAddrA_ok T hx e2)
 case index t x i =>
  obtain ⟨hx, rfl⟩ := withH_some h
  obtain ⟨a, ha, hx⟩ := bindO_some hx
  obtain ⟨e1, e2⟩ := he x a ha
  obtain ⟨b, hb, hx⟩ := bindO_some hx
  obtain ⟨e3, e4⟩ := he i b hb
  simp only [execOp, e1, e3]
  exact Val.gives hH (indexA_ok T hx e2)
 case lookup t x i ok =>
  obtain ⟨hx, rfl⟩ := withH_some h
  obtain ⟨a, ha, hx⟩ := bindO_some hx
  obtain ⟨e1, e2⟩ := he x a ha
  obtain ⟨b, hb, hx⟩ := bindO_some hx
  obtain ⟨e3, e4⟩ := he i b hb
  simp only [execOp, e1, e3]
  exact Val.gives hH (lookupA_ok T hH hx e2 e4)
 case entry x =>
  obtain ⟨hx, rfl⟩ := withH_some h
  obtain ⟨a, ha, hx⟩ := bindO_some hx
  obtain ⟨e1, e2⟩ := he x a ha
  simp only [execOp, e1]
  exact Val.gives hH (entryA_ok hH hx e2)
 case extract x i =>
  obtain ⟨hx, rfl⟩ := withH_some h
  obtain ⟨a, ha, hx⟩ := bindO_some hx
  obtain ⟨e1, e2⟩ := he x a ha
  simp only [execOp, e1]
  unfold extractA at hx
  split at hx
  ·rename_i vs
   rw [nth_eq] at hx
   refine Val.gives hH ⟨?_, okL_iff.1 e2 _ (List.mem_of_getElem? hx)⟩
   simp [Instr.extract, conc, concL_eq, hx]
  ·simp at hx
 case call c =>
  obtain ⟨hx, rfl⟩ := withH_some h
  obtain ⟨b, hb, hx⟩ := bindO_some hx
  obtain ⟨xs, hxs, hx⟩ := bindO_some hx
  obtain ⟨e1, e2⟩ := args_eq he hxs
  unfold calleeB at hb
  split at hb
  ·rename_i b' hb'
   simp only [Option.some.injEq] at hb; subst hb
   have := builtinN_ok (P := P) (u := type) (cs := c.args.map fun | .const _ => true | _ => false) T hH hx e2
   simp only [execOp, resolve, hb', e1]
   exact this
  ·simp at hb
 all_goals (first | (have h : (none : Option VH) = some (v, H') := h; simp at h))
end
end Go.Sx
