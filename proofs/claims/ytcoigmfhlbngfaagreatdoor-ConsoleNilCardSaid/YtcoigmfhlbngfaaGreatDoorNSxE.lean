/-
  Regions that draw their order are sound, for every order (part 4).
-/
import Derived.Test.YtcoigmfhlbngfaaGreatDoorNSxD
import Derived.Orders
set_option linter.unusedSimpArgs false
set_option linter.unusedVariables false
namespace Go.Sx
section
variable {P : Program} {G : Tab} {F : Fns}
theorem z3j {tm tm' : T AV} : ∀ {l : List Operand}, (∀ x ∈ l, aev G tm x = aev G tm' x) → aevs G tm l = aevs G tm' l := by
 intro l
 induction l with
 | nil => intro _; rfl
 | cons o l ih =>
  intro h
  show z2k (aev G tm o) (aevs G tm l) = z2k (aev G tm' o) (aevs G tm' l)
  rw [h o List.mem_cons_self, ih fun x hx => h x (List.mem_cons_of_mem _ hx)]
theorem z6C {tm tm' : T AV} : ∀ {l : List (Nat × Operand)}, (∀ p ∈ l, aev G tm p.2 = aev G tm' p.2) → z2e G tm l = z2e G tm' l := by
 intro l
 induction l with
 | nil => intro _; rfl
 | cons o l ih =>
  intro h
  show z2k (q7j o.1 (aev G tm o.2)) (z2e G tm l) = z2k (q7j o.1 (aev G tm' o.2)) (z2e G tm' l)
  rw [h o List.mem_cons_self, ih fun x hx => h x (List.mem_cons_of_mem _ hx)]
theorem z7i {tm tm' : T AV} {o : Option Operand} (h : ∀ x, o = some x → aev G tm x = aev G tm' x) : opt1 G tm o = opt1 G tm' o := by
 cases o with
 | none => rfl
 | some x => show z0b (aev G tm x) _ = z0b (aev G tm' x) _; rw [h x rfl]
theorem j0t {tm tm' : T AV} {op : Op} (h : ∀ x ∈ op.operands, aev G tm x = aev G tm' x) (H : Heap) : opN op G tm H = opN op G tm' H := by
 cases op
 case move x => simp only [opN, q6l]; rw [h x (by simp [Op.operands])]
 case assign x => simp only [opN, q6l]; rw [h x (by simp [Op.operands])]
 case pick c a b =>
  simp only [opN, j4I]
  rw [h c (by simp [Op.operands])]
  have ha := h a (by simp [Op.operands])
  have hb := h b (by simp [Op.operands])
  have : q7k G tm a b = q7k G tm' a b := by
   funext v
   unfold q7k
   split <;> simp only [ha, hb]
  rw [this]
 case alloc t => rfl
 case box t x => simp only [opN, j9H]; rw [h x (by simp [Op.operands])]
 case build t ps => simp only [opN, q8Z]; rw [z6C fun p hp => h p.2 (by simp [Op.operands]; exact ⟨p.1, by simpa using hp⟩)]
 case buildSlice t n ps => simp only [opN, z7x]; rw [z6C fun p hp => h p.2 (by simp [Op.operands]; exact ⟨p.1, by simpa using hp⟩)]
 case load t x => simp only [opN, j4J]; rw [h x (by simp [Op.operands])]
 case nilCheck x => simp only [opN, q0p]; rw [h x (by simp [Op.operands])]
 case binOp op t x y yt => simp only [opN, j9I]; rw [h x (by simp [Op.operands]), h y (by simp [Op.operands])]
 case unOp op t x => simp only [opN, opUn]; rw [h x (by simp [Op.operands])]
 case typeAssert x xt t ok => simp only [opN, q6n]; rw [h x (by simp [Op.operands])]
 case makeInterface t x => simp only [opN, z4Q]; rw [h x (by simp [Op.operands])]
 case makeFunc fn a b =>
  simp only [opN, q0q]
  rw [z3j (tm := tm) (tm' := tm') (l := a.toList) fun x hx => h x (by simp only [Op.operands]; exact Array.mem_append.2 (.inl (by simpa using hx))),
   z3j (tm := tm) (tm' := tm') (l := b.toList) fun x hx => h x (by simp only [Op.operands]; exact Array.mem_append.2 (.inr (by simpa using hx)))]
 case makeMap t r =>
  cases r with
  | none => rfl
  | some x => simp only [opN, q2H]; rw [h x (by simp [Op.operands])]
 case convert a b x => simp only [opN, q9g]; rw [h x (by simp [Op.operands])]
 case makeSlice t l c => simp only [opN, z8F]; rw [h l (by simp [Op.operands]), h c (by simp [Op.operands])]
 case slice t x lo hi mx =>
  simp only [opN, q9a]
  rw [h x (by simp [Op.operands]), z7i (o := lo) fun y hy => h y (by subst hy; simp [Op.operands]), z7i (o := hi) fun y hy => h y (by subst hy; simp [Op.operands]),
   z7i (o := mx) fun y hy => h y (by subst hy; simp [Op.operands])]
 case fieldAddr s x f => simp only [opN, z8G]; rw [h x (by simp [Op.operands])]
 case field s x f => simp only [opN, q9b]; rw [h x (by simp [Op.operands])]
 case indexAddr t x i => simp only [opN, z8H]; rw [h x (by simp [Op.operands]), h i (by simp [Op.operands])]
 case index t x i => simp only [opN, q9c]; rw [h x (by simp [Op.operands]), h i (by simp [Op.operands])]
 case lookup t x i ok => simp only [opN, q6m]; rw [h x (by simp [Op.operands]), h i (by simp [Op.operands])]
 case entry x => simp only [opN, q9d]; rw [h x (by simp [Op.operands])]
 case extract x i => simp only [opN, q2J]; rw [h x (by simp [Op.operands])]
 case call c =>
  simp only [opN, q9e]
  rw [z3j (tm := tm) (tm' := tm') (l := c.args.toList) fun x hx => h x (by simp only [Op.operands, Call.operands]; exact Array.mem_append.2 (.inr (by simpa using hx)))]
 all_goals rfl
theorem j0u {tm tm' : T AV} {op : Op} (h : ∀ x ∈ op.operands, aev G tm x = aev G tm' x) (c : Ctx) (df : List ADefer) (H : Heap) : opE op F G c tm df H = opE op F G c tm' df H := by
 cases op
 case store t a x => simp only [opE, q9k]; rw [h a (by simp [Op.operands]), h x (by simp [Op.operands])]
 case mapUpdate t m k x => simp only [opE, z4v]; rw [h m (by simp [Op.operands]), h k (by simp [Op.operands]), h x (by simp [Op.operands])]
 case insert t m k x => simp only [opE, z4v]; rw [h m (by simp [Op.operands]), h k (by simp [Op.operands]), h x (by simp [Op.operands])]
 case mapEntry t m k => simp only [opE, q0u]; rw [h m (by simp [Op.operands]), h k (by simp [Op.operands])]
 case entryStore t m s x => simp only [opE, z7z]; rw [h m (by simp [Op.operands]), h s (by simp [Op.operands]), h x (by simp [Op.operands])]
 case range t x => simp only [opE, q9l]; rw [h x (by simp [Op.operands])]
 case next it s => simp only [opE, j4L]; rw [h it (by simp [Op.operands])]
 case convert s d x => simp only [opE, q2K]; rw [h x (by simp [Op.operands])]
 case defer cl =>
  have ha := z3j (tm := tm) (tm' := tm') (l := cl.args.toList) fun x hx => h x (by simp only [Op.operands, Call.operands]; exact Array.mem_append.2 (.inr (by simpa using hx)))
  simp only [opE, q4t]
  cases c.rnd with
  | some l => rfl
  | none =>
   simp only
   cases hf : cl.callee with
   | value f =>
    have hf' := h f (by simp [Op.operands, Call.operands, hf])
    simp only [z6b, z0b, hf', ha]
   | invoke r n => rfl
   | builtin b => rfl
 case call cl =>
  have ha := z3j (tm := tm) (tm' := tm') (l := cl.args.toList) fun x hx => h x (by simp only [Op.operands, Call.operands]; exact Array.mem_append.2 (.inr (by simpa using hx)))
  simp only [opE, j4O]
  rw [ha]
  cases hf : cl.callee with
  | value f =>
   have hf' := h f (by simp [Op.operands, Call.operands, hf])
   simp only [q1l, hf']
  | invoke r n =>
   have hf' := h r (by simp [Op.operands, Call.operands, hf])
   simp only [q1l, hf']
  | builtin b => rfl
 all_goals rfl
theorem j3o {tm tm' : T AV} {x : Operand} (h : ∀ t, x = .tmp t → slot tm t = slot tm' t) : aev G tm x = aev G tm' x := by
 cases x with
 | tmp t =>
  have h := h t rfl
  have e : ∀ tm : T AV, aev G tm (.tmp t) = some (slot tm t) := fun tm => by
   show z3N (tm.get t) = _
   unfold slot
   cases tm.get t <;> rfl
  rw [e, e, h]
 | const v => rfl
 | global g => rfl
 | func f => rfl
end
end Go.Sx
namespace Go.Sx
section
theorem z6f (a b j : Nat) : (Nat.lor a b).testBit j = (a.testBit j || b.testBit j) := Nat.testBit_or a b j
theorem z9l (i j : Nat) : (Nat.pow 2 i).testBit j = decide (i = j) := Nat.testBit_two_pow
theorem j7m {a b : Nat} (h : sub a b = true) (j : Nat) (hj : a.testBit j = true) : b.testBit j = true := by
 have h := z0B h
 have e : (Nat.land a b).testBit j = (a.testBit j && b.testBit j) := Nat.testBit_and a b j
 rw [h, hj] at e
 simpa using e.symm
theorem q4W {a b : Nat} (h : ∀ j, a.testBit j = true → b.testBit j = true) : sub a b = true := by
 refine z1k (Nat.eq_of_testBit_eq fun j => ?_)
 have e : (Nat.land a b).testBit j = (a.testBit j && b.testBit j) := Nat.testBit_and a b j
 rw [e]
 cases ha : a.testBit j
 ·rfl
 ·rw [h j ha]; rfl
def KD (k : Kind) (op : Op) : Prop := k = kindOf op ∨ (k = .read ∧ isCv op = true)
theorem j3p (op : Op) : KD (q4r op) op := by
 unfold KD q4r
 cases h : isCv op
 ·exact .inl rfl
 ·exact .inr ⟨rfl, rfl⟩
theorem KD.alloc {k : Kind} {op : Op} (h : KD k op) (hk : k = .alloc) : kindOf op = .alloc := by
 rcases h with h | ⟨h, _⟩
 ·rw [← h, hk]
 ·rw [h] at hk; simp at hk
theorem KD.ofAlloc {k : Kind} {op : Op} (h : KD k op) (hk : kindOf op = .alloc) : k = .alloc := by
 rcases h with h | ⟨_, h⟩
 ·rw [h, hk]
 ·cases op <;> simp [isCv] at h
  simp [kindOf] at hk
structure PreOk (ops : Array Oper) (rs : List RO) : Prop where
 len : rs.length = ops.size
 at_ : ∀ (i : Nat) (r : RO), rs[i]? = some r → r.i = i ∧ ops[i]? = some r.o ∧ KD r.kind r.o.op
 on : ∀ (i : Nat) (r : RO), rs[i]? = some r → ∀ e ∈ r.o.after, Region.binds .any e = true → e.on < i
 bit : ∀ (i : Nat) (r : RO), rs[i]? = some r → ∀ j, r.pre.testBit j = true → ∃ e ∈ r.o.after, Region.binds .any e = true ∧ (j = e.on ∨ ∃ q : RO, rs[e.on]? = some q ∧ q.pre.testBit j = true)
theorem q0H {acc : T Nat} {i : Nat} : ∀ {es : List Edge} {m m' : Nat}, q2M acc i es m = some m' →
  (∀ e ∈ es, Region.binds .any e = true → e.on < i ∧ ∃ p, acc.get e.on = some p) ∧
  ∀ j, m'.testBit j = true → m.testBit j = true ∨ ∃ e ∈ es, Region.binds .any e = true ∧ (j = e.on ∨ ∃ p, acc.get e.on = some p ∧ p.testBit j = true) := by
 intro es
 induction es with
 | nil => intro m m' h; have h : some m = some m' := h; simp only [Option.some.injEq] at h; subst h; exact ⟨fun e he => by simp at he, fun j hj => .inl hj⟩
 | cons e es ih =>
  intro m m' h
  have h : q4u acc i e (q2M acc i es) m = some m' := h
  unfold q4u at h
  rcases z0Z h with ⟨h0, h⟩ | ⟨h0, h⟩
  ·obtain ⟨h1, h⟩ := z0c h
   obtain ⟨p, hp, h⟩ := z0a h
   obtain ⟨g1, g2⟩ := ih h
   refine ⟨fun x hx hb => ?_, fun j hj => ?_⟩
   ·rcases List.mem_cons.1 hx with rfl | hx
    ·exact ⟨z1r h1, p, hp⟩
    ·exact g1 x hx hb
   ·rcases g2 j hj with hj | ⟨x, hx, hb⟩
    ·rw [z6f, z6f, z9l] at hj
     cases h3 : m.testBit j
     ·rw [h3] at hj
      refine .inr ⟨e, List.mem_cons_self, h0, ?_⟩
      by_cases he : e.on = j
      ·exact .inl he.symm
      ·simp [he] at hj; exact .inr ⟨p, hp, hj⟩
     ·exact .inl rfl
    ·exact .inr ⟨x, List.mem_cons_of_mem _ hx, hb⟩
  ·obtain ⟨g1, g2⟩ := ih h
   refine ⟨fun x hx hb => ?_, fun j hj => ?_⟩
   ·rcases List.mem_cons.1 hx with rfl | hx
    ·rw [hb] at h0; simp at h0
    ·exact g1 x hx hb
   ·rcases g2 j hj with hj | ⟨x, hx, hb⟩
    ·exact .inl hj
    ·exact .inr ⟨x, List.mem_cons_of_mem _ hx, hb⟩
theorem j0v (all : List Oper) : ∀ (l : List Oper) (i : Nat) (acc : T Nat) (pre rs : List RO), all.drop i = l → pre.length = i → i ≤ all.length →
  (∀ k p, acc.get k = some p → ∃ q : RO, pre[k]? = some q ∧ q.pre = p) → z2R l i acc = some rs →
  (pre ++ rs).length = all.length ∧ ∀ k, i ≤ k → ∀ r : RO, (pre ++ rs)[k]? = some r → r.i = k ∧ all[k]? = some r.o ∧ r.kind = kindOf r.o.op ∧
   (∀ e ∈ r.o.after, Region.binds .any e = true → e.on < k) ∧
   ∀ j, r.pre.testBit j = true → ∃ e ∈ r.o.after, Region.binds .any e = true ∧ (j = e.on ∨ ∃ q : RO, (pre ++ rs)[e.on]? = some q ∧ q.pre.testBit j = true) := by
 intro l
 induction l with
 | nil =>
  intro i acc pre rs hl hp hi hacc h
  have h : some [] = some rs := h
  simp only [Option.some.injEq] at h; subst h
  have hlen : all.length ≤ i := by have := congrArg List.length hl; simp at this; omega
  refine ⟨by simp; omega, fun k hk r hr => ?_⟩
  have := (List.getElem?_eq_some_iff.1 hr).1
  simp at this; omega
 | cons o l ih =>
  intro i acc pre rs hl hp hi hacc h
  have h : (z0b (q2M acc i o.after.toList 0) fun m => z0G m fun m => acc.setK i (some m) fun acc' => z0G (i + 1) fun i' => z1D ⟨i, o, m, kindOf o.op⟩ (z2R l i' acc')) = some rs := h
  obtain ⟨m, hm, h⟩ := z0a h
  rw [z0h, T.setK_eq, z0h] at h
  have hio : all[i]? = some o := by
   have : (all.drop i)[0]? = some o := by rw [hl]; rfl
   simpa using this
  have hlt : i < all.length := (List.getElem?_eq_some_iff.1 hio).1
  have hnext : all.drop (i + 1) = l := by
   have : (all.drop i).drop 1 = l := by rw [hl]; rfl
   rw [List.drop_drop] at this; simpa using this
  cases hrs : z2R l (i + 1) (acc.set i (some m)) with
  | none => rw [hrs] at h; simp [z1D] at h
  | some rs' =>
   rw [hrs] at h
   simp only [z1D, Option.some.injEq] at h
   subst h
   have key := ih (i + 1) (acc.set i (some m)) (pre ++ [⟨i, o, m, kindOf o.op⟩]) rs' hnext (by simp [hp]) hlt (fun k p hk => by
    rw [T.get_set] at hk
    split at hk
    ·rename_i hki
     simp only [Option.some.injEq] at hk
     subst hki
     exact ⟨⟨k, o, m, kindOf o.op⟩, by rw [List.getElem?_append_right (by omega)]; simp [hp], hk⟩
    ·obtain ⟨q, hq, he⟩ := hacc k p hk
     exact ⟨q, by rw [List.getElem?_append_left (List.getElem?_eq_some_iff.1 hq).1]; exact hq, he⟩) hrs
   rw [List.append_assoc, List.singleton_append] at key
   obtain ⟨k1, k2⟩ := key
   refine ⟨k1, fun k hk r hr => ?_⟩
   by_cases hki : k = i
   ·subst hki
    rw [List.getElem?_append_right (by omega)] at hr
    simp [hp] at hr
    subst hr
    obtain ⟨g1, g2⟩ := q0H hm
    refine ⟨rfl, hio, rfl, fun e he hb => (g1 e (by simpa using he) hb).1, fun j hj => ?_⟩
    rcases g2 j hj with hj | ⟨e, he, hb, hj⟩
    ·simp at hj
    ·refine ⟨e, by simpa using he, hb, ?_⟩
     rcases hj with hj | ⟨p, hp', hj⟩
     ·exact .inl hj
     ·obtain ⟨q, hq, he'⟩ := hacc _ _ hp'
      exact .inr ⟨q, by rw [List.getElem?_append_left (List.getElem?_eq_some_iff.1 hq).1]; exact hq, by rw [he']; exact hj⟩
   ·exact k2 k (by omega) r hr
theorem j0w {ops : Array Oper} {rs : List RO} (h : z2R ops.toList 0 .e = some rs) : PreOk ops rs := by
 obtain ⟨h1, h2⟩ := j0v ops.toList ops.toList 0 .e [] rs rfl rfl (Nat.zero_le _) (fun k p hk => by simp [T.get_e] at hk) h
 simp only [List.nil_append] at h1 h2
 exact ⟨by simpa using h1, fun i r hr => by have := h2 i (Nat.zero_le _) r hr; exact ⟨this.1, by simpa using this.2.1, .inl this.2.2.1⟩,
  fun i r hr => (h2 i (Nat.zero_le _) r hr).2.2.2.1, fun i r hr => (h2 i (Nat.zero_le _) r hr).2.2.2.2⟩
theorem q7H (all : List Oper) : ∀ (l : List Oper) (i : Nat) (acc : T Nat) (pre rs : List RO), all.drop i = l → pre.length = i → i ≤ all.length →
  (∀ k p, acc.get k = some p → ∃ q : RO, pre[k]? = some q ∧ q.pre = p) → z6Y l i acc = some rs →
  (pre ++ rs).length = all.length ∧ ∀ k, i ≤ k → ∀ r : RO, (pre ++ rs)[k]? = some r → r.i = k ∧ all[k]? = some r.o ∧ r.kind = q4r r.o.op ∧
   (∀ e ∈ r.o.after, Region.binds .any e = true → e.on < k) ∧
   ∀ j, r.pre.testBit j = true → ∃ e ∈ r.o.after, Region.binds .any e = true ∧ (j = e.on ∨ ∃ q : RO, (pre ++ rs)[e.on]? = some q ∧ q.pre.testBit j = true) := by
 intro l
 induction l with
 | nil =>
  intro i acc pre rs hl hp hi hacc h
  have h : some [] = some rs := h
  simp only [Option.some.injEq] at h; subst h
  have hlen : all.length ≤ i := by have := congrArg List.length hl; simp at this; omega
  refine ⟨by simp; omega, fun k hk r hr => ?_⟩
  have := (List.getElem?_eq_some_iff.1 hr).1
  simp at this; omega
 | cons o l ih =>
  intro i acc pre rs hl hp hi hacc h
  have h : (z0b (q2M acc i o.after.toList 0) fun m => z0G m fun m => acc.setK i (some m) fun acc' => z0G (i + 1) fun i' => z1D ⟨i, o, m, q4r o.op⟩ (z6Y l i' acc')) = some rs := h
  obtain ⟨m, hm, h⟩ := z0a h
  rw [z0h, T.setK_eq, z0h] at h
  have hio : all[i]? = some o := by
   have : (all.drop i)[0]? = some o := by rw [hl]; rfl
   simpa using this
  have hlt : i < all.length := (List.getElem?_eq_some_iff.1 hio).1
  have hnext : all.drop (i + 1) = l := by
   have : (all.drop i).drop 1 = l := by rw [hl]; rfl
   rw [List.drop_drop] at this; simpa using this
  cases hrs : z6Y l (i + 1) (acc.set i (some m)) with
  | none => rw [hrs] at h; simp [z1D] at h
  | some rs' =>
   rw [hrs] at h
   simp only [z1D, Option.some.injEq] at h
   subst h
   have key := ih (i + 1) (acc.set i (some m)) (pre ++ [⟨i, o, m, q4r o.op⟩]) rs' hnext (by simp [hp]) hlt (fun k p hk => by
    rw [T.get_set] at hk
    split at hk
    ·rename_i hki
     simp only [Option.some.injEq] at hk
     subst hki
     exact ⟨⟨k, o, m, q4r o.op⟩, by rw [List.getElem?_append_right (by omega)]; simp [hp], hk⟩
    ·obtain ⟨q, hq, he⟩ := hacc k p hk
     exact ⟨q, by rw [List.getElem?_append_left (List.getElem?_eq_some_iff.1 hq).1]; exact hq, he⟩) hrs
   rw [List.append_assoc, List.singleton_append] at key
   obtain ⟨k1, k2⟩ := key
   refine ⟨k1, fun k hk r hr => ?_⟩
   by_cases hki : k = i
   ·subst hki
    rw [List.getElem?_append_right (by omega)] at hr
    simp [hp] at hr
    subst hr
    obtain ⟨g1, g2⟩ := q0H hm
    refine ⟨rfl, hio, rfl, fun e he hb => (g1 e (by simpa using he) hb).1, fun j hj => ?_⟩
    rcases g2 j hj with hj | ⟨e, he, hb, hj⟩
    ·simp at hj
    ·refine ⟨e, by simpa using he, hb, ?_⟩
     rcases hj with hj | ⟨p, hp', hj⟩
     ·exact .inl hj
     ·obtain ⟨q, hq, he'⟩ := hacc _ _ hp'
      exact .inr ⟨q, by rw [List.getElem?_append_left (List.getElem?_eq_some_iff.1 hq).1]; exact hq, by rw [he']; exact hj⟩
   ·exact k2 k (by omega) r hr
theorem q6I {ops : Array Oper} {rs : List RO} (h : z6Y ops.toList 0 .e = some rs) : PreOk ops rs := by
 obtain ⟨h1, h2⟩ := q7H ops.toList ops.toList 0 .e [] rs rfl rfl (Nat.zero_le _) (fun k p hk => by simp [T.get_e] at hk) h
 simp only [List.nil_append] at h1 h2
 exact ⟨by simpa using h1, fun i r hr => by have := h2 i (Nat.zero_le _) r hr; exact ⟨this.1, by simpa using this.2.1, by rw [this.2.2.1]; exact j3p _⟩,
  fun i r hr => (h2 i (Nat.zero_le _) r hr).2.2.2.1, fun i r hr => (h2 i (Nat.zero_le _) r hr).2.2.2.2⟩
def Shut (rs : List RO) (S : Nat → Prop) : Prop := ∀ r ∈ rs, S r.i → ∀ j, r.pre.testBit j = true → S j
theorem PreOk.mem {ops : Array Oper} {rs : List RO} (hP : PreOk ops rs) {r : RO} (hr : r ∈ rs) : rs[r.i]? = some r ∧ ops[r.i]? = some r.o ∧ KD r.kind r.o.op ∧ r.i < ops.size := by
 obtain ⟨i, hi⟩ := List.getElem?_of_mem hr
 obtain ⟨h1, h2, h3⟩ := hP.at_ i r hi
 subst h1
 exact ⟨hi, h2, h3, (Array.getElem?_eq_some_iff.1 h2).1⟩
theorem PreOk.get {ops : Array Oper} {rs : List RO} (hP : PreOk ops rs) {i : Nat} (hi : i < ops.size) : ∃ r ∈ rs, r.i = i := by
 have hlt : i < rs.length := by rw [hP.len]; exact hi
 have : rs[i]? = some rs[i] := by simp [hlt]
 exact ⟨rs[i], List.getElem_mem hlt, (hP.at_ i _ this).1⟩
theorem PreOk.pre_in {ops : Array Oper} {rs : List RO} (hP : PreOk ops rs) {S : Nat → Prop} (hS : Shut rs S) {r : RO} (hr : r ∈ rs)
  (hon : ∀ e ∈ r.o.after, Region.binds .any e = true → S e.on) : ∀ j, r.pre.testBit j = true → S j := by
 intro j hj
 obtain ⟨e, he, hb, hj⟩ := hP.bit _ r (hP.mem hr).1 j hj
 rcases hj with rfl | ⟨q, hq, hj⟩
 ·exact hon e he hb
 ·refine hS q (List.mem_of_getElem? hq) ?_ j hj
  rw [(hP.at_ _ q hq).1]
  exact hon e he hb
theorem PreOk.lt {ops : Array Oper} {rs : List RO} (hP : PreOk ops rs) : ∀ (i : Nat) (r : RO), rs[i]? = some r → ∀ j, r.pre.testBit j = true → j < i := by
 intro i
 induction i using Nat.strongRecOn with
 | _ i ih =>
  intro r hr j hj
  obtain ⟨e, he, hb, hj⟩ := hP.bit i r hr j hj
  have hlt := hP.on i r hr e he hb
  rcases hj with rfl | ⟨q, hq, hj⟩
  ·exact hlt
  ·exact Nat.lt_trans (ih _ hlt q hq j hj) hlt
inductive Ord (ops : Array Oper) : (Nat → Prop) → List Nat → Prop
 | nil {S} : (∀ i, i < ops.size → S i) → Ord ops S []
 | cons {S} {i : Nat} {o : Oper} {l : List Nat} : ops[i]? = some o → ¬ S i → (∀ e ∈ o.after, Region.binds .any e = true → S e.on) → Ord ops (fun j => S j ∨ j = i) l → Ord ops S (i :: l)
theorem Ord.congr {ops : Array Oper} {S S' : Nat → Prop} {l : List Nat} (h : Ord ops S l) (he : ∀ j, S j ↔ S' j) : Ord ops S' l := by
 have : S = S' := funext fun j => propext (he j)
 exact this ▸ h
def z2h (a : Array Bool) (j : Nat) : Prop := a.getD j false = true
theorem z9m {ops : Array Oper} {a : Array Bool} {i : Nat} (hs : a.size = ops.size) : i ∈ Region.ready .any ops a ↔
  ∃ o, ops[i]? = some o ∧ ¬ z2h a i ∧ ∀ e ∈ o.after, Region.binds .any e = true → z2h a e.on := by
 unfold Region.ready
 rw [List.mem_filter, List.mem_range]
 constructor
 ·rintro ⟨h1, h2⟩
  refine ⟨ops[i], by simp [h1], ?_, ?_⟩
  ·simp [h1, hs] at h2
   simp [z2h, hs, h1, h2.1]
  ·simp [h1, hs] at h2
   intro e he hb
   obtain ⟨k, hk, rfl⟩ := Array.getElem_of_mem he
   have := h2.2 k hk
   rw [hb] at this
   unfold z2h
   simpa using this
 ·rintro ⟨o, h1, h2, h3⟩
  have hlt := (Array.getElem?_eq_some_iff.1 h1).1
  refine ⟨hlt, ?_⟩
  unfold z2h at h2
  have e1 : a.getD i true = false := by
   have e : a.getD i true = a.getD i false := by simp [Array.getD, hs, hlt]
   rw [e]; simpa using h2
  rw [e1, h1]
  simp only [Bool.not_false, Bool.true_and, Option.map_some, Option.getD_some, Array.all_eq_true']
  intro e he
  cases hb : Region.binds .any e
  ·rfl
  ·have := h3 e he hb
   unfold z2h at this
   rw [this]; rfl
theorem q3p {p : Nat → Prop} (h : ∃ n, p n) : ∃ n, p n ∧ ∀ m, m < n → ¬ p m := by
 obtain ⟨n, hn⟩ := h
 induction n using Nat.strongRecOn with
 | _ n ih =>
  by_cases h : ∃ m, m < n ∧ p m
  ·obtain ⟨m, hm, hp⟩ := h; exact ih m hm hp
  ·exact ⟨n, hn, fun m hm hp => h ⟨m, hm, hp⟩⟩
theorem q7I {ops : Array Oper} {rs : List RO} (hP : PreOk ops rs) {a : Array Bool} (hs : a.size = ops.size) (h : ∃ i, i < ops.size ∧ ¬ z2h a i) : Region.ready .any ops a ≠ [] := by
 obtain ⟨i, ⟨hi, hn⟩, hleast⟩ := q3p h
 intro he
 obtain ⟨r, hr, hri⟩ := hP.get hi
 subst hri
 have hm := hP.mem hr
 have : r.i ∈ Region.ready .any ops a := (z9m hs).2 ⟨r.o, hm.2.1, hn, fun e he hb => by
  have hlt := hP.on _ r hm.1 e he hb
  exact Classical.byContradiction fun hc => hleast e.on hlt ⟨Nat.lt_trans hlt hm.2.2.2, hc⟩⟩
 rw [he] at this
 simp at this
theorem q7J {a : Array Bool} {i : Nat} (hi : i < a.size) (j : Nat) : z2h (a.setIfInBounds i true) j ↔ (z2h a j ∨ j = i) := by
 unfold z2h
 by_cases h : j = i
 ·subst h; simp [Array.getD, hi]
 ·have h' : i ≠ j := fun e => h e.symm
  simp only [h, or_false]
  rw [Array.getD_eq_getD_getElem?, Array.getD_eq_getD_getElem?, Array.getElem?_setIfInBounds_ne h']
theorem j9R {ops : Array Oper} {rs : List RO} (hP : PreOk ops rs) : ∀ (fuel t : Nat) (a : Array Bool), a.size = ops.size → a.toList.count false ≤ fuel →
  Ord ops (z2h a) (Region.linearise.go .any ops fuel t a []) := by
 intro fuel
 induction fuel with
 | zero =>
  intro t a hs hc
  refine .nil fun i hi => ?_
  unfold z2h
  cases h : a.getD i false
  ·exfalso
   have hi' : i < a.size := by rw [hs]; exact hi
   have hm : false ∈ a.toList := by
    simp [Array.getD, hi'] at h
    rw [← h]
    exact Array.mem_toList_iff.2 (Array.getElem_mem hi')
   have := List.count_pos_iff.2 hm
   omega
  ·rfl
 | succ fuel ih =>
  intro t a hs hc
  have hgo : Region.linearise.go .any ops (fuel + 1) t a [] = (match (Region.ready .any ops a)[t % (Region.ready .any ops a).length]? with
   | some i => Region.linearise.go .any ops fuel (t / (Region.ready .any ops a).length) (a.setIfInBounds i true) [i]
   | none => [].reverse) := rfl
  rw [hgo]
  by_cases hall : ∃ i, i < ops.size ∧ ¬ z2h a i
  ·have hne := q7I hP hs hall
   have hlt : t % (Region.ready .any ops a).length < (Region.ready .any ops a).length := Nat.mod_lt _ (List.length_pos_iff.2 hne)
   rw [List.getElem?_eq_getElem hlt]
   simp only []
   generalize hi : (Region.ready .any ops a)[t % (Region.ready .any ops a).length] = i
   have hmem : i ∈ Region.ready .any ops a := by rw [← hi]; exact List.getElem_mem hlt
   obtain ⟨o, h1, h2, h3⟩ := (z9m hs).1 hmem
   have hia : i < a.size := by rw [hs]; exact (Array.getElem?_eq_some_iff.1 h1).1
   rw [linearise_go_acc, List.reverse_singleton, List.singleton_append]
   refine .cons h1 h2 h3 ((ih _ (a.setIfInBounds i true) (by simpa using hs) ?_).congr (q7J hia))
   have hf : a.toList[i]'(by simpa using hia) = false := by
    unfold z2h at h2
    simpa [Array.getD, hia] using h2
   rw [Array.toList_setIfInBounds, List.count_set (by simpa using hia)]
   rw [hf]
   have : 0 < a.toList.count false := List.count_pos_iff.2 (by rw [← hf]; exact List.getElem_mem _)
   simp at this hc ⊢
   omega
  ·have hnil : Region.ready .any ops a = [] := by
    cases hr : Region.ready .any ops a with
    | nil => rfl
    | cons i l =>
     exfalso
     have : i ∈ Region.ready .any ops a := by rw [hr]; exact List.mem_cons_self
     obtain ⟨o, h1, h2, h3⟩ := (z9m hs).1 this
     exact hall ⟨i, (Array.getElem?_eq_some_iff.1 h1).1, h2⟩
   rw [hnil]
   exact .nil fun i hi => Classical.byContradiction fun hc => hall ⟨i, hi, hc⟩
theorem z6D {ops : Array Oper} {rs : List RO} (hP : PreOk ops rs) (t : Nat) : Ord ops (fun _ => False) (Region.linearise .any ops t) := by
 refine (j9R hP ops.size t (Array.replicate ops.size false) (by simp) ?_).congr fun j => ?_
 ·simp
 ·unfold z2h
  by_cases h : j < ops.size <;> simp [Array.getD, h]
end
end Go.Sx
namespace Go.Sx
section
variable {P : Program} {G : Tab}
def BOk (ρ : Env) (D : Nat → Prop) : ABlk → Prop
 | .cells _ _ l => okL ρ D l
 | .big _ _ z => okL ρ D z
 | .map es _ => ∀ e ∈ es, okE ρ D e
 | .mapIter m _ _ _ => ∀ r, m = some r → D r
 | .strIter _ _ => True
 | .loop r => (∀ i, okV ρ D (slot r.tmps i)) ∧ D r.defers
 | .deferred => True
 | .fix _ l => okL ρ D l
theorem BRel.bok {ρ : Env} {D : Nat → Prop} {w : World} {b : Nat} {o : ABlk} (h : BRel G ρ D w b o) : BOk ρ D o := by
 cases o with
 | cells e ex l => exact h.1
 | big e n z => exact h.1
 | map es c => exact h.1
 | mapIter m s l p => exact h.1
 | strIter s p => trivial
 | loop r => obtain ⟨l, _, _, _, h3, _, _, _, _, h8⟩ := h; exact ⟨fun i => (h3.at_ i).2, h8⟩
 | deferred => trivial
 | fix e l => exact h.1
theorem BRel.move {ρ ρ₁ ρ₂ : Env} {D D₁ D₂ : Nat → Prop} {w : World} {x y : Nat} {o : ABlk} (h : BRel G ρ₁ D₁ w x o) (ho : BOk ρ D o) (h1 : Sub ρ D ρ₁ D₁) (h2 : Sub ρ D ρ₂ D₂)
  (hblk : ρ₂.blk y = ρ₁.blk x) (hbase : ρ₂.base y = ρ₁.base x) (hcap : ρ₂.cap y = ρ₁.cap x) : BRel G ρ₂ D₂ w y o := by
 have ev : ∀ {v : AV}, okV ρ D v → conc ρ₂ v = conc ρ₁ v := fun hv => by rw [h1.eq hv, h2.eq hv]
 cases o with
 | cells e ex l =>
  obtain ⟨_, g2, arr, fz, g3, g4, g5, g6, g7⟩ := h
  refine ⟨(h2.concL l ho).2, g2, arr, fz, by rw [hblk]; exact g3, g4, by rw [hbase]; exact g5, fun i v hv => ?_, ⟨fun hx z hz => by rw [hbase, hcap]; exact g7.1 hx z hz, fun hx => by rw [hbase]; exact g7.2 hx⟩⟩
  rw [hbase, g6 i v hv, ev (z0z.1 ho v (List.mem_of_getElem? hv))]
 | big e n z =>
  obtain ⟨_, arr, el, fz, g3, g5, g6⟩ := h
  refine ⟨(h2.concL z ho).2, arr, el, fz, by rw [hblk]; exact g3, by rw [hbase]; exact g5, fun i v hi hv => ?_⟩
  rw [hbase, g6 i v hi hv, ev (z0z.1 ho v (List.mem_of_getElem? hv))]
 | map es c =>
  obtain ⟨_, es', g2, g3⟩ := h
  refine ⟨fun e he => h2.okE (ho e he), es', by rw [hblk]; exact g2, ?_⟩
  rw [g3]
  exact List.map_congr_left fun e he => by rw [h1.concE (ho e he), h2.concE (ho e he)]
 | mapIter m s l p =>
  obtain ⟨_, g2, g3⟩ := h
  refine ⟨fun r hr => h2.dom r (ho r hr), by rw [hbase]; exact g2, ?_⟩
  rw [hblk, g3]
  cases m with
  | none => rfl
  | some r => simp [h1.blk r (ho r rfl), h2.blk r (ho r rfl)]
 | strIter s p =>
  obtain ⟨g1, g2⟩ := h
  exact ⟨by rw [hbase]; exact g1, by rw [hblk]; exact g2⟩
 | loop r =>
  obtain ⟨l, g1, a1, a2, a3, a4, a5, a6, a7, a8⟩ := h
  refine ⟨l, by rw [hblk]; exact g1, a1, a2, ⟨a3.size, fun i => ⟨?_, h2.ok (ho.1 i)⟩⟩, a4, a5, a6, ?_, h2.dom _ ho.2⟩
  ·rw [(a3.at_ i).1, ev (ho.1 i)]
  ·rw [a7, h1.blk _ ho.2, h2.blk _ ho.2]
 | deferred =>
  show w.heap[ρ₂.blk y]? = some (.deferred (some []))
  rw [hblk]; exact h
 | fix e l =>
  obtain ⟨_, el, fz, g2⟩ := h
  exact ⟨(h2.concL l ho).2, el, fz, by rw [hblk, g2, (h1.concL l ho).1, (h2.concL l ho).1]⟩
def z9n (v : AV) (x : Nat) : AV :=
 match v with
 | .ptr _ o => .ptr x o
 | .slice _ o l q c => .slice x o l q c
 | .map _ => .map x
 | v => v
theorem z9o {H : Heap} {e : TypeId} {ex : Bool} {l : List AV} {f : Nat → AV} {v : AV} {H' : Heap} (h : z2q H e ex l (fun b H => some (f b, H)) = some (v, H')) :
  v = f H.next ∧ H' = H.push (.cells e ex l) ∧ ∀ H₂ : Heap, z2q H₂ e ex l (fun b H => some (f b, H)) = some (f H₂.next, H₂.push (.cells e ex l)) := by
 obtain ⟨h1, h2⟩ := z0c h
 rw [z1n, z1Y] at h2
 simp only [Option.some.injEq, Prod.mk.injEq] at h2
 refine ⟨h2.1.symm, h2.2.symm, fun H₂ => ?_⟩
 unfold z2q
 rw [h1, cond_true, z1n, z1Y]
def k3v (G : Tab) (op : Op) (tm : T AV) (H : Heap) (v : AV) (H' : Heap) : Prop :=
 ∃ p, H' = H.push p ∧ z0H v = some H.next ∧ (∀ H₂ : Heap, opN op G tm H₂ = some (z9n v H₂.next, H₂.push p)) ∧
  ∀ (ρ : Env) (D : Nat → Prop) (ev : Operand → Value), EvOk G ρ D tm ev → BOk ρ D p
theorem q0I {H : Heap} {e : TypeId} {z v : AV} {H' : Heap} (h : boxA H e z = some (v, H')) :
  H' = H.push (.cells e true z.cells) ∧ z0H v = some H.next ∧ ∀ H₂ : Heap, boxA H₂ e z = some (z9n v H₂.next, H₂.push (.cells e true z.cells)) := by
 obtain ⟨h1, h2, h3⟩ := z9o h
 subst h1
 exact ⟨h2, rfl, h3⟩
theorem z5U {H : Heap} {e n c : Nat} {l : List AV} {v : AV} {H' : Heap} (h : z1c H e n c l = some (v, H')) :
  H' = H.push (.cells e true l) ∧ z0H v = some H.next ∧ ∀ H₂ : Heap, z1c H₂ e n c l = some (z9n v H₂.next, H₂.push (.cells e true l)) := by
 obtain ⟨h1, h2, h3⟩ := z9o h
 subst h1
 exact ⟨h2, rfl, h3⟩
theorem q3q {H : Heap} {e n c k : Nat} {z : List AV} {v : AV} {H' : Heap} (h : z5N H e n c k z = some (v, H')) :
  H' = H.push (.big e k z) ∧ z0H v = some H.next ∧ ∀ H₂ : Heap, z5N H₂ e n c k z = some (z9n v H₂.next, H₂.push (.big e k z)) := by
 have key : ∀ H₂ : Heap, z5N H₂ e n c k z = some (.slice H₂.next 0 n false c, H₂.push (.big e k z)) := fun H₂ => by
  unfold z5N
  rw [z0h, z1n, z1Y]
 rw [key] at h
 simp only [Option.some.injEq, Prod.mk.injEq] at h
 obtain ⟨rfl, rfl⟩ := h
 exact ⟨rfl, rfl, key⟩
theorem z7O {H : Heap} {v : AV} {H' : Heap} (h : z2y H = some (v, H')) :
  H' = H.push (.map [] 0) ∧ z0H v = some H.next ∧ ∀ H₂ : Heap, z2y H₂ = some (z9n v H₂.next, H₂.push (.map [] 0)) := by
 have key : ∀ H₂ : Heap, z2y H₂ = some (.map H₂.next, H₂.push (.map [] 0)) := fun H₂ => by
  unfold z2y
  rw [z1Y]
 rw [key] at h
 simp only [Option.some.injEq, Prod.mk.injEq] at h
 obtain ⟨rfl, rfl⟩ := h
 exact ⟨rfl, rfl, key⟩
theorem j3q (c : Callee) : kindC c ≠ .alloc := by
 intro h
 unfold kindC at h
 split at h
 ·rename_i b; cases b <;> simp [kindB] at h
 ·simp at h
theorem q1J (T : TabOk P G) {op : Op} (hk : kindOf op = .alloc) {tm : Sx.T AV} {H : Heap} {v : AV} {H' : Heap} (h : opN op G tm H = some (v, H')) : k3v G op tm H v H' := by
 cases op
 case alloc t =>
  obtain ⟨z, hz, h⟩ := z0a h
  obtain ⟨_, _, _, _, hc⟩ := T.zero hz
  obtain ⟨h1, h2, h3⟩ := q0I h
  refine ⟨_, h1, h2, fun H₂ => ?_, fun ρ D ev he => z1w (hc ρ D).2⟩
  have : opN (.alloc t) G tm H₂ = z0b (G.zero t) (boxA H₂ t) := rfl
  rw [this, hz]; exact h3 H₂
 case box t x =>
  obtain ⟨z, hz, h⟩ := z0a h
  obtain ⟨h1, h2, h3⟩ := q0I h
  refine ⟨_, h1, h2, fun H₂ => ?_, fun ρ D ev he => z1w (he x z hz).2⟩
  have : opN (.box t x) G tm H₂ = z0b (aev G tm x) (boxA H₂ t) := rfl
  rw [this, hz]; exact h3 H₂
 case buildSlice t n ps =>
  obtain ⟨qs, hq, hx⟩ := z0a h
  obtain ⟨e, he, hx⟩ := z0a hx
  obtain ⟨z, hz, hx⟩ := z0a hx
  obtain ⟨zero, hzero, hx⟩ := z0a hx
  obtain ⟨c1, hx⟩ := z0c hx
  obtain ⟨c2, hx⟩ := z0c hx
  obtain ⟨cs, hcs, hx⟩ := z0a hx
  obtain ⟨h1, h2, h3⟩ := z5U hx
  refine ⟨_, h1, h2, fun H₂ => ?_, fun ρ D ev hev => ?_⟩
  ·have : opN (.buildSlice t n ps) G tm H₂ = z0b (z2e G tm ps.toList) (z1t G H₂ t n) := rfl
   rw [this, hq]
   show z1t G H₂ t n qs = _
   unfold z1t
   rw [he]; simp only [z0b]
   rw [hz]; simp only []
   rw [hzero]; simp only []
   rw [c1, c2, hcs]
   exact h3 H₂
  ·obtain ⟨_, e2⟩ := z7e hev hq
   obtain ⟨_, _, _, _, _, _, hok⟩ := z3i T hzero ρ D
   exact (z8i (place' := fun i => some (i * z, z)) (fun i p hip => hip) (z3h (z1w hok) n) e2 hcs).2
 case makeMap t r =>
  cases r with
  | none =>
   obtain ⟨h1, h2, h3⟩ := z7O h
   exact ⟨_, h1, h2, h3, fun ρ D ev he e hm => by simp at hm⟩
  | some x =>
   obtain ⟨a, ha, h⟩ := z0a h
   obtain ⟨hr, h⟩ := z0c h
   obtain ⟨h1, h2, h3⟩ := z7O h
   refine ⟨_, h1, h2, fun H₂ => ?_, fun ρ D ev he e hm => by simp at hm⟩
   have : opN (.makeMap t (some x)) G tm H₂ = z0b (aev G tm x) fun v => bif z4R G t v then z2y H₂ else none := rfl
   rw [this, ha]
   show (bif z4R G t a then z2y H₂ else none) = _
   rw [hr]; exact h3 H₂
 case makeSlice t l c =>
  obtain ⟨a, ha, ha'⟩ := z0a h
  obtain ⟨b, hb, hm⟩ := z0a ha'
  clear ha' h
  have hall : ∀ H₂, opN (.makeSlice t l c) G tm H₂ = z0R G H₂ t a b := fun H₂ => by
   have : opN (.makeSlice t l c) G tm H₂ = z0b (aev G tm l) fun a => z0b (aev G tm c) fun b => z0R G H₂ t a b := rfl
   rw [this, ha, hb]; rfl
  unfold z0R at hm
  split at hm
  ·rename_i n m
   obtain ⟨e, he, h⟩ := z0a hm
   clear hm
   obtain ⟨i, hi, h⟩ := z0a h
   obtain ⟨zero, hzero, h⟩ := z0a h
   obtain ⟨c1, h⟩ := z0c h
   obtain ⟨c2, h⟩ := z0c h
   obtain ⟨c3, h⟩ := z0c h
   have hok : ∀ (ρ : Env) (D : Nat → Prop), okV ρ D zero := fun ρ D => by
    obtain ⟨_, _, _, _, _, _, hok⟩ := z3i T hzero ρ D
    exact hok
   have hH : ∀ H₂ : Heap, z0R G H₂ t (.int .i64 (.ofNat n)) (.int .i64 (.ofNat m)) = (bif Nat.ble (m * i.size) 1000 then z1c H₂ e n m (z0T zero.cells m) else z5N H₂ e n m (m * i.size) zero.cells) := fun H₂ => by
    simp only [z0R, he, z0b, hi, z3f, hzero, c1, c2, c3, cond_true]
   rcases z0Z h with ⟨h0, h⟩ | ⟨h0, h⟩
   ·obtain ⟨h1, h2, h3⟩ := z5U h
    exact ⟨_, h1, h2, fun H₂ => by rw [hall, hH, h0]; exact h3 H₂, fun ρ D ev _ => z3h (z1w (hok ρ D)) m⟩
   ·obtain ⟨h1, h2, h3⟩ := q3q h
    exact ⟨_, h1, h2, fun H₂ => by rw [hall, hH, h0]; exact h3 H₂, fun ρ D ev _ => z1w (hok ρ D)⟩
  ·simp at hm
 case call c => exact absurd hk (j3q _)
 case slice t x lo hi mx =>
  simp only [kindOf] at hk
  cases hh : twoB lo hi <;> rw [hh] at hk <;> simp at hk
 all_goals (simp [kindOf] at hk)
theorem q7K {ρ₁ ρ₂ : Env} {v : AV} {b n : Nat} (hv : z0H v = some b) (hblk : ρ₂.blk b = ρ₁.blk n) (hbase : ρ₂.base b = ρ₁.base n) (hcap : ρ₂.cap b = ρ₁.cap n) :
  conc ρ₂ v = conc ρ₁ (z9n v n) := by
 cases v <;> simp [z0H] at hv <;> subst hv <;> simp [z9n, conc, hblk, hbase, hcap]
theorem j3r {ρ₁ ρ₂ : Env} {D₁ D₂ : Nat → Prop} {v : AV} {b n : Nat} (hv : z0H v = some b) (hb : D₂ b) (hcap : ρ₂.cap b = ρ₁.cap n) (h : okV ρ₁ D₁ (z9n v n)) : okV ρ₂ D₂ v := by
 cases v <;> simp [z0H] at hv <;> subst hv
 ·exact hb
 ·simp only [z9n, okV] at h ⊢
  exact ⟨hb, fun hq => by rw [hcap]; exact h.2 hq⟩
 ·exact hb
theorem j0x {ρ : Env} {D : Nat → Prop} {v : AV} {b n : Nat} (hv : z0H v = some b) (h : okV ρ D (z9n v n)) : D n := by
 cases v <;> simp [z0H] at hv
 ·exact h
 ·exact h.1
 ·exact h
theorem j7n (T : TabOk P G) {ρ : Env} {D : Nat → Prop} {w : World} {H : Heap} (hH : HRel G ρ D w H) {tm : Sx.T AV} {ev : Operand → Value} (he : EvOk G ρ D tm ev) {o : Oper} (hk : kindOf o.op = .alloc)
  {v : AV} {b : Nat} {H₀ : Heap} (h : opN o.op G tm ⟨b, .e⟩ = some (v, H₀)) {p : ABlk} (hp₀ : H₀.blks.get b = some p) (hp : H.blks.get b = some p) (hb : ¬ D b) (hlt : b < H.next) :
  ∃ ρ' D' w', (execOp ev o).run P w = .ok (.value (conc ρ' v)) w' ∧ HRel G ρ' D' w' H ∧ Sub ρ D ρ' D' ∧ okV ρ' D' v ∧ (∀ x, D' x ↔ (D x ∨ x = b)) := by
 obtain ⟨q, hq, hv, hall, hok⟩ := q1J T hk h
 have hpq : p = q := by
  subst hq
  rw [Heap.get_push] at hp₀
  simp only [if_true] at hp₀
  exact (Option.some.inj hp₀).symm
 subst hpq
 simp only at hv
 obtain ⟨ρ₁, D₁, w₁, r1, r2, r3, r4⟩ := q6E T hH he (hall H)
 have hN : D₁ H.next := j0x hv r4
 have hsub := ρ.at_sub hb (ρ₁.blk H.next) (ρ₁.base H.next) (ρ₁.cap H.next)
 have a1 : (ρ.at b (ρ₁.blk H.next) (ρ₁.base H.next) (ρ₁.cap H.next)).blk b = ρ₁.blk H.next := by simp [Env.at]
 have a2 : (ρ.at b (ρ₁.blk H.next) (ρ₁.base H.next) (ρ₁.cap H.next)).base b = ρ₁.base H.next := by simp [Env.at]
 have a3 : (ρ.at b (ρ₁.blk H.next) (ρ₁.base H.next) (ρ₁.cap H.next)).cap b = ρ₁.cap H.next := by simp [Env.at]
 have hnew : (H.push p).blks.get H.next = some p := by rw [Heap.get_push]; simp
 have hold : ∀ {x : Nat} {o : ABlk}, D x → H.blks.get x = some o → (H.push p).blks.get x = some o := fun {x o} hx ho => by
  rw [Heap.get_push, if_neg (Nat.ne_of_lt (hH.lt x hx))]; exact ho
 have hinj : ∀ (y : Nat) (o : ABlk), D y → H.blks.get y = some o → ρ₁.blk H.next = ρ.blk y → z0W (some p) ∧ z0W (some o) := fun y o hy hoy hxy => by
  rw [← r3.sub.blk y hy] at hxy
  refine (r2.inj _ _ _ _ hN (r3.sub.dom y hy) hnew (hold hy hoy) hxy).resolve_left fun e => ?_
  have := hH.lt y hy
  omega
 refine ⟨ρ.at b (ρ₁.blk H.next) (ρ₁.base H.next) (ρ₁.cap H.next), fun x => D x ∨ x = b, w₁, ?_, ⟨?_, ?_, ?_, ?_, ?_, r3.sub.orig ▸ r2.kin⟩, hsub, j3r hv (.inr rfl) a3 r4, fun _ => Iff.rfl⟩
 ·rw [q7K hv a1 a2 a3]
  rcases r1 with r1 | ⟨r0, _⟩
  ·exact r1
  ·exfalso
   cases v <;> simp [z0H] at hv <;> simp [z9n, z0A] at r0
 ·rintro x (hx | rfl)
  ·exact hH.lt x hx
  ·exact hlt
 ·intro g hg
  obtain ⟨h1, h2, h3⟩ := hH.glob g hg
  exact ⟨.inl h1, by rw [hsub.blk g h1, h2], by rw [hsub.base g h1, h3]⟩
 ·rintro x y o₁ o₂ (hx | rfl) (hy | rfl) hox hoy hxy
  ·rw [hsub.blk x hx, hsub.blk y hy] at hxy
   exact hH.inj x y _ _ hx hy hox hoy hxy
  ·rw [a1, hsub.blk x hx] at hxy
   rw [hp] at hoy
   have := hinj x _ hx hox hxy.symm
   exact .inr ⟨this.2, Option.some.inj hoy ▸ this.1⟩
  ·rw [a1, hsub.blk y hy] at hxy
   rw [hp] at hox
   have := hinj y _ hy hoy hxy
   exact .inr ⟨Option.some.inj hox ▸ this.1, this.2⟩
  ·exact .inl rfl
 ·rintro x o₁ (hx | rfl) hox
  ·refine (r2.blk x o₁ (r3.sub.dom x hx) (hold hx hox)).move (hH.blk x o₁ hx hox).bok r3.sub hsub ?_ ?_ ?_
   ·rw [hsub.blk x hx, r3.sub.blk x hx]
   ·rw [hsub.base x hx, r3.sub.base x hx]
   ·rw [hsub.cap x hx, r3.sub.cap x hx]
  ·rw [hp] at hox
   simp only [Option.some.injEq] at hox
   subst hox
   exact (r2.blk H.next p hN hnew).move (hok ρ D ev he) r3.sub hsub a1 a2 a3
 ·intro i q hi
  have hi' : ρ₁.rest i q := by rw [r3.sub.rest]; exact hi
  obtain ⟨h1, h2⟩ := r2.rest i q hi'
  refine ⟨h1, ?_⟩
  rintro x (hx | rfl) hxi
  ·have hxi : (ρ.at b (ρ₁.blk H.next) (ρ₁.base H.next) (ρ₁.cap H.next)).blk x = i := hxi
   rw [hsub.blk x hx] at hxi
   exact (hH.rest i q hi).2 x hx hxi
  ·rw [a1] at hxi
   have := h2 _ hN hxi
   rw [hnew] at this
   rw [hp]; exact this
end
end Go.Sx
namespace Go.Sx
section
variable {P : Program} {G : Tab} {F : Fns}
theorem q6J (_T : TabOk P G) {op : Op} {tm : Sx.T AV} {H : Heap} {v : AV} {H' : Heap} (h : opN op G tm H = some (v, H')) : H' = H ∨ kindOf op = .alloc := by
 cases op
 case makeInterface t x =>
  obtain ⟨d, hd, h⟩ := z0a h
  obtain ⟨hn, h⟩ := z0c h
  exact .inl (z0k h).2
 case makeFunc fn a b =>
  obtain ⟨hp, h⟩ := z0c h
  exact .inl (z0k h).2
 all_goals first
  | exact .inr rfl
  | exact .inl (z0k h).2
  | (exfalso; have h : (none : Option VH) = some (v, H') := h; simp at h)
theorem j3s {op : Op} (hk : kindOf op = .pure) {tm : Sx.T AV} {H : Heap} {v : AV} {H' : Heap} (h : opN op G tm H = some (v, H')) (H₂ : Heap) : opN op G tm H₂ = some (v, H₂) := by
 have key : ∀ {o : Option AV}, z0N H o = some (v, H') → z0N H₂ o = some (v, H₂) := fun {o} h => by
  obtain ⟨h1, _⟩ := z0k h
  rw [h1]; rfl
 cases op
 case makeInterface t x =>
  obtain ⟨d, hd, h⟩ := z0a h
  obtain ⟨hn, h⟩ := z0c h
  have := key h
  show (z0b (G.und t) fun d => bif z4t d then z0N H₂ (z0b (aev G tm x) fun v => some (.iface t v)) else none) = _
  rw [hd]; simp only [z0b]; rw [hn]; exact this
 case makeFunc fn a b =>
  obtain ⟨hp, h⟩ := z0c h
  have := key h
  show (bif z8E fn then z0N H₂ (z0b (aevs G tm a.toList) fun x => z0b (aevs G tm b.toList) fun y => some (.func fn x y)) else none) = _
  rw [hp]; exact this
 case slice t x lo hi mx =>
  have ht : twoB lo hi = false := by
   cases hh : twoB lo hi
   ·rfl
   ·exfalso; simp [kindOf, hh] at hk
  obtain ⟨h1, _⟩ := z0k h
  rw [ht] at h1
  show z0N H₂ (z0b (aev G tm x) fun v => z0b (opt1 G tm lo) fun a => z0b (opt1 G tm hi) fun b => z0b (opt1 G tm mx) fun c => z7y G H₂ (twoB lo hi) t v a b c) = _
  rw [ht]
  have h2 : (z0b (aev G tm x) fun v => z0b (opt1 G tm lo) fun a => z0b (opt1 G tm hi) fun b => z0b (opt1 G tm mx) fun c => z7y G H₂ false t v a b c) = some v := h1
  rw [h2]; rfl
 case call c =>
  have hk : kindC c.callee = .pure := hk
  obtain ⟨h1, _⟩ := z0k h
  obtain ⟨b, hb, h1⟩ := z0a h1
  obtain ⟨xs, hxs, h1⟩ := z0a h1
  show z0N H₂ (z0b (q1j c.callee) fun b => z0b (aevs G tm c.args.toList) fun xs => z4u b G c.argTypes.toList xs H₂) = _
  rw [hb]; simp only [z0b]; rw [hxs]; simp only []
  have hb' : c.callee = .builtin b := by
   unfold q1j at hb
   split at hb
   ·rename_i b' hb'; simp only [Option.some.injEq] at hb; subst hb; exact hb'
   ·simp at hb
  rw [hb'] at hk
  have hk : kindB b = .pure := hk
  have : z4u b G c.argTypes.toList xs H₂ = z4u b G c.argTypes.toList xs H := by
   cases b <;> first | rfl | simp [kindB] at hk
  rw [this, h1]; rfl
 all_goals first
  | exact key h
  | (simp [kindOf] at hk)
theorem j0y {k : Kind} {op : Op} (hK : KD k op) (hk : k = .pure) {tm : Sx.T AV} {H : Heap} {v : AV} {H' : Heap} (h : opN op G tm H = some (v, H')) (H₂ : Heap) : opN op G tm H₂ = some (v, H₂) := by
 rcases hK with hK | ⟨hK, _⟩
 ·exact j3s (hK ▸ hk) h H₂
 ·rw [hK] at hk; simp at hk
noncomputable def putTs (dst : Option Tmp) (tm : T AV) (v : AV) : T AV :=
 match dst with
 | some d => tm.set d (some v)
 | none => tm
theorem q7L (dst : Option Tmp) (tm : T AV) (v : AV) (t : Tmp) : slot (putTs dst tm v) t = if dst = some t then v else slot tm t := by
 cases dst with
 | none => simp [putTs]
 | some d =>
  unfold slot putTs
  simp only [T.get_set]
  by_cases h : t = d
  ·subst h; simp
  ·have h' : ¬ d = t := fun e => h e.symm
   simp [h, h']
theorem z0m {β : Type} {c : Ctx} {tm : T AV} {dst : Option Tmp} {v : AV} {k : T AV → Option β} {r : β} (h : z0J c tm dst v k = some r) :
  (∀ d, dst = some d → d < c.size) ∧ k (putTs dst tm v) = some r := by
 cases dst with
 | none => exact ⟨fun d hd => by simp at hd, h⟩
 | some d =>
  obtain ⟨h1, h⟩ := z0c h
  rw [z2b, T.setK_eq] at h
  exact ⟨fun d' hd => by simp only [Option.some.injEq] at hd; subst hd; exact z1r h1, h⟩
theorem TmRel.putTs {ρ : Env} {D : Nat → Prop} {n : Nat} {tm : T AV} {tmps : Array Value} (h : TmRel ρ D n tm tmps) {dst : Option Tmp} (hd : ∀ d, dst = some d → d < n) {v : AV} (hv : okV ρ D v) :
  TmRel ρ D n (Sx.putTs dst tm v) (putT dst tmps (conc ρ v)) := by
 cases dst with
 | none => exact h
 | some d => exact h.put (hd d rfl) hv
section
variable (ops : Array Oper) (V : Nat → AV) (tm0 : T AV)
open Classical in
noncomputable def z4H (X : Nat → Prop) : Nat → Tmp → AV
 | 0, t => slot tm0 t
 | n + 1, t => if X n ∧ (∃ o, ops[n]? = some o ∧ o.dst = some t) then V n else z4H X n t
def Slots (X : Nat → Prop) (tm : T AV) : Prop := ∀ t, slot tm t = z4H ops V tm0 X ops.size t
end
section
variable {ops : Array Oper} {V : Nat → AV} {tm0 : T AV}
theorem z3F {V' : Nat → AV} {X Y : Nat → Prop} {t : Tmp} : ∀ {n : Nat}, (∀ i, i < n → ∀ o, ops[i]? = some o → o.dst = some t → (X i ↔ Y i) ∧ (X i → V i = V' i)) →
  z4H ops V tm0 X n t = z4H ops V' tm0 Y n t := by
 intro n
 induction n with
 | zero => intro _; rfl
 | succ n ih =>
  intro h
  have ih := ih fun i hi => h i (Nat.lt_succ_of_lt hi)
  simp only [z4H]
  by_cases hd : ∃ o, ops[n]? = some o ∧ o.dst = some t
  ·obtain ⟨o, ho, hod⟩ := hd
   obtain ⟨h1, h2⟩ := h n (Nat.lt_succ_self _) o ho hod
   by_cases hx : X n
   ·rw [if_pos ⟨hx, o, ho, hod⟩, if_pos ⟨h1.1 hx, o, ho, hod⟩, h2 hx]
   ·rw [if_neg fun e => hx e.1, if_neg fun e => hx (h1.2 e.1), ih]
  ·rw [if_neg fun e => hd e.2, if_neg fun e => hd e.2, ih]
theorem q7M {X : Nat → Prop} {t : Tmp} {k : Nat} {o : Oper} (ho : ops[k]? = some o) (_hX : ¬ X k) (hl : ∀ i, X i → ∀ o', ops[i]? = some o' → o.dst = some t → o'.dst = some t → i < k) :
  ∀ {n : Nat}, k < n → z4H ops V tm0 (fun j => X j ∨ j = k) n t = if o.dst = some t then V k else z4H ops V tm0 X n t := by
 intro n
 induction n with
 | zero => intro h; exact absurd h (Nat.not_lt_zero _)
 | succ n ih =>
  intro hk
  simp only [z4H]
  by_cases hkn : k = n
  ·subst hkn
   by_cases hd : o.dst = some t
   ·rw [if_pos ⟨.inr rfl, o, ho, hd⟩, if_pos hd]
   ·have hno : ¬ ∃ o, ops[k]? = some o ∧ o.dst = some t := by
     rintro ⟨o', ho', hd'⟩
     rw [ho] at ho'; simp only [Option.some.injEq] at ho'; subst ho'; exact hd hd'
    rw [if_neg fun e => hno e.2, if_neg hd, if_neg fun e => hno e.2]
    exact z3F fun i hi o' _ _ => ⟨⟨fun h => h.elim id fun e => absurd (e ▸ hi) (Nat.lt_irrefl _), .inl⟩, fun _ => rfl⟩
  ·have hlt : k < n := by omega
   by_cases hq : X n ∧ ∃ o, ops[n]? = some o ∧ o.dst = some t
   ·rw [if_pos ⟨.inl hq.1, hq.2⟩, if_pos hq]
    obtain ⟨hxn, o', ho', hd'⟩ := hq
    by_cases hd : o.dst = some t
    ·have := hl n hxn o' ho' hd hd'; omega
    ·rw [if_neg hd]
   ·have hq' : ¬ ((X n ∨ n = k) ∧ ∃ o, ops[n]? = some o ∧ o.dst = some t) := fun e => hq ⟨e.1.elim id fun e' => absurd e'.symm hkn, e.2⟩
    rw [if_neg hq', if_neg hq]
    exact ih hlt
end
structure Sane (ops : Array Oper) (rs : List RO) : Prop where
 pre : PreOk ops rs
 looks : ∀ r ∈ rs, ∀ s ∈ rs, s.i ≠ r.i → ∀ d, s.o.dst = some d → d ∈ looks ops.toList r.o → r.pre.testBit s.i = true ∨ s.pre.testBit r.i = true
 writes : ∀ r ∈ rs, ∀ s ∈ rs, s.i ≠ r.i → ∀ d, r.o.dst = some d → s.o.dst = some d → r.pre.testBit s.i = true ∨ s.pre.testBit r.i = true
theorem z0f {a b : Bool} (h : (bif a then b else false) = true) : a = true ∧ b = true := by cases a <;> simp_all
theorem z6g {α : Type} {f : α → Bool} : ∀ {l : List α}, (List.rec true (fun a _ ih => bif f a then ih else false) l : Bool) = true → ∀ a ∈ l, f a = true := by
 intro l
 induction l with
 | nil => intro _ a ha; simp at ha
 | cons b l ih =>
  intro h a ha
  obtain ⟨h1, h2⟩ := z0f (a := f b) (b := List.rec true (fun a _ ih => bif f a then ih else false) l) h
  rcases List.mem_cons.1 ha with rfl | ha
  ·exact h1
  ·exact ih h2 a ha
theorem q0J {a b : RO} (h : q1m a b = true) : a.pre.testBit b.i = true ∨ b.pre.testBit a.i = true := by
 unfold q1m at h
 cases hb : b.pre.testBit a.i
 ·rw [hb] at h; exact .inl h
 ·exact .inr rfl
theorem q7N {n : Nat} {l : List Nat} (h : n ∈ l) : z2j n l = true := by rw [z4b]; simpa using h
theorem q0K {all : List Oper} {rs : List RO} : ∀ {l : List RO}, z3c all rs l = true → ∀ r ∈ l, q4v r (looks all r.o) rs = true ∧ q1o r rs = true := by
 intro l
 induction l with
 | nil => intro _ a ha; simp at ha
 | cons b l ih =>
  intro h r hr
  obtain ⟨h1, h2⟩ := z0f (a := q4v b (looks all b.o) rs) (b := bif q1o b rs then z3c all rs l else false) h
  obtain ⟨h2, h3⟩ := z0f h2
  rcases List.mem_cons.1 hr with rfl | hr
  ·exact ⟨h1, h2⟩
  ·exact ih h3 r hr
theorem q1K {ops : Array Oper} {rs : List RO} (hp : PreOk ops rs) (h : z3c ops.toList rs rs = true) : Sane ops rs where
 pre := hp
 looks := fun r hr s hs hne d hd hl => by
  have h1 := z6g (f := fun s => bif Nat.beq s.i r.i then true else q1n r s (Sx.looks ops.toList r.o) s.o.dst) (q0K h r hr).1 s hs
  simp only [z0E hne, cond_false, q1n, hd, q7N hl, cond_true] at h1
  exact q0J h1
 writes := fun r hr s hs hne d hd hd' => by
  have h1 := z6g (f := fun s => bif Nat.beq s.i r.i then true else z8J r s) (q0K h r hr).2 s hs
  have hdd : Nat.beq d d = true := z1k rfl
  simp only [z0E hne, cond_false, z8J, hd, hd', hdd, cond_true] at h1
  exact q0J h1
theorem z7P {t : Tmp} : ∀ {l : List Operand}, Operand.tmp t ∈ l → t ∈ z8e l := by
 intro l
 induction l with
 | nil => intro h; simp at h
 | cons o l ih =>
  intro h
  show t ∈ q9r o (z8e l)
  rcases List.mem_cons.1 h with h' | h'
  ·subst h'; exact List.mem_cons_self
  ·cases o with
   | tmp u => exact List.mem_cons_of_mem _ (ih h')
   | _ => exact ih h'
theorem z9p {o : Option Tmp} {t : Tmp} {l : List Tmp} (h : o = some t ∨ t ∈ l) : t ∈ q9s o l := by
 cases o with
 | none => exact h.elim (fun h => by simp at h) id
 | some d => exact h.elim (fun h => by simp only [Option.some.injEq] at h; subst h; exact List.mem_cons_self) (List.mem_cons_of_mem _)
theorem j3t {all : List Oper} {o : Oper} {t : Tmp} (h : Operand.tmp t ∈ o.op.operands) : t ∈ looks all o := by
 unfold looks
 split
 ·exact z7P (Array.mem_toList_iff.2 h)
 ·exact z9p (.inr (z7P (Array.mem_toList_iff.2 h)))
theorem q4X {all : List Oper} {o : Oper} {j : Nat} {want : Bool} {d : Tmp} (hg : o.guard = some (j, want)) (hd : q4q all j = some d) : d ∈ looks all o := by
 unfold looks
 rw [hg]
 exact z9p (.inl hd)
def Alike (all : List Oper) (o : Oper) (tm tm' : T AV) : Prop := ∀ t ∈ looks all o, slot tm t = slot tm' t
theorem z9q (want : Bool) (tm : T AV) (d : Nat) : z5O want (tm.get d) = z5O want (some (slot tm d)) := by
 unfold slot
 cases tm.get d <;> rfl
theorem Alike.wanted {all : List Oper} {o : Oper} {tm tm' : T AV} (h : Alike all o tm tm') : z0s all o.guard tm = z0s all o.guard tm' := by
 unfold z0s
 cases hg : o.guard with
 | none => rfl
 | some p =>
  obtain ⟨j, want⟩ := p
  simp only [guardA]
  cases hd : q4q all j with
  | none => rfl
  | some d =>
   simp only
   rw [z9q, z9q, h d (q4X hg hd)]
theorem Alike.aev {all : List Oper} {o : Oper} {tm tm' : T AV} (h : Alike all o tm tm') : ∀ x ∈ o.op.operands, Sx.aev G tm x = Sx.aev G tm' x := fun _ hx =>
 j3o fun t ht => h t (j3t (ht ▸ hx))
theorem Alike.opN {all : List Oper} {o : Oper} {tm tm' : T AV} (h : Alike all o tm tm') (H : Heap) : Sx.opN o.op G tm H = Sx.opN o.op G tm' H := j0t h.aev H
theorem Alike.opE {all : List Oper} {o : Oper} {tm tm' : T AV} (h : Alike all o tm tm') (c : Ctx) (df : List ADefer) (H : Heap) : Sx.opE o.op F G c tm df H = Sx.opE o.op F G c tm' df H := j0u h.aev c df H
theorem Sane.alike {ops : Array Oper} {rs : List RO} (hs : Sane ops rs) {V : Nat → AV} {tm0 : T AV} {X Y : Nat → Prop} {r : RO} (hr : r ∈ rs) (hX : Shut rs X) (hY : Shut rs Y) (hx : ¬ X r.i) (hy : ¬ Y r.i)
  (px : ∀ j, r.pre.testBit j = true → X j) (py : ∀ j, r.pre.testBit j = true → Y j) {tm tm' : T AV} (sx : Slots ops V tm0 X tm) (sy : Slots ops V tm0 Y tm') : Alike ops.toList r.o tm tm' := by
 intro t ht
 rw [sx t, sy t]
 refine z3F fun i hi o ho hd => ⟨?_, fun _ => rfl⟩
 obtain ⟨s, hsr, hsi⟩ := hs.pre.get hi
 subst hsi
 have hso : s.o = o := by
  have := (hs.pre.mem hsr).2.1
  rw [ho] at this; exact (Option.some.inj this).symm
 subst hso
 by_cases he : s.i = r.i
 ·rw [he]; exact ⟨fun h => absurd h hx, fun h => absurd h hy⟩
 ·rcases hs.looks r hr s hsr he t hd ht with h | h
  ·exact ⟨fun _ => py _ h, fun _ => px _ h⟩
  ·exact ⟨fun hh => absurd (hX s hsr hh _ h) hx, fun hh => absurd (hY s hsr hh _ h) hy⟩
theorem Sane.put {ops : Array Oper} {rs : List RO} (hs : Sane ops rs) {V : Nat → AV} {tm0 : T AV} {X : Nat → Prop} {r : RO} (hr : r ∈ rs) (hX : Shut rs X) (hx : ¬ X r.i)
  (hb : ∀ j, X j → j < ops.size) {tm : T AV} (sx : Slots ops V tm0 X tm) : Slots ops V tm0 (fun j => X j ∨ j = r.i) (putTs r.o.dst tm (V r.i)) := by
 intro t
 obtain ⟨m1, m2, m3, m4⟩ := hs.pre.mem hr
 rw [q7L, q7M m2 hx ?_ m4, sx t]
 intro i hi o' ho' hd hd'
 obtain ⟨s, hsr, hsi⟩ := hs.pre.get (hb i hi)
 subst hsi
 have hso : s.o = o' := by
  have := (hs.pre.mem hsr).2.1
  rw [ho'] at this; exact (Option.some.inj this).symm
 subst hso
 have he : s.i ≠ r.i := fun e => hx (e ▸ hi)
 rcases hs.writes r hr s hsr he t hd hd' with h | h
 ·exact hs.pre.lt _ r m1 _ h
 ·exact absurd (hX s hsr hi _ h) hx
theorem Slots.upd {ops : Array Oper} {V : Nat → AV} {tm0 : T AV} {X : Nat → Prop} {tm : T AV} (h : Slots ops V tm0 X tm) {V' : Nat → AV} (hV : ∀ i, X i → V i = V' i) : Slots ops V' tm0 X tm := fun t => by
 rw [h t]
 exact z3F fun i _ _ _ _ => ⟨Iff.rfl, hV i⟩
theorem Slots.of_iff {ops : Array Oper} {V : Nat → AV} {tm0 : T AV} {X Y : Nat → Prop} {tm : T AV} (h : Slots ops V tm0 X tm) (he : ∀ i, X i ↔ Y i) : Slots ops V tm0 Y tm := by
 have : X = Y := funext fun i => propext (he i)
 exact this ▸ h
theorem Shut.add {ops : Array Oper} {rs : List RO} (hP : PreOk ops rs) {X : Nat → Prop} (hX : Shut rs X) {r : RO} (hr : r ∈ rs) (hp : ∀ j, r.pre.testBit j = true → X j) : Shut rs (fun j => X j ∨ j = r.i) := by
 intro s hs hsx j hj
 rcases hsx with hsx | hsx
 ·exact .inl (hX s hs hsx j hj)
 ·have h1 := (hP.mem hs).1
  rw [hsx, (hP.mem hr).1] at h1
  have := Option.some.inj h1
  subst this
  exact .inl (hp j hj)
end
end Go.Sx
namespace Go.Sx
section
variable {P : Program} {G : Tab} {F : Fns}
def bits (n : Nat) (i : Nat) : Prop := n.testBit i = true
def Pend (G : Tab) (c : Ctx) (ops : Array Oper) (rs : List RO) (tm0 : T AV) (H0 : Heap) (D : Nat → Prop) (V : Nat → AV) (d : DS) (r : RO) : Prop :=
 z0K r.kind = false ∧ (∀ t, r.o.dst = some t → t < c.size) ∧
 ∃ tmi X, Shut rs X ∧ ¬ X r.i ∧ (∀ j, r.pre.testBit j = true → X j) ∧ Slots ops V tm0 X tmi ∧ (∀ j, X j → bits d.done j) ∧
  ((z0s ops.toList r.o.guard tmi = false ∧ V r.i = z0A) ∨
   (z0s ops.toList r.o.guard tmi = true ∧
    ((r.kind = .pure ∧ ∃ H H', opN r.o.op G tmi H = some (V r.i, H')) ∨
     ((⟨r, tmi, V r.i⟩ : Kept) ∈ d.kept ∧ (r.kind = .read ∨ (r.kind = .alloc ∧ ∃ b, z0H (V r.i) = some b ∧ ¬ D b ∧ H0.next ≤ b ∧ b < d.s.h.next))))))
structure Inv (P : Program) (G : Tab) (c : Ctx) (ops : Array Oper) (rs : List RO) (tm0 : T AV) (H0 : Heap) (ρ0 : Env) (D0 : Nat → Prop) (rnd : Option Nat) (S : Nat → Prop) (V : Nat → AV) (d : DS)
  (ρ : Env) (D : Nat → Prop) (w : World) (tmR : T AV) (tm : Array Value) (df : List Deferred) : Prop where
 sub : ∀ i, S i → bits d.done i
 bound : ∀ i, bits d.done i → i < ops.size
 shutS : Shut rs S
 shutD : Shut rs (bits d.done)
 heap : HRel G ρ D w d.s.h
 ext : Ext H0 ρ0 D0 d.s.h ρ D
 slotsD : Slots ops V tm0 (bits d.done) d.s.tm
 slotsS : Slots ops V tm0 S tmR
 trel : TmRel ρ D c.size tmR tm
 drel : DfRel ρ D d.s.df df
 rnd : RndRel ρ D c.rnd rnd
 miss : ∀ r ∈ rs, bits d.done r.i → ¬ S r.i → Pend G c ops rs tm0 H0 D V d r
 uniq : ∀ r ∈ rs, ∀ s ∈ rs, bits d.done r.i → bits d.done s.i → ¬ S r.i → ¬ S s.i → r.kind = .alloc → s.kind = .alloc → ∀ b, z0H (V r.i) = some b → z0H (V s.i) = some b → r.i = s.i
theorem Pend.keep {c : Ctx} {ops : Array Oper} {rs : List RO} {tm0 : T AV} {H0 : Heap} {D D' : Nat → Prop} {V V' : Nat → AV} {d d' : DS} {r : RO} (h : Pend G c ops rs tm0 H0 D V d r)
  (hr : bits d.done r.i) (hV : ∀ i, bits d.done i → V i = V' i) (hd : ∀ i, bits d.done i → bits d'.done i) (hk : ∀ x ∈ d.kept, x ∈ d'.kept) (hn : d.s.h.next ≤ d'.s.h.next)
  (hD : ∀ b, D' b → r.kind = .alloc → z0H (V r.i) = some b → b < d.s.h.next → D b) : Pend G c ops rs tm0 H0 D' V' d' r := by
 obtain ⟨h1, h2, tmi, X, g1, g2, g3, g4, g5, g6⟩ := h
 refine ⟨h1, h2, tmi, X, g1, g2, g3, g4.upd fun i hi => hV i (g5 i hi), fun j hj => hd j (g5 j hj), ?_⟩
 rw [← hV _ hr]
 rcases g6 with g6 | ⟨g6, g7⟩
 ·exact .inl g6
 ·refine .inr ⟨g6, ?_⟩
  rcases g7 with g7 | ⟨g7, g8⟩
  ·exact .inl g7
  ·refine .inr ⟨hk _ g7, ?_⟩
   rcases g8 with g8 | ⟨g8, b, k1, k2, k3, k4⟩
   ·exact .inl g8
   ·exact .inr ⟨g8, b, k1, fun hb => k2 (hD b hb g8 k1 k4), k3, Nat.lt_of_lt_of_le k4 hn⟩
theorem HRel.skipPush {ρ : Env} {D : Nat → Prop} {w : World} {H : Heap} (h : HRel G ρ D w H) (o : ABlk) : HRel G ρ D w (H.push o) where
 lt := fun b hb => Nat.lt_succ_of_lt (h.lt b hb)
 glob := h.glob
 inj := fun x y p q hx hy hox hoy hxy => by
  rw [Heap.get_push, if_neg (Nat.ne_of_lt (h.lt x hx))] at hox
  rw [Heap.get_push, if_neg (Nat.ne_of_lt (h.lt y hy))] at hoy
  exact h.inj x y p q hx hy hox hoy hxy
 blk := fun x p hx hox => by
  rw [Heap.get_push, if_neg (Nat.ne_of_lt (h.lt x hx))] at hox
  exact h.blk x p hx hox
 kin := h.kin
 rest := fun i q hi => ⟨(h.rest i q hi).1, fun x hx hxi => by
  rw [Heap.get_push, if_neg (Nat.ne_of_lt (h.lt x hx))]
  exact (h.rest i q hi).2 x hx hxi⟩
noncomputable def upd (V : Nat → AV) (k : Nat) (v : AV) : Nat → AV := fun i => if i = k then v else V i
theorem z1d (n k i : Nat) : bits (Nat.lor n (Nat.pow 2 k)) i ↔ (bits n i ∨ i = k) := by
 unfold bits
 rw [z6f, z9l]
 simp only [Bool.or_eq_true, decide_eq_true_eq]
 exact ⟨fun h => h.imp id Eq.symm, fun h => h.imp id Eq.symm⟩
section
variable {c : Ctx} {ops : Array Oper} {rs : List RO} {tm0 : T AV} {H0 : Heap} {ρ0 : Env} {D0 : Nat → Prop} {rnd : Option Nat} {S : Nat → Prop} {V : Nat → AV} {d : DS}
 {ρ : Env} {D : Nat → Prop} {w : World} {tmR : T AV} {tm : Array Value} {df : List Deferred}
theorem Inv.ahead (TT : TabOk P G) (hs : Sane ops rs) (I : Inv P G c ops rs tm0 H0 ρ0 D0 rnd S V d ρ D w tmR tm df) {r : RO} (hr : r ∈ rs) (hne : z0K r.kind = false) (hnd : ¬ bits d.done r.i)
  (hpre : ∀ j, r.pre.testBit j = true → bits d.done j) (hsz : ∀ t, r.o.dst = some t → t < c.size) {v : AV} {H' : Heap} {kept' : List Kept}
  (hv : (z0s ops.toList r.o.guard d.s.tm = false ∧ v = z0A ∧ H' = d.s.h ∧ kept' = d.kept) ∨
   (z0s ops.toList r.o.guard d.s.tm = true ∧ opN r.o.op G d.s.tm d.s.h = some (v, H') ∧ kept' = z2z r d.s.tm v d.kept)) :
  Inv P G c ops rs tm0 H0 ρ0 D0 rnd S (upd V r.i v) ⟨Nat.lor d.done (Nat.pow 2 r.i), ⟨putTs r.o.dst d.s.tm v, H', d.s.df⟩, kept'⟩ ρ D w tmR tm df := by
 obtain ⟨m1, m2, m3, m4⟩ := hs.pre.mem hr
 have hV : ∀ i, bits d.done i → V i = upd V r.i v i := fun i hi => by
  have : i ≠ r.i := fun e => hnd (e ▸ hi)
  simp [upd, this]
 have hVr : upd V r.i v r.i = v := by simp [upd]
 have hHp : (H' = d.s.h ∧ (r.kind = .alloc → v = z0A)) ∨ (r.kind = .alloc ∧ z0s ops.toList r.o.guard d.s.tm = true ∧ ∃ p, H' = d.s.h.push p ∧ z0H v = some d.s.h.next) := by
  rcases hv with ⟨_, h2, h3, _⟩ | ⟨h1, h2, _⟩
  ·exact .inl ⟨h3, fun _ => h2⟩
  ·by_cases hk : r.kind = .alloc
   ·obtain ⟨p, hp, hb, _⟩ := q1J TT (m3.alloc hk) h2
    exact .inr ⟨hk, h1, p, hp, hb⟩
   ·rcases q6J TT h2 with h | h
    ·exact .inl ⟨h, fun e => absurd e hk⟩
    ·exact absurd (m3.ofAlloc h) hk
 have hnext : d.s.h.next ≤ H'.next := by
  rcases hHp with ⟨h, _⟩ | ⟨_, _, p, h, _⟩
  ·rw [h]; exact Nat.le_refl _
  ·rw [h]; exact Nat.le_succ _
 have hheap : HRel G ρ D w H' := by
  rcases hHp with ⟨h, _⟩ | ⟨_, _, p, h, _⟩
  ·rw [h]; exact I.heap
  ·rw [h]; exact I.heap.skipPush p
 have hkept : ∀ x ∈ d.kept, x ∈ kept' := fun x hx => by
  rcases hv with ⟨_, _, _, h⟩ | ⟨_, _, h⟩
  ·rw [h]; exact hx
  ·rw [h]; unfold z2z
   split
   ·exact hx
   ·exact List.mem_cons_of_mem _ hx
 -- what is missing of old
 have old : ∀ s ∈ rs, bits d.done s.i → ¬ S s.i → s.kind = .alloc → ∀ b, z0H (V s.i) = some b → b < d.s.h.next := by
  intro s hsr hsd hsS hk b hb
  obtain ⟨_, _, tmi, X, _, _, _, _, _, g6⟩ := I.miss s hsr hsd hsS
  rcases g6 with ⟨_, g6⟩ | ⟨_, g6 | ⟨_, g6 | ⟨_, b', k1, _, _, k4⟩⟩⟩
  ·rw [g6] at hb; simp [z0A, z0H] at hb
  ·rw [hk] at g6; simp at g6
  ·rw [hk] at g6; simp at g6
  ·rw [hb] at k1; simp only [Option.some.injEq] at k1; subst k1; exact k4
 refine ⟨fun i hi => (z1d _ _ _).2 (.inl (I.sub i hi)), ?_, I.shutS, ?_, hheap, ⟨I.ext.sub, Nat.le_trans I.ext.next hnext, I.ext.new⟩, ?_, ?_, I.trel, I.drel, I.rnd, ?_, ?_⟩
 ·intro i hi
  rcases (z1d _ _ _).1 hi with hi | rfl
  ·exact I.bound i hi
  ·exact m4
 ·have := I.shutD.add hs.pre hr hpre
  intro s hsr hsd j hj
  exact (z1d _ _ _).2 (this s hsr ((z1d _ _ _).1 hsd) j hj)
 ·have := hs.put hr I.shutD hnd I.bound (I.slotsD.upd hV)
  rw [hVr] at this
  exact this.of_iff fun i => (z1d _ _ _).symm
 ·exact I.slotsS.upd fun i hi => hV i (I.sub i hi)
 ·intro s hsr hsd hsS
  by_cases he : s.i = r.i
  ·have hsr' : s = r := by
    have h1 := (hs.pre.mem hsr).1
    rw [he, m1] at h1
    exact (Option.some.inj h1).symm
   subst hsr'
   refine ⟨hne, hsz, d.s.tm, bits d.done, I.shutD, hnd, hpre, I.slotsD.upd hV, fun j hj => (z1d _ _ _).2 (.inl hj), ?_⟩
   rw [hVr]
   rcases hv with ⟨h1, h2, _, _⟩ | ⟨h1, h2, h3⟩
   ·exact .inl ⟨h1, h2⟩
   ·refine .inr ⟨h1, ?_⟩
    have hin : s.kind ≠ .pure → (⟨s, d.s.tm, v⟩ : Kept) ∈ kept' := fun hk => by
     rw [h3]; unfold z2z
     split
     ·rename_i hk'; exact absurd hk' hk
     ·exact List.mem_cons_self
    cases hk : s.kind with
    | pure => exact .inl ⟨rfl, _, _, h2⟩
    | read => exact .inr ⟨hin (by rw [hk]; simp), .inl rfl⟩
    | alloc =>
     refine .inr ⟨hin (by rw [hk]; simp), .inr ⟨rfl, ?_⟩⟩
     obtain ⟨p, hp, hb, _⟩ := q1J TT (m3.alloc hk) h2
     refine ⟨d.s.h.next, hb, fun hD => Nat.lt_irrefl _ (I.heap.lt _ hD), I.ext.next, ?_⟩
     rw [hp]; exact Nat.lt_succ_self _
    | eff => rw [hk] at hne; simp [z0K] at hne
  ·have hsd' : bits d.done s.i := ((z1d _ _ _).1 hsd).resolve_right he
   exact (I.miss s hsr hsd' hsS).keep hsd' hV (fun i hi => (z1d _ _ _).2 (.inl hi)) hkept hnext fun b hb _ _ _ => hb
 ·intro s hsr t htr hsd htd hsS htS hsk htk b hsb htb
  -- the new block is not one of the old ones
  have key : ∀ s ∈ rs, s.i ≠ r.i → bits (Nat.lor d.done (Nat.pow 2 r.i)) s.i → ¬ S s.i → s.kind = .alloc → z0H (upd V r.i v s.i) = some b → r.kind = .alloc → z0H (upd V r.i v r.i) = some b → False := by
   intro s hsr he hsd hsS hsk hsb hrk hrb
   have hsd' : bits d.done s.i := ((z1d _ _ _).1 hsd).resolve_right he
   rw [← hV _ hsd'] at hsb
   have hlt := old s hsr hsd' hsS hsk b hsb
   rw [hVr] at hrb
   rcases hHp with ⟨_, h2⟩ | ⟨_, _, p, _, hb⟩
   ·rw [h2 hrk] at hrb; simp [z0A, z0H] at hrb
   ·rw [hb] at hrb; simp only [Option.some.injEq] at hrb; omega
  by_cases he : s.i = r.i
  ·by_cases he' : t.i = r.i
   ·rw [he, he']
   ·have hsr' : s = r := by
     have h1 := (hs.pre.mem hsr).1
     rw [he, m1] at h1
     exact (Option.some.inj h1).symm
    subst hsr'
    exact (key t htr he' htd htS htk htb hsk hsb).elim
  ·by_cases he' : t.i = r.i
   ·have htr' : t = r := by
     have h1 := (hs.pre.mem htr).1
     rw [he', m1] at h1
     exact (Option.some.inj h1).symm
    subst htr'
    exact (key s hsr he hsd hsS hsk hsb htk htb).elim
   ·have hsd' : bits d.done s.i := ((z1d _ _ _).1 hsd).resolve_right he
    have htd' : bits d.done t.i := ((z1d _ _ _).1 htd).resolve_right he'
    rw [← hV _ hsd'] at hsb
    rw [← hV _ htd'] at htb
    exact I.uniq s hsr t htr hsd' htd' hsS htS hsk htk b hsb htb
theorem q4Y {r : RO} {n : Nat} (h : ready r n = true) : z0K r.kind = false ∧ ¬ bits n r.i ∧ ∀ j, r.pre.testBit j = true → bits n j := by
 unfold ready at h
 cases h1 : z0K r.kind <;> rw [h1] at h
 ·simp only [cond_false] at h
  cases h2 : n.testBit r.i <;> rw [h2] at h
  ·simp only [cond_false] at h
   exact ⟨rfl, by simp [bits, h2], fun j hj => j7m h j hj⟩
  ·simp at h
 ·simp at h
theorem q6K {r : RO} {n : Nat} (h1 : z0K r.kind = false) (h2 : ¬ bits n r.i) (h3 : ∀ j, r.pre.testBit j = true → bits n j) : ready r n = true := by
 unfold ready
 have h2 : n.testBit r.i = false := by simpa [bits] using h2
 rw [h1, h2]
 simp only [cond_false]
 exact q4W h3
theorem q1L (TT : TabOk P G) (hs : Sane ops rs) {k : DK} {ss : List St} : ∀ {l : List RO} {V : Nat → AV} {d : DS}, (∀ r ∈ l, r ∈ rs) → Inv P G c ops rs tm0 H0 ρ0 D0 rnd S V d ρ D w tmR tm df →
  z0O G c ops.toList l k d = some ss → ∃ V' d', Inv P G c ops rs tm0 H0 ρ0 D0 rnd S V' d' ρ D w tmR tm df ∧ k d' = some ss := by
 intro l
 induction l with
 | nil => intro V d _ I h; exact ⟨V, d, I, h⟩
 | cons r l ih =>
  intro V d hl I h
  have hl' : ∀ r ∈ l, r ∈ rs := fun x hx => hl x (List.mem_cons_of_mem _ hx)
  have hr := hl r List.mem_cons_self
  have h : z4U G c ops.toList r (z0O G c ops.toList l) k d = some ss := h
  unfold z4U at h
  rcases z0Z h with ⟨h0, h⟩ | ⟨h0, h⟩
  ·obtain ⟨e1, e2, e3⟩ := q4Y h0
   rcases z0Z h with ⟨hw, h⟩ | ⟨hw, h⟩
   ·obtain ⟨p, hp, h⟩ := z0a h
    obtain ⟨hsz, h⟩ := z0m h
    rw [z0h] at h
    exact ih hl' (I.ahead TT hs hr e1 e2 e3 hsz (v := p.1) (H' := p.2) (.inr ⟨hw, hp, rfl⟩)) h
   ·obtain ⟨hsz, h⟩ := z0m h
    rw [z0h] at h
    exact ih hl' (I.ahead TT hs hr e1 e2 e3 hsz (v := z0A) (.inl ⟨hw, rfl, rfl, rfl⟩)) h
  ·exact ih hl' I h
end
end
end Go.Sx
namespace Go.Sx
section
variable {P : Program} {G : Tab} {F : Fns}
variable {c : Ctx} {ops : Array Oper} {rs : List RO} {tm0 : T AV} {H0 : Heap} {ρ0 : Env} {D0 : Nat → Prop} {rnd : Option Nat} {S : Nat → Prop} {V : Nat → AV} {d : DS}
 {ρ : Env} {D : Nat → Prop} {w : World} {tmR : T AV} {tm : Array Value} {df : List Deferred}
theorem Inv.caught (hs : Sane ops rs) (I : Inv P G c ops rs tm0 H0 ρ0 D0 rnd S V d ρ D w tmR tm df) {r : RO} (hr : r ∈ rs) (hd : bits d.done r.i) (hS : ¬ S r.i) (hpS : ∀ j, r.pre.testBit j = true → S j)
  {ρ' : Env} {D' : Nat → Prop} {w' : World} {df' : List Deferred} (hH : HRel G ρ' D' w' d.s.h) (hsub : Sub ρ D ρ' D') (hv : okV ρ' D' (V r.i)) (hdf : DfRel ρ' D' d.s.df df')
  (hD : ∀ b, D' b → D b ∨ (r.kind = .alloc ∧ z0H (V r.i) = some b ∧ H0.next ≤ b)) :
  Inv P G c ops rs tm0 H0 ρ0 D0 rnd (fun j => S j ∨ j = r.i) V d ρ' D' w' (putTs r.o.dst tmR (V r.i)) (putT r.o.dst tm (conc ρ' (V r.i))) df' := by
 have hsz := (I.miss r hr hd hS).2.1
 refine ⟨?_, I.bound, I.shutS.add hs.pre hr hpS, I.shutD, hH, ⟨I.ext.sub.trans hsub, I.ext.next, ?_⟩, I.slotsD, hs.put hr I.shutS hS (fun j hj => I.bound j (I.sub j hj)) I.slotsS,
  (I.trel.sub hsub).putTs hsz hv, hdf, I.rnd.sub hsub, ?_, ?_⟩
 ·rintro i (hi | rfl)
  ·exact I.sub i hi
  ·exact hd
 ·intro b hb
  rcases hD b hb with hb | ⟨_, _, hb⟩
  ·exact I.ext.new b hb
  ·exact .inr hb
 ·intro s hsr hsd hsS
  refine (I.miss s hsr hsd fun h => hsS (.inl h)).keep hsd (fun _ _ => rfl) (fun _ h => h) (fun _ h => h) (Nat.le_refl _) fun b hb hk hbl _ => ?_
  rcases hD b hb with hb | ⟨hrk, hrb, _⟩
  ·exact hb
  ·exact absurd (.inr (I.uniq s hsr r hr hsd hd (fun h => hsS (.inl h)) hS hk hrk b hbl hrb)) hsS
 ·exact fun s hsr t htr hsd htd hsS htS => I.uniq s hsr t htr hsd htd (fun h => hsS (.inl h)) fun h => htS (.inl h)
theorem q0L {H : Heap} {sealed_ : Nat} : ∀ {l : List Kept}, z6o G H sealed_ l = true → ∀ k ∈ l, ¬ bits sealed_ k.r.i → z3O G H k = true := fun {l} h k hk hb => by
 have := z6g (f := fun k : Kept => bif Nat.testBit sealed_ k.r.i then true else z3O G H k) h k hk
 have hb : Nat.testBit sealed_ k.r.i = false := by simpa [bits] using hb
 simpa [hb] using this
theorem z6E {n : Nat} : ∀ {l : List RO}, z0e n l = true → ∀ r ∈ l, ready r n = false := by
 intro l
 induction l with
 | nil => intro _ r hr; simp at hr
 | cons a l ih =>
  intro h r hr
  have h : (bif ready a n then false else z0e n l) = true := h
  cases h0 : ready a n <;> rw [h0] at h
  ·rcases List.mem_cons.1 hr with rfl | hr
   ·exact h0
   ·exact ih h r hr
  ·simp at h
theorem q7O {v : AV} {o : Option VH} (h : j6T v o = true) : ∃ H', o = some (v, H') := by
 unfold j6T at h
 split at h
 ·rename_i p
  have := AV.beq_eq _ _ h
  exact ⟨p.2, by rw [← this]⟩
 ·simp at h
theorem q1M {v : AV} {H : Heap} {b : Nat} {o : Option VH} (h : z8f v H b o = true) : ∃ H' p, o = some (v, H') ∧ H'.blks.get b = some p ∧ H.blks.get b = some p := by
 unfold z8f at h
 split at h
 ·rename_i q
  obtain ⟨h1, h2⟩ := z0f h
  have h1 := AV.beq_eq _ _ h1
  unfold j6U at h2
  split at h2
  ·rename_i x y hx hy
   have := ABlk.beq_eq _ _ h2
   subst this
   exact ⟨q.2, x, by rw [← h1], hx, hy⟩
  ·simp at h2
 ·simp at h
theorem q3r (I : Inv P G c ops rs tm0 H0 ρ0 D0 rnd S V d ρ D w tmR tm df) (b : Frame) (k : List Item) : EvOk G ρ D tmR (fat b tm df k).eval := z1P (fr := fat b tm df k) I.heap I.trel
theorem Inv.late (TT : TabOk P G) (hs : Sane ops rs) (I : Inv P G c ops rs tm0 H0 ρ0 D0 rnd S V d ρ D w tmR tm df) {sealed_ : Nat} (hst : z2s G rs sealed_ d = true) (hse : ∀ j, bits sealed_ j → S j)
  {r : RO} (hr : r ∈ rs) (hd : bits d.done r.i) (hS : ¬ S r.i) (hpS : ∀ j, r.pre.testBit j = true → S j) {b : Frame} {rest : List Nat} {k : List Item} {cs : List Frame} :
  ∃ ρ' D' w' tm' df', Inv P G c ops rs tm0 H0 ρ0 D0 rnd (fun j => S j ∨ j = r.i) V d ρ' D' w' (putTs r.o.dst tmR (V r.i)) tm' df' ∧
   Steps P (lone (fat b tm df (.inRegion ops (r.i :: rest) :: k)) cs w) (lone (fat b tm' df' (.inRegion ops rest :: k)) cs w') := by
 obtain ⟨_, m2, m3, _⟩ := hs.pre.mem hr
 obtain ⟨hne, hsz, tmi, X, gX, gx, gp, gs, gd, g6⟩ := I.miss r hr hd hS
 have hal := hs.alike hr I.shutS gX hS gx hpS gp I.slotsS gs
 have hw := z3t I.trel ops r.o
 rw [hal.wanted] at hw
 obtain ⟨_, hko⟩ := z0f (a := z0e d.done rs) (b := z6o G d.s.h sealed_ d.kept) hst
 rcases g6 with ⟨g6, g7⟩ | ⟨g6, g7⟩
 ·rw [g6] at hw
  refine ⟨ρ, D, w, _, df, I.caught hs hr hd hS hpS I.heap (.refl _ _) (by rw [g7]; trivial) I.drel fun b hb => .inl hb, ?_⟩
  rw [g7]
  exact .one (z5v m2 hw)
 ·rw [g6] at hw
  -- one that z1I memory alone
  have quiet : ∀ {H'}, opN r.o.op G tmi d.s.h = some (V r.i, H') → r.kind ≠ .alloc → ∃ ρ' D' w' tm' df', Inv P G c ops rs tm0 H0 ρ0 D0 rnd (fun j => S j ∨ j = r.i) V d ρ' D' w' (putTs r.o.dst tmR (V r.i)) tm' df' ∧
   Steps P (lone (fat b tm df (.inRegion ops (r.i :: rest) :: k)) cs w) (lone (fat b tm' df' (.inRegion ops rest :: k)) cs w') := by
   intro H' hop hk
   have hop' := hop
   rw [← hal.opN] at hop'
   have hH : H' = d.s.h := (q6J TT hop).resolve_right fun e => hk (m3.ofAlloc e)
   subst hH
   have hg := q6E (P := P) (w := w) (o := r.o) TT I.heap (q3r I b []) hop'
   obtain ⟨p, hp, ρ', D', w', df', r1, r2, r3, r4, r5⟩ := hg.opTo (b := b) (i := r.i) (rest := rest) (k := k) (cs := cs) m2 hw (.inr (z4B hop)) I.drel
   simp only [List.mem_singleton] at hp
   subst hp
   exact ⟨ρ', D', w', _, df', I.caught hs hr hd hS hpS r1 r2.sub r3 r4 fun b hb => .inl ((r2.new b hb).resolve_right fun h => Nat.not_lt.2 h (r1.lt b hb)), r5⟩
  rcases g7 with ⟨hk, H, H', hop⟩ | ⟨hk, hrd | ⟨hka, b', k1, k2, k3, k4⟩⟩
  ·exact quiet (j0y m3 hk hop d.s.h) (by rw [hk]; simp)
  ·have := q0L hko _ hk fun h => hS (hse _ h)
   have hal' : z0I r.kind = false := by rw [hrd]; rfl
   simp only [z3O, hal', cond_false] at this
   obtain ⟨H', hop⟩ := q7O this
   exact quiet hop (by rw [hrd]; simp)
  ·have := q0L hko _ hk fun h => hS (hse _ h)
   have hal' : z0I r.kind = true := by rw [hka]; rfl
   simp only [z3O, hal', cond_true, q9t, k1] at this
   obtain ⟨H', p, hop, hp₀, hp⟩ := q1M this
   have hop' := hop
   rw [← hal.opN] at hop'
   obtain ⟨ρ', D', w', r1, r2, r3, r4, r5⟩ := j7n (o := r.o) TT I.heap (q3r I b []) (m3.alloc hka) hop' hp₀ hp k2 k4
   refine ⟨ρ', D', w', _, df, I.caught hs hr hd hS hpS r2 r3 r4 (I.drel.sub r3) fun x hx => ?_, ?_⟩
   ·rcases (r5 x).1 hx with hx | rfl
    ·exact .inl hx
    ·exact .inr ⟨hka, k1, k3⟩
   ·rw [← z2I m2]
    exact .one (z2g (.of (q3i m2 hw (.inr (z4B hop)))) r1)
theorem Inv.both (hs : Sane ops rs) (I : Inv P G c ops rs tm0 H0 ρ0 D0 rnd S V d ρ D w tmR tm df) {r : RO} (hr : r ∈ rs) (hnd : ¬ bits d.done r.i) (hpS : ∀ j, r.pre.testBit j = true → S j)
  (hsz : ∀ t, r.o.dst = some t → t < c.size) {v : AV} {H' : Heap} {adf : List ADefer}
  {ρ' : Env} {D' : Nat → Prop} {w' : World} {df' : List Deferred} (hH : HRel G ρ' D' w' H') (hE : Ext d.s.h ρ D H' ρ' D') (hv : okV ρ' D' v) (hdf : DfRel ρ' D' adf df') :
  Inv P G c ops rs tm0 H0 ρ0 D0 rnd (fun j => S j ∨ j = r.i) (upd V r.i v) ⟨Nat.lor d.done (Nat.pow 2 r.i), ⟨putTs r.o.dst d.s.tm v, H', adf⟩, d.kept⟩ ρ' D' w'
   (putTs r.o.dst tmR v) (putT r.o.dst tm (conc ρ' v)) df' := by
 obtain ⟨m1, m2, m3, m4⟩ := hs.pre.mem hr
 have hnS : ¬ S r.i := fun h => hnd (I.sub _ h)
 have hV : ∀ i, bits d.done i → V i = upd V r.i v i := fun i hi => by
  have : i ≠ r.i := fun e => hnd (e ▸ hi)
  simp [upd, this]
 have hVr : upd V r.i v r.i = v := by simp [upd]
 have hpD : ∀ j, r.pre.testBit j = true → bits d.done j := fun j hj => I.sub j (hpS j hj)
 have old : ∀ {s : RO}, bits (Nat.lor d.done (Nat.pow 2 r.i)) s.i → ¬ (S s.i ∨ s.i = r.i) → bits d.done s.i := fun {s} h h' => ((z1d _ _ _).1 h).resolve_right fun e => h' (.inr e)
 refine ⟨fun i hi => (z1d _ _ _).2 (hi.imp (I.sub i) id), ?_, I.shutS.add hs.pre hr hpS, ?_, hH, I.ext.trans hE, ?_, ?_, (I.trel.sub hE.sub).putTs hsz hv, hdf, I.rnd.sub hE.sub, ?_, ?_⟩
 ·intro i hi
  rcases (z1d _ _ _).1 hi with hi | rfl
  ·exact I.bound i hi
  ·exact m4
 ·have := I.shutD.add hs.pre hr hpD
  intro s hsr hsd j hj
  exact (z1d _ _ _).2 (this s hsr ((z1d _ _ _).1 hsd) j hj)
 ·have := hs.put hr I.shutD hnd I.bound (I.slotsD.upd hV)
  rw [hVr] at this
  exact this.of_iff fun i => (z1d _ _ _).symm
 ·have := hs.put hr I.shutS hnS (fun j hj => I.bound j (I.sub j hj)) (I.slotsS.upd fun i hi => hV i (I.sub i hi))
  rw [hVr] at this
  exact this
 ·intro s hsr hsd hsS
  have hsd' := old hsd hsS
  refine (I.miss s hsr hsd' fun h => hsS (.inl h)).keep hsd' hV (fun i hi => (z1d _ _ _).2 (.inl hi)) (fun _ h => h) hE.next fun b hb _ _ hlt => ?_
  exact (hE.new b hb).resolve_right fun h => Nat.not_lt.2 h hlt
 ·intro s hsr t htr hsd htd hsS htS hsk htk b hsb htb
  have hsd' := old hsd hsS
  have htd' := old htd htS
  rw [← hV _ hsd'] at hsb
  rw [← hV _ htd'] at htb
  exact I.uniq s hsr t htr hsd' htd' (fun h => hsS (.inl h)) (fun h => htS (.inl h)) hsk htk b hsb htb
theorem Inv.effect (TT : TabOk P G) (hF : FnsOk P G F) (hs : Sane ops rs) (I : Inv P G c ops rs tm0 H0 ρ0 D0 rnd S V d ρ D w tmR tm df) {r : RO} (hr : r ∈ rs) (hnd : ¬ bits d.done r.i)
  (hpS : ∀ j, r.pre.testBit j = true → S j) {next : DK} {ss : List St} (h : z2l F G c ops.toList r d next = some ss) {b : Frame} (hb : b.roundOf = rnd) {rest : List Nat} {k : List Item} {cs : List Frame} :
  ∃ V' d' ρ' D' w' tmR' tm' df' ss', Inv P G c ops rs tm0 H0 ρ0 D0 rnd (fun j => S j ∨ j = r.i) V' d' ρ' D' w' tmR' tm' df' ∧ next d' = some ss' ∧ (∀ s ∈ ss', s ∈ ss) ∧
   Steps P (lone (fat b tm df (.inRegion ops (r.i :: rest) :: k)) cs w) (lone (fat b tm' df' (.inRegion ops rest :: k)) cs w') := by
 obtain ⟨_, m2, m3, _⟩ := hs.pre.mem hr
 have hnS : ¬ S r.i := fun h => hnd (I.sub _ h)
 have hal := hs.alike hr I.shutS I.shutD hnS hnd hpS (fun j hj => I.sub j (hpS j hj)) I.slotsS I.slotsD
 have hw := z3t I.trel ops r.o
 rw [hal.wanted] at hw
 unfold z2l at h
 rcases z0Z h with ⟨h0, h⟩ | ⟨h0, h⟩
 ·rw [h0] at hw
  have h : z1B (opE r.o.op F G c d.s.tm d.s.df d.s.h) (fun p => z0J c d.s.tm r.o.dst p.1 fun tm => z0G (Nat.lor d.done (Nat.pow 2 r.i)) fun m => next ⟨m, ⟨tm, p.2.2, p.2.1⟩, d.kept⟩) = some ss := h
  obtain ⟨eo, he, hall⟩ := z0w h
  rw [← hal.opE] at he
  have hSR : SRel G ρ D w c.size ⟨tmR, d.s.h, d.s.df⟩ tm df := ⟨I.heap, I.trel, I.drel⟩
  obtain ⟨p, hp, ρ', D', w', df', r1, r2, r3, r4, r5⟩ := j0n (o := r.o) (b := b) (i := r.i) (rest := rest) (k := k) (cs := cs) TT hF he hSR (hb ▸ I.rnd) m2 hw
  obtain ⟨ss', hss, hin⟩ := hall p hp
  obtain ⟨hsz, hss⟩ := z0m hss
  rw [z0h] at hss
  exact ⟨_, _, ρ', D', w', _, _, df', ss', I.both hs hr hnd hpS hsz r1 r2 r3 r4, hss, hin, r5⟩
 ·rw [h0] at hw
  obtain ⟨hsz, h⟩ := z0m h
  rw [z0h] at h
  exact ⟨_, _, ρ, D, w, _, _, df, ss, I.both hs hr hnd hpS hsz (v := z0A) I.heap (.refl _ _ _) trivial I.drel, h, fun _ h => h, .one (z5v m2 hw)⟩
theorem z3G {n : Nat} : ∀ {l : List RO} {r : RO}, z0v n l = some r → r ∈ l ∧ z0K r.kind = true ∧ ¬ bits n r.i := by
 intro l
 induction l with
 | nil => intro r h; have h : none = some r := h; simp at h
 | cons a l ih =>
  intro r h
  have h : (bif z0K a.kind then (bif Nat.testBit n a.i then z0v n l else some a) else z0v n l) = some r := h
  rcases z0Z h with ⟨h0, h⟩ | ⟨h0, h⟩
  ·rcases z0Z h with ⟨h1, h⟩ | ⟨h1, h⟩
   ·obtain ⟨g1, g2⟩ := ih h; exact ⟨List.mem_cons_of_mem _ g1, g2⟩
   ·simp only [Option.some.injEq] at h; subst h
    exact ⟨List.mem_cons_self, h0, by simp [bits, h1]⟩
  ·obtain ⟨g1, g2⟩ := ih h; exact ⟨List.mem_cons_of_mem _ g1, g2⟩
theorem q3s {n : Nat} : ∀ {l : List RO}, z0v n l = none → ∀ r ∈ l, z0K r.kind = true → bits n r.i := by
 intro l
 induction l with
 | nil => intro _ r hr; simp at hr
 | cons a l ih =>
  intro h r hr he
  have h : (bif z0K a.kind then (bif Nat.testBit n a.i then z0v n l else some a) else z0v n l) = none := h
  cases h0 : z0K a.kind <;> rw [h0] at h
  ·rcases List.mem_cons.1 hr with rfl | hr
   ·rw [h0] at he; simp at he
   ·exact ih h r hr he
  ·simp only [cond_true] at h
   cases h1 : Nat.testBit n a.i <;> rw [h1] at h
   ·simp at h
   ·rcases List.mem_cons.1 hr with rfl | hr
    ·exact h1
    ·exact ih h r hr he
theorem j0z (TT : TabOk P G) (hF : FnsOk P G F) (hs : Sane ops rs) {b : Frame} (hb : b.roundOf = rnd) {k : List Item} {cs : List Frame} : ∀ {S : Nat → Prop} {l : List Nat}, Ord ops S l →
  ∀ (f sealed_ : Nat) (V : Nat → AV) (d : DS) (ρ : Env) (D : Nat → Prop) (w : World) (tmR : T AV) (tm : Array Value) (df : List Deferred) (ss : List St),
  Inv P G c ops rs tm0 H0 ρ0 D0 rnd S V d ρ D w tmR tm df → (∀ j, bits sealed_ j → S j) → z0n F G c ops.toList rs (z0u F G c ops.toList rs f) sealed_ d = some ss →
  ∃ s ∈ ss, ∃ ρ' D' w' tm' df', SRel G ρ' D' w' c.size s tm' df' ∧ Ext H0 ρ0 D0 s.h ρ' D' ∧ Steps P (lone (fat b tm df (.inRegion ops l :: k)) cs w) (lone (fat b tm' df' (.inRegion ops [] :: k)) cs w') := by
 intro S l ho
 induction ho with
 | nil hall =>
  intro f sealed_ V d ρ D w tmR tm df ss I hse h
  obtain ⟨hst, h⟩ := z0c h
  cases hn : z0v d.done rs with
  | some r =>
   obtain ⟨h1, _, h3⟩ := z3G hn
   exact absurd (I.sub _ (hall _ (hs.pre.mem h1).2.2.2)) h3
  | none =>
   rw [hn] at h
   have h : some [d.s] = some ss := h
   simp only [Option.some.injEq] at h; subst h
   refine ⟨d.s, List.mem_singleton.2 rfl, ρ, D, w, tm, df, ⟨I.heap, ⟨I.trel.size, fun i => ?_⟩, I.drel⟩, I.ext, .refl _ _⟩
   have : slot d.s.tm i = slot tmR i := by
    rw [I.slotsD i, I.slotsS i]
    exact z3F fun j hj _ _ _ => ⟨⟨fun _ => hall j hj, fun h => I.sub j h⟩, fun _ => rfl⟩
   rw [this]
   exact I.trel.at_ i
 | @cons S i o l hio hi hon _ ih =>
  intro f sealed_ V d ρ D w tmR tm df ss I hse h
  obtain ⟨r, hr, hri⟩ := hs.pre.get (Array.getElem?_eq_some_iff.1 hio).1
  subst hri
  have hro : r.o = o := by
   have := (hs.pre.mem hr).2.1
   rw [hio] at this; exact (Option.some.inj this).symm
  subst hro
  have hpS := hs.pre.pre_in I.shutS hr hon
  by_cases hd : bits d.done r.i
  ·obtain ⟨hst, _⟩ := z0c h
   obtain ⟨ρ', D', w', tm', df', I', hsteps⟩ := I.late TT hs hst hse hr hd hi hpS (b := b) (rest := l) (k := k) (cs := cs)
   obtain ⟨s, hin, ρ₂, D₂, w₂, tm₂, df₂, g1, g2, g3⟩ := ih f sealed_ V d ρ' D' w' _ tm' df' ss I' (fun j hj => .inl (hse j hj)) h
   exact ⟨s, hin, ρ₂, D₂, w₂, tm₂, df₂, g1, g2, hsteps.trans g3⟩
  ·obtain ⟨hst, h⟩ := z0c h
   obtain ⟨hnr, _⟩ := z0f (a := z0e d.done rs) (b := z6o G d.s.h sealed_ d.kept) hst
   have hnr := z6E hnr r hr
   have heff : z0K r.kind = true := by
    cases he : z0K r.kind
    ·rw [q6K he hd fun j hj => I.sub j (hpS j hj)] at hnr; simp at hnr
    ·rfl
   cases hn : z0v d.done rs with
   | none => exact absurd (q3s hn r hr heff) hd
   | some e =>
    rw [hn] at h
    have h : (bif sub e.pre d.done then (bif z0l e d.done rs then z2l F G c ops.toList e d (z0u F G c ops.toList rs f e.pre) else none) else none) = some ss := h
    obtain ⟨_, h⟩ := z0c h
    obtain ⟨hoa, h⟩ := z0c h
    obtain ⟨e1, e2, e3⟩ := z3G hn
    have her : r.i = e.i := by
     have := z6g (f := fun r => q2N e r d.done) hoa r hr
     unfold q2N at this
     have hd' : Nat.testBit d.done r.i = false := by simpa [bits] using hd
     rw [heff, hd'] at this
     simp only [cond_true, cond_false] at this
     by_cases he : r.i = e.i
     ·exact he
     ·rw [z0E he] at this
      simp only [cond_false] at this
      exact absurd (I.sub _ (hpS _ this)) e3
    have : r = e := by
     have h1 := (hs.pre.mem hr).1
     rw [her, (hs.pre.mem e1).1] at h1
     exact (Option.some.inj h1).symm
    subst this
    obtain ⟨V', d', ρ', D', w', tmR', tm', df', ss', I', hnext, hin', hsteps⟩ := I.effect TT hF hs hr hd hpS h hb (rest := l) (k := k) (cs := cs)
    cases f with
    | zero => have hnext : (none : Option (List St)) = some ss' := hnext; simp at hnext
    | succ f =>
     have hnext : z0O G c ops.toList rs (z0n F G c ops.toList rs (z0u F G c ops.toList rs f) r.pre) d' = some ss' := hnext
     obtain ⟨V₂, d₂, I₂, h₂⟩ := q1L TT hs (fun _ h => h) I' hnext
     obtain ⟨s, hin, ρ₂, D₂, w₂, tm₂, df₂, g1, g2, g3⟩ := ih f r.pre V₂ d₂ ρ' D' w' tmR' tm' df' ss' I₂ (fun j hj => .inl (hpS j hj)) h₂
     exact ⟨s, hin' s hin, ρ₂, D₂, w₂, tm₂, df₂, g1, g2, hsteps.trans g3⟩
theorem q1N (TT : TabOk P G) (hF : FnsOk P G F) : j0p P G F := by
 intro c ops s ss h t b k cs ρ D w tm df hS hR
 obtain ⟨rs, hs, h⟩ : ∃ rs, Sane ops rs ∧ z0u F G c ops.toList rs 100 0 ⟨0, s, []⟩ = some ss := by
  rcases z0Z h with ⟨_, h⟩ | ⟨_, h⟩
  ·obtain ⟨rs, hrs, h⟩ := z0a h
   obtain ⟨hall, h⟩ := z0c h
   exact ⟨rs, q1K (q6I hrs) hall, h⟩
  ·obtain ⟨rs, hrs, h⟩ := z0a h
   obtain ⟨hall, h⟩ := z0c h
   exact ⟨rs, q1K (j0w hrs) hall, h⟩
 have h : z0O G c ops.toList rs (z0n F G c ops.toList rs (z0u F G c ops.toList rs 99) 0) ⟨0, s, []⟩ = some ss := h
 have h0 : ∀ i, ¬ bits 0 i := fun i => by simp [bits]
 have he : Shut rs (fun _ => False) := fun _ _ h => h.elim
 have I : Inv P G c ops rs s.tm s.h ρ D b.roundOf (fun _ => False) (fun _ => z0A) ⟨0, s, []⟩ ρ D w s.tm tm df :=
  ⟨fun _ h => h.elim, fun i hi => absurd hi (h0 i), he, fun r _ hi => absurd hi (h0 _), hS.h, .refl _ _ _, ?_, ?_, hS.t, hS.d, hR, fun r _ hi => absurd hi (h0 _), fun r _ s _ hi => absurd hi (h0 _)⟩
 ·obtain ⟨V', d', I', h'⟩ := q1L TT hs (fun _ h => h) I h
  exact j0z TT hF hs rfl (z6D hs.pre t) 99 0 V' d' ρ D w s.tm tm df ss I' (fun j hj => absurd hj (h0 j)) h'
 all_goals
  intro i
  have key : ∀ (X : Nat → Prop) n, (∀ j, ¬ X j) → z4H ops (fun _ => z0A) s.tm X n i = slot s.tm i := fun X n hX => by
   induction n with
   | zero => rfl
   | succ n ih => simp only [z4H]; rw [if_neg fun e => hX n e.1, ih]
 ·exact (key _ _ h0).symm
 ·exact (key _ _ fun _ h => h).symm
end
end Go.Sx
