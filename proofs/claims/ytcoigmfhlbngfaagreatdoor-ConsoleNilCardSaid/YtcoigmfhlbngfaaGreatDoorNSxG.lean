/-
  Rules by which simp carries the executor out where values are variables; code piece by piece.
-/
import Derived.Test.YtcoigmfhlbngfaaGreatDoorNSxF
set_option linter.unusedSimpArgs false
set_option linter.unusedVariables false
namespace Go.Sx
section
variable {G : Tab} {F : Fns}
theorem T.get_set_eq {α : Type} (t : T α) (k : Nat) (a : Option α) : (t.set k a).get k = a := by rw [T.get_set, if_pos rfl]
theorem T.get_set_ne {α : Type} (t : T α) {k j : Nat} (h : j ≠ k) (a : Option α) : (t.set k a).get j = t.get j := by rw [T.get_set, if_neg h]
theorem q3v : z0p .skip = cSkip := rfl
theorem q5b (a b : Code) : z0p (.seq a b) = cSeq (z0p a) (z0p b) := rfl
theorem q0b (i : Nat) (ops : Array Oper) (d : Bool) : z0p (.region i ops d) = z2C i ops d := rfl
theorem q3w (x : Operand) (a b : Code) : z0p (.cond x a b) = cCond x (z0p a) (z0p b) := rfl
theorem q1Q (i : Nat) (b : Code) : z0p (.block i b) = q6t i (z0p b) := rfl
theorem q3x (b : Code) : z0p (.loop b) = j2W b (z0p b) := rfl
theorem q3y (i : Nat) : z0p (.exit i) = cExit i := rfl
theorem q5c : z0p .ret = cRet := rfl
theorem j3w (i : Nat) (l : List Oper) (c : Ctx) (s : St) : z2C i l.toArray false F G c s = z1u (z0t l F G c l s) := rfl
theorem k3w (a b : CRun) (c : Ctx) (s : St) : cSeq a b F G c s = z1B (a F G c s) (z3o (b F G c)) := rfl
theorem z7m {α β : Type} (a : α) (f : α → Option (List β)) : z1B (some [a]) f = f a := rfl
theorem j0E (s : St) : z1u (some [s]) = some [(.normal, s)] := rfl
theorem z9t (k : St → Outs) (s : St) : z3o k (.normal, s) = k s := rfl
theorem q3z (k : St → Outs) (s : St) : z3o k (.ret, s) = some [(.ret, s)] := rfl
theorem q1R (k : St → Outs) (i : Nat) (s : St) : z3o k (.exit i, s) = some [(.exit i, s)] := rfl
theorem j0F (c : Ctx) (all : List Oper) (s : St) : z0t [] F G c all s = some [s] := rfl
theorem z5B (o : Oper) (l : List Oper) (c : Ctx) (all : List Oper) (s : St) : z0t (o :: l) F G c all s = z3A o (z0t l) F G c all s := rfl
theorem q5d {α β : Type} (a : α) (f : α → Option β) : z0b (some a) f = f a := rfl
theorem j0G (v : AV) : z3N (some v) = some v := rfl
theorem j7t (H : Heap) (v : AV) : z0N H (some v) = some (v, H) := rfl
theorem z1p {β : Type} (c : Ctx) (tm : T AV) (d : Tmp) (v : AV) (k : T AV → Option β) : z0J c tm (some d) v k = if d < c.size then k (tm.set d (some v)) else none := by
 unfold z0J
 by_cases h : d < c.size
 ·rw [if_pos h]
  have : Nat.blt d c.size = true := by simpa [Nat.blt_eq] using h
  simp only [this, cond_true, z2b, T.setK_eq]
 ·rw [if_neg h]
  have : Nat.blt d c.size = false := by
   cases hb : Nat.blt d c.size
   ·rfl
   ·exact absurd (z1r hb) h
  simp only [this, cond_false]
theorem k1B {β : Type} (c : Ctx) (tm : T AV) (v : AV) (k : T AV → Option β) : z0J c tm none v k = k tm := rfl
theorem j0H (tm : T AV) (t : Tmp) : aev G tm (.tmp t) = z3N (tm.get t) := rfl
theorem q5e (tm : T AV) (v : Value) : aev G tm (.const v) = ofValue v := rfl
theorem j7u (all : List Oper) (j : Nat) : q4q all j = z0b (all[j]?) fun g => g.dst := by unfold q4q; rw [z2A]
theorem q5f : z5O true (some (.bool true)) = true := rfl
theorem q5g : z5O true (some (.bool false)) = false := rfl
theorem q5h : z5O false (some (.bool true)) = false := rfl
theorem q5i : z5O false (some (.bool false)) = true := rfl
theorem w2c (n : Nat) (c : Ctx) (x : Code) (s : St) : (fns G (n + 1)).code c x s = z0p x (fns G n) G c s := rfl
theorem w2d (n : Nat) (f : FuncId) (args : List AV) (H : Heap) : (fns G (n + 1)).call f args H = z0b (G.funcs.get f) (callFn (fns G n) G args H) := rfl
theorem j3x (b : Nat) (p : VH) : z7C b (some [p]) = some [p] := rfl
theorem q1S (rs : List ResultVar) (tm : T AV) (H : Heap) : z2D F G rs (.ret, ⟨tm, H, []⟩) = resOut G tm rs H := rfl
theorem z7W (rs : List ResultVar) (tm : T AV) (H : Heap) : z2D F G rs (.normal, ⟨tm, H, []⟩) = resOut G tm rs H := rfl
theorem q1T (tm : T AV) (H : Heap) : z0C G tm H [] = some [] := rfl
theorem q0c (tm : T AV) (H : Heap) (r : ResultVar) (l : List ResultVar) : z0C G tm H (r :: l) = z2k (resultA G tm H r) (z0C G tm H l) := rfl
theorem j3y {α : Type} (a : α) (l : List α) : z2k (some a) (some l) = some (a :: l) := rfl
theorem j7v (v : AV) : z2a [v] = v := rfl
theorem j3z (v u : AV) (l : List AV) : z2a (v :: u :: l) = .tuple (v :: u :: l) := rfl
theorem w2n (c : Ctx) (all : List Oper) (s : St) (d : Option Tmp) (op : Op) (t : TypeId) (p : String) (a : Array Edge) (ih : Run) :
  z3A ⟨d, op, t, p, a, none⟩ ih F G c all s = z2B (kindOf op) ⟨d, op, t, p, a, none⟩ ih F G c all s := rfl
theorem w2e (c : Ctx) (all : List Oper) (s : St) (d : Option Tmp) (op : Op) (t : TypeId) (p : String) (a : Array Edge) (j : Nat) (w : Bool) (ih : Run) :
  z3A ⟨d, op, t, p, a, some (j, w)⟩ ih F G c all s =
   bif guardA all s.tm j w then z2B (kindOf op) ⟨d, op, t, p, a, some (j, w)⟩ ih F G c all s else z0J c s.tm d z0A fun tm => ih F G c all ⟨tm, s.h, s.df⟩ := rfl
theorem j7w (o : Oper) (ih : Run) (c : Ctx) (all : List Oper) (s : St) :
  z2B .pure o ih F G c all s = z0b (opN o.op G s.tm s.h) fun p => z0J c s.tm o.dst p.1 fun tm => ih F G c all ⟨tm, p.2, s.df⟩ := rfl
theorem j7x (o : Oper) (ih : Run) (c : Ctx) (all : List Oper) (s : St) :
  z2B .read o ih F G c all s = z0b (opN o.op G s.tm s.h) fun p => z0J c s.tm o.dst p.1 fun tm => ih F G c all ⟨tm, p.2, s.df⟩ := rfl
theorem j4R (o : Oper) (ih : Run) (c : Ctx) (all : List Oper) (s : St) :
  z2B .alloc o ih F G c all s = z0b (opN o.op G s.tm s.h) fun p => z0J c s.tm o.dst p.1 fun tm => ih F G c all ⟨tm, p.2, s.df⟩ := rfl
theorem j8J (o : Oper) (ih : Run) (c : Ctx) (all : List Oper) (s : St) :
  z2B .eff o ih F G c all s = z1B (opE o.op F G c s.tm s.df s.h) fun p => z0J c s.tm o.dst p.1 fun tm => ih F G c all ⟨tm, p.2.2, p.2.1⟩ := rfl
theorem z1L {β : Type} (H : Heap) (e : TypeId) (x : Bool) (l : List AV) (k : Nat → Heap → Option β) : z2q H e x l k = bif z0V l then k H.next (H.push (.cells e x l)) else none := by
 unfold z2q; rw [z1n, z1Y]
theorem q3A : z0V [] = true := rfl
theorem q1U (v : AV) (l : List AV) : z0V (v :: l) = bif z0F v then z0V l else false := rfl
theorem z1e (H : Heap) (o : ABlk) : (H.push o).next = H.next + 1 := rfl
theorem z0L (H : Heap) (o : ABlk) : (H.push o).blks.get H.next = some o := by rw [Heap.get_push]; simp
theorem z0Q (H : Heap) (o : ABlk) {b : Nat} (h : b ≠ H.next) : (H.push o).blks.get b = H.blks.get b := by rw [Heap.get_push, if_neg h]
theorem j9Y (H : Heap) (b off : Nat) : j2S H b off = cellIn (H.blks.get b) off := rfl
theorem j3A (e : TypeId) (x : Bool) (l : List AV) (off : Nat) : cellIn (some (.cells e x l)) off = l[off]? := z2A l off
theorem z9u (H : Heap) (b off k : Nat) : z0o H b off k = bif Nat.beq k 0 then some [] else z2o (H.blks.get b) off k := rfl
theorem j9Z (e : TypeId) (x : Bool) (l : List AV) (off k : Nat) : z2o (some (.cells e x l)) off k = if k ≤ (l.drop off).length then some ((l.drop off).take k) else none := by
 show z4J (z6S l off) k = _; rw [z2t, z1O]
theorem j8K {t : TypeId} (h : G.isAgg t = some true) {z : Nat} (hz : G.size t = some z) (cs : List AV) (off : Nat) : z3l G t cs off = aggO (if z ≤ (cs.drop off).length then some ((cs.drop off).take z) else none) := by
 unfold z3l; rw [h]; simp only [hz, z0b]; rw [z2t, z1O]
theorem j7y {t : TypeId} (h : G.isAgg t = some false) (cs : List AV) (off : Nat) : z3l G t cs off = cs[off]? := by
 unfold z3l; rw [h]; simp only []; rw [z2A]
theorem k0a {t : TypeId} (h : G.isAgg t = some true) {z : Nat} (hz : G.size t = some z) (H : Heap) (b off : Nat) : z2p G H t b off = aggO (z0o H b off z) := by
 unfold z2p; rw [h]; simp only [hz, z0b]
theorem z4k {t : TypeId} (h : G.isAgg t = some false) (H : Heap) (b off : Nat) : z2p G H t b off = j2S H b off := by
 unfold z2p; rw [h]
theorem k0b (l : List AV) : aggO (some l) = some (.agg l) := rfl
theorem q7V (tm : T AV) : aevs G tm [] = some [] := rfl
theorem q5j (tm : T AV) (o : Operand) (l : List Operand) : aevs G tm (o :: l) = z2k (aev G tm o) (aevs G tm l) := rfl
theorem j0I (l : List AV) : app [] l = l := rfl
theorem q7W (a : AV) (l m : List AV) : app (a :: l) m = a :: app l m := rfl
theorem k0c (df : List ADefer) (v : AV) (H : Heap) : outs df (some [(v, H)]) = some [(v, df, H)] := rfl
theorem j3B : bnot true = false := rfl
theorem j3C : bnot false = true := rfl
theorem j7z (ov : Ov) (n : Nat) (c : Ctx) (x : Code) (s : St) : (fnsO G ov (n + 1)).code c x s = z0p x (fnsO G ov n) G c s := rfl
theorem q1V (ov : Ov) (n : Nat) (f : FuncId) (args : List AV) (H : Heap) : (fnsO G ov (n + 1)).call f args H = orOv (ov f args H) (q4x (fnsO G ov n) G f args H) := rfl
theorem q1W (f : FuncId) (args : List AV) (H : Heap) : q4x F G f args H = z0b (G.funcs.get f) (callFn F G args H) := rfl
theorem q5k (l : List VH) (d : Option (List VH)) : orOv (some l) d = some l := rfl
theorem q5l (d : Option (List VH)) : orOv none d = d := rfl
theorem q7X (ov : Ov) (f : FuncId) (g : List AV → Heap → Option (List VH)) (args : List AV) (H : Heap) : q7T ov f g f args H = g args H := by unfold q7T; rw [if_pos rfl]
theorem q7Y (ov : Ov) {f f' : FuncId} (h : f' ≠ f) (g : List AV → Heap → Option (List VH)) (args : List AV) (H : Heap) : q7T ov f g f' args H = ov f' args H := by unfold q7T; rw [if_neg h]
theorem j7A (i : Nat) (b : CRun) (c : Ctx) (s : St) : q6t i b F G c s = z1B (b F G c s) (z4x i) := rfl
theorem k0d (x : Code) (b : CRun) (c : Ctx) (s : St) : j2W x b F G c s = z1B (b F G c s) (z3o (F.code c (.loop x))) := rfl
theorem z7X (i : Nat) (s : St) : z4x i (.normal, s) = some [(.normal, s)] := rfl
theorem q1X (i : Nat) (s : St) : z4x i (.ret, s) = some [(.ret, s)] := rfl
theorem q0d (i j : Nat) (s : St) : z4x i (.exit j, s) = if j = i then some [(.normal, s)] else some [(.exit j, s)] := by
 show (bif Nat.beq j i then some [(Ex.normal, s)] else some [(Ex.exit j, s)]) = _
 by_cases h : j = i
 ·rw [if_pos h, z1k h]; rfl
 ·rw [if_neg h, z0E h]; rfl
theorem j4S (a b : Int) : iblt a b = decide (a < b) := z7b a b
theorem j4T (a b : Int) : ibeq a b = decide (a = b) := by rw [z4y]; rfl
theorem k0e (b : Bool) : bnot b = !b := z3p b
theorem k0f {x : Int} (h : -9223372036854775808 ≤ x) (h' : x ≤ 9223372036854775807) : z6k .i64 x = x := by
 rw [z4z]; exact IntWalk.i64_in x ⟨by omega, by omega⟩
theorem k3x (k : IntKind) (x : Int) (n : Nat) : inB (.int k x) n = if 0 ≤ x ∧ x < (n : Int) then some x.toNat else none := by
 cases x with
 | ofNat m =>
  show (bif Nat.blt m n then some m else none) = _
  by_cases h : m < n
  ·rw [if_pos ⟨Int.natCast_nonneg m, by simp; exact h⟩]
   have : Nat.blt m n = true := by simpa [Nat.blt_eq] using h
   rw [this]; rfl
  ·rw [if_neg (by simp; omega)]
   have : Nat.blt m n = false := by
    cases hb : Nat.blt m n
    ·rfl
    ·exact absurd (z1r hb) h
   rw [this]; rfl
 | negSucc m => rw [if_neg (by omega)]; rfl
theorem z5h {t e : TypeId} (hu : G.und t = some (.slice e)) {z : Nat} (hz : G.size e = some z) (b off n : Nat) (q : Bool) (c : Nat) (k : IntKind) (x : Int) :
  z1M G t (.slice b off n q c) (.int k x) = if 0 ≤ x ∧ x < (n : Int) then some (.ptr b (off + x.toNat * z)) else none := by
 unfold z1M
 rw [hu]
 show z0b (inB (.int k x) n) (fun m => z0b (G.size e) fun z => some (AV.ptr b (off + m * z))) = _
 rw [k3x]
 by_cases h : 0 ≤ x ∧ x < (n : Int)
 ·rw [if_pos h, if_pos h]; simp only [z0b, hz]
 ·rw [if_neg h, if_neg h]; rfl
theorem z5C {t e : TypeId} (hu : G.und t = some (.slice e)) (H : Heap) (b off n : Nat) (q : Bool) (c : Nat) : lenA G H t (.slice b off n q c) = some (.int .i64 (n : Int)) := by
 unfold lenA; rw [hu]; rfl
theorem q1Y {t e : TypeId} (hu : G.und t = some (.slice e)) (H : Heap) : lenA G H t .nilslice = some (.int .i64 0) := by
 unfold lenA; rw [hu]; rfl
theorem q6O {t : TypeId} (hu : G.und t = some .string) (H : Heap) (s : List UInt8) : lenA G H t (.str s) = some (.int .i64 (s.length : Int)) := by
 unfold lenA; rw [hu]
 show some (natV (len s)) = _
 rw [z0S]; rfl
noncomputable def q1Z (r : Option VH) (d : Option Tmp) (l : List Oper) (F : Fns) (G : Tab) (c : Ctx) (all : List Oper) (s : St) : Option (List St) :=
 z0b r fun p => z0J c s.tm d p.1 fun tm => z0t l F G c all ⟨tm, p.2, s.df⟩
noncomputable def q7Z (r : Option (List EOut)) (d : Option Tmp) (l : List Oper) (F : Fns) (G : Tab) (c : Ctx) (all : List Oper) (s : St) : Option (List St) :=
 z1B r fun p => z0J c s.tm d p.1 fun tm => z0t l F G c all ⟨tm, p.2.2, p.2.1⟩
noncomputable def q5m (k : Kind) (op : Op) (d : Option Tmp) (l : List Oper) (F : Fns) (G : Tab) (c : Ctx) (all : List Oper) (s : St) : Option (List St) :=
 match k with
 | .eff => q7Z (opE op F G c s.tm s.df s.h) d l F G c all s
 | _ => q1Z (opN op G s.tm s.h) d l F G c all s
noncomputable def stepG (b : Bool) (op : Op) (d : Option Tmp) (l : List Oper) (F : Fns) (G : Tab) (c : Ctx) (all : List Oper) (s : St) : Option (List St) :=
 bif b then q5m (kindOf op) op d l F G c all s else z0J c s.tm d z0A fun tm => z0t l F G c all ⟨tm, s.h, s.df⟩
theorem j7B (o : Option Tmp) (op : Op) (t : TypeId) (p : String) (a : Array Edge) (l : List Oper) (c : Ctx) (all : List Oper) (s : St) :
  z0t (⟨o, op, t, p, a, none⟩ :: l) F G c all s = q5m (kindOf op) op o l F G c all s := by
 show z2B (kindOf op) ⟨o, op, t, p, a, none⟩ (z0t l) F G c all s = _
 cases kindOf op <;> rfl
theorem k0g (o : Option Tmp) (op : Op) (t : TypeId) (p : String) (a : Array Edge) (j : Nat) (w : Bool) (l : List Oper) (c : Ctx) (all : List Oper) (s : St) :
  z0t (⟨o, op, t, p, a, some (j, w)⟩ :: l) F G c all s = stepG (guardA all s.tm j w) op o l F G c all s := by
 show (bif guardA all s.tm j w then z2B (kindOf op) ⟨o, op, t, p, a, some (j, w)⟩ (z0t l) F G c all s else z0J c s.tm o z0A fun tm => z0t l F G c all ⟨tm, s.h, s.df⟩) = _
 unfold stepG
 cases guardA all s.tm j w
 ·rfl
 ·cases kindOf op <;> rfl
theorem j3D (op : Op) (d : Option Tmp) (l : List Oper) (c : Ctx) (all : List Oper) (s : St) : stepG true op d l F G c all s = q5m (kindOf op) op d l F G c all s := rfl
theorem j0J (op : Op) (d : Tmp) (l : List Oper) (c : Ctx) (all : List Oper) (s : St) (h : d < c.size) : stepG false op (some d) l F G c all s = z0t l F G c all ⟨s.tm.set d (some z0A), s.h, s.df⟩ := by
 show z0J c s.tm (some d) z0A _ = _
 rw [z1p, if_pos h]
theorem q8a (op : Op) (l : List Oper) (c : Ctx) (all : List Oper) (s : St) : stepG false op none l F G c all s = z0t l F G c all s := rfl
theorem j3E (op : Op) (d : Option Tmp) (l : List Oper) (c : Ctx) (all : List Oper) (s : St) : q5m .pure op d l F G c all s = q1Z (opN op G s.tm s.h) d l F G c all s := rfl
theorem j3F (op : Op) (d : Option Tmp) (l : List Oper) (c : Ctx) (all : List Oper) (s : St) : q5m .read op d l F G c all s = q1Z (opN op G s.tm s.h) d l F G c all s := rfl
theorem j0K (op : Op) (d : Option Tmp) (l : List Oper) (c : Ctx) (all : List Oper) (s : St) : q5m .alloc op d l F G c all s = q1Z (opN op G s.tm s.h) d l F G c all s := rfl
theorem j7C (op : Op) (d : Option Tmp) (l : List Oper) (c : Ctx) (all : List Oper) (s : St) : q5m .eff op d l F G c all s = q7Z (opE op F G c s.tm s.df s.h) d l F G c all s := rfl
theorem z_N (v : AV) (H : Heap) (d : Tmp) (l : List Oper) (c : Ctx) (all : List Oper) (s : St) (h : d < c.size) : q1Z (some (v, H)) (some d) l F G c all s = z0t l F G c all ⟨s.tm.set d (some v), H, s.df⟩ := by
 show z0J c s.tm (some d) v _ = _
 rw [z1p, if_pos h]
theorem z_N0 (v : AV) (H : Heap) (l : List Oper) (c : Ctx) (all : List Oper) (s : St) : q1Z (some (v, H)) none l F G c all s = z0t l F G c all ⟨s.tm, H, s.df⟩ := rfl
theorem z_E (v : AV) (df : List ADefer) (H : Heap) (d : Tmp) (l : List Oper) (c : Ctx) (all : List Oper) (s : St) (h : d < c.size) :
  q7Z (some [(v, df, H)]) (some d) l F G c all s = z0t l F G c all ⟨s.tm.set d (some v), H, df⟩ := by
 show z0J c s.tm (some d) v _ = _
 rw [z1p, if_pos h]
theorem z_E0 (v : AV) (df : List ADefer) (H : Heap) (l : List Oper) (c : Ctx) (all : List Oper) (s : St) : q7Z (some [(v, df, H)]) none l F G c all s = z0t l F G c all ⟨s.tm, H, df⟩ := rfl
noncomputable def binR (G : Tab) (op : BinOp) (t : TypeId) (k : Bool) (a b : Option AV) : Option AV := z0b a fun a => z0b b fun b => binA G op t k a b
theorem j7D (op : BinOp) (t : TypeId) (x y : Operand) (u : TypeId) (tm : T AV) (H : Heap) : opN (.binOp op t x y u) G tm H = z0N H (binR G op t (orB (z1j x) (z1j y)) (aev G tm x) (aev G tm y)) := rfl
theorem k0h (op : BinOp) (t : TypeId) (k : Bool) (a b : AV) : binR G op t k (some a) (some b) = binA G op t k a b := rfl
noncomputable def idxR (G : Tab) (t : TypeId) (a b : Option AV) : Option AV := z0b a fun a => z0b b fun b => z1M G t a b
theorem j7E (t : TypeId) (x y : Operand) (tm : T AV) (H : Heap) : opN (.indexAddr t x y) G tm H = z0N H (idxR G t (aev G tm x) (aev G tm y)) := rfl
theorem k0i (t : TypeId) (a b : AV) : idxR G t (some a) (some b) = z1M G t a b := rfl
noncomputable def k0j (G : Tab) (H : Heap) (t : TypeId) (ok : Bool) (a b : Option AV) : Option AV := z0b a fun a => z0b b fun b => z8x G H t ok a b
theorem j3G (t : TypeId) (x y : Operand) (ok : Bool) (tm : T AV) (H : Heap) : opN (.lookup t x y ok) G tm H = z0N H (k0j G H t ok (aev G tm x) (aev G tm y)) := rfl
theorem j7F (H : Heap) (t : TypeId) (ok : Bool) (a b : AV) : k0j G H t ok (some a) (some b) = z8x G H t ok a b := rfl
noncomputable def j4U (G : Tab) (H : Heap) (t : TypeId) (a b : Option AV) : Option Heap := z0b a fun a => z0b b fun b => z2r G H t a b
theorem j0L (t : TypeId) (x y : Operand) (c : Ctx) (tm : T AV) (df : List ADefer) (H : Heap) : opE (.store t x y) F G c tm df H = out1 df (j4U G H t (aev G tm x) (aev G tm y)) := rfl
theorem j3H (H : Heap) (t : TypeId) (a b : AV) : j4U G H t (some a) (some b) = z2r G H t a b := rfl
theorem k0k (df : List ADefer) (H : Heap) : out1 df (some H) = some [(z0A, df, H)] := rfl
theorem k0l (df : List ADefer) (v : AV) (H : Heap) : out2 df (some (v, H)) = some [(v, df, H)] := rfl
noncomputable def mapR (G : Tab) (H : Heap) (t : TypeId) (a b x : Option AV) : Option Heap := z0b a fun a => z0b b fun b => z0b x fun x => z3X G H t a b x
theorem j7G (t : TypeId) (x y z : Operand) (c : Ctx) (tm : T AV) (df : List ADefer) (H : Heap) : opE (.mapUpdate t x y z) F G c tm df H = out1 df (mapR G H t (aev G tm x) (aev G tm y) (aev G tm z)) := rfl
theorem k0m (H : Heap) (t : TypeId) (a b x : AV) : mapR G H t (some a) (some b) (some x) = z3X G H t a b x := rfl
noncomputable def mkR (G : Tab) (H : Heap) (t : TypeId) (a b : Option AV) : Option VH := z0b a fun a => z0b b fun b => z0R G H t a b
theorem k0n (t : TypeId) (x y : Operand) (tm : T AV) (H : Heap) : opN (.makeSlice t x y) G tm H = mkR G H t (aev G tm x) (aev G tm y) := rfl
theorem k3y (H : Heap) (t : TypeId) (a b : AV) : mkR G H t (some a) (some b) = z0R G H t a b := rfl
noncomputable def k0o (F : Fns) (G : Tab) (f : Option AV) (args : Option (List AV)) (df : List ADefer) (H : Heap) : Option (List EOut) :=
 z0b args fun args => orX (outs df (z0b f (q0t F args H))) (outs df (z0b f (extV G args H)))
theorem k3z (l : List EOut) (d : Option (List EOut)) : orX (some l) d = some l := rfl
theorem j3I (f : Operand) (as : Array Operand) (ts : Array TypeId) (c : Ctx) (tm : T AV) (df : List ADefer) (H : Heap) :
  opE (.call ⟨.value f, as, ts⟩) F G c tm df H = k0o F G (aev G tm f) (aevs G tm as.toList) df H := rfl
theorem j7H (f : FuncId) (first cap args : List AV) (df : List ADefer) (H : Heap) : k0o F G (some (.func (.func f) first cap)) (some args) df H = orX (outs df (F.call f (app first (app args cap)) H)) (outs df (extV G args H (.func (.func f) first cap))) := rfl
theorem k3A (as : Array Operand) (t : TypeId) (ts : List TypeId) (tm : T AV) (H : Heap) :
  opN (.call ⟨.builtin .len, as, (t :: ts).toArray⟩) G tm H = z0N H (z0b (aevs G tm as.toList) fun xs => fst1 xs (lenA G H t)) := rfl
theorem j3J (x : Operand) (tm : T AV) (H : Heap) : opN (.move x) G tm H = z0N H (aev G tm x) := rfl
theorem q8b (x : Operand) (tm : T AV) (H : Heap) : opN (.assign x) G tm H = z0N H (aev G tm x) := rfl
noncomputable def j3K (c a b : Option AV) : Option AV := z0b c fun v => match v with
 | .bool true => a
 | .bool false => b
 | _ => none
theorem j3L (x a b : Operand) (tm : T AV) (H : Heap) : opN (.pick x a b) G tm H = z0N H (j3K (aev G tm x) (aev G tm a) (aev G tm b)) := by
 show z0N H (z0b (aev G tm x) (q7k G tm a b)) = _
 unfold j3K
 cases aev G tm x with
 | none => rfl
 | some v => cases v <;> rfl
theorem j0M (a b : Option AV) : j3K (some (.bool true)) a b = a := rfl
theorem j0N (a b : Option AV) : j3K (some (.bool false)) a b = b := rfl
theorem k0p (op : UnOp) (t : TypeId) (x : Operand) (tm : T AV) (H : Heap) : opN (.unOp op t x) G tm H = z0N H (z0b (aev G tm x) (unA op)) := rfl
theorem j7I (t : TypeId) (x : Operand) (tm : T AV) (H : Heap) : opN (.box t x) G tm H = z0b (aev G tm x) (boxA H t) := rfl
theorem j0O (t : TypeId) (tm : T AV) (H : Heap) : opN (.alloc t) G tm H = z0b (G.zero t) (boxA H t) := rfl
theorem k0q (t : TypeId) (x : Operand) (f : Nat) (tm : T AV) (H : Heap) : opN (.fieldAddr t x f) G tm H = z0N H (z0b (aev G tm x) (z3e G t f)) := rfl
theorem j0P (t : TypeId) (x : Operand) (f : Nat) (tm : T AV) (H : Heap) : opN (.field t x f) G tm H = z0N H (z0b (aev G tm x) (q6c G t f)) := rfl
theorem j3M (t : TypeId) (x : Operand) (tm : T AV) (H : Heap) : opN (.load t x) G tm H = z0N H (z0b (aev G tm x) (loadPtr G H t)) := rfl
theorem j7J (x : Operand) (tm : T AV) (H : Heap) : opN (.nilCheck x) G tm H = z0N H (z0b (aev G tm x) nilCheckA) := rfl
theorem q5n (x : Operand) (i : Nat) (tm : T AV) (H : Heap) : opN (.extract x i) G tm H = z0N H (z0b (aev G tm x) (extractA i)) := rfl
theorem j0Q (t : TypeId) (ps : List (Nat × Operand)) (tm : T AV) (H : Heap) : opN (.build t ps.toArray) G tm H = z0N H (z0b (z2e G tm ps) (q6j G t)) := rfl
theorem k0r (t : TypeId) (n : Nat) (ps : List (Nat × Operand)) (tm : T AV) (H : Heap) : opN (.buildSlice t n ps.toArray) G tm H = z0b (z2e G tm ps) (z1t G H t n) := rfl
theorem k0s (t : TypeId) (tm : T AV) (H : Heap) : opN (.makeMap t none) G tm H = some (.map H.next, H.push (.map [] 0)) := by
 show z2y H = _
 unfold z2y
 rw [z1Y]
theorem q2a (tm : T AV) : z2e G tm [] = some [] := rfl
theorem q0e (tm : T AV) (i : Nat) (o : Operand) (l : List (Nat × Operand)) : z2e G tm ((i, o) :: l) = z2k (q7j i (aev G tm o)) (z2e G tm l) := rfl
theorem j7K (i : Nat) (v : AV) : q7j i (some v) = some (i, v) := rfl
theorem q8c (tm : T AV) (f : FuncId) : aev G tm (.func f) = some (.func (.func f) [] []) := rfl
theorem j8L (tm : T AV) (g : Nat) (h : Nat.blt g G.nglob = true) : aev G tm (.global g) = some (.ptr g 0) := by
 show (bif Nat.blt g G.nglob then some (AV.ptr g 0) else none) = _
 rw [h]; rfl
theorem j0R (e : TypeId) (n : Nat) (z : List AV) (off : Nat) : cellIn (some (.big e n z)) off = if off < n then z[off % z.length]? else none := by
 show (bif Nat.blt off n then nth z (off % len z) else none) = _
 rw [z2A, z0S]
 by_cases h : off < n
 ·rw [if_pos h]
  have : Nat.blt off n = true := by simpa [Nat.blt_eq] using h
  rw [this]; rfl
 ·rw [if_neg h]
  have : Nat.blt off n = false := by
   cases hb : Nat.blt off n
   ·rfl
   ·exact absurd (z1r hb) h
  rw [this]; rfl
structure Grows (H H' : Heap) : Prop where
 next : H.next ≤ H'.next
 get : ∀ b, b < H.next → H'.blks.get b = H.blks.get b
theorem Grows.refl (H : Heap) : Grows H H := ⟨Nat.le_refl _, fun _ _ => rfl⟩
theorem Grows.trans {a b c : Heap} (h : Grows a b) (h' : Grows b c) : Grows a c :=
 ⟨Nat.le_trans h.next h'.next, fun x hx => by rw [h'.get x (Nat.lt_of_lt_of_le hx h.next), h.get x hx]⟩
theorem Grows.push (H : Heap) (o : ABlk) : Grows H (H.push o) := ⟨Nat.le_succ _, fun b hb => z0Q H o (Nat.ne_of_lt hb)⟩
def Neat (H : Heap) : Prop := ∀ b o, H.blks.get b = some o → b < H.next
theorem Neat.push {H : Heap} (h : Neat H) (o : ABlk) : Neat (H.push o) := fun b o' hb => by
 rw [Heap.get_push] at hb
 split at hb
 ·rename_i e; rw [e]; exact Nat.lt_succ_self _
 ·exact Nat.lt_succ_of_lt (h b o' hb)
theorem Neat.put {H : Heap} (h : Neat H) {b : Nat} (hb : b < H.next) (o : Option ABlk) : Neat (z0y H b o) := fun x o' hx => by
 rw [Heap.get_put] at hx
 rw [Heap.next_put]
 split at hx
 ·rename_i e; rw [e]; exact hb
 ·exact h x o' hx
theorem j7L {P : Program} (TT : TabOk P G) {ov : Ov} (ho : OvOk P G ov) {n : Nat} {f : FuncId} {args : List AV} {H H' : Heap} {v : AV} (h : (fnsO G ov n).call f args H = some [(v, H')]) (hg : Grows H H') (hn : Neat H)
  (hv : ltV H.next v) : CallTo P G f args H [(v, H)] :=
 (q7U TT ho h).cut fun p hp => by
  simp only [List.mem_singleton] at hp; subst hp
  exact ⟨(v, H), List.mem_singleton.2 rfl, .pure hg.next hg.get hn hv⟩
end
end Go.Sx
namespace Go.Sx
section
variable {G : Tab} {F : Fns}
theorem AV.beq_refl' (v : AV) : AV.beq v v = true := by
 have hn : ∀ n : Nat, Nat.beq n n = true := fun n => Nat.beq_refl n
 have hb : ∀ b : Bool, bbeq b b = true := fun b => by cases b <;> rfl
 exact AV.rec (motive_1 := fun v => AV.beq v v = true) (motive_2 := fun l => AV.beqL l l = true)
  (fun b => by simp only [AV.beq]; exact hb b) (fun k n => by simp only [AV.beq, if_true, z4y, beq_self_eq_true]) (fun s => by simp only [AV.beq, z7a, beq_self_eq_true])
  (fun b o => by simp only [AV.beq, hn, cond_true]) (by simp only [AV.beq]) (fun b o l q c => by simp only [AV.beq, hn, hb, cond_true]) (by simp only [AV.beq]) (fun b o s c => by simp only [AV.beq, hn, cond_true, if_true]) (fun b o p c => by simp only [AV.beq, hn, cond_true]) (fun r => by simp only [AV.beq, hn])
  (by simp only [AV.beq]) (fun f x y hx hy => by simp only [AV.beq, if_true, hx, hy, cond_true]) (fun l => by simp only [AV.beq, hn]) (by simp only [AV.beq]) (fun t v h => by simp only [AV.beq, hn, h, cond_true])
  (by simp only [AV.beq]) (fun l h => by simp only [AV.beq, h]) (fun l h => by simp only [AV.beq, h]) (by simp only [AV.beqL]) (fun a l ha hl => by simp only [AV.beqL, ha, hl, cond_true]) v
noncomputable def z0d (l : List RO) (done : Nat) : Nat := List.rec (fun m => m) (fun r _ ih m => ih (Nat.lor m (Nat.pow 2 r.i))) l done
noncomputable def z1b (l : List RO) (done : Nat) : Bool := List.rec (fun _ => true) (fun r _ ih m => bif ready r m then (bif z0I r.kind then false else ih (Nat.lor m (Nat.pow 2 r.i))) else false) l done
noncomputable def z1F (m : Nat) (l : List RO) : Bool := List.rec true (fun r _ ih => bif Nat.testBit m r.i then ih else false) l
theorem z1x {α β γ : Type} (o : Option α) (f : α → Option β) (g : β → Option γ) : z0b (z0b o f) g = z0b o fun a => z0b (f a) g := by cases o <;> rfl
theorem z5i {α β : Type} (b : Bool) (x y : Option α) (f : α → Option β) : z0b (bif b then x else y) f = bif b then z0b x f else z0b y f := by cases b <;> rfl
theorem z3k {α β : Type} (c : Ctx) (tm : T AV) (d : Option Tmp) (v : AV) (k : T AV → Option α) (f : α → Option β) : z0b (z0J c tm d v k) f = z0J c tm d v fun tm => z0b (k tm) f := by
 cases d with
 | none => rfl
 | some d => rw [z1p, z1p]; by_cases h : d < c.size <;> simp [h] <;> rfl
noncomputable def z2V (G : Tab) (c : Ctx) (all : List Oper) (r : RO) (d : DS) : Option DS :=
 bif z0s all r.o.guard d.s.tm then (z0b (opN r.o.op G d.s.tm d.s.h) fun p => z0J c d.s.tm r.o.dst p.1 fun tm => some ⟨Nat.lor d.done (Nat.pow 2 r.i), ⟨tm, p.2, d.s.df⟩, z2z r d.s.tm p.1 d.kept⟩)
 else z0J c d.s.tm r.o.dst z0A fun tm => some ⟨Nat.lor d.done (Nat.pow 2 r.i), ⟨tm, d.s.h, d.s.df⟩, d.kept⟩
noncomputable def runA (G : Tab) (c : Ctx) (all : List Oper) (l : List RO) (d : DS) : Option DS := List.rec (fun d => some d) (fun r _ ih d => z0b (z2V G c all r d) ih) l d
theorem z3v (c : Ctx) (all : List Oper) (r : RO) (l : List RO) (d : DS) : runA G c all (r :: l) d = z0b (z2V G c all r d) (runA G c all l) := rfl
theorem j3N {α β : Type} {o : Option α} {f : α → Option β} {b : β} (h : z0b o f = some b) : ∃ a, o = some a ∧ f a = some b := z0a h
theorem z5D {c : Ctx} {all : List Oper} {r : RO} {d d' : DS} (h : z2V G c all r d = some d') : d'.done = Nat.lor d.done (Nat.pow 2 r.i) := by
 unfold z2V at h
 cases hw : z0s all r.o.guard d.s.tm
 ·rw [hw, cond_false] at h
  obtain ⟨_, h⟩ := z0m h
  simp only [Option.some.injEq] at h; subst h; rfl
 ·rw [hw, cond_true] at h
  obtain ⟨p, _, h⟩ := z0a h
  obtain ⟨_, h⟩ := z0m h
  simp only [Option.some.injEq] at h; subst h; rfl
theorem z2c {c : Ctx} {all : List Oper} : ∀ {l : List RO} {d d' : DS}, runA G c all l d = some d' → d'.done = z0d l d.done
 | [], d, d', h => by have h : some d = some d' := h; simp only [Option.some.injEq] at h; subst h; rfl
 | r :: l, d, d', h => by
  obtain ⟨e, h1, h2⟩ := z0a h
  rw [z2c h2, z5D h1]; rfl
theorem z7n {c : Ctx} {r : RO} {d : DS} {k : DK} : z8K G c r d k = z0b (z0b (opN r.o.op G d.s.tm d.s.h) fun p => z0J c d.s.tm r.o.dst p.1 fun tm => some ⟨Nat.lor d.done (Nat.pow 2 r.i), ⟨tm, p.2, d.s.df⟩, z2z r d.s.tm p.1 d.kept⟩) k := by
 unfold z8K
 rw [z1x]
 congr 1; funext p
 rw [z3k]
 congr 1; funext tm
 rw [z0h]; rfl
theorem z5j {c : Ctx} {r : RO} {d : DS} {k : DK} : z4T c r d k = z0b (z0J c d.s.tm r.o.dst z0A fun tm => some ⟨Nat.lor d.done (Nat.pow 2 r.i), ⟨tm, d.s.h, d.s.df⟩, d.kept⟩) k := by
 unfold z4T
 rw [z3k]
 congr 1; funext tm
 rw [z0h]; rfl
theorem z2J {c : Ctx} {all : List Oper} {R : List RO} {k : DK} : ∀ {A : List RO} {d : DS}, z1b A d.done = true → z0O G c all (A ++ R) k d = z0b (runA G c all A d) (z0O G c all R k)
 | [], d, _ => rfl
 | r :: A, d, h => by
  have h : (bif ready r d.done then (bif z0I r.kind then false else z1b A (Nat.lor d.done (Nat.pow 2 r.i))) else false) = true := h
  cases hr : ready r d.done
  ·rw [hr] at h; simp at h
  ·cases ha : z0I r.kind
   ·rw [hr, ha] at h
    simp only [cond_true, cond_false] at h
    show (bif ready r d.done then (bif z0s all r.o.guard d.s.tm then z8K G c r d (z0O G c all (A ++ R) k) else z4T c r d (z0O G c all (A ++ R) k)) else z0O G c all (A ++ R) k d) = _
    rw [hr, cond_true, z3v, z1x]
    have key : ∀ {o : Option DS}, (∀ e, o = some e → e.done = Nat.lor d.done (Nat.pow 2 r.i)) → z0b o (z0O G c all (A ++ R) k) = z0b o fun a => z0b (runA G c all A a) (z0O G c all R k) := by
     intro o ho
     cases o with
     | none => rfl
     | some e => exact z2J (by rw [ho e rfl]; exact h)
    have hd : ∀ e, z2V G c all r d = some e → e.done = Nat.lor d.done (Nat.pow 2 r.i) := fun e he => z5D he
    rw [← key hd]
    unfold z2V
    rw [z5i, z7n, z5j]
   ·rw [hr, ha] at h; simp at h
theorem z5E {c : Ctx} {all : List Oper} {k : DK} : ∀ {R : List RO} {d : DS}, z0e d.done R = true → z0O G c all R k d = k d
 | [], _, _ => rfl
 | r :: R, d, h => by
  have h : (bif ready r d.done then false else z0e d.done R) = true := h
  cases hr : ready r d.done
  ·rw [hr, cond_false] at h
   show (bif ready r d.done then _ else z0O G c all R k d) = _
   rw [hr, cond_false]; exact z5E h
  ·rw [hr] at h; simp at h
def z1f (l : List RO) : Prop := ∀ r ∈ l, r.kind = kindOf r.o.op
theorem z9v {c : Ctx} {all : List Oper} {r : RO} {d : DS} {rest : List Oper} (hk : r.kind = kindOf r.o.op) (he : z0K r.kind = false) :
  z0t (r.o :: rest) F G c all d.s = z0b (z2V G c all r d) fun d' => z0t rest F G c all d'.s := by
 rw [z5B]
 unfold z3A z2V
 rw [z5i]
 congr 1
 ·have : z2B (kindOf r.o.op) = runN := by
   rw [← hk]
   cases h : r.kind
   all_goals first | rfl | (rw [h] at he; simp [z0K] at he)
  rw [this]
  unfold runN
  rw [z1x]
  congr 1; funext p
  rw [z3k]; rfl
 ·unfold z4S
  rw [z3k]; rfl
theorem z2K {r : RO} {A : List RO} {m : Nat} (h : z1b (r :: A) m = true) : ready r m = true ∧ z0I r.kind = false ∧ z1b A (Nat.lor m (Nat.pow 2 r.i)) = true := by
 have h : (bif ready r m then (bif z0I r.kind then false else z1b A (Nat.lor m (Nat.pow 2 r.i))) else false) = true := h
 cases hr : ready r m
 ·rw [hr] at h; simp at h
 ·cases ha : z0I r.kind
  ·rw [hr, ha] at h; exact ⟨rfl, rfl, h⟩
  ·rw [hr, ha] at h; simp at h
theorem z5k {r : RO} {m : Nat} (h : ready r m = true) : z0K r.kind = false := by
 unfold ready at h
 cases he : z0K r.kind
 ·rfl
 ·rw [he] at h; simp at h
theorem z2i {c : Ctx} {all : List Oper} {rest : List Oper} : ∀ {A : List RO} {d : DS} {m : Nat}, z1f A → z1b A m = true → z0t (A.map (·.o) ++ rest) F G c all d.s = z0b (runA G c all A d) fun d' => z0t rest F G c all d'.s
 | [], _, _, _, _ => rfl
 | r :: A, d, m, hk, h => by
  obtain ⟨h1, h2, h3⟩ := z2K h
  rw [List.map_cons, List.cons_append, z9v (hk r List.mem_cons_self) (z5k h1), z3v, z1x]
  congr 1; funext e
  exact z2i (fun r hr => hk r (List.mem_cons_of_mem _ hr)) h3
def Good (G : Tab) (H : Heap) (k : Kept) : Prop := z0I k.r.kind = false ∧ opN k.r.o.op G k.tm H = some (k.v, H)
theorem z8l {op : Op} (hk : z0I (kindOf op) = false) {tm : T AV} {H : Heap} {p : VH} (h : opN op G tm H = some p) : p.2 = H := by
 cases op
 case makeInterface t x =>
  obtain ⟨d, hd, h⟩ := z0a h
  obtain ⟨hn, h⟩ := z0c h
  exact (z0k (v := p.1) (H' := p.2) h).2
 case makeFunc fn a b =>
  obtain ⟨hp, h⟩ := z0c h
  exact (z0k (v := p.1) (H' := p.2) h).2
 all_goals first
  | exact (z0k (v := p.1) (H' := p.2) h).2
  | (exfalso; simp [kindOf, z0I] at hk; done)
  | (exfalso; have h : (none : Option VH) = some p := h; simp at h)
theorem q8d {c : Ctx} {all : List Oper} {r : RO} {d d' : DS} (hk : r.kind = kindOf r.o.op) (ha : z0I r.kind = false) (h : z2V G c all r d = some d') (hg : ∀ k ∈ d.kept, Good G d.s.h k) :
  d'.s.h = d.s.h ∧ (∀ k ∈ d'.kept, Good G d.s.h k) ∧ ∀ k ∈ d'.kept, k ∈ d.kept ∨ (k.r = r ∧ r.kind ≠ .pure) := by
 unfold z2V at h
 cases hw : z0s all r.o.guard d.s.tm
 ·rw [hw, cond_false] at h
  obtain ⟨_, h⟩ := z0m h
  simp only [Option.some.injEq] at h; subst h; exact ⟨rfl, hg, fun k hk => .inl hk⟩
 ·rw [hw, cond_true] at h
  obtain ⟨p, hp, h⟩ := z0a h
  obtain ⟨_, h⟩ := z0m h
  have e := z8l (by rw [← hk]; exact ha) hp
  simp only [Option.some.injEq] at h; subst h
  refine ⟨e, fun k hkk => ?_, fun k hkk => ?_⟩
  ·unfold z2z at hkk
   split at hkk
   ·exact hg k hkk
   ·rcases List.mem_cons.1 hkk with rfl | hkk
    ·exact ⟨ha, by show opN r.o.op G d.s.tm d.s.h = _; rw [hp, ← e]⟩
    ·exact hg k hkk
  ·unfold z2z at hkk
   split at hkk
   ·exact .inl hkk
   ·rename_i hne
    rcases List.mem_cons.1 hkk with rfl | hkk
    ·exact .inr ⟨rfl, fun e => hne e⟩
    ·exact .inl hkk
theorem z9w {c : Ctx} {all : List Oper} : ∀ {A : List RO} {m : Nat} {d d' : DS}, z1f A → z1b A m = true → runA G c all A d = some d' → (∀ k ∈ d.kept, Good G d.s.h k) →
  d'.s.h = d.s.h ∧ (∀ k ∈ d'.kept, Good G d.s.h k) ∧ ∀ k ∈ d'.kept, k ∈ d.kept ∨ (k.r ∈ A ∧ k.r.kind ≠ .pure)
 | [], _, d, d', _, _, h, hg => by have h : some d = some d' := h; simp only [Option.some.injEq] at h; subst h; exact ⟨rfl, hg, fun k hk => .inl hk⟩
 | r :: A, m, d, d', hk, hc, h, hg => by
  obtain ⟨h1, h2, h3⟩ := z2K hc
  obtain ⟨e, g1, g2⟩ := z0a h
  obtain ⟨a1, a2, a3⟩ := q8d (hk r List.mem_cons_self) h2 g1 hg
  obtain ⟨b1, b2, b3⟩ := z9w (fun r hr => hk r (List.mem_cons_of_mem _ hr)) h3 g2 (fun k hk => by rw [a1]; exact a2 k hk)
  rw [a1] at b1 b2
  refine ⟨b1, b2, fun k hkk => ?_⟩
  rcases b3 k hkk with h | ⟨h, h'⟩
  ·rcases a3 k h with h | ⟨h, h'⟩
   ·exact .inl h
   ·exact .inr ⟨by rw [h]; exact List.mem_cons_self, by rw [h]; exact h'⟩
  ·exact .inr ⟨List.mem_cons_of_mem _ h, h'⟩
theorem j0S {c : Ctx} {all : List Oper} {r : RO} {d d' : DS} (hk : r.kind = kindOf r.o.op) (ha : z0I r.kind = false) (h : z2V G c all r d = some d') :
  d'.s.h = d.s.h ∧ ∀ k ∈ d'.kept, k ∈ d.kept ∨ Good G d.s.h k := by
 unfold z2V at h
 cases hw : z0s all r.o.guard d.s.tm
 ·rw [hw, cond_false] at h
  obtain ⟨_, h⟩ := z0m h
  simp only [Option.some.injEq] at h; subst h; exact ⟨rfl, fun k hk => .inl hk⟩
 ·rw [hw, cond_true] at h
  obtain ⟨p, hp, h⟩ := z0a h
  obtain ⟨_, h⟩ := z0m h
  have e := z8l (by rw [← hk]; exact ha) hp
  simp only [Option.some.injEq] at h; subst h
  refine ⟨e, fun k hkk => ?_⟩
  unfold z2z at hkk
  split at hkk
  ·exact .inl hkk
  ·rcases List.mem_cons.1 hkk with rfl | hkk
   ·exact .inr ⟨ha, by show opN r.o.op G d.s.tm d.s.h = _; rw [hp, ← e]⟩
   ·exact .inl hkk
theorem z4D {c : Ctx} {all : List Oper} : ∀ {A : List RO} {m : Nat} {d d' : DS}, z1f A → z1b A m = true → runA G c all A d = some d' → d'.s.h = d.s.h ∧ ∀ k ∈ d'.kept, k ∈ d.kept ∨ Good G d.s.h k
 | [], _, d, d', _, _, h => by have h : some d = some d' := h; simp only [Option.some.injEq] at h; subst h; exact ⟨rfl, fun k hk => .inl hk⟩
 | r :: A, m, d, d', hk, hc, h => by
  obtain ⟨h1, h2, h3⟩ := z2K hc
  obtain ⟨e, g1, g2⟩ := z0a h
  obtain ⟨a1, a2⟩ := j0S (hk r List.mem_cons_self) h2 g1
  obtain ⟨b1, b2⟩ := z4D (fun r hr => hk r (List.mem_cons_of_mem _ hr)) h3 g2
  rw [a1] at b1 b2
  exact ⟨b1, fun k hkk => (b2 k hkk).elim (a2 k) .inr⟩
theorem z1y {H : Heap} {m : Nat} : ∀ {l : List Kept}, (∀ k ∈ l, Nat.testBit m k.r.i = true ∨ Good G H k) → z6o G H m l = true
 | [], _ => rfl
 | k :: l, h => by
  show (bif (bif Nat.testBit m k.r.i then true else z3O G H k) then z6o G H m l else false) = true
  rw [z1y fun k hk => h k (List.mem_cons_of_mem _ hk)]
  rcases h k List.mem_cons_self with h | ⟨h1, h2⟩
  ·rw [h]; rfl
  ·unfold z3O
   rw [h1, cond_false, h2]
   show (bif (bif Nat.testBit m k.r.i then true else AV.beq k.v k.v) then true else false) = true
   rw [AV.beq_refl']; cases Nat.testBit m k.r.i <;> rfl
theorem z2L : ∀ {l : List Oper} {i : Nat} {acc : T Nat} {rs : List RO}, z2R l i acc = some rs → rs.map (·.o) = l ∧ z1f rs
 | [], _, _, rs, h => by have h : some [] = some rs := h; simp only [Option.some.injEq] at h; subst h; exact ⟨rfl, fun r hr => by simp at hr⟩
 | o :: l, i, acc, rs, h => by
  have h : (z0b (q2M acc i o.after.toList 0) fun m => z0G m fun m => acc.setK i (some m) fun acc' => z0G (i + 1) fun i' => z1D ⟨i, o, m, kindOf o.op⟩ (z2R l i' acc')) = some rs := h
  obtain ⟨m, hm, h⟩ := z0a h
  rw [z0h, T.setK_eq, z0h] at h
  cases hrs : z2R l (i + 1) (acc.set i (some m)) with
  | none => rw [hrs] at h; simp [z1D] at h
  | some rs' =>
   rw [hrs] at h
   simp only [z1D, Option.some.injEq] at h
   subst h
   obtain ⟨h1, h2⟩ := z2L hrs
   refine ⟨by simp [h1], fun r hr => ?_⟩
   rcases List.mem_cons.1 hr with rfl | hr
   ·rfl
   ·exact h2 r hr
noncomputable def z3w (done : Nat) (rs : List RO) : Bool := match z0v done rs with | none => true | some _ => false
theorem z7o {done : Nat} {rs : List RO} (h : z3w done rs = true) : z0v done rs = none := by
 unfold z3w at h
 split at h
 ·assumption
 ·simp at h
theorem q0P {done : Nat} {e : RO} {B : List RO} : ∀ {A : List RO} {m : Nat}, z1b A m = true → z0K e.kind = true → Nat.testBit done e.i = false → z0v done (A ++ e :: B) = some e
 | [], _, _, he, hb => by
  show (bif z0K e.kind then (bif Nat.testBit done e.i then z0v done B else some e) else z0v done B) = some e
  rw [he, hb]; rfl
 | r :: A, m, h, he, hb => by
  obtain ⟨h1, h2, h3⟩ := z2K h
  show (bif z0K r.kind then (bif Nat.testBit done r.i then z0v done (A ++ e :: B) else some r) else z0v done (A ++ e :: B)) = some e
  rw [z5k h1]; exact q0P h3 he hb
theorem j0T {all : List Oper} {rs : List RO} (hp : z2R all 0 .e = some rs) (ho : z3c all rs rs = true) (hc : z1b rs 0 = true) (hn : z0e (z0d rs 0) rs = true) (he : z3w (z0d rs 0) rs = true)
  (c : Ctx) (s : St) : z1E F G c all s = z0t all F G c all s := by
 obtain ⟨h1, h2⟩ := z2L hp
 have e1 : z0t all F G c all s = z0b (runA G c all rs ⟨0, s, []⟩) fun d' => some [d'.s] := by
  have := z2i (G := G) (F := F) (c := c) (all := all) (rest := []) (d := ⟨0, s, []⟩) h2 hc
  rw [h1, List.append_nil] at this
  exact this
 have e2 : z1E F G c all s = z0O G c all rs (z0n F G c all rs (z0u F G c all rs 99) 0) ⟨0, s, []⟩ := by
  unfold z1E z7A
  rw [hp]
  show (bif z3c all rs rs then _ else none) = _
  rw [ho]; rfl
 have e3 := z2J (G := G) (c := c) (all := all) (R := []) (k := z0n F G c all rs (z0u F G c all rs 99) 0) (A := rs) (d := ⟨0, s, []⟩) hc
 rw [List.append_nil] at e3
 rw [e1, e2, e3]
 cases hr : runA G c all rs ⟨0, s, []⟩ with
 | none => rfl
 | some d' =>
  have hd := z2c hr
  have hg := z9w h2 hc hr (fun k hk => by simp at hk)
  show z0n F G c all rs (z0u F G c all rs 99) 0 d' = some [d'.s]
  unfold z0n z2s
  have hd : d'.done = z0d rs 0 := hd
  rw [hd, hn, cond_true, z1y (fun k hk => .inr (by rw [hg.1]; exact hg.2.1 k hk)), cond_true, z7o he]
  rfl
theorem j3O {all : List Oper} {A B : List RO} {e : RO} (hp : z2R all 0 .e = some (A ++ e :: B)) (ho : z3c all (A ++ e :: B) (A ++ e :: B) = true) (hc : z1b A 0 = true) (hee : z0K e.kind = true)
  (h1 : Nat.testBit (z0d A 0) e.i = false) (h2 : z0e (z0d A 0) (e :: B) = true) (h3 : z0e (z0d A 0) (A ++ e :: B) = true) (h4 : sub e.pre (z0d A 0) = true)
  (h5 : z0l e (z0d A 0) (A ++ e :: B) = true) (h6 : z1F e.pre A = true) (h7 : z0e (Nat.lor (z0d A 0) (Nat.pow 2 e.i)) (A ++ [e]) = true) (h8 : z1b B (Nat.lor (z0d A 0) (Nat.pow 2 e.i)) = true)
  (h10 : z0e (z0d B (Nat.lor (z0d A 0) (Nat.pow 2 e.i))) (A ++ e :: B) = true) (h11 : z3w (z0d B (Nat.lor (z0d A 0) (Nat.pow 2 e.i))) (A ++ e :: B) = true)
  (c : Ctx) (s : St) : z1E F G c all s = z0t all F G c all s := by
 obtain ⟨q1, q2⟩ := z2L hp
 have kA : z1f A := fun r hr => q2 r (List.mem_append.2 (.inl hr))
 have kB : z1f B := fun r hr => q2 r (List.mem_append.2 (.inr (List.mem_cons_of_mem _ hr)))
 have e1 : z0t all F G c all s = z0b (runA G c all A ⟨0, s, []⟩) fun d' => z0t (e.o :: B.map (·.o)) F G c all d'.s := by
  have := z2i (G := G) (F := F) (c := c) (all := all) (rest := e.o :: B.map (·.o)) (d := ⟨0, s, []⟩) kA hc
  rw [← this, ← q1]; simp
 have e2 : z1E F G c all s = z0O G c all (A ++ e :: B) (z0n F G c all (A ++ e :: B) (z0u F G c all (A ++ e :: B) 99) 0) ⟨0, s, []⟩ := by
  unfold z1E z7A
  rw [hp]
  show (bif z3c all (A ++ e :: B) (A ++ e :: B) then _ else none) = _
  rw [ho]; rfl
 rw [e1, e2, z2J hc]
 cases hr : runA G c all A ⟨0, s, []⟩ with
 | none => rfl
 | some d =>
  have hd : d.done = z0d A 0 := z2c hr
  obtain ⟨g1, g2, g3⟩ := z9w kA hc hr (fun k hk => by simp at hk)
  show z0O G c all (e :: B) (z0n F G c all (A ++ e :: B) (z0u F G c all (A ++ e :: B) 99) 0) d = z0t (e.o :: B.map (·.o)) F G c all d.s
  rw [z5E (by rw [hd]; exact h2)]
  -- what comes behind the effect
  have tail : ∀ (s' : St), z0u F G c all (A ++ e :: B) 99 e.pre ⟨Nat.lor d.done (Nat.pow 2 e.i), s', d.kept⟩ = z0t (B.map (·.o)) F G c all s' := by
   intro s'
   have t1 := z2J (G := G) (c := c) (all := all) (R := []) (k := z0n F G c all (A ++ e :: B) (z0u F G c all (A ++ e :: B) 98) e.pre) (A := B) (d := ⟨Nat.lor d.done (Nat.pow 2 e.i), s', d.kept⟩) (by rw [hd]; exact h8)
   have t2 := z2i (G := G) (F := F) (c := c) (all := all) (rest := []) (d := ⟨Nat.lor d.done (Nat.pow 2 e.i), s', d.kept⟩) kB h8
   rw [List.append_nil] at t1 t2
   have t3 : z0u F G c all (A ++ e :: B) 99 e.pre ⟨Nat.lor d.done (Nat.pow 2 e.i), s', d.kept⟩ = z0O G c all B (z0n F G c all (A ++ e :: B) (z0u F G c all (A ++ e :: B) 98) e.pre) ⟨Nat.lor d.done (Nat.pow 2 e.i), s', d.kept⟩ := by
    show z0O G c all (A ++ e :: B) _ _ = _
    have : ∀ (X : List RO) (d₀ : DS), z0e d₀.done X = true → ∀ (R : List RO) (k : DK), z0O G c all (X ++ R) k d₀ = z0O G c all R k d₀ := by
     intro X
     induction X with
     | nil => intro _ _ _ _; rfl
     | cons x X ih =>
      intro d₀ h R k
      have h : (bif ready x d₀.done then false else z0e d₀.done X) = true := h
      cases hx : ready x d₀.done
      ·rw [hx, cond_false] at h
       show (bif ready x d₀.done then _ else z0O G c all (X ++ R) k d₀) = _
       rw [hx, cond_false]; exact ih d₀ h R k
      ·rw [hx] at h; simp at h
    have r := this (A ++ [e]) ⟨Nat.lor d.done (Nat.pow 2 e.i), s', d.kept⟩ (by show z0e (Nat.lor d.done _) _ = true; rw [hd]; exact h7) B
    rw [List.append_assoc] at r
    exact r _
   rw [t3, t1]
   refine Eq.trans ?_ t2.symm
   cases hb : runA G c all B ⟨Nat.lor d.done (Nat.pow 2 e.i), s', d.kept⟩ with
   | none => rfl
   | some d' =>
    have hd' : d'.done = z0d B (Nat.lor (z0d A 0) (Nat.pow 2 e.i)) := by rw [z2c hb, hd]
    obtain ⟨n1, n2⟩ := z4D kB h8 hb
    show z0n F G c all (A ++ e :: B) (z0u F G c all (A ++ e :: B) 98) e.pre d' = some [d'.s]
    unfold z0n z2s
    rw [hd', h10, cond_true, z7o h11, z1y]
    ·rfl
    ·intro k hk
     rcases n2 k hk with hk | hk
     case inr => exact .inr (by rw [n1]; exact hk)
     refine .inl ?_
     rcases g3 k hk with h | ⟨h, _⟩
     ·simp at h
     ·have : ∀ {A : List RO}, z1F e.pre A = true → ∀ r ∈ A, Nat.testBit e.pre r.i = true := by
       intro A
       induction A with
       | nil => intro _ r hr; simp at hr
       | cons x A ih =>
        intro h r hr
        have h : (bif Nat.testBit e.pre x.i then z1F e.pre A else false) = true := h
        cases hx : Nat.testBit e.pre x.i
        ·rw [hx] at h; simp at h
        ·rw [hx] at h
         rcases List.mem_cons.1 hr with rfl | hr
         ·exact hx
         ·exact ih h r hr
      exact this h6 _ h
  unfold z0n z2s
  rw [hd, h3, cond_true, z1y (fun k hk => .inr (by rw [g1]; exact g2 k hk)), cond_true, q0P hc hee h1]
  show (bif sub e.pre d.done then (bif z0l e d.done (A ++ e :: B) then z2l F G c all e d (z0u F G c all (A ++ e :: B) 99 e.pre) else none) else none) = _
  rw [hd, h4, h5, cond_true, cond_true]
  rw [z5B]
  unfold z2l z3A
  congr 1
  ·have : z2B (kindOf e.o.op) = runE := by
    rw [← q2 e (List.mem_append.2 (.inr List.mem_cons_self))]
    cases h : e.kind
    all_goals first | rfl | (rw [h] at hee; simp [z0K] at hee)
   rw [this]
   unfold q1p runE
   congr 1; funext p
   congr 1; funext tm
   rw [z0h]; exact tail _
  ·unfold z4w z4S
   congr 1; funext tm
   rw [z0h]; exact tail _
noncomputable def z1q (l : List RO) : List RO × List RO := List.rec ([], []) (fun r l ih => bif z0K r.kind then ([], r :: l) else (r :: ih.1, ih.2)) l
theorem q2b (l : List RO) : (z1q l).1 ++ (z1q l).2 = l := by
 induction l with
 | nil => rfl
 | cons r l ih =>
  show (bif z0K r.kind then (([] : List RO), r :: l) else (r :: (z1q l).1, (z1q l).2)).1 ++ (bif z0K r.kind then ([], r :: l) else (r :: (z1q l).1, (z1q l).2)).2 = r :: l
  cases z0K r.kind
  ·simp [ih]
  ·rfl
noncomputable def andL (l : List Bool) : Bool := List.rec true (fun b _ ih => bif b then ih else false) l
theorem z2Y {l : List Bool} (h : andL l = true) : ∀ b ∈ l, b = true := by
 induction l with
 | nil => intro b hb; simp at hb
 | cons x l ih =>
  intro b hb
  have h : (bif x then andL l else false) = true := h
  cases x
  ·simp at h
  ·rcases List.mem_cons.1 hb with rfl | hb
   ·rfl
   ·exact ih h b hb
noncomputable def k0t (all : List Oper) (rs : List RO) (p : List RO × List RO) : Bool :=
 match p.2 with
 | [] => andL [z3c all rs rs, z1b rs 0, z0e (z0d rs 0) rs, z3w (z0d rs 0) rs]
 | e :: B => andL [z3c all rs rs, z1b p.1 0, z0K e.kind, bnot (Nat.testBit (z0d p.1 0) e.i), z0e (z0d p.1 0) (e :: B), z0e (z0d p.1 0) rs, sub e.pre (z0d p.1 0), z0l e (z0d p.1 0) rs, z1F e.pre p.1,
   z0e (Nat.lor (z0d p.1 0) (Nat.pow 2 e.i)) (p.1 ++ [e]), z1b B (Nat.lor (z0d p.1 0) (Nat.pow 2 e.i)), z0e (z0d B (Nat.lor (z0d p.1 0) (Nat.pow 2 e.i))) rs, z3w (z0d B (Nat.lor (z0d p.1 0) (Nat.pow 2 e.i))) rs]
noncomputable def z7Y (all : List Oper) : Option (List RO) := bif z5K all then none else z2R all 0 .e
theorem z4l {all : List Oper} {rs : List RO} (h : z7Y all = some rs) : z5K all = false ∧ z2R all 0 .e = some rs := by
 unfold z7Y at h
 cases hc : z5K all
 ·rw [hc] at h; exact ⟨rfl, h⟩
 ·rw [hc] at h; simp at h
theorem z6H {all : List Oper} (hc : z5K all = false) (i : Nat) (c : Ctx) (s : St) : z2C i all.toArray true F G c s = z1u (z1E F G c all s) := by
 show z1u (z8L F G c all s) = _
 unfold z8L
 rw [hc]; rfl
noncomputable def z4m (all : List Oper) : Bool := match z7Y all with
 | none => false
 | some rs => k0t all rs (z1q rs)
theorem q8e {all : List Oper} (h : z4m all = true) (c : Ctx) (s : St) : z1E F G c all s = z0t all F G c all s := by
 unfold z4m at h
 split at h
 ·simp at h
 ·rename_i rs hp
  obtain ⟨_, hp⟩ := z4l hp
  have hs := q2b rs
  generalize z1q rs = p at h hs
  obtain ⟨A, R⟩ := p
  simp only at hs
  subst hs
  cases R with
  | nil =>
   have h := z2Y (show andL [z3c all (A ++ []) (A ++ []), z1b (A ++ []) 0, z0e (z0d (A ++ []) 0) (A ++ []), z3w (z0d (A ++ []) 0) (A ++ [])] = true from h)
   simp only [List.mem_cons, List.not_mem_nil, or_false, forall_eq_or_imp, forall_eq] at h
   exact j0T hp h.1 h.2.1 h.2.2.1 h.2.2.2 c s
  | cons e B =>
   have h := z2Y (show andL [z3c all (A ++ e :: B) (A ++ e :: B), z1b A 0, z0K e.kind, bnot (Nat.testBit (z0d A 0) e.i), z0e (z0d A 0) (e :: B), z0e (z0d A 0) (A ++ e :: B), sub e.pre (z0d A 0),
    z0l e (z0d A 0) (A ++ e :: B), z1F e.pre A, z0e (Nat.lor (z0d A 0) (Nat.pow 2 e.i)) (A ++ [e]), z1b B (Nat.lor (z0d A 0) (Nat.pow 2 e.i)),
    z0e (z0d B (Nat.lor (z0d A 0) (Nat.pow 2 e.i))) (A ++ e :: B), z3w (z0d B (Nat.lor (z0d A 0) (Nat.pow 2 e.i))) (A ++ e :: B)] = true from h)
   simp only [List.mem_cons, List.not_mem_nil, or_false, forall_eq_or_imp, forall_eq] at h
   obtain ⟨a1, a2, a3, a4, a5, a6, a7, a8, a9, a10, a11, a13, a14⟩ := h
   have h1 : Nat.testBit (z0d A 0) e.i = false := by
    rw [z3p] at a4; simpa using a4
   exact j3O hp a1 a2 a3 h1 a5 a6 a7 a8 a9 a10 a11 a13 a14 c s
theorem z4I {all : List Oper} (i : Nat) (h : z4m all = true) (c : Ctx) (s : St) : z2C i all.toArray true F G c s = z1u (z0t all F G c all s) := by
 have hcv : z5K all = false := by
  cases hc : z5K all
  ·rfl
  ·exfalso; unfold z4m z7Y at h; rw [hc] at h; simp at h
 rw [z6H hcv, q8e h]
end
end Go.Sx
namespace Go.Sx
section
variable {P : Program} {G : Tab}
def Then (o : Outs) (Q : Ex → St → Prop) : Prop := ∃ l, o = some l ∧ ∀ p ∈ l, Q p.1 p.2
theorem q6P (e : Ex) (s : St) (Q : Ex → St → Prop) : Then (some [(e, s)]) Q = Q e s := by
 refine propext ⟨fun ⟨l, h, hq⟩ => ?_, fun h => ⟨_, rfl, fun p hp => ?_⟩⟩
 ·simp only [Option.some.injEq] at h; subst h; exact hq _ (List.mem_singleton.2 rfl)
 ·rw [List.mem_singleton.1 hp]; exact h
theorem Gets.runs (TT : TabOk P G) {ov : Ov} (ho : OvOk P G ov) (n : Nat) {c : Ctx} {x : Code} {s : St} {Q : Ex → St → Prop} (h : Then (z0p x (fnsO G ov n) G c s) Q) : Gets P G c x s Q := by
 obtain ⟨l, h1, h2⟩ := h
 exact (Gets.of_runs (z7l TT ho n x) h1).mono fun e s' h => h2 (e, s') h
mutual
theorem z3I {b a c : Nat → Nat} {r r' : Nat → Obj → Prop} {o o' : World} : ∀ v, conc ⟨b, a, c, r', o'⟩ v = conc ⟨b, a, c, r, o⟩ v
 | .bool _ => rfl
 | .int _ _ => rfl
 | .str _ => rfl
 | .ptr _ _ => rfl
 | .nilptr => rfl
 | .slice _ _ _ _ _ => rfl
 | .nilslice => rfl
 | .odd _ _ _ _ => rfl
 | .tail _ _ _ _ => rfl
 | .map _ => rfl
 | .nilmap => rfl
 | .func _ x y => by simp only [conc, z2x (r := r) (r' := r') (o := o) (o' := o') x, z2x (r := r) (r' := r') (o := o) (o' := o') y]
 | .yld _ => rfl
 | .nilFunc => rfl
 | .iface _ v => by simp only [conc, z3I (r := r) (r' := r') (o := o) (o' := o') v]
 | .nilIface => rfl
 | .agg cs => by simp only [conc, z2x (r := r) (r' := r') (o := o) (o' := o') cs]
 | .tuple cs => by simp only [conc, z2x (r := r) (r' := r') (o := o) (o' := o') cs]
theorem z2x {b a c : Nat → Nat} {r r' : Nat → Obj → Prop} {o o' : World} : ∀ l, concL ⟨b, a, c, r', o'⟩ l = concL ⟨b, a, c, r, o⟩ l
 | [] => rfl
 | v :: l => by simp only [concL, z3I (r := r) (r' := r') (o := o) (o' := o') v, z2x (r := r) (r' := r') (o := o) (o' := o') l]
end
mutual
theorem q3B {b a c : Nat → Nat} {r r' : Nat → Obj → Prop} {o o' : World} {D : Nat → Prop} : ∀ v, okV ⟨b, a, c, r, o⟩ D v → okV ⟨b, a, c, r', o'⟩ D v
 | .bool _, _ => trivial
 | .int _ _, _ => trivial
 | .str _, _ => trivial
 | .ptr _ _, h => h
 | .nilptr, _ => trivial
 | .slice _ _ _ _ _, h => h
 | .nilslice, _ => trivial
 | .odd _ _ _ _, _ => trivial
 | .tail _ _ _ _, h => h
 | .map _, h => h
 | .nilmap, _ => trivial
 | .func _ x y, h => ⟨h.1, z2Z x h.2.1, z2Z y h.2.2⟩
 | .yld _, h => h
 | .nilFunc, _ => trivial
 | .iface _ v, h => q3B v h
 | .nilIface, _ => trivial
 | .agg cs, h => z2Z cs h
 | .tuple cs, h => z2Z cs h
theorem z2Z {b a c : Nat → Nat} {r r' : Nat → Obj → Prop} {o o' : World} {D : Nat → Prop} : ∀ l, okL ⟨b, a, c, r, o⟩ D l → okL ⟨b, a, c, r', o'⟩ D l
 | [], _ => trivial
 | v :: l, h => ⟨q3B v h.1, z2Z l h.2⟩
end
theorem CallTo.closed (TT : TabOk P G) {m : Nat} {f : FuncId} {H0 : Heap} (h : q5a ((fns G m).call f [] H0) = true) (hg : G.nglob ≤ H0.next) (hbig : ∀ b o, H0.blks.get b = some o → z0W (some o) ∧ ltB H0.next o) {H : Heap}
  (hsub : ∀ b o, H0.blks.get b = some o → H.blks.get b = some o) : CallTo P G f [] H [(.bool true, H)] := by
 intro ρ D w kind cs hH ha
 cases ho : (fns G m).call f [] H0 with
 | none => rw [ho] at h; simp [q5a] at h
 | some l =>
  rw [ho] at h
  obtain ⟨bl, ba, ca, re, og⟩ := ρ
  have hR : HRel G ⟨bl, ba, ca, fun i o => w.heap[i]? = some o, w⟩ (fun b => D b ∧ b < H0.next) w H0 := by
   refine ⟨fun b hb => hb.2, fun g hgl => ⟨⟨(hH.glob g hgl).1, Nat.lt_of_lt_of_le hgl hg⟩, (hH.glob g hgl).2⟩, fun b b' o o' hb hb' ho ho' e => hH.inj b b' o o' hb.1 hb'.1 (hsub b o ho) (hsub b' o' ho') e,
    fun b o hb ho => ?_, fun i o hi => ⟨hi, fun b hb _ => ?_⟩, .refl _⟩
   ·have hb1 := hH.blk b o hb.1 (hsub b o ho)
    obtain ⟨s1, s2⟩ := hbig b o ho
    cases o with
    | big e n z =>
     obtain ⟨q1, arr, el, fz, q2, q3, q4⟩ := hb1
     refine ⟨z2Z z (z2X z q1 s2), arr, el, fz, q2, q3, fun i v hi hv => ?_⟩
     rw [q4 i v hi hv]; exact congrArg some (z3I v)
    | fix e l =>
     obtain ⟨q1, el, fz, q2⟩ := hb1
     refine ⟨z2Z l (z2X l q1 s2), el, fz, ?_⟩
     rw [q2]
     exact congrArg (fun x => some (Obj.cells (List.toArray x) el fz)) (z2x l)
    | _ => exact s1.elim
   ·cases hb2 : H0.blks.get b with
    | none => trivial
    | some o => exact (hbig b o hb2).1
  obtain ⟨h0, p, hp, ρ', D', w', fr, h1, h2, h3, h4, h5, h6, h7, h8, fn, h9, h10⟩ := (z2U TT m).call f [] H0 l ho _ _ w kind cs hR ha
  have hp1 : p.1 = .bool true := z7k h p hp
  have hheap : ∀ (i : Nat) (o : Obj), w.heap[i]? = some o → w'.heap[i]? = some o := fun i o hi => (h1.rest i o (by rw [h2.sub.rest]; exact hi)).1
  have hkin : Kin w w' := by have := h1.kin; rw [h2.sub.orig] at this; exact this
  refine ⟨h0, (.bool true, H), List.mem_singleton.2 rfl, ⟨bl, ba, ca, re, og⟩, D, w', fr, ⟨hH.lt, hH.glob, hH.inj, fun b o hb ho => ?_, fun i o hi => ?_, hH.kin.trans hkin⟩, .refl _ _ _, trivial, h4, h5, h6, h7, h8, fn, h9, ?_⟩
  ·have hb1 := hH.blk b o hb ho
   refine hb1.sub (.refl _ _) hb ?_
   obtain ⟨x, hx⟩ : ∃ x, w.heap[bl b]? = some x := ⟨_, Array.getElem?_eq_getElem hb1.stands⟩
   exact (hheap _ x hx).trans hx.symm
  ·exact ⟨hheap i o (hH.rest i o hi).1, (hH.rest i o hi).2⟩
  ·rw [hp1] at h10; exact h10
end
end Go.Sx
namespace Go.Sx
section
variable {P : Program} {G : Tab} {c : Ctx} {s : St} {Q : Ex → St → Prop}
open Classical in
noncomputable def ptO (ov : Ov) (f : FuncId) (A : List AV) (H : Heap) (outs : List VH) : Ov := fun f' a h => if f' = f ∧ a = A ∧ h = H then some outs else ov f' a h
theorem j0U {ov : Ov} (ho : OvOk P G ov) {f : FuncId} {A : List AV} {H : Heap} {outs : List VH} (h : CallTo P G f A H outs) : OvOk P G (ptO ov f A H outs) := by
 intro f' a h' outs' hh
 unfold ptO at hh
 split at hh
 ·rename_i e
  obtain ⟨rfl, rfl, rfl⟩ := e
  simp only [Option.some.injEq] at hh; subst hh; exact h
 ·exact ho _ _ _ _ hh
theorem z9x (ov : Ov) (f : FuncId) (A : List AV) (H : Heap) (outs : List VH) : ptO ov f A H outs f A H = some outs := by unfold ptO; rw [if_pos ⟨rfl, rfl, rfl⟩]
theorem q3C (ov : Ov) {f f' : FuncId} (h : f' ≠ f) (A A' : List AV) (H H' : Heap) (outs : List VH) : ptO ov f A H outs f' A' H' = ov f' A' H' := by unfold ptO; rw [if_neg fun e => h e.1]
noncomputable def noOv : Ov := fun _ _ _ => none
theorem z3R : OvOk P G noOv := fun _ _ _ _ h => by simp [noOv] at h
theorem Gets.last (TT : TabOk P G) {ov : Ov} (ho : OvOk P G ov) (n : Nat) {x : Code} {s' : St} (h : z0p x (fnsO G ov n) G c s = some [(.normal, s')]) (h' : Q .normal s') : Gets P G c x s Q :=
 Gets.runs TT ho n ⟨_, h, fun p hp => by rw [List.mem_singleton.1 hp]; exact h'⟩
theorem Gets.skip (TT : TabOk P G) (h : Q .normal s) : Gets P G c .skip s Q := Gets.last TT (ov := noOv) z3R 0 rfl h
theorem Gets.ret (TT : TabOk P G) (h : Q .ret s) : Gets P G c .ret s Q := Gets.runs TT (ov := noOv) z3R 0 (by show Then (some [(.ret, s)]) Q; rw [q6P]; exact h)
theorem Gets.exit (TT : TabOk P G) {i : Nat} (h : Q (.exit i) s) : Gets P G c (.exit i) s Q := Gets.runs TT (ov := noOv) z3R 0 (by show Then (some [(.exit i, s)]) Q; rw [q6P]; exact h)
theorem Gets.condT {v : Operand} {x y : Code} (hv : aev G s.tm v = some (.bool true)) (h : Gets P G c x s Q) : Gets P G c (.cond v x y) s Q := Gets.cond hv h
theorem Gets.condF {v : Operand} {x y : Code} (hv : aev G s.tm v = some (.bool false)) (h : Gets P G c y s Q) : Gets P G c (.cond v x y) s Q := Gets.cond hv h
def z7Z (id : Nat) (Q : Ex → St → Prop) : Ex → St → Prop := fun e s' => match e with
 | .exit j => if j = id then Q .normal s' else Q (.exit j) s'
 | e => Q e s'
theorem Gets.blk {id : Nat} {x : Code} (h : Gets P G c x s (z7Z id Q)) : Gets P G c (.block id x) s Q :=
 Gets.block (h.mono fun e s' h => by cases e <;> exact h)
theorem q3D {id : Nat} (h : Q .normal s) : z7Z id Q .normal s := h
theorem j0V {id : Nat} (h : Q .ret s) : z7Z id Q .ret s := h
theorem z7p {id : Nat} (h : Q .normal s) : z7Z id Q (.exit id) s := by show (if id = id then _ else _); rw [if_pos rfl]; exact h
theorem q5o {id j : Nat} (hj : j ≠ id) (h : Q (.exit j) s) : z7Z id Q (.exit j) s := by show (if j = id then _ else _); rw [if_neg hj]; exact h
def q3E (I : Nat → St → Prop) (m : Nat) (Q : Ex → St → Prop) : Ex → St → Prop := fun e s' => match e with
 | .normal => ∃ m', m' < m ∧ I m' s'
 | e => Q e s'
theorem Gets.forI {id : Nat} {x : Code} (I : Nat → St → Prop) (m : Nat) (h0 : I m s) (h : ∀ m s, I m s → Gets P G c x s (q3E I m (z7Z id Q))) : Gets P G c (.block id (.loop x)) s Q :=
 Gets.blk (Gets.loop (I := I) (fun m s hI => (h m s hI).mono fun e s' h => by cases e <;> exact h) m s h0)
theorem j8M {I : Nat → St → Prop} {m : Nat} (h : Q .ret s) : q3E I m Q .ret s := h
theorem j7M {I : Nat → St → Prop} {m i : Nat} (h : Q (.exit i) s) : q3E I m Q (.exit i) s := h
theorem j7N {I : Nat → St → Prop} {m m' : Nat} (hm : m' < m) (h : I m' s) : q3E I m Q .normal s := ⟨m', hm, h⟩
theorem Gets.mid {x : Code} {I : St → Prop} (h : Gets P G c x s fun e s' => e = .normal ∧ I s') (h' : ∀ s', I s' → Q .normal s') : Gets P G c x s Q :=
 h.mono fun e s' h => by obtain ⟨rfl, h⟩ := h; exact h' s' h
theorem Gets.midA {x : Code} {H : Heap} {I : T AV → Prop} (h : Gets P G c x s fun e s' => e = .normal ∧ ∃ tm, s' = ⟨tm, H, []⟩ ∧ I tm) (h' : ∀ tm, I tm → Q .normal ⟨tm, H, []⟩) : Gets P G c x s Q :=
 h.mono fun e s' h => by obtain ⟨rfl, tm, rfl, h⟩ := h; exact h' tm h
theorem Gets.upto {id : Nat} {x : Code} {H : Heap} (n : Nat) (I : Nat → T AV → Prop) {tm : T AV} (h0 : I 0 tm)
  (h : ∀ i tm, i ≤ n → I i tm → Gets P G c x ⟨tm, H, []⟩ fun e s' => match e with
   | .normal => ∃ tm', s' = ⟨tm', H, []⟩ ∧ i < n ∧ I (i + 1) tm'
   | e => z7Z id Q e s') : Gets P G c (.block id (.loop x)) ⟨tm, H, []⟩ Q :=
 Gets.forI (I := fun m s => ∃ i tm, i ≤ n ∧ m = n - i ∧ s = ⟨tm, H, []⟩ ∧ I i tm) n ⟨0, tm, Nat.zero_le _, rfl, rfl, h0⟩ fun m s ⟨i, tm, hi, hm, hs, hI⟩ => by
  subst hs
  refine (h i tm hi hI).mono fun e s' h => ?_
  cases e with
  | normal =>
   obtain ⟨tm', rfl, hlt, hI'⟩ := h
   exact ⟨n - (i + 1), by omega, i + 1, tm', hlt, rfl, rfl, hI'⟩
  | _ => exact h
theorem Gets.midH {x : Code} {I : T AV → Heap → Prop} (h : Gets P G c x s fun e s' => e = .normal ∧ ∃ tm H, s' = ⟨tm, H, []⟩ ∧ I tm H) (h' : ∀ tm H, I tm H → Q .normal ⟨tm, H, []⟩) : Gets P G c x s Q :=
 h.mono fun e s' h => by obtain ⟨rfl, tm, H, rfl, h⟩ := h; exact h' tm H h
theorem Gets.uptoH {id : Nat} {x : Code} (n : Nat) (I : Nat → T AV → Heap → Prop) {tm : T AV} {H : Heap} (h0 : I 0 tm H)
  (h : ∀ i tm H, i ≤ n → I i tm H → Gets P G c x ⟨tm, H, []⟩ fun e s' => match e with
   | .normal => ∃ tm' H', s' = ⟨tm', H', []⟩ ∧ i < n ∧ I (i + 1) tm' H'
   | e => z7Z id Q e s') : Gets P G c (.block id (.loop x)) ⟨tm, H, []⟩ Q :=
 Gets.forI (I := fun m s => ∃ i tm H, i ≤ n ∧ m = n - i ∧ s = ⟨tm, H, []⟩ ∧ I i tm H) n ⟨0, tm, H, Nat.zero_le _, rfl, rfl, h0⟩ fun m s ⟨i, tm, H, hi, hm, hs, hI⟩ => by
  subst hs
  refine (h i tm H hi hI).mono fun e s' h => ?_
  cases e with
  | normal =>
   obtain ⟨tm', H', rfl, hlt, hI'⟩ := h
   exact ⟨n - (i + 1), by omega, i + 1, tm', H', hlt, rfl, rfl, hI'⟩
  | _ => exact h
theorem j8N {H : Heap} {t : TypeId} {b : Nat} {e : TypeId} {x : Bool} {old l : List AV} (hb : H.blks.get b = some (.cells e x old)) (hz : G.size t = some l.length) (ho : old.length = l.length) (ha : z0V l = true) (hne : l ≠ []) :
  z2r G H t (.ptr b 0) (.agg l) = some (z0y H b (some (.cells e x l))) := by
 have h1 : z2r G H t (.ptr b 0) (.agg l) = z0b (G.size t) fun s => bif Nat.beq (len l) s then z1s H b 0 l else none := rfl
 rw [h1, hz]
 show (bif Nat.beq (len l) l.length then z1s H b 0 l else none) = _
 rw [z0S, z1k rfl, cond_true]
 have over : ∀ (l old : List AV), old.length = l.length → z4K l old = some l := by
  intro l
  induction l with
  | nil => intro old h; cases old with
   | nil => rfl
   | cons _ _ => simp at h
  | cons a l ih =>
   intro old h
   cases old with
   | nil => simp at h
   | cons o old =>
    show z1D a (z4K l old) = _
    rw [ih old (by simpa using h)]; rfl
 have hsp : z1m l old 0 = some l := by
  cases old with
  | nil => cases l with
   | nil => exact absurd rfl hne
   | cons _ _ => simp at ho
  | cons o old => show z4K l (o :: old) = _; exact over l _ ho
 cases l with
 | nil => exact absurd rfl hne
 | cons a l =>
  show z4q H b 0 (a :: l) (H.blks.get b) = _
  rw [hb]
  show (bif z0V (a :: l) then z6l H b e x (z1m (a :: l) old 0) else none) = _
  rw [ha, hsp, cond_true]
  show z4N (a :: l) (fun l => z0M H b (some (.cells e x l)) some) = _
  rw [z1n]
  unfold z0M z0y
  rw [T.setK_eq, T.setK_eq]
theorem z5F {H : Heap} {s : St} {v : AV} {rs : List ResultVar} (hd : s.df = []) (hr : z0C G s.tm s.h rs = some [v]) (hg : Grows H s.h) (hn : Neat H) (hv : ltV H.next v) :
  z1I .ret = true ∧ s.df = [] ∧ ∃ vs, z0C G s.tm s.h rs = some vs ∧ ∃ p ∈ [(v, H)], Cut H p (z2a vs) s.h :=
 ⟨rfl, hd, [v], hr, (v, H), List.mem_singleton.2 rfl, .pure hg.next hg.get hn hv⟩
theorem k0u {H : Heap} {s : St} {vs : List AV} {rs : List ResultVar} (hd : s.df = []) (hr : z0C G s.tm s.h rs = some vs) (hg : Grows H s.h) (hn : Neat H) (hv : ltV H.next (z2a vs)) :
  z1I .ret = true ∧ s.df = [] ∧ ∃ vs, z0C G s.tm s.h rs = some vs ∧ ∃ p ∈ [(z2a vs, H)], Cut H p (z2a vs) s.h :=
 ⟨rfl, hd, vs, hr, (z2a vs, H), List.mem_singleton.2 rfl, .pure hg.next hg.get hn hv⟩
theorem j0W (k : IntKind) (n : Int) : z0F (.int k n) = true := rfl
theorem q8f (b : Bool) : z0F (.bool b) = true := rfl
theorem j0X (s : List UInt8) : z0F (.str s) = true := rfl
theorem j0Y (b o : Nat) : z0F (.ptr b o) = true := rfl
theorem q3F : z0F .nilptr = true := rfl
theorem z9y (b o l : Nat) (q : Bool) (k : Nat) : z0F (.slice b o l q k) = true := rfl
theorem q0f : z0F .nilslice = true := rfl
theorem q3G (b : Nat) : z0F (.map b) = true := rfl
theorem q3H : z0F .nilmap = true := rfl
theorem q8g (f : Fn) (x y : List AV) : z0F (.func f x y) = true := rfl
theorem j0Z (l : List AV) : z0F (.agg l) = false := rfl
theorem q5p (l : List AV) : z0F (.tuple l) = false := rfl
theorem z7R (H : Heap) (o : ABlk) {b : Nat} (h : Nat.beq b H.next = true) : (H.push o).blks.get b = some o := by cases Nat.eq_of_beq_eq_true h; exact z0L H o
theorem z0j (H : Heap) (b : Nat) (o : Option ABlk) : (z0y H b o).next = H.next := Heap.next_put ..
theorem z5G (H : Heap) (b : Nat) (o : Option ABlk) : (z0y H b o).blks.get b = o := by rw [Heap.get_put]; simp
theorem z1z (H : Heap) (b : Nat) (o : Option ABlk) {x : Nat} (h : x ≠ b) : (z0y H b o).blks.get x = H.blks.get x := by rw [Heap.get_put, if_neg h]
theorem j3P (op : BinOp) (t : TypeId) (c : Bool) (k k' : IntKind) (a b : Int) : binA G op t c (.int k a) (.int k' b) = intBin op k a k' b := rfl
theorem j3Q (op : BinOp) (t : TypeId) (c : Bool) (a b : List UInt8) : binA G op t c (.str a) (.str b) = sbin op a b := rfl
theorem j3R (op : BinOp) (t : TypeId) (c : Bool) (x y : List AV) : binA G op t c (.agg x) (.agg y) = bif z8q (G.noEq.get t) then q2C op (eqA G 60 t (.agg x) (.agg y)) else none := rfl
theorem j7O (x y : Bool) : andO (some x) (some y) = some (x && y) := by cases x <;> rfl
theorem q5q {β : Type} (tm : T AV) (i : Nat) (k : T AV → β) : z7V [] tm i k = k tm := rfl
theorem q3I {β : Type} (v : AV) (l : List AV) (tm : T AV) (i : Nat) (k : T AV → β) : z7V (v :: l) tm i k = z7V l (tm.set i (some v)) (i + 1) k := by
 show z3V v (fun v => tm.setK i (some v) fun tm' => z7V l tm' (i + 1) k) = _
 rw [z2b, T.setK_eq]
theorem j3S (l : List AV) : q0O l = z7V l .e 0 id := rfl
theorem z9z (H : Heap) (b off : Nat) {k : Nat} (h : k ≠ 0) : z0o H b off k = z2o (H.blks.get b) off k := by
 rw [z9u, z0E h]; rfl
theorem j7P : ((0 : Nat) : Int) = 0 := rfl
theorem j7Q (n : Nat) : ((n + 1 : Nat) : Int) = (n : Int) + 1 := rfl
theorem j7R (n : Nat) : ((no_index (OfNat.ofNat n) : Nat) : Int) = OfNat.ofNat n := rfl
theorem q5r (l : List AV) : AV.cells (.agg l) = l := rfl
theorem z9A {v : AV} (h : z0F v = true) : AV.cells v = [v] := by cases v <;> first | rfl | simp [z0F] at h
end
end Go.Sx
