/-
  Rules by which simp carries the executor out where values are variables; code piece by piece.
-/
import Derived.Test.YthfkhidmeeajfaaGreatDoorLSxF
set_option linter.unusedSimpArgs false
set_option linter.unusedVariables false
namespace Go.Sx
section
variable {G : Tab} {F : Fns}
theorem T.get_set_eq {α : Type} (t : T α) (k : Nat) (a : Option α) : (t.set k a).get k = a := by rw [T.get_set, if_pos rfl]
theorem T.get_set_ne {α : Type} (t : T α) {k j : Nat} (h : j ≠ k) (a : Option α) : (t.set k a).get j = t.get j := by rw [T.get_set, if_neg h]
theorem q5b : z1v .skip = cSkip := rfl
theorem q6T (a b : Code) : z1v (.seq a b) = cSeq (z1v a) (z1v b) := rfl
theorem q1p (i : Nat) (ops : Array Oper) (d : Bool) : z1v (.region i ops d) = z3H i ops d := rfl
theorem q5c (x : Operand) (a b : Code) : z1v (.cond x a b) = cCond x (z1v a) (z1v b) := rfl
theorem q3q (i : Nat) (b : Code) : z1v (.block i b) = q8q i (z1v b) := rfl
theorem q5d (b : Code) : z1v (.loop b) = j6A b (z1v b) := rfl
theorem q5e (i : Nat) : z1v (.exit i) = cExit i := rfl
theorem q6U : z1v .ret = cRet := rfl
theorem j7e (i : Nat) (l : List Oper) (c : Ctx) (s : St) : z3H i l.toArray false F G c s = z1S (z0R l F G c l s) := rfl
theorem k9i (a b : CRun) (c : Ctx) (s : St) : cSeq a b F G c s = z3h (a F G c s) (z6S (b F G c)) := rfl
theorem z8u {α β : Type} (a : α) (f : α → Option (List β)) : z3h (some [a]) f = f a := rfl
theorem j3r (s : St) : z1S (some [s]) = some [(.normal, s)] := rfl
theorem q0y (k : St → Outs) (s : St) : z6S k (.normal, s) = k s := rfl
theorem q5f (k : St → Outs) (s : St) : z6S k (.ret, s) = some [(.ret, s)] := rfl
theorem q3r (k : St → Outs) (i : Nat) (s : St) : z6S k (.exit i, s) = some [(.exit i, s)] := rfl
theorem j3s (c : Ctx) (all : List Oper) (s : St) : z0R [] F G c all s = some [s] := rfl
theorem z6A (o : Oper) (l : List Oper) (c : Ctx) (all : List Oper) (s : St) : z0R (o :: l) F G c all s = z6R o (z0R l) F G c all s := rfl
theorem z5G {α β : Type} (a : α) (f : α → Option β) : z0b (some a) f = f a := rfl
theorem j3t (v : AV) : z4H (some v) = some v := rfl
theorem k1y (H : Heap) (v : AV) : z1i H (some v) = some (v, H) := rfl
theorem z1V {β : Type} (c : Ctx) (tm : T AV) (d : Tmp) (v : AV) (k : T AV → Option β) : z1l c tm (some d) v k = if d < c.size then k (tm.set d (some v)) else none := by
 unfold z1l
 by_cases h : d < c.size
 ·rw [if_pos h]
  have : Nat.blt d c.size = true := by simpa [Nat.blt_eq] using h
  simp only [this, cond_true, z2G, T.setK_eq]
 ·rw [if_neg h]
  have : Nat.blt d c.size = false := by
   cases hb : Nat.blt d c.size
   ·rfl
   ·exact absurd (z2p hb) h
  simp only [this, cond_false]
theorem k7r {β : Type} (c : Ctx) (tm : T AV) (v : AV) (k : T AV → Option β) : z1l c tm none v k = k tm := rfl
theorem j3u (tm : T AV) (t : Tmp) : aev G tm (.tmp t) = z4H (tm.get t) := rfl
theorem q6V (tm : T AV) (v : Value) : aev G tm (.const v) = ofValue v := rfl
theorem k1z (all : List Oper) (j : Nat) : q6e all j = z0b (all[j]?) fun g => g.dst := by unfold q6e; rw [z2F]
theorem q6W : z5V true (some (.bool true)) = true := rfl
theorem q6X : z5V true (some (.bool false)) = false := rfl
theorem q6Y : z5V false (some (.bool true)) = false := rfl
theorem q6Z : z5V false (some (.bool false)) = true := rfl
theorem w4l (n : Nat) (c : Ctx) (x : Code) (s : St) : (fns G (n + 1)).code c x s = z1v x (fns G n) G c s := rfl
theorem w4m (n : Nat) (f : FuncId) (args : List AV) (H : Heap) : (fns G (n + 1)).call f args H = z0b (G.funcs.get f) (callFn (fns G n) G args H) := rfl
theorem j7f (b : Nat) (p : VH) : q1O b (some [p]) = some [p] := rfl
theorem q3s (rs : List ResultVar) (tm : T AV) (H : Heap) : z4g F G rs (.ret, ⟨tm, H, []⟩) = resOut G tm rs H := rfl
theorem z9c (rs : List ResultVar) (tm : T AV) (H : Heap) : z4g F G rs (.normal, ⟨tm, H, []⟩) = resOut G tm rs H := rfl
theorem q3t (tm : T AV) (H : Heap) : z1m G tm H [] = some [] := rfl
theorem q1q (tm : T AV) (H : Heap) (r : ResultVar) (l : List ResultVar) : z1m G tm H (r :: l) = z2E (resultA G tm H r) (z1m G tm H l) := rfl
theorem j7g {α : Type} (a : α) (l : List α) : z2E (some a) (some l) = some (a :: l) := rfl
theorem k1A (v : AV) : z1T [v] = v := rfl
theorem j7h (v u : AV) (l : List AV) : z1T (v :: u :: l) = .tuple (v :: u :: l) := rfl
theorem w5l (c : Ctx) (all : List Oper) (s : St) (d : Option Tmp) (op : Op) (t : TypeId) (p : String) (a : Array Edge) (ih : Run) :
  z6R ⟨d, op, t, p, a, none⟩ ih F G c all s = z3k (kindOf op) ⟨d, op, t, p, a, none⟩ ih F G c all s := rfl
theorem w4n (c : Ctx) (all : List Oper) (s : St) (d : Option Tmp) (op : Op) (t : TypeId) (p : String) (a : Array Edge) (j : Nat) (w : Bool) (ih : Run) :
  z6R ⟨d, op, t, p, a, some (j, w)⟩ ih F G c all s =
   bif guardA all s.tm j w then z3k (kindOf op) ⟨d, op, t, p, a, some (j, w)⟩ ih F G c all s else z1l c s.tm d z0X fun tm => ih F G c all ⟨tm, s.h, s.df⟩ := rfl
theorem k1B (o : Oper) (ih : Run) (c : Ctx) (all : List Oper) (s : St) :
  z3k .pure o ih F G c all s = z0b (opN o.op G s.tm s.h) fun p => z1l c s.tm o.dst p.1 fun tm => ih F G c all ⟨tm, p.2, s.df⟩ := rfl
theorem k1C (o : Oper) (ih : Run) (c : Ctx) (all : List Oper) (s : St) :
  z3k .read o ih F G c all s = z0b (opN o.op G s.tm s.h) fun p => z1l c s.tm o.dst p.1 fun tm => ih F G c all ⟨tm, p.2, s.df⟩ := rfl
theorem j9B (o : Oper) (ih : Run) (c : Ctx) (all : List Oper) (s : St) :
  z3k .alloc o ih F G c all s = z0b (opN o.op G s.tm s.h) fun p => z1l c s.tm o.dst p.1 fun tm => ih F G c all ⟨tm, p.2, s.df⟩ := rfl
theorem k3o (o : Oper) (ih : Run) (c : Ctx) (all : List Oper) (s : St) :
  z3k .eff o ih F G c all s = z3h (opE o.op F G c s.tm s.df s.h) fun p => z1l c s.tm o.dst p.1 fun tm => ih F G c all ⟨tm, p.2.2, p.2.1⟩ := rfl
theorem z1t {β : Type} (H : Heap) (e : TypeId) (x : Bool) (l : List AV) (k : Nat → Heap → Option β) : z2Z H e x l k = bif z0W l then k H.next (H.push (.cells e x l)) else none := by
 unfold z2Z; rw [z1G, z2o]
theorem q5g : z0W [] = true := rfl
theorem q3u (v : AV) (l : List AV) : z0W (v :: l) = bif z0H v then z0W l else false := rfl
theorem z0n (H : Heap) (o : ABlk) : (H.push o).next = H.next + 1 := rfl
theorem z0q (H : Heap) (o : ABlk) : (H.push o).blks.get H.next = some o := by rw [Heap.get_push]; simp
theorem z0r (H : Heap) (o : ABlk) {b : Nat} (h : b ≠ H.next) : (H.push o).blks.get b = H.blks.get b := by rw [Heap.get_push, if_neg h]
theorem k5n (H : Heap) (b off : Nat) : j6x H b off = z1c (H.blks.get b) off := rfl
theorem j7i (e : TypeId) (x : Bool) (l : List AV) (off : Nat) : z1c (some (.cells e x l)) off = l[off]? := z2F l off
theorem q0z (H : Heap) (b off k : Nat) : z0y H b off k = bif Nat.beq k 0 then some [] else cellsIn (H.blks.get b) off k := rfl
theorem k5o (e : TypeId) (x : Bool) (l : List AV) (off k : Nat) : cellsIn (some (.cells e x l)) off k = if k ≤ (l.drop off).length then some ((l.drop off).take k) else none := by
 show z3R (z5p l off) k = _; rw [z1Z, z1I]
theorem k3p {t : TypeId} (h : G.isAgg t = some true) {z : Nat} (hz : G.size t = some z) (cs : List AV) (off : Nat) : z4s G t cs off = aggO (if z ≤ (cs.drop off).length then some ((cs.drop off).take z) else none) := by
 unfold z4s; rw [h]; simp only [hz, z0b]; rw [z1Z, z1I]
theorem k1D {t : TypeId} (h : G.isAgg t = some false) (cs : List AV) (off : Nat) : z4s G t cs off = cs[off]? := by
 unfold z4s; rw [h]; simp only []; rw [z2F]
theorem z0o {t : TypeId} (h : G.isAgg t = some true) {z : Nat} (hz : G.size t = some z) (H : Heap) (b off : Nat) : z2Y G H t b off = aggO (z0y H b off z) := by
 unfold z2Y; rw [h]; simp only [hz, z0b]
theorem z0c {t : TypeId} (h : G.isAgg t = some false) (H : Heap) (b off : Nat) : z2Y G H t b off = j6x H b off := by
 unfold z2Y; rw [h]
theorem k5p (l : List AV) : aggO (some l) = some (.agg l) := rfl
theorem j0p (tm : T AV) : aevs G tm [] = some [] := rfl
theorem q7a (tm : T AV) (o : Operand) (l : List Operand) : aevs G tm (o :: l) = z2E (aev G tm o) (aevs G tm l) := rfl
theorem j3v (l : List AV) : app [] l = l := rfl
theorem j0q (a : AV) (l m : List AV) : app (a :: l) m = a :: app l m := rfl
theorem k5q (df : List ADefer) (v : AV) (H : Heap) : outs df (some [(v, H)]) = some [(v, df, H)] := rfl
theorem j7j : bnot true = false := rfl
theorem j7k : bnot false = true := rfl
theorem k1E (ov : Ov) (n : Nat) (c : Ctx) (x : Code) (s : St) : (fnsO G ov (n + 1)).code c x s = z1v x (fnsO G ov n) G c s := rfl
theorem z4N (ov : Ov) (n : Nat) (f : FuncId) (args : List AV) (H : Heap) : (fnsO G ov (n + 1)).call f args H = orOv (ov f args H) (q6m (fnsO G ov n) G f args H) := rfl
theorem z4O (f : FuncId) (args : List AV) (H : Heap) : q6m F G f args H = z0b (G.funcs.get f) (callFn F G args H) := rfl
theorem q7b (l : List VH) (d : Option (List VH)) : orOv (some l) d = some l := rfl
theorem q7c (d : Option (List VH)) : orOv none d = d := rfl
theorem j0r (ov : Ov) (f : FuncId) (g : List AV → Heap → Option (List VH)) (args : List AV) (H : Heap) : z4M ov f g f args H = g args H := by unfold z4M; rw [if_pos rfl]
theorem j0s (ov : Ov) {f f' : FuncId} (h : f' ≠ f) (g : List AV → Heap → Option (List VH)) (args : List AV) (H : Heap) : z4M ov f g f' args H = ov f' args H := by unfold z4M; rw [if_neg h]
theorem k1F (i : Nat) (b : CRun) (c : Ctx) (s : St) : q8q i b F G c s = z3h (b F G c s) (z5z i) := rfl
theorem k5r (x : Code) (b : CRun) (c : Ctx) (s : St) : j6A x b F G c s = z3h (b F G c s) (z6S (F.code c (.loop x))) := rfl
theorem z9d (i : Nat) (s : St) : z5z i (.normal, s) = some [(.normal, s)] := rfl
theorem q3v (i : Nat) (s : St) : z5z i (.ret, s) = some [(.ret, s)] := rfl
theorem q1r (i j : Nat) (s : St) : z5z i (.exit j, s) = if j = i then some [(.normal, s)] else some [(.exit j, s)] := by
 show (bif Nat.beq j i then some [(Ex.normal, s)] else some [(Ex.exit j, s)]) = _
 by_cases h : j = i
 ·rw [if_pos h, z1h h]; rfl
 ·rw [if_neg h, z0Y h]; rfl
theorem j9C (a b : Int) : iblt a b = decide (a < b) := z8j a b
theorem j3w (a b : Int) : ibeq a b = decide (a = b) := by rw [z5B]; rfl
theorem k5s (b : Bool) : bnot b = !b := z4h b
theorem z3N {x : Int} (h : -9223372036854775808 ≤ x) (h' : x ≤ 9223372036854775807) : z3g .i64 x = x := by
 rw [z5C]; exact IntWalk.i64_in x ⟨by omega, by omega⟩
theorem k5t (k : IntKind) (x : Int) (n : Nat) : inB (.int k x) n = if 0 ≤ x ∧ x < (n : Int) then some x.toNat else none := by
 cases x with
 | ofNat m =>
  show (bif Nat.blt m n then some m else none) = _
  by_cases h : m < n
  ·rw [if_pos ⟨Int.natCast_nonneg m, by simp; exact h⟩]
   have : Nat.blt m n = true := by simpa [Nat.blt_eq] using h
   rw [this]; rfl
  ·rw [if_neg (by simp; omega)]
   have : Nat.blt m n = false := by
    cases hb : Nat.blt m n
    ·rfl
    ·exact absurd (z2p hb) h
   rw [this]; rfl
 | negSucc m => rw [if_neg (by omega)]; rfl
theorem z2W {t e : TypeId} (hu : G.und t = some (.slice e)) {z : Nat} (hz : G.size e = some z) (b off n : Nat) (q : Bool) (c : Nat) (k : IntKind) (x : Int) :
  z1e G t (.slice b off n q c) (.int k x) = if 0 ≤ x ∧ x < (n : Int) then some (.ptr b (off + x.toNat * z)) else none := by
 unfold z1e
 rw [hu]
 show z0b (inB (.int k x) n) (fun m => z0b (G.size e) fun z => some (AV.ptr b (off + m * z))) = _
 rw [k5t]
 by_cases h : 0 ≤ x ∧ x < (n : Int)
 ·rw [if_pos h, if_pos h]; simp only [z0b, hz]
 ·rw [if_neg h, if_neg h]; rfl
theorem z5j {t e : TypeId} (hu : G.und t = some (.slice e)) (H : Heap) (b off n : Nat) (q : Bool) (c : Nat) : lenA G H t (.slice b off n q c) = some (.int .i64 (n : Int)) := by
 unfold lenA; rw [hu]; rfl
theorem q3w {t e : TypeId} (hu : G.und t = some (.slice e)) (H : Heap) : lenA G H t .nilslice = some (.int .i64 0) := by
 unfold lenA; rw [hu]; rfl
theorem z0Q {t : TypeId} (hu : G.und t = some .string) (H : Heap) (s : List UInt8) : lenA G H t (.str s) = some (.int .i64 (s.length : Int)) := by
 unfold lenA; rw [hu]
 show some (natV (len s)) = _
 rw [z1f]; rfl
noncomputable def q3x (r : Option VH) (d : Option Tmp) (l : List Oper) (F : Fns) (G : Tab) (c : Ctx) (all : List Oper) (s : St) : Option (List St) :=
 z0b r fun p => z1l c s.tm d p.1 fun tm => z0R l F G c all ⟨tm, p.2, s.df⟩
noncomputable def j0t (r : Option (List EOut)) (d : Option Tmp) (l : List Oper) (F : Fns) (G : Tab) (c : Ctx) (all : List Oper) (s : St) : Option (List St) :=
 z3h r fun p => z1l c s.tm d p.1 fun tm => z0R l F G c all ⟨tm, p.2.2, p.2.1⟩
noncomputable def q7d (k : Kind) (op : Op) (d : Option Tmp) (l : List Oper) (F : Fns) (G : Tab) (c : Ctx) (all : List Oper) (s : St) : Option (List St) :=
 match k with
 | .eff => j0t (opE op F G c s.tm s.df s.h) d l F G c all s
 | _ => q3x (opN op G s.tm s.h) d l F G c all s
noncomputable def stepG (b : Bool) (op : Op) (d : Option Tmp) (l : List Oper) (F : Fns) (G : Tab) (c : Ctx) (all : List Oper) (s : St) : Option (List St) :=
 bif b then q7d (kindOf op) op d l F G c all s else z1l c s.tm d z0X fun tm => z0R l F G c all ⟨tm, s.h, s.df⟩
theorem k1G (o : Option Tmp) (op : Op) (t : TypeId) (p : String) (a : Array Edge) (l : List Oper) (c : Ctx) (all : List Oper) (s : St) :
  z0R (⟨o, op, t, p, a, none⟩ :: l) F G c all s = q7d (kindOf op) op o l F G c all s := by
 show z3k (kindOf op) ⟨o, op, t, p, a, none⟩ (z0R l) F G c all s = _
 cases kindOf op <;> rfl
theorem k5u (o : Option Tmp) (op : Op) (t : TypeId) (p : String) (a : Array Edge) (j : Nat) (w : Bool) (l : List Oper) (c : Ctx) (all : List Oper) (s : St) :
  z0R (⟨o, op, t, p, a, some (j, w)⟩ :: l) F G c all s = stepG (guardA all s.tm j w) op o l F G c all s := by
 show (bif guardA all s.tm j w then z3k (kindOf op) ⟨o, op, t, p, a, some (j, w)⟩ (z0R l) F G c all s else z1l c s.tm o z0X fun tm => z0R l F G c all ⟨tm, s.h, s.df⟩) = _
 unfold stepG
 cases guardA all s.tm j w
 ·rfl
 ·cases kindOf op <;> rfl
theorem j7l (op : Op) (d : Option Tmp) (l : List Oper) (c : Ctx) (all : List Oper) (s : St) : stepG true op d l F G c all s = q7d (kindOf op) op d l F G c all s := rfl
theorem j3x (op : Op) (d : Tmp) (l : List Oper) (c : Ctx) (all : List Oper) (s : St) (h : d < c.size) : stepG false op (some d) l F G c all s = z0R l F G c all ⟨s.tm.set d (some z0X), s.h, s.df⟩ := by
 show z1l c s.tm (some d) z0X _ = _
 rw [z1V, if_pos h]
theorem j0u (op : Op) (l : List Oper) (c : Ctx) (all : List Oper) (s : St) : stepG false op none l F G c all s = z0R l F G c all s := rfl
theorem j7m (op : Op) (d : Option Tmp) (l : List Oper) (c : Ctx) (all : List Oper) (s : St) : q7d .pure op d l F G c all s = q3x (opN op G s.tm s.h) d l F G c all s := rfl
theorem j7n (op : Op) (d : Option Tmp) (l : List Oper) (c : Ctx) (all : List Oper) (s : St) : q7d .read op d l F G c all s = q3x (opN op G s.tm s.h) d l F G c all s := rfl
theorem j3y (op : Op) (d : Option Tmp) (l : List Oper) (c : Ctx) (all : List Oper) (s : St) : q7d .alloc op d l F G c all s = q3x (opN op G s.tm s.h) d l F G c all s := rfl
theorem k1H (op : Op) (d : Option Tmp) (l : List Oper) (c : Ctx) (all : List Oper) (s : St) : q7d .eff op d l F G c all s = j0t (opE op F G c s.tm s.df s.h) d l F G c all s := rfl
theorem z_N (v : AV) (H : Heap) (d : Tmp) (l : List Oper) (c : Ctx) (all : List Oper) (s : St) (h : d < c.size) : q3x (some (v, H)) (some d) l F G c all s = z0R l F G c all ⟨s.tm.set d (some v), H, s.df⟩ := by
 show z1l c s.tm (some d) v _ = _
 rw [z1V, if_pos h]
theorem z_N0 (v : AV) (H : Heap) (l : List Oper) (c : Ctx) (all : List Oper) (s : St) : q3x (some (v, H)) none l F G c all s = z0R l F G c all ⟨s.tm, H, s.df⟩ := rfl
theorem z_E (v : AV) (df : List ADefer) (H : Heap) (d : Tmp) (l : List Oper) (c : Ctx) (all : List Oper) (s : St) (h : d < c.size) :
  j0t (some [(v, df, H)]) (some d) l F G c all s = z0R l F G c all ⟨s.tm.set d (some v), H, df⟩ := by
 show z1l c s.tm (some d) v _ = _
 rw [z1V, if_pos h]
theorem z_E0 (v : AV) (df : List ADefer) (H : Heap) (l : List Oper) (c : Ctx) (all : List Oper) (s : St) : j0t (some [(v, df, H)]) none l F G c all s = z0R l F G c all ⟨s.tm, H, df⟩ := rfl
noncomputable def binR (G : Tab) (op : BinOp) (t : TypeId) (k : Bool) (a b : Option AV) : Option AV := z0b a fun a => z0b b fun b => binA G op t k a b
theorem k1I (op : BinOp) (t : TypeId) (x y : Operand) (u : TypeId) (tm : T AV) (H : Heap) : opN (.binOp op t x y u) G tm H = z1i H (binR G op t (orB (z1q x) (z1q y)) (aev G tm x) (aev G tm y)) := rfl
theorem k5v (op : BinOp) (t : TypeId) (k : Bool) (a b : AV) : binR G op t k (some a) (some b) = binA G op t k a b := rfl
noncomputable def idxR (G : Tab) (t : TypeId) (a b : Option AV) : Option AV := z0b a fun a => z0b b fun b => z1e G t a b
theorem k1J (t : TypeId) (x y : Operand) (tm : T AV) (H : Heap) : opN (.indexAddr t x y) G tm H = z1i H (idxR G t (aev G tm x) (aev G tm y)) := rfl
theorem k5w (t : TypeId) (a b : AV) : idxR G t (some a) (some b) = z1e G t a b := rfl
noncomputable def k5x (G : Tab) (H : Heap) (t : TypeId) (ok : Bool) (a b : Option AV) : Option AV := z0b a fun a => z0b b fun b => z9H G H t ok a b
theorem j7o (t : TypeId) (x y : Operand) (ok : Bool) (tm : T AV) (H : Heap) : opN (.lookup t x y ok) G tm H = z1i H (k5x G H t ok (aev G tm x) (aev G tm y)) := rfl
theorem k1K (H : Heap) (t : TypeId) (ok : Bool) (a b : AV) : k5x G H t ok (some a) (some b) = z9H G H t ok a b := rfl
noncomputable def j9D (G : Tab) (H : Heap) (t : TypeId) (a b : Option AV) : Option Heap := z0b a fun a => z0b b fun b => z0P G H t a b
theorem j3z (t : TypeId) (x y : Operand) (c : Ctx) (tm : T AV) (df : List ADefer) (H : Heap) : opE (.store t x y) F G c tm df H = out1 df (j9D G H t (aev G tm x) (aev G tm y)) := rfl
theorem j7p (H : Heap) (t : TypeId) (a b : AV) : j9D G H t (some a) (some b) = z0P G H t a b := rfl
theorem k5y (df : List ADefer) (H : Heap) : out1 df (some H) = some [(z0X, df, H)] := rfl
theorem k5z (df : List ADefer) (v : AV) (H : Heap) : out2 df (some (v, H)) = some [(v, df, H)] := rfl
noncomputable def mapR (G : Tab) (H : Heap) (t : TypeId) (a b x : Option AV) : Option Heap := z0b a fun a => z0b b fun b => z0b x fun x => z4V G H t a b x
theorem k1L (t : TypeId) (x y z : Operand) (c : Ctx) (tm : T AV) (df : List ADefer) (H : Heap) : opE (.mapUpdate t x y z) F G c tm df H = out1 df (mapR G H t (aev G tm x) (aev G tm y) (aev G tm z)) := rfl
theorem k5A (H : Heap) (t : TypeId) (a b x : AV) : mapR G H t (some a) (some b) (some x) = z4V G H t a b x := rfl
noncomputable def mkR (G : Tab) (H : Heap) (t : TypeId) (a b : Option AV) : Option VH := z0b a fun a => z0b b fun b => z1r G H t a b
theorem k5B (t : TypeId) (x y : Operand) (tm : T AV) (H : Heap) : opN (.makeSlice t x y) G tm H = mkR G H t (aev G tm x) (aev G tm y) := rfl
theorem k9j (H : Heap) (t : TypeId) (a b : AV) : mkR G H t (some a) (some b) = z1r G H t a b := rfl
noncomputable def k5C (F : Fns) (G : Tab) (f : Option AV) (args : Option (List AV)) (df : List ADefer) (H : Heap) : Option (List EOut) :=
 z0b args fun args => orX (outs df (z0b f (q1M F args H))) (outs df (z0b f (extV G args H)))
theorem k9k (l : List EOut) (d : Option (List EOut)) : orX (some l) d = some l := rfl
theorem j7q (f : Operand) (as : Array Operand) (ts : Array TypeId) (c : Ctx) (tm : T AV) (df : List ADefer) (H : Heap) :
  opE (.call ⟨.value f, as, ts⟩) F G c tm df H = k5C F G (aev G tm f) (aevs G tm as.toList) df H := rfl
theorem k1M (f : FuncId) (first cap args : List AV) (df : List ADefer) (H : Heap) : k5C F G (some (.func (.func f) first cap)) (some args) df H = orX (outs df (F.call f (app first (app args cap)) H)) (outs df (extV G args H (.func (.func f) first cap))) := rfl
theorem k9l (as : Array Operand) (t : TypeId) (ts : List TypeId) (tm : T AV) (H : Heap) :
  opN (.call ⟨.builtin .len, as, (t :: ts).toArray⟩) G tm H = z1i H (z0b (aevs G tm as.toList) fun xs => fst1 xs (lenA G H t)) := rfl
theorem j7r (x : Operand) (tm : T AV) (H : Heap) : opN (.move x) G tm H = z1i H (aev G tm x) := rfl
theorem j0v (x : Operand) (tm : T AV) (H : Heap) : opN (.assign x) G tm H = z1i H (aev G tm x) := rfl
noncomputable def j7s (c a b : Option AV) : Option AV := z0b c fun v => match v with
 | .bool true => a
 | .bool false => b
 | _ => none
theorem j7t (x a b : Operand) (tm : T AV) (H : Heap) : opN (.pick x a b) G tm H = z1i H (j7s (aev G tm x) (aev G tm a) (aev G tm b)) := by
 show z1i H (z0b (aev G tm x) (q9A G tm a b)) = _
 unfold j7s
 cases aev G tm x with
 | none => rfl
 | some v => cases v <;> rfl
theorem j3A (a b : Option AV) : j7s (some (.bool true)) a b = a := rfl
theorem j3B (a b : Option AV) : j7s (some (.bool false)) a b = b := rfl
theorem k5D (op : UnOp) (t : TypeId) (x : Operand) (tm : T AV) (H : Heap) : opN (.unOp op t x) G tm H = z1i H (z0b (aev G tm x) (unA op)) := rfl
theorem k1N (t : TypeId) (x : Operand) (tm : T AV) (H : Heap) : opN (.box t x) G tm H = z0b (aev G tm x) (boxA H t) := rfl
theorem j3C (t : TypeId) (tm : T AV) (H : Heap) : opN (.alloc t) G tm H = z0b (G.zero t) (boxA H t) := rfl
theorem k5E (t : TypeId) (x : Operand) (f : Nat) (tm : T AV) (H : Heap) : opN (.fieldAddr t x f) G tm H = z1i H (z0b (aev G tm x) (z0h G t f)) := rfl
theorem j3D (t : TypeId) (x : Operand) (f : Nat) (tm : T AV) (H : Heap) : opN (.field t x f) G tm H = z1i H (z0b (aev G tm x) (q8c G t f)) := rfl
theorem j7u (t : TypeId) (x : Operand) (tm : T AV) (H : Heap) : opN (.load t x) G tm H = z1i H (z0b (aev G tm x) (loadPtr G H t)) := rfl
theorem k1O (x : Operand) (tm : T AV) (H : Heap) : opN (.nilCheck x) G tm H = z1i H (z0b (aev G tm x) nilCheckA) := rfl
theorem q7e (x : Operand) (i : Nat) (tm : T AV) (H : Heap) : opN (.extract x i) G tm H = z1i H (z0b (aev G tm x) (extractA i)) := rfl
theorem j3E (t : TypeId) (ps : List (Nat × Operand)) (tm : T AV) (H : Heap) : opN (.build t ps.toArray) G tm H = z1i H (z0b (z2O G tm ps) (z7y G t)) := rfl
theorem k5F (t : TypeId) (n : Nat) (ps : List (Nat × Operand)) (tm : T AV) (H : Heap) : opN (.buildSlice t n ps.toArray) G tm H = z0b (z2O G tm ps) (z0N G H t n) := rfl
theorem k5G (t : TypeId) (tm : T AV) (H : Heap) : opN (.makeMap t none) G tm H = some (.map H.next, H.push (.map [] 0)) := by
 show z3i H = _
 unfold z3i
 rw [z2o]
theorem q3y (tm : T AV) : z2O G tm [] = some [] := rfl
theorem q1s (tm : T AV) (i : Nat) (o : Operand) (l : List (Nat × Operand)) : z2O G tm ((i, o) :: l) = z2E (q9z i (aev G tm o)) (z2O G tm l) := rfl
theorem k1P (i : Nat) (v : AV) : q9z i (some v) = some (i, v) := rfl
theorem j0w (tm : T AV) (f : FuncId) : aev G tm (.func f) = some (.func (.func f) [] []) := rfl
theorem k3q (tm : T AV) (g : Nat) (h : Nat.blt g G.nglob = true) : aev G tm (.global g) = some (.ptr g 0) := by
 show (bif Nat.blt g G.nglob then some (AV.ptr g 0) else none) = _
 rw [h]; rfl
theorem j3F (e : TypeId) (n : Nat) (z : List AV) (off : Nat) : z1c (some (.big e n z)) off = if off < n then z[off % z.length]? else none := by
 show (bif Nat.blt off n then nth z (off % len z) else none) = _
 rw [z2F, z1f]
 by_cases h : off < n
 ·rw [if_pos h]
  have : Nat.blt off n = true := by simpa [Nat.blt_eq] using h
  rw [this]; rfl
 ·rw [if_neg h]
  have : Nat.blt off n = false := by
   cases hb : Nat.blt off n
   ·rfl
   ·exact absurd (z2p hb) h
  rw [this]; rfl
structure Grows (H H' : Heap) : Prop where
 next : H.next ≤ H'.next
 get : ∀ b, b < H.next → H'.blks.get b = H.blks.get b
theorem Grows.refl (H : Heap) : Grows H H := ⟨Nat.le_refl _, fun _ _ => rfl⟩
theorem Grows.trans {a b c : Heap} (h : Grows a b) (h' : Grows b c) : Grows a c :=
 ⟨Nat.le_trans h.next h'.next, fun x hx => by rw [h'.get x (Nat.lt_of_lt_of_le hx h.next), h.get x hx]⟩
theorem Grows.push (H : Heap) (o : ABlk) : Grows H (H.push o) := ⟨Nat.le_succ _, fun b hb => z0r H o (Nat.ne_of_lt hb)⟩
def Neat (H : Heap) : Prop := ∀ b o, H.blks.get b = some o → b < H.next
theorem Neat.push {H : Heap} (h : Neat H) (o : ABlk) : Neat (H.push o) := fun b o' hb => by
 rw [Heap.get_push] at hb
 split at hb
 ·rename_i e; rw [e]; exact Nat.lt_succ_self _
 ·exact Nat.lt_succ_of_lt (h b o' hb)
theorem Neat.put {H : Heap} (h : Neat H) {b : Nat} (hb : b < H.next) (o : Option ABlk) : Neat (z0i H b o) := fun x o' hx => by
 rw [Heap.get_put] at hx
 rw [Heap.next_put]
 split at hx
 ·rename_i e; rw [e]; exact hb
 ·exact h x o' hx
theorem z0k {P : Program} (TT : TabOk P G) {ov : Ov} (ho : OvOk P G ov) {n : Nat} {f : FuncId} {args : List AV} {H H' : Heap} {v : AV} (h : (fnsO G ov n).call f args H = some [(v, H')]) (hg : Grows H H') (hn : Neat H)
  (hv : ltV H.next v) : CallTo P G f args H [(v, H)] :=
 (z0I TT ho h).cut fun p hp => by
  simp only [List.mem_singleton] at hp; subst hp
  exact ⟨(v, H), List.mem_singleton.2 rfl, .pure hg.next hg.get hn hv⟩
end
end Go.Sx
namespace Go.Sx
section
variable {G : Tab} {F : Fns}
theorem AV.beq_refl' (v : AV) : AV.beq v v = true := by
 have hn : ∀ n : Nat, Nat.beq n n = true := fun n => Nat.beq_refl n
 have hb : ∀ b : Bool, bbeq b b = true := fun b => by cases b <;> rfl
 exact AV.rec (motive_1 := fun v => AV.beq v v = true) (motive_2 := fun l => AV.beqL l l = true)
  (fun b => by simp only [AV.beq]; exact hb b) (fun k n => by simp only [AV.beq, if_true, z5B, beq_self_eq_true]) (fun s => by simp only [AV.beq, z5A, beq_self_eq_true])
  (fun b o => by simp only [AV.beq, hn, cond_true]) (by simp only [AV.beq]) (fun b o l q c => by simp only [AV.beq, hn, hb, cond_true]) (by simp only [AV.beq]) (fun b o s c => by simp only [AV.beq, hn, cond_true, if_true]) (fun r => by simp only [AV.beq, hn])
  (by simp only [AV.beq]) (fun f x y hx hy => by simp only [AV.beq, if_true, hx, hy, cond_true]) (fun l => by simp only [AV.beq, hn]) (by simp only [AV.beq]) (fun t v h => by simp only [AV.beq, hn, h, cond_true])
  (by simp only [AV.beq]) (fun l h => by simp only [AV.beq, h]) (fun l h => by simp only [AV.beq, h]) (by simp only [AV.beqL]) (fun a l ha hl => by simp only [AV.beqL, ha, hl, cond_true]) v
noncomputable def z0j (l : List RO) (done : Nat) : Nat := List.rec (fun m => m) (fun r _ ih m => ih (Nat.lor m (Nat.pow 2 r.i))) l done
noncomputable def z1B (l : List RO) (done : Nat) : Bool := List.rec (fun _ => true) (fun r _ ih m => bif ready r m then (bif z1b r.kind then false else ih (Nat.lor m (Nat.pow 2 r.i))) else false) l done
noncomputable def z2k (m : Nat) (l : List RO) : Bool := List.rec true (fun r _ ih => bif Nat.testBit m r.i then ih else false) l
theorem z2c {α β γ : Type} (o : Option α) (f : α → Option β) (g : β → Option γ) : z0b (z0b o f) g = z0b o fun a => z0b (f a) g := by cases o <;> rfl
theorem z6j {α β : Type} (b : Bool) (x y : Option α) (f : α → Option β) : z0b (bif b then x else y) f = bif b then z0b x f else z0b y f := by cases b <;> rfl
theorem z3Z {α β : Type} (c : Ctx) (tm : T AV) (d : Option Tmp) (v : AV) (k : T AV → Option α) (f : α → Option β) : z0b (z1l c tm d v k) f = z1l c tm d v fun tm => z0b (k tm) f := by
 cases d with
 | none => rfl
 | some d => rw [z1V, z1V]; by_cases h : d < c.size <;> simp [h] <;> rfl
noncomputable def z3C (G : Tab) (c : Ctx) (all : List Oper) (r : RO) (d : DS) : Option DS :=
 bif z0O all r.o.guard d.s.tm then (z0b (opN r.o.op G d.s.tm d.s.h) fun p => z1l c d.s.tm r.o.dst p.1 fun tm => some ⟨Nat.lor d.done (Nat.pow 2 r.i), ⟨tm, p.2, d.s.df⟩, z3j r d.s.tm p.1 d.kept⟩)
 else z1l c d.s.tm r.o.dst z0X fun tm => some ⟨Nat.lor d.done (Nat.pow 2 r.i), ⟨tm, d.s.h, d.s.df⟩, d.kept⟩
noncomputable def runA (G : Tab) (c : Ctx) (all : List Oper) (l : List RO) (d : DS) : Option DS := List.rec (fun d => some d) (fun r _ ih d => z0b (z3C G c all r d) ih) l d
theorem z4n (c : Ctx) (all : List Oper) (r : RO) (l : List RO) (d : DS) : runA G c all (r :: l) d = z0b (z3C G c all r d) (runA G c all l) := rfl
theorem j7v {α β : Type} {o : Option α} {f : α → Option β} {b : β} (h : z0b o f = some b) : ∃ a, o = some a ∧ f a = some b := z0a h
theorem z6B {c : Ctx} {all : List Oper} {r : RO} {d d' : DS} (h : z3C G c all r d = some d') : d'.done = Nat.lor d.done (Nat.pow 2 r.i) := by
 unfold z3C at h
 cases hw : z0O all r.o.guard d.s.tm
 ·rw [hw, cond_false] at h
  obtain ⟨_, h⟩ := z0z h
  simp only [Option.some.injEq] at h; subst h; rfl
 ·rw [hw, cond_true] at h
  obtain ⟨p, _, h⟩ := z0a h
  obtain ⟨_, h⟩ := z0z h
  simp only [Option.some.injEq] at h; subst h; rfl
theorem z2H {c : Ctx} {all : List Oper} : ∀ {l : List RO} {d d' : DS}, runA G c all l d = some d' → d'.done = z0j l d.done
 | [], d, d', h => by have h : some d = some d' := h; simp only [Option.some.injEq] at h; subst h; rfl
 | r :: l, d, d', h => by
  obtain ⟨e, h1, h2⟩ := z0a h
  rw [z2H h2, z6B h1]; rfl
theorem z8v {c : Ctx} {r : RO} {d : DS} {k : DK} : z9T G c r d k = z0b (z0b (opN r.o.op G d.s.tm d.s.h) fun p => z1l c d.s.tm r.o.dst p.1 fun tm => some ⟨Nat.lor d.done (Nat.pow 2 r.i), ⟨tm, p.2, d.s.df⟩, z3j r d.s.tm p.1 d.kept⟩) k := by
 unfold z9T
 rw [z2c]
 congr 1; funext p
 rw [z3Z]
 congr 1; funext tm
 rw [z0s]; rfl
theorem z6k {c : Ctx} {r : RO} {d : DS} {k : DK} : z5Z c r d k = z0b (z1l c d.s.tm r.o.dst z0X fun tm => some ⟨Nat.lor d.done (Nat.pow 2 r.i), ⟨tm, d.s.h, d.s.df⟩, d.kept⟩) k := by
 unfold z5Z
 rw [z3Z]
 congr 1; funext tm
 rw [z0s]; rfl
theorem z3p {c : Ctx} {all : List Oper} {R : List RO} {k : DK} : ∀ {A : List RO} {d : DS}, z1B A d.done = true → z1p G c all (A ++ R) k d = z0b (runA G c all A d) (z1p G c all R k)
 | [], d, _ => rfl
 | r :: A, d, h => by
  have h : (bif ready r d.done then (bif z1b r.kind then false else z1B A (Nat.lor d.done (Nat.pow 2 r.i))) else false) = true := h
  cases hr : ready r d.done
  ·rw [hr] at h; simp at h
  ·cases ha : z1b r.kind
   ·rw [hr, ha] at h
    simp only [cond_true, cond_false] at h
    show (bif ready r d.done then (bif z0O all r.o.guard d.s.tm then z9T G c r d (z1p G c all (A ++ R) k) else z5Z c r d (z1p G c all (A ++ R) k)) else z1p G c all (A ++ R) k d) = _
    rw [hr, cond_true, z4n, z2c]
    have key : ∀ {o : Option DS}, (∀ e, o = some e → e.done = Nat.lor d.done (Nat.pow 2 r.i)) → z0b o (z1p G c all (A ++ R) k) = z0b o fun a => z0b (runA G c all A a) (z1p G c all R k) := by
     intro o ho
     cases o with
     | none => rfl
     | some e => exact z3p (by rw [ho e rfl]; exact h)
    have hd : ∀ e, z3C G c all r d = some e → e.done = Nat.lor d.done (Nat.pow 2 r.i) := fun e he => z6B he
    rw [← key hd]
    unfold z3C
    rw [z6j, z8v, z6k]
   ·rw [hr, ha] at h; simp at h
theorem z6C {c : Ctx} {all : List Oper} {k : DK} : ∀ {R : List RO} {d : DS}, z0m d.done R = true → z1p G c all R k d = k d
 | [], _, _ => rfl
 | r :: R, d, h => by
  have h : (bif ready r d.done then false else z0m d.done R) = true := h
  cases hr : ready r d.done
  ·rw [hr, cond_false] at h
   show (bif ready r d.done then _ else z1p G c all R k d) = _
   rw [hr, cond_false]; exact z6C h
  ·rw [hr] at h; simp at h
def z1O (l : List RO) : Prop := ∀ r ∈ l, r.kind = kindOf r.o.op
theorem q0A {c : Ctx} {all : List Oper} {r : RO} {d : DS} {rest : List Oper} (hk : r.kind = kindOf r.o.op) (he : z1g r.kind = false) :
  z0R (r.o :: rest) F G c all d.s = z0b (z3C G c all r d) fun d' => z0R rest F G c all d'.s := by
 rw [z6A]
 unfold z6R z3C
 rw [z6j]
 congr 1
 ·have : z3k (kindOf r.o.op) = runN := by
   rw [← hk]
   cases h : r.kind
   all_goals first | rfl | (rw [h] at he; simp [z1g] at he)
  rw [this]
  unfold runN
  rw [z2c]
  congr 1; funext p
  rw [z3Z]; rfl
 ·unfold z5Y
  rw [z3Z]; rfl
theorem z3q {r : RO} {A : List RO} {m : Nat} (h : z1B (r :: A) m = true) : ready r m = true ∧ z1b r.kind = false ∧ z1B A (Nat.lor m (Nat.pow 2 r.i)) = true := by
 have h : (bif ready r m then (bif z1b r.kind then false else z1B A (Nat.lor m (Nat.pow 2 r.i))) else false) = true := h
 cases hr : ready r m
 ·rw [hr] at h; simp at h
 ·cases ha : z1b r.kind
  ·rw [hr, ha] at h; exact ⟨rfl, rfl, h⟩
  ·rw [hr, ha] at h; simp at h
theorem z6l {r : RO} {m : Nat} (h : ready r m = true) : z1g r.kind = false := by
 unfold ready at h
 cases he : z1g r.kind
 ·rfl
 ·rw [he] at h; simp at h
theorem z2R {c : Ctx} {all : List Oper} {rest : List Oper} : ∀ {A : List RO} {d : DS} {m : Nat}, z1O A → z1B A m = true → z0R (A.map (·.o) ++ rest) F G c all d.s = z0b (runA G c all A d) fun d' => z0R rest F G c all d'.s
 | [], _, _, _, _ => rfl
 | r :: A, d, m, hk, h => by
  obtain ⟨h1, h2, h3⟩ := z3q h
  rw [List.map_cons, List.cons_append, q0A (hk r List.mem_cons_self) (z6l h1), z4n, z2c]
  congr 1; funext e
  exact z2R (fun r hr => hk r (List.mem_cons_of_mem _ hr)) h3
def Good (G : Tab) (H : Heap) (k : Kept) : Prop := z1b k.r.kind = false ∧ opN k.r.o.op G k.tm H = some (k.v, H)
theorem z9r {op : Op} (hk : z1b (kindOf op) = false) {tm : T AV} {H : Heap} {p : VH} (h : opN op G tm H = some p) : p.2 = H := by
 cases op
 case makeInterface t x =>
  obtain ⟨d, hd, h⟩ := z0a h
  obtain ⟨hn, h⟩ := z0e h
  exact (z0C (v := p.1) (H' := p.2) h).2
 case makeFunc fn a b =>
  obtain ⟨hp, h⟩ := z0e h
  exact (z0C (v := p.1) (H' := p.2) h).2
 all_goals first
  | exact (z0C (v := p.1) (H' := p.2) h).2
  | (exfalso; simp [kindOf, z1b] at hk; done)
  | (exfalso; have h : (none : Option VH) = some p := h; simp at h)
theorem j0x {c : Ctx} {all : List Oper} {r : RO} {d d' : DS} (hk : r.kind = kindOf r.o.op) (ha : z1b r.kind = false) (h : z3C G c all r d = some d') (hg : ∀ k ∈ d.kept, Good G d.s.h k) :
  d'.s.h = d.s.h ∧ (∀ k ∈ d'.kept, Good G d.s.h k) ∧ ∀ k ∈ d'.kept, k ∈ d.kept ∨ (k.r = r ∧ r.kind ≠ .pure) := by
 unfold z3C at h
 cases hw : z0O all r.o.guard d.s.tm
 ·rw [hw, cond_false] at h
  obtain ⟨_, h⟩ := z0z h
  simp only [Option.some.injEq] at h; subst h; exact ⟨rfl, hg, fun k hk => .inl hk⟩
 ·rw [hw, cond_true] at h
  obtain ⟨p, hp, h⟩ := z0a h
  obtain ⟨_, h⟩ := z0z h
  have e := z9r (by rw [← hk]; exact ha) hp
  simp only [Option.some.injEq] at h; subst h
  refine ⟨e, fun k hkk => ?_, fun k hkk => ?_⟩
  ·unfold z3j at hkk
   split at hkk
   ·exact hg k hkk
   ·rcases List.mem_cons.1 hkk with rfl | hkk
    ·exact ⟨ha, by show opN r.o.op G d.s.tm d.s.h = _; rw [hp, ← e]⟩
    ·exact hg k hkk
  ·unfold z3j at hkk
   split at hkk
   ·exact .inl hkk
   ·rename_i hne
    rcases List.mem_cons.1 hkk with rfl | hkk
    ·exact .inr ⟨rfl, fun e => hne e⟩
    ·exact .inl hkk
theorem q0B {c : Ctx} {all : List Oper} : ∀ {A : List RO} {m : Nat} {d d' : DS}, z1O A → z1B A m = true → runA G c all A d = some d' → (∀ k ∈ d.kept, Good G d.s.h k) →
  d'.s.h = d.s.h ∧ (∀ k ∈ d'.kept, Good G d.s.h k) ∧ ∀ k ∈ d'.kept, k ∈ d.kept ∨ (k.r ∈ A ∧ k.r.kind ≠ .pure)
 | [], _, d, d', _, _, h, hg => by have h : some d = some d' := h; simp only [Option.some.injEq] at h; subst h; exact ⟨rfl, hg, fun k hk => .inl hk⟩
 | r :: A, m, d, d', hk, hc, h, hg => by
  obtain ⟨h1, h2, h3⟩ := z3q hc
  obtain ⟨e, g1, g2⟩ := z0a h
  obtain ⟨a1, a2, a3⟩ := j0x (hk r List.mem_cons_self) h2 g1 hg
  obtain ⟨b1, b2, b3⟩ := q0B (fun r hr => hk r (List.mem_cons_of_mem _ hr)) h3 g2 (fun k hk => by rw [a1]; exact a2 k hk)
  rw [a1] at b1 b2
  refine ⟨b1, b2, fun k hkk => ?_⟩
  rcases b3 k hkk with h | ⟨h, h'⟩
  ·rcases a3 k h with h | ⟨h, h'⟩
   ·exact .inl h
   ·exact .inr ⟨by rw [h]; exact List.mem_cons_self, by rw [h]; exact h'⟩
  ·exact .inr ⟨List.mem_cons_of_mem _ h, h'⟩
theorem j3G {c : Ctx} {all : List Oper} {r : RO} {d d' : DS} (hk : r.kind = kindOf r.o.op) (ha : z1b r.kind = false) (h : z3C G c all r d = some d') :
  d'.s.h = d.s.h ∧ ∀ k ∈ d'.kept, k ∈ d.kept ∨ Good G d.s.h k := by
 unfold z3C at h
 cases hw : z0O all r.o.guard d.s.tm
 ·rw [hw, cond_false] at h
  obtain ⟨_, h⟩ := z0z h
  simp only [Option.some.injEq] at h; subst h; exact ⟨rfl, fun k hk => .inl hk⟩
 ·rw [hw, cond_true] at h
  obtain ⟨p, hp, h⟩ := z0a h
  obtain ⟨_, h⟩ := z0z h
  have e := z9r (by rw [← hk]; exact ha) hp
  simp only [Option.some.injEq] at h; subst h
  refine ⟨e, fun k hkk => ?_⟩
  unfold z3j at hkk
  split at hkk
  ·exact .inl hkk
  ·rcases List.mem_cons.1 hkk with rfl | hkk
   ·exact .inr ⟨ha, by show opN r.o.op G d.s.tm d.s.h = _; rw [hp, ← e]⟩
   ·exact .inl hkk
theorem z5H {c : Ctx} {all : List Oper} : ∀ {A : List RO} {m : Nat} {d d' : DS}, z1O A → z1B A m = true → runA G c all A d = some d' → d'.s.h = d.s.h ∧ ∀ k ∈ d'.kept, k ∈ d.kept ∨ Good G d.s.h k
 | [], _, d, d', _, _, h => by have h : some d = some d' := h; simp only [Option.some.injEq] at h; subst h; exact ⟨rfl, fun k hk => .inl hk⟩
 | r :: A, m, d, d', hk, hc, h => by
  obtain ⟨h1, h2, h3⟩ := z3q hc
  obtain ⟨e, g1, g2⟩ := z0a h
  obtain ⟨a1, a2⟩ := j3G (hk r List.mem_cons_self) h2 g1
  obtain ⟨b1, b2⟩ := z5H (fun r hr => hk r (List.mem_cons_of_mem _ hr)) h3 g2
  rw [a1] at b1 b2
  exact ⟨b1, fun k hkk => (b2 k hkk).elim (a2 k) .inr⟩
theorem z2d {H : Heap} {m : Nat} : ∀ {l : List Kept}, (∀ k ∈ l, Nat.testBit m k.r.i = true ∨ Good G H k) → z8H G H m l = true
 | [], _ => rfl
 | k :: l, h => by
  show (bif (bif Nat.testBit m k.r.i then true else z4K G H k) then z8H G H m l else false) = true
  rw [z2d fun k hk => h k (List.mem_cons_of_mem _ hk)]
  rcases h k List.mem_cons_self with h | ⟨h1, h2⟩
  ·rw [h]; rfl
  ·unfold z4K
   rw [h1, cond_false, h2]
   show (bif (bif Nat.testBit m k.r.i then true else AV.beq k.v k.v) then true else false) = true
   rw [AV.beq_refl']; cases Nat.testBit m k.r.i <;> rfl
theorem z3r : ∀ {l : List Oper} {i : Nat} {acc : T Nat} {rs : List RO}, z2U l i acc = some rs → rs.map (·.o) = l ∧ z1O rs
 | [], _, _, rs, h => by have h : some [] = some rs := h; simp only [Option.some.injEq] at h; subst h; exact ⟨rfl, fun r hr => by simp at hr⟩
 | o :: l, i, acc, rs, h => by
  have h : (z0b (q9C acc i o.after.toList 0) fun m => z1x m fun m => acc.setK i (some m) fun acc' => z1x (i + 1) fun i' => z2C ⟨i, o, m, kindOf o.op⟩ (z2U l i' acc')) = some rs := h
  obtain ⟨m, hm, h⟩ := z0a h
  rw [z0s, T.setK_eq, z0s] at h
  cases hrs : z2U l (i + 1) (acc.set i (some m)) with
  | none => rw [hrs] at h; simp [z2C] at h
  | some rs' =>
   rw [hrs] at h
   simp only [z2C, Option.some.injEq] at h
   subst h
   obtain ⟨h1, h2⟩ := z3r hrs
   refine ⟨by simp [h1], fun r hr => ?_⟩
   rcases List.mem_cons.1 hr with rfl | hr
   ·rfl
   ·exact h2 r hr
noncomputable def z4o (done : Nat) (rs : List RO) : Bool := match z0T done rs with | none => true | some _ => false
theorem z8w {done : Nat} {rs : List RO} (h : z4o done rs = true) : z0T done rs = none := by
 unfold z4o at h
 split at h
 ·assumption
 ·simp at h
theorem q2f {done : Nat} {e : RO} {B : List RO} : ∀ {A : List RO} {m : Nat}, z1B A m = true → z1g e.kind = true → Nat.testBit done e.i = false → z0T done (A ++ e :: B) = some e
 | [], _, _, he, hb => by
  show (bif z1g e.kind then (bif Nat.testBit done e.i then z0T done B else some e) else z0T done B) = some e
  rw [he, hb]; rfl
 | r :: A, m, h, he, hb => by
  obtain ⟨h1, h2, h3⟩ := z3q h
  show (bif z1g r.kind then (bif Nat.testBit done r.i then z0T done (A ++ e :: B) else some r) else z0T done (A ++ e :: B)) = some e
  rw [z6l h1]; exact q2f h3 he hb
theorem j3H {all : List Oper} {rs : List RO} (hp : z2U all 0 .e = some rs) (ho : z4f all rs rs = true) (hc : z1B rs 0 = true) (hn : z0m (z0j rs 0) rs = true) (he : z4o (z0j rs 0) rs = true)
  (c : Ctx) (s : St) : z1u F G c all s = z0R all F G c all s := by
 obtain ⟨h1, h2⟩ := z3r hp
 have e1 : z0R all F G c all s = z0b (runA G c all rs ⟨0, s, []⟩) fun d' => some [d'.s] := by
  have := z2R (G := G) (F := F) (c := c) (all := all) (rest := []) (d := ⟨0, s, []⟩) h2 hc
  rw [h1, List.append_nil] at this
  exact this
 have e2 : z1u F G c all s = z1p G c all rs (z0A F G c all rs (z0L F G c all rs 99) 0) ⟨0, s, []⟩ := by
  unfold z1u z9U
  rw [hp]
  show (bif z4f all rs rs then _ else none) = _
  rw [ho]; rfl
 have e3 := z3p (G := G) (c := c) (all := all) (R := []) (k := z0A F G c all rs (z0L F G c all rs 99) 0) (A := rs) (d := ⟨0, s, []⟩) hc
 rw [List.append_nil] at e3
 rw [e1, e2, e3]
 cases hr : runA G c all rs ⟨0, s, []⟩ with
 | none => rfl
 | some d' =>
  have hd := z2H hr
  have hg := q0B h2 hc hr (fun k hk => by simp at hk)
  show z0A F G c all rs (z0L F G c all rs 99) 0 d' = some [d'.s]
  unfold z0A z3G
  have hd : d'.done = z0j rs 0 := hd
  rw [hd, hn, cond_true, z2d (fun k hk => .inr (by rw [hg.1]; exact hg.2.1 k hk)), cond_true, z8w he]
  rfl
theorem j7w {all : List Oper} {A B : List RO} {e : RO} (hp : z2U all 0 .e = some (A ++ e :: B)) (ho : z4f all (A ++ e :: B) (A ++ e :: B) = true) (hc : z1B A 0 = true) (hee : z1g e.kind = true)
  (h1 : Nat.testBit (z0j A 0) e.i = false) (h2 : z0m (z0j A 0) (e :: B) = true) (h3 : z0m (z0j A 0) (A ++ e :: B) = true) (h4 : sub e.pre (z0j A 0) = true)
  (h5 : z0F e (z0j A 0) (A ++ e :: B) = true) (h6 : z2k e.pre A = true) (h7 : z0m (Nat.lor (z0j A 0) (Nat.pow 2 e.i)) (A ++ [e]) = true) (h8 : z1B B (Nat.lor (z0j A 0) (Nat.pow 2 e.i)) = true)
  (h10 : z0m (z0j B (Nat.lor (z0j A 0) (Nat.pow 2 e.i))) (A ++ e :: B) = true) (h11 : z4o (z0j B (Nat.lor (z0j A 0) (Nat.pow 2 e.i))) (A ++ e :: B) = true)
  (c : Ctx) (s : St) : z1u F G c all s = z0R all F G c all s := by
 obtain ⟨q1, q2⟩ := z3r hp
 have kA : z1O A := fun r hr => q2 r (List.mem_append.2 (.inl hr))
 have kB : z1O B := fun r hr => q2 r (List.mem_append.2 (.inr (List.mem_cons_of_mem _ hr)))
 have e1 : z0R all F G c all s = z0b (runA G c all A ⟨0, s, []⟩) fun d' => z0R (e.o :: B.map (·.o)) F G c all d'.s := by
  have := z2R (G := G) (F := F) (c := c) (all := all) (rest := e.o :: B.map (·.o)) (d := ⟨0, s, []⟩) kA hc
  rw [← this, ← q1]; simp
 have e2 : z1u F G c all s = z1p G c all (A ++ e :: B) (z0A F G c all (A ++ e :: B) (z0L F G c all (A ++ e :: B) 99) 0) ⟨0, s, []⟩ := by
  unfold z1u z9U
  rw [hp]
  show (bif z4f all (A ++ e :: B) (A ++ e :: B) then _ else none) = _
  rw [ho]; rfl
 rw [e1, e2, z3p hc]
 cases hr : runA G c all A ⟨0, s, []⟩ with
 | none => rfl
 | some d =>
  have hd : d.done = z0j A 0 := z2H hr
  obtain ⟨g1, g2, g3⟩ := q0B kA hc hr (fun k hk => by simp at hk)
  show z1p G c all (e :: B) (z0A F G c all (A ++ e :: B) (z0L F G c all (A ++ e :: B) 99) 0) d = z0R (e.o :: B.map (·.o)) F G c all d.s
  rw [z6C (by rw [hd]; exact h2)]
  -- what comes behind the effect
  have tail : ∀ (s' : St), z0L F G c all (A ++ e :: B) 99 e.pre ⟨Nat.lor d.done (Nat.pow 2 e.i), s', d.kept⟩ = z0R (B.map (·.o)) F G c all s' := by
   intro s'
   have t1 := z3p (G := G) (c := c) (all := all) (R := []) (k := z0A F G c all (A ++ e :: B) (z0L F G c all (A ++ e :: B) 98) e.pre) (A := B) (d := ⟨Nat.lor d.done (Nat.pow 2 e.i), s', d.kept⟩) (by rw [hd]; exact h8)
   have t2 := z2R (G := G) (F := F) (c := c) (all := all) (rest := []) (d := ⟨Nat.lor d.done (Nat.pow 2 e.i), s', d.kept⟩) kB h8
   rw [List.append_nil] at t1 t2
   have t3 : z0L F G c all (A ++ e :: B) 99 e.pre ⟨Nat.lor d.done (Nat.pow 2 e.i), s', d.kept⟩ = z1p G c all B (z0A F G c all (A ++ e :: B) (z0L F G c all (A ++ e :: B) 98) e.pre) ⟨Nat.lor d.done (Nat.pow 2 e.i), s', d.kept⟩ := by
    show z1p G c all (A ++ e :: B) _ _ = _
    have : ∀ (X : List RO) (d₀ : DS), z0m d₀.done X = true → ∀ (R : List RO) (k : DK), z1p G c all (X ++ R) k d₀ = z1p G c all R k d₀ := by
     intro X
     induction X with
     | nil => intro _ _ _ _; rfl
     | cons x X ih =>
      intro d₀ h R k
      have h : (bif ready x d₀.done then false else z0m d₀.done X) = true := h
      cases hx : ready x d₀.done
      ·rw [hx, cond_false] at h
       show (bif ready x d₀.done then _ else z1p G c all (X ++ R) k d₀) = _
       rw [hx, cond_false]; exact ih d₀ h R k
      ·rw [hx] at h; simp at h
    have r := this (A ++ [e]) ⟨Nat.lor d.done (Nat.pow 2 e.i), s', d.kept⟩ (by show z0m (Nat.lor d.done _) _ = true; rw [hd]; exact h7) B
    rw [List.append_assoc] at r
    exact r _
   rw [t3, t1]
   refine Eq.trans ?_ t2.symm
   cases hb : runA G c all B ⟨Nat.lor d.done (Nat.pow 2 e.i), s', d.kept⟩ with
   | none => rfl
   | some d' =>
    have hd' : d'.done = z0j B (Nat.lor (z0j A 0) (Nat.pow 2 e.i)) := by rw [z2H hb, hd]
    obtain ⟨n1, n2⟩ := z5H kB h8 hb
    show z0A F G c all (A ++ e :: B) (z0L F G c all (A ++ e :: B) 98) e.pre d' = some [d'.s]
    unfold z0A z3G
    rw [hd', h10, cond_true, z8w h11, z2d]
    ·rfl
    ·intro k hk
     rcases n2 k hk with hk | hk
     case inr => exact .inr (by rw [n1]; exact hk)
     refine .inl ?_
     rcases g3 k hk with h | ⟨h, _⟩
     ·simp at h
     ·have : ∀ {A : List RO}, z2k e.pre A = true → ∀ r ∈ A, Nat.testBit e.pre r.i = true := by
       intro A
       induction A with
       | nil => intro _ r hr; simp at hr
       | cons x A ih =>
        intro h r hr
        have h : (bif Nat.testBit e.pre x.i then z2k e.pre A else false) = true := h
        cases hx : Nat.testBit e.pre x.i
        ·rw [hx] at h; simp at h
        ·rw [hx] at h
         rcases List.mem_cons.1 hr with rfl | hr
         ·exact hx
         ·exact ih h r hr
      exact this h6 _ h
  unfold z0A z3G
  rw [hd, h3, cond_true, z2d (fun k hk => .inr (by rw [g1]; exact g2 k hk)), cond_true, q2f hc hee h1]
  show (bif sub e.pre d.done then (bif z0F e d.done (A ++ e :: B) then z2V F G c all e d (z0L F G c all (A ++ e :: B) 99 e.pre) else none) else none) = _
  rw [hd, h4, h5, cond_true, cond_true]
  rw [z6A]
  unfold z2V z6R
  congr 1
  ·have : z3k (kindOf e.o.op) = runE := by
    rw [← q2 e (List.mem_append.2 (.inr List.mem_cons_self))]
    cases h : e.kind
    all_goals first | rfl | (rw [h] at hee; simp [z1g] at hee)
   rw [this]
   unfold q2N runE
   congr 1; funext p
   congr 1; funext tm
   rw [z0s]; exact tail _
  ·unfold z5y z5Y
   congr 1; funext tm
   rw [z0s]; exact tail _
noncomputable def z1W (l : List RO) : List RO × List RO := List.rec ([], []) (fun r l ih => bif z1g r.kind then ([], r :: l) else (r :: ih.1, ih.2)) l
theorem q3z (l : List RO) : (z1W l).1 ++ (z1W l).2 = l := by
 induction l with
 | nil => rfl
 | cons r l ih =>
  show (bif z1g r.kind then (([] : List RO), r :: l) else (r :: (z1W l).1, (z1W l).2)).1 ++ (bif z1g r.kind then ([], r :: l) else (r :: (z1W l).1, (z1W l).2)).2 = r :: l
  cases z1g r.kind
  ·simp [ih]
  ·rfl
noncomputable def andL (l : List Bool) : Bool := List.rec true (fun b _ ih => bif b then ih else false) l
theorem z3K {l : List Bool} (h : andL l = true) : ∀ b ∈ l, b = true := by
 induction l with
 | nil => intro b hb; simp at hb
 | cons x l ih =>
  intro b hb
  have h : (bif x then andL l else false) = true := h
  cases x
  ·simp at h
  ·rcases List.mem_cons.1 hb with rfl | hb
   ·rfl
   ·exact ih h b hb
noncomputable def k5H (all : List Oper) (rs : List RO) (p : List RO × List RO) : Bool :=
 match p.2 with
 | [] => andL [z4f all rs rs, z1B rs 0, z0m (z0j rs 0) rs, z4o (z0j rs 0) rs]
 | e :: B => andL [z4f all rs rs, z1B p.1 0, z1g e.kind, bnot (Nat.testBit (z0j p.1 0) e.i), z0m (z0j p.1 0) (e :: B), z0m (z0j p.1 0) rs, sub e.pre (z0j p.1 0), z0F e (z0j p.1 0) rs, z2k e.pre p.1,
   z0m (Nat.lor (z0j p.1 0) (Nat.pow 2 e.i)) (p.1 ++ [e]), z1B B (Nat.lor (z0j p.1 0) (Nat.pow 2 e.i)), z0m (z0j B (Nat.lor (z0j p.1 0) (Nat.pow 2 e.i))) rs, z4o (z0j B (Nat.lor (z0j p.1 0) (Nat.pow 2 e.i))) rs]
noncomputable def z6m (all : List Oper) : Bool := match z2U all 0 .e with
 | none => false
 | some rs => k5H all rs (z1W rs)
theorem j0y {all : List Oper} (h : z6m all = true) (c : Ctx) (s : St) : z1u F G c all s = z0R all F G c all s := by
 unfold z6m at h
 split at h
 ·simp at h
 ·rename_i rs hp
  have hs := q3z rs
  generalize z1W rs = p at h hs
  obtain ⟨A, R⟩ := p
  simp only at hs
  subst hs
  cases R with
  | nil =>
   have h := z3K (show andL [z4f all (A ++ []) (A ++ []), z1B (A ++ []) 0, z0m (z0j (A ++ []) 0) (A ++ []), z4o (z0j (A ++ []) 0) (A ++ [])] = true from h)
   simp only [List.mem_cons, List.not_mem_nil, or_false, forall_eq_or_imp, forall_eq] at h
   exact j3H hp h.1 h.2.1 h.2.2.1 h.2.2.2 c s
  | cons e B =>
   have h := z3K (show andL [z4f all (A ++ e :: B) (A ++ e :: B), z1B A 0, z1g e.kind, bnot (Nat.testBit (z0j A 0) e.i), z0m (z0j A 0) (e :: B), z0m (z0j A 0) (A ++ e :: B), sub e.pre (z0j A 0),
    z0F e (z0j A 0) (A ++ e :: B), z2k e.pre A, z0m (Nat.lor (z0j A 0) (Nat.pow 2 e.i)) (A ++ [e]), z1B B (Nat.lor (z0j A 0) (Nat.pow 2 e.i)),
    z0m (z0j B (Nat.lor (z0j A 0) (Nat.pow 2 e.i))) (A ++ e :: B), z4o (z0j B (Nat.lor (z0j A 0) (Nat.pow 2 e.i))) (A ++ e :: B)] = true from h)
   simp only [List.mem_cons, List.not_mem_nil, or_false, forall_eq_or_imp, forall_eq] at h
   obtain ⟨a1, a2, a3, a4, a5, a6, a7, a8, a9, a10, a11, a13, a14⟩ := h
   have h1 : Nat.testBit (z0j A 0) e.i = false := by
    rw [z4h] at a4; simpa using a4
   exact j7w hp a1 a2 a3 h1 a5 a6 a7 a8 a9 a10 a11 a13 a14 c s
theorem z3O {all : List Oper} (i : Nat) (h : z6m all = true) (c : Ctx) (s : St) : z3H i all.toArray true F G c s = z1S (z0R all F G c all s) := by
 show z1S (z1u F G c all s) = _
 rw [j0y h]
end
end Go.Sx
namespace Go.Sx
section
variable {P : Program} {G : Tab}
def Then (o : Outs) (Q : Ex → St → Prop) : Prop := ∃ l, o = some l ∧ ∀ p ∈ l, Q p.1 p.2
theorem q8L (e : Ex) (s : St) (Q : Ex → St → Prop) : Then (some [(e, s)]) Q = Q e s := by
 refine propext ⟨fun ⟨l, h, hq⟩ => ?_, fun h => ⟨_, rfl, fun p hp => ?_⟩⟩
 ·simp only [Option.some.injEq] at h; subst h; exact hq _ (List.mem_singleton.2 rfl)
 ·rw [List.mem_singleton.1 hp]; exact h
theorem Gets.runs (TT : TabOk P G) {ov : Ov} (ho : OvOk P G ov) (n : Nat) {c : Ctx} {x : Code} {s : St} {Q : Ex → St → Prop} (h : Then (z1v x (fnsO G ov n) G c s) Q) : Gets P G c x s Q := by
 obtain ⟨l, h1, h2⟩ := h
 exact (Gets.of_runs (j0o TT ho n x) h1).mono fun e s' h => h2 (e, s') h
mutual
theorem z4y {b a c : Nat → Nat} {r r' : Nat → Obj → Prop} {o o' : World} : ∀ v, conc ⟨b, a, c, r', o'⟩ v = conc ⟨b, a, c, r, o⟩ v
 | .bool _ => rfl
 | .int _ _ => rfl
 | .str _ => rfl
 | .ptr _ _ => rfl
 | .nilptr => rfl
 | .slice _ _ _ _ _ => rfl
 | .nilslice => rfl
 | .odd _ _ _ _ => rfl
 | .map _ => rfl
 | .nilmap => rfl
 | .func _ x y => by simp only [conc, z3e (r := r) (r' := r') (o := o) (o' := o') x, z3e (r := r) (r' := r') (o := o) (o' := o') y]
 | .yld _ => rfl
 | .nilFunc => rfl
 | .iface _ v => by simp only [conc, z4y (r := r) (r' := r') (o := o) (o' := o') v]
 | .nilIface => rfl
 | .agg cs => by simp only [conc, z3e (r := r) (r' := r') (o := o) (o' := o') cs]
 | .tuple cs => by simp only [conc, z3e (r := r) (r' := r') (o := o) (o' := o') cs]
theorem z3e {b a c : Nat → Nat} {r r' : Nat → Obj → Prop} {o o' : World} : ∀ l, concL ⟨b, a, c, r', o'⟩ l = concL ⟨b, a, c, r, o⟩ l
 | [] => rfl
 | v :: l => by simp only [concL, z4y (r := r) (r' := r') (o := o) (o' := o') v, z3e (r := r) (r' := r') (o := o) (o' := o') l]
end
mutual
theorem q5h {b a c : Nat → Nat} {r r' : Nat → Obj → Prop} {o o' : World} {D : Nat → Prop} : ∀ v, okV ⟨b, a, c, r, o⟩ D v → okV ⟨b, a, c, r', o'⟩ D v
 | .bool _, _ => trivial
 | .int _ _, _ => trivial
 | .str _, _ => trivial
 | .ptr _ _, h => h
 | .nilptr, _ => trivial
 | .slice _ _ _ _ _, h => h
 | .nilslice, _ => trivial
 | .odd _ _ _ _, _ => trivial
 | .map _, h => h
 | .nilmap, _ => trivial
 | .func _ x y, h => ⟨h.1, z3L x h.2.1, z3L y h.2.2⟩
 | .yld _, h => h
 | .nilFunc, _ => trivial
 | .iface _ v, h => q5h v h
 | .nilIface, _ => trivial
 | .agg cs, h => z3L cs h
 | .tuple cs, h => z3L cs h
theorem z3L {b a c : Nat → Nat} {r r' : Nat → Obj → Prop} {o o' : World} {D : Nat → Prop} : ∀ l, okL ⟨b, a, c, r, o⟩ D l → okL ⟨b, a, c, r', o'⟩ D l
 | [], _ => trivial
 | v :: l, h => ⟨q5h v h.1, z3L l h.2⟩
end
theorem CallTo.closed (TT : TabOk P G) {m : Nat} {f : FuncId} {H0 : Heap} (h : q6S ((fns G m).call f [] H0) = true) (hg : G.nglob ≤ H0.next) (hbig : ∀ b o, H0.blks.get b = some o → z1y (some o) ∧ ltB H0.next o) {H : Heap}
  (hsub : ∀ b o, H0.blks.get b = some o → H.blks.get b = some o) : CallTo P G f [] H [(.bool true, H)] := by
 intro ρ D w kind cs hH ha
 cases ho : (fns G m).call f [] H0 with
 | none => rw [ho] at h; simp [q6S] at h
 | some l =>
  rw [ho] at h
  obtain ⟨bl, ba, ca, re, og⟩ := ρ
  have hR : HRel G ⟨bl, ba, ca, fun i o => w.heap[i]? = some o, w⟩ (fun b => D b ∧ b < H0.next) w H0 := by
   refine ⟨fun b hb => hb.2, fun g hgl => ⟨⟨(hH.glob g hgl).1, Nat.lt_of_lt_of_le hgl hg⟩, (hH.glob g hgl).2⟩, fun b b' o o' hb hb' ho ho' e => hH.inj b b' o o' hb.1 hb'.1 (hsub b o ho) (hsub b' o' ho') e,
    fun b o hb ho => ?_, fun i o hi => ⟨hi, fun b hb _ => ?_⟩, .refl _⟩
   ·have hb1 := hH.blk b o hb.1 (hsub b o ho)
    obtain ⟨s1, s2⟩ := hbig b o ho
    cases o with
    | big e n z =>
     obtain ⟨q1, arr, el, fz, q2, q3, q4⟩ := hb1
     refine ⟨z3L z (z3J z q1 s2), arr, el, fz, q2, q3, fun i v hi hv => ?_⟩
     rw [q4 i v hi hv]; exact congrArg some (z4y v)
    | fix e l =>
     obtain ⟨q1, el, fz, q2⟩ := hb1
     refine ⟨z3L l (z3J l q1 s2), el, fz, ?_⟩
     rw [q2]
     exact congrArg (fun x => some (Obj.cells (List.toArray x) el fz)) (z3e l)
    | _ => exact s1.elim
   ·cases hb2 : H0.blks.get b with
    | none => trivial
    | some o => exact (hbig b o hb2).1
  obtain ⟨h0, p, hp, ρ', D', w', fr, h1, h2, h3, h4, h5, h6, h7, h8, fn, h9, h10⟩ := (z3B TT m).call f [] H0 l ho _ _ w kind cs hR ha
  have hp1 : p.1 = .bool true := z8s h p hp
  have hheap : ∀ (i : Nat) (o : Obj), w.heap[i]? = some o → w'.heap[i]? = some o := fun i o hi => (h1.rest i o (by rw [h2.sub.rest]; exact hi)).1
  have hkin : Kin w w' := by have := h1.kin; rw [h2.sub.orig] at this; exact this
  refine ⟨h0, (.bool true, H), List.mem_singleton.2 rfl, ⟨bl, ba, ca, re, og⟩, D, w', fr, ⟨hH.lt, hH.glob, hH.inj, fun b o hb ho => ?_, fun i o hi => ?_, hH.kin.trans hkin⟩, .refl _ _ _, trivial, h4, h5, h6, h7, h8, fn, h9, ?_⟩
  ·have hb1 := hH.blk b o hb ho
   refine hb1.sub (.refl _ _) hb ?_
   obtain ⟨x, hx⟩ : ∃ x, w.heap[bl b]? = some x := ⟨_, Array.getElem?_eq_getElem hb1.stands⟩
   exact (hheap _ x hx).trans hx.symm
  ·exact ⟨hheap i o (hH.rest i o hi).1, (hH.rest i o hi).2⟩
  ·rw [hp1] at h10; exact h10
end
end Go.Sx
namespace Go.Sx
section
variable {P : Program} {G : Tab} {c : Ctx} {s : St} {Q : Ex → St → Prop}
open Classical in
noncomputable def ptO (ov : Ov) (f : FuncId) (A : List AV) (H : Heap) (outs : List VH) : Ov := fun f' a h => if f' = f ∧ a = A ∧ h = H then some outs else ov f' a h
theorem z0g {ov : Ov} (ho : OvOk P G ov) {f : FuncId} {A : List AV} {H : Heap} {outs : List VH} (h : CallTo P G f A H outs) : OvOk P G (ptO ov f A H outs) := by
 intro f' a h' outs' hh
 unfold ptO at hh
 split at hh
 ·rename_i e
  obtain ⟨rfl, rfl, rfl⟩ := e
  simp only [Option.some.injEq] at hh; subst hh; exact h
 ·exact ho _ _ _ _ hh
theorem z0B (ov : Ov) (f : FuncId) (A : List AV) (H : Heap) (outs : List VH) : ptO ov f A H outs f A H = some outs := by unfold ptO; rw [if_pos ⟨rfl, rfl, rfl⟩]
theorem z3P (ov : Ov) {f f' : FuncId} (h : f' ≠ f) (A A' : List AV) (H H' : Heap) (outs : List VH) : ptO ov f A H outs f' A' H' = ov f' A' H' := by unfold ptO; rw [if_neg fun e => h e.1]
noncomputable def noOv : Ov := fun _ _ _ => none
theorem z0d : OvOk P G noOv := fun _ _ _ _ h => by simp [noOv] at h
theorem Gets.last (TT : TabOk P G) {ov : Ov} (ho : OvOk P G ov) (n : Nat) {x : Code} {s' : St} (h : z1v x (fnsO G ov n) G c s = some [(.normal, s')]) (h' : Q .normal s') : Gets P G c x s Q :=
 Gets.runs TT ho n ⟨_, h, fun p hp => by rw [List.mem_singleton.1 hp]; exact h'⟩
theorem Gets.skip (TT : TabOk P G) (h : Q .normal s) : Gets P G c .skip s Q := Gets.last TT (ov := noOv) z0d 0 rfl h
theorem Gets.ret (TT : TabOk P G) (h : Q .ret s) : Gets P G c .ret s Q := Gets.runs TT (ov := noOv) z0d 0 (by show Then (some [(.ret, s)]) Q; rw [q8L]; exact h)
theorem Gets.exit (TT : TabOk P G) {i : Nat} (h : Q (.exit i) s) : Gets P G c (.exit i) s Q := Gets.runs TT (ov := noOv) z0d 0 (by show Then (some [(.exit i, s)]) Q; rw [q8L]; exact h)
theorem Gets.condT {v : Operand} {x y : Code} (hv : aev G s.tm v = some (.bool true)) (h : Gets P G c x s Q) : Gets P G c (.cond v x y) s Q := Gets.cond hv h
theorem Gets.condF {v : Operand} {x y : Code} (hv : aev G s.tm v = some (.bool false)) (h : Gets P G c y s Q) : Gets P G c (.cond v x y) s Q := Gets.cond hv h
def z9e (id : Nat) (Q : Ex → St → Prop) : Ex → St → Prop := fun e s' => match e with
 | .exit j => if j = id then Q .normal s' else Q (.exit j) s'
 | e => Q e s'
theorem Gets.blk {id : Nat} {x : Code} (h : Gets P G c x s (z9e id Q)) : Gets P G c (.block id x) s Q :=
 Gets.block (h.mono fun e s' h => by cases e <;> exact h)
theorem z2r {id : Nat} (h : Q .normal s) : z9e id Q .normal s := h
theorem j3I {id : Nat} (h : Q .ret s) : z9e id Q .ret s := h
theorem z2v {id : Nat} (h : Q .normal s) : z9e id Q (.exit id) s := by show (if id = id then _ else _); rw [if_pos rfl]; exact h
theorem z7m {id j : Nat} (hj : j ≠ id) (h : Q (.exit j) s) : z9e id Q (.exit j) s := by show (if j = id then _ else _); rw [if_neg hj]; exact h
def q5i (I : Nat → St → Prop) (m : Nat) (Q : Ex → St → Prop) : Ex → St → Prop := fun e s' => match e with
 | .normal => ∃ m', m' < m ∧ I m' s'
 | e => Q e s'
theorem Gets.forI {id : Nat} {x : Code} (I : Nat → St → Prop) (m : Nat) (h0 : I m s) (h : ∀ m s, I m s → Gets P G c x s (q5i I m (z9e id Q))) : Gets P G c (.block id (.loop x)) s Q :=
 Gets.blk (Gets.loop (I := I) (fun m s hI => (h m s hI).mono fun e s' h => by cases e <;> exact h) m s h0)
theorem k3r {I : Nat → St → Prop} {m : Nat} (h : Q .ret s) : q5i I m Q .ret s := h
theorem k1Q {I : Nat → St → Prop} {m i : Nat} (h : Q (.exit i) s) : q5i I m Q (.exit i) s := h
theorem k1R {I : Nat → St → Prop} {m m' : Nat} (hm : m' < m) (h : I m' s) : q5i I m Q .normal s := ⟨m', hm, h⟩
theorem Gets.mid {x : Code} {I : St → Prop} (h : Gets P G c x s fun e s' => e = .normal ∧ I s') (h' : ∀ s', I s' → Q .normal s') : Gets P G c x s Q :=
 h.mono fun e s' h => by obtain ⟨rfl, h⟩ := h; exact h' s' h
theorem Gets.midA {x : Code} {H : Heap} {I : T AV → Prop} (h : Gets P G c x s fun e s' => e = .normal ∧ ∃ tm, s' = ⟨tm, H, []⟩ ∧ I tm) (h' : ∀ tm, I tm → Q .normal ⟨tm, H, []⟩) : Gets P G c x s Q :=
 h.mono fun e s' h => by obtain ⟨rfl, tm, rfl, h⟩ := h; exact h' tm h
theorem Gets.upto {id : Nat} {x : Code} {H : Heap} (n : Nat) (I : Nat → T AV → Prop) {tm : T AV} (h0 : I 0 tm)
  (h : ∀ i tm, i ≤ n → I i tm → Gets P G c x ⟨tm, H, []⟩ fun e s' => match e with
   | .normal => ∃ tm', s' = ⟨tm', H, []⟩ ∧ i < n ∧ I (i + 1) tm'
   | e => z9e id Q e s') : Gets P G c (.block id (.loop x)) ⟨tm, H, []⟩ Q :=
 Gets.forI (I := fun m s => ∃ i tm, i ≤ n ∧ m = n - i ∧ s = ⟨tm, H, []⟩ ∧ I i tm) n ⟨0, tm, Nat.zero_le _, rfl, rfl, h0⟩ fun m s ⟨i, tm, hi, hm, hs, hI⟩ => by
  subst hs
  refine (h i tm hi hI).mono fun e s' h => ?_
  cases e with
  | normal =>
   obtain ⟨tm', rfl, hlt, hI'⟩ := h
   exact ⟨n - (i + 1), by omega, i + 1, tm', hlt, rfl, rfl, hI'⟩
  | _ => exact h
theorem Gets.midH {x : Code} {I : T AV → Heap → Prop} (h : Gets P G c x s fun e s' => e = .normal ∧ ∃ tm H, s' = ⟨tm, H, []⟩ ∧ I tm H) (h' : ∀ tm H, I tm H → Q .normal ⟨tm, H, []⟩) : Gets P G c x s Q :=
 h.mono fun e s' h => by obtain ⟨rfl, tm, H, rfl, h⟩ := h; exact h' tm H h
theorem Gets.uptoH {id : Nat} {x : Code} (n : Nat) (I : Nat → T AV → Heap → Prop) {tm : T AV} {H : Heap} (h0 : I 0 tm H)
  (h : ∀ i tm H, i ≤ n → I i tm H → Gets P G c x ⟨tm, H, []⟩ fun e s' => match e with
   | .normal => ∃ tm' H', s' = ⟨tm', H', []⟩ ∧ i < n ∧ I (i + 1) tm' H'
   | e => z9e id Q e s') : Gets P G c (.block id (.loop x)) ⟨tm, H, []⟩ Q :=
 Gets.forI (I := fun m s => ∃ i tm H, i ≤ n ∧ m = n - i ∧ s = ⟨tm, H, []⟩ ∧ I i tm H) n ⟨0, tm, H, Nat.zero_le _, rfl, rfl, h0⟩ fun m s ⟨i, tm, H, hi, hm, hs, hI⟩ => by
  subst hs
  refine (h i tm H hi hI).mono fun e s' h => ?_
  cases e with
  | normal =>
   obtain ⟨tm', H', rfl, hlt, hI'⟩ := h
   exact ⟨n - (i + 1), by omega, i + 1, tm', H', hlt, rfl, rfl, hI'⟩
  | _ => exact h
theorem j0z {H : Heap} {t : TypeId} {b : Nat} {e : TypeId} {x : Bool} {old l : List AV} (hb : H.blks.get b = some (.cells e x old)) (hz : G.size t = some l.length) (ho : old.length = l.length) (ha : z0W l = true) (hne : l ≠ []) :
  z0P G H t (.ptr b 0) (.agg l) = some (z0i H b (some (.cells e x l))) := by
 have h1 : z0P G H t (.ptr b 0) (.agg l) = z0b (G.size t) fun s => bif Nat.beq (len l) s then z1M H b 0 l else none := rfl
 rw [h1, hz]
 show (bif Nat.beq (len l) l.length then z1M H b 0 l else none) = _
 rw [z1f, z1h rfl, cond_true]
 have over : ∀ (l old : List AV), old.length = l.length → z5P l old = some l := by
  intro l
  induction l with
  | nil => intro old h; cases old with
   | nil => rfl
   | cons _ _ => simp at h
  | cons a l ih =>
   intro old h
   cases old with
   | nil => simp at h
   | cons o old =>
    show z2C a (z5P l old) = _
    rw [ih old (by simpa using h)]; rfl
 have hsp : z1F l old 0 = some l := by
  cases old with
  | nil => cases l with
   | nil => exact absurd rfl hne
   | cons _ _ => simp at ho
  | cons o old => show z5P l (o :: old) = _; exact over l _ ho
 cases l with
 | nil => exact absurd rfl hne
 | cons a l =>
  show z4d H b 0 (a :: l) (H.blks.get b) = _
  rw [hb]
  show (bif z0W (a :: l) then z6t H b e x (z1F (a :: l) old 0) else none) = _
  rw [ha, hsp, cond_true]
  show z5q (a :: l) (fun l => z0S H b (some (.cells e x l)) some) = _
  rw [z1G]
  unfold z0S z0i
  rw [T.setK_eq, T.setK_eq]
theorem z0v {H : Heap} {s : St} {v : AV} {rs : List ResultVar} (hd : s.df = []) (hr : z1m G s.tm s.h rs = some [v]) (hg : Grows H s.h) (hn : Neat H) (hv : ltV H.next v) :
  z4Y .ret = true ∧ s.df = [] ∧ ∃ vs, z1m G s.tm s.h rs = some vs ∧ ∃ p ∈ [(v, H)], Cut H p (z1T vs) s.h :=
 ⟨rfl, hd, [v], hr, (v, H), List.mem_singleton.2 rfl, .pure hg.next hg.get hn hv⟩
theorem k5I {H : Heap} {s : St} {vs : List AV} {rs : List ResultVar} (hd : s.df = []) (hr : z1m G s.tm s.h rs = some vs) (hg : Grows H s.h) (hn : Neat H) (hv : ltV H.next (z1T vs)) :
  z4Y .ret = true ∧ s.df = [] ∧ ∃ vs, z1m G s.tm s.h rs = some vs ∧ ∃ p ∈ [(z1T vs, H)], Cut H p (z1T vs) s.h :=
 ⟨rfl, hd, vs, hr, (z1T vs, H), List.mem_singleton.2 rfl, .pure hg.next hg.get hn hv⟩
theorem j3J (k : IntKind) (n : Int) : z0H (.int k n) = true := rfl
theorem j0A (b : Bool) : z0H (.bool b) = true := rfl
theorem j3K (s : List UInt8) : z0H (.str s) = true := rfl
theorem j3L (b o : Nat) : z0H (.ptr b o) = true := rfl
theorem q5j : z0H .nilptr = true := rfl
theorem q0C (b o l : Nat) (q : Bool) (k : Nat) : z0H (.slice b o l q k) = true := rfl
theorem q1t : z0H .nilslice = true := rfl
theorem q5k (b : Nat) : z0H (.map b) = true := rfl
theorem q5l : z0H .nilmap = true := rfl
theorem j0B (f : Fn) (x y : List AV) : z0H (.func f x y) = true := rfl
theorem j3M (l : List AV) : z0H (.agg l) = false := rfl
theorem q7f (l : List AV) : z0H (.tuple l) = false := rfl
theorem z8W (H : Heap) (o : ABlk) {b : Nat} (h : Nat.beq b H.next = true) : (H.push o).blks.get b = some o := by cases Nat.eq_of_beq_eq_true h; exact z0q H o
theorem z0f (H : Heap) (b : Nat) (o : Option ABlk) : (z0i H b o).next = H.next := Heap.next_put ..
theorem z0J (H : Heap) (b : Nat) (o : Option ABlk) : (z0i H b o).blks.get b = o := by rw [Heap.get_put]; simp
theorem z0l (H : Heap) (b : Nat) (o : Option ABlk) {x : Nat} (h : x ≠ b) : (z0i H b o).blks.get x = H.blks.get x := by rw [Heap.get_put, if_neg h]
theorem j7x (op : BinOp) (t : TypeId) (c : Bool) (k k' : IntKind) (a b : Int) : binA G op t c (.int k a) (.int k' b) = intBin op k a k' b := rfl
theorem j7y (op : BinOp) (t : TypeId) (c : Bool) (a b : List UInt8) : binA G op t c (.str a) (.str b) = sbin op a b := rfl
theorem j7z (op : BinOp) (t : TypeId) (c : Bool) (x y : List AV) : binA G op t c (.agg x) (.agg y) = bif z5s (G.noEq.get t) then z9a op (eqA G 60 t (.agg x) (.agg y)) else none := rfl
theorem k1S (x y : Bool) : andO (some x) (some y) = some (x && y) := by cases x <;> rfl
theorem q7g {β : Type} (tm : T AV) (i : Nat) (k : T AV → β) : q2O [] tm i k = k tm := rfl
theorem q5m {β : Type} (v : AV) (l : List AV) (tm : T AV) (i : Nat) (k : T AV → β) : q2O (v :: l) tm i k = q2O l (tm.set i (some v)) (i + 1) k := by
 show z4R v (fun v => tm.setK i (some v) fun tm' => q2O l tm' (i + 1) k) = _
 rw [z2G, T.setK_eq]
theorem j7A (l : List AV) : q8K l = q2O l .e 0 id := rfl
theorem z7n (H : Heap) (b off : Nat) {k : Nat} (h : k ≠ 0) : z0y H b off k = cellsIn (H.blks.get b) off k := by
 rw [q0z, z0Y h]; rfl
theorem k1T : ((0 : Nat) : Int) = 0 := rfl
theorem z2s (n : Nat) : ((n + 1 : Nat) : Int) = (n : Int) + 1 := rfl
theorem k1U (n : Nat) : ((no_index (OfNat.ofNat n) : Nat) : Int) = OfNat.ofNat n := rfl
theorem q7h (l : List AV) : AV.cells (.agg l) = l := rfl
theorem q0D {v : AV} (h : z0H v = true) : AV.cells v = [v] := by cases v <;> first | rfl | simp [z0H] at h
end
end Go.Sx
