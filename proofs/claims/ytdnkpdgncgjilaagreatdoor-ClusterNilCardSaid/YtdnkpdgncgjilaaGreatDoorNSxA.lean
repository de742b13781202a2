/-
  An executor for calls over an abstract heap, made for the kernel (definitions).
-/
import GoSem.Step
set_option linter.unusedSimpArgs false
set_option linter.unusedVariables false
namespace Go.Sx
noncomputable section
inductive T (α : Type) where
 | e : T α
 | n (l : T α) (v : Option α) (r : T α) : T α
def T.get {α : Type} (t : T α) : Nat → Option α :=
 T.rec (fun _ => none) (fun _ v _ gl gr k => Bool.rec (Bool.rec (gr (Nat.sub (Nat.div k 2) 1)) (gl (Nat.div k 2)) (Nat.beq (Nat.mod k 2) 1)) v (Nat.beq k 0)) t
def T.putK {α β : Type} (f : Nat) : T α → Nat → Option α → (T α → β) → β :=
 Nat.rec (fun t _ _ c => c t) (fun _ ih t k a c =>
  T.rec (motive := fun _ => β)
   (Bool.rec (Bool.rec (ih .e (Nat.sub (Nat.div k 2) 1) a fun r => c (.n .e none r)) (ih .e (Nat.div k 2) a fun l => c (.n l none .e)) (Nat.beq (Nat.mod k 2) 1))
    (c (.n .e a .e)) (Nat.beq k 0))
   (fun l v r _ _ => Bool.rec (Bool.rec (ih r (Nat.sub (Nat.div k 2) 1) a fun r' => c (.n l v r')) (ih l (Nat.div k 2) a fun l' => c (.n l' v r)) (Nat.beq (Nat.mod k 2) 1))
    (c (.n l a r)) (Nat.beq k 0)) t) f
def T.setK {α β : Type} (t : T α) (k : Nat) (a : Option α) (c : T α → β) : β := t.putK (Nat.succ k) k a c
inductive AV where
 | bool (b : Bool)
 | int (k : IntKind) (n : Int)
 | str (s : List UInt8)
 | ptr (b off : Nat)
 | nilptr
 | slice (b off len : Nat) (opn : Bool) (c : Nat)
 | nilslice
 | odd (blk off : Nat) (spot : Option Nat) (c : Nat)
 | tail (b off off1 c : Nat)
 | map (r : Nat)
 | nilmap
 | func (fn : Fn) (first captured : List AV)
 | yld (l : Nat)
 | nilFunc
 | iface (t : TypeId) (v : AV)
 | nilIface
 | agg (cs : List AV)
 | tuple (vs : List AV)
 deriving Inhabited
def AV.cells : AV → List AV
 | .agg cs => cs
 | v => [v]
structure AEntry where
 key : AV
 val : AV
 born : Nat
structure ALoop where
 state : LoopState
 pending : Option Code
 size : Nat
 tmps : T AV
 params : List Tmp
 assign : Code
 body : Code
 defers : Nat
inductive ABlk where
 | cells (elem : TypeId) (ex : Bool) (l : List AV)
 | big (elem : TypeId) (n : Nat) (z : List AV)
 | map (es : List AEntry) (clock : Nat)
 | mapIter (m : Option Nat) (since : Nat) (seen : List Nat) (stepped : Nat)
 | strIter (s : List UInt8) (pos : Nat)
 | loop (l : ALoop)
 | deferred
 | fix (elem : TypeId) (l : List AV)
structure Heap where
 next : Nat
 blks : T ABlk
inductive ExtK where
 | clone
 | same
 | noZero (r : TypeId)
 | indexByte
structure Tab where
 funcs : T Func
 types : T TypeInfo
 nglob : Nat
 ext : T ExtK := .e
 noEq : T Nat := .e
def q6G (n : Int) : Int :=
 match n with
 | .ofNat m => bif Nat.blt m 9223372036854775808 then .ofNat m else IntKind.i64.wrap (.ofNat m)
 | .negSucc m => bif Nat.blt m 9223372036854775808 then .negSucc m else IntKind.i64.wrap (.negSucc m)
def q0p (k : IntKind) (w : Nat) (n : Int) : Int :=
 match n with
 | .ofNat m => .ofNat (m % w)
 | .negSucc m => k.wrap (.negSucc m)
def z4Y (k : IntKind) (n : Int) : Int :=
 match k with
 | .i64 => q6G n
 | .u64 => q0p .u64 18446744073709551616 n
 | .u8 => q0p .u8 256 n
 | .u32 => q0p .u32 4294967296 n
 | k => k.wrap n
def ibeq : Int → Int → Bool
 | .ofNat a, .ofNat b => Nat.beq a b
 | .negSucc a, .negSucc b => Nat.beq a b
 | _, _ => false
def iblt : Int → Int → Bool
 | .ofNat a, .ofNat b => Nat.blt a b
 | .negSucc a, .negSucc b => Nat.blt b a
 | .negSucc _, .ofNat _ => true
 | .ofNat _, .negSucc _ => false
def bnot (b : Bool) : Bool := bif b then false else true
def bbeq (a b : Bool) : Bool := bif a then b else bnot b
def q7Z (a b : UInt8) : Bool := Nat.beq a.toNat b.toNat
def nth {α : Type} (l : List α) : Nat → Option α :=
 List.rec (fun _ => none) (fun a _ ih k => Bool.rec (ih (Nat.sub k 1)) (some a) (Nat.beq k 0)) l
def z6V {α : Type} (l : List α) : Nat → List α :=
 List.rec (fun _ => []) (fun a l ih k => Bool.rec (ih (Nat.sub k 1)) (a :: l) (Nat.beq k 0)) l
def z1L {α : Type} (a : α) (o : Option (List α)) : Option (List α) :=
 match o with
 | none => none
 | some l => some (a :: l)
def z4T {α : Type} (l : List α) : Nat → Option (List α) :=
 List.rec (fun k => Bool.rec none (some []) (Nat.beq k 0))
  (fun a _ ih k => Bool.rec (z1L a (ih (Nat.sub k 1))) (some []) (Nat.beq k 0)) l
def len {α : Type} (l : List α) : Nat := List.rec 0 (fun _ _ n => n + 1) l
def app {α : Type} (l m : List α) : List α := List.rec m (fun a _ ih => a :: ih) l
def z4U {α : Type} (new : List α) : List α → Option (List α) :=
 List.rec (fun l => some l) (fun a _ ih l => match l with
  | [] => none
  | _ :: l => z1L a (ih l)) new
def z1q {α : Type} (new l : List α) : Nat → Option (List α) :=
 List.rec (fun k => bif Nat.beq k 0 then z4U new [] else none)
  (fun a l ih k => bif Nat.beq k 0 then z4U new (a :: l) else z1L a (ih (k - 1))) l
def q3g {α : Type} (l : List α) (b : α) : Nat → List α :=
 List.rec (fun _ => []) (fun a l ih k => bif Nat.beq k 0 then b :: l else a :: ih (k - 1)) l
def q6H {α : Type} (l : List α) : Nat → List α :=
 List.rec (fun _ => []) (fun a l ih k => bif Nat.beq k 0 then l else a :: ih (k - 1)) l
def z2U (n : Nat) (l : List Nat) : Bool := List.rec false (fun m _ ih => bif Nat.beq m n then true else ih) l
def sbeq (s : List UInt8) : List UInt8 → Bool :=
 List.rec (fun t => match t with | [] => true | _ :: _ => false)
  (fun a _ ih t => match t with | [] => false | b :: t => bif q7Z a b then ih t else false) s
def sblt (s : List UInt8) : List UInt8 → Bool :=
 List.rec (fun t => match t with | [] => false | _ :: _ => true)
  (fun a _ ih t => match t with | [] => false | b :: t => bif Nat.blt a.toNat b.toNat then true else bif q7Z a b then ih t else false) s
def z0X {β : Type} (m : Nat) (c : Nat → β) : β := Nat.rec (c 0) (fun p _ => c (p + 1)) m
def j7i {β : Type} (n : Int) (c : Int → β) : β :=
 Int.rec (fun m => z0X m fun m => c (.ofNat m)) (fun m => z0X m fun m => c (.negSucc m)) n
def j0n {β : Type} (b : Bool) (c : Bool → β) : β := Bool.rec (c false) (c true) b
def q6I {α β : Type} (l : List α) : (List α → β) → β :=
 List.rec (fun c => c []) (fun a _ ih c => ih fun l' => c (a :: l')) l
def q0q {β : Type} (c : AV → β) (b o l : Nat) (q : Bool) (x : Nat) : β :=
 z0X b fun b => z0X o fun o => z0X l fun l => j0n q fun q => z0X x fun x => c (.slice b o l q x)
def z4e {β : Type} (v : AV) (c : AV → β) : β :=
 match v with
 | .bool b => j0n b fun b => c (.bool b)
 | .int k n => j7i n fun n => c (.int k n)
 | .str s => q6I s fun s => c (.str s)
 | .ptr b o => z0X b fun b => z0X o fun o => c (.ptr b o)
 | .slice b o l q x => q0q c b o l q x
 | .agg cs => q6I cs fun cs => c (.agg cs)
 | .tuple cs => q6I cs fun cs => c (.tuple cs)
 | v => c v
def z4Z {β : Type} (l : List AV) : (List AV → β) → β :=
 List.rec (fun c => c []) (fun a _ ih c => z4e a fun a => ih fun l' => c (a :: l')) l
def ofScalar (v : Value) : Option AV :=
 match v with
 | .bool b => some (.bool b)
 | .int k n => some (.int k n)
 | .string s => some (.str s.data.toList)
 | .pointer none => some .nilptr
 | .slice none 0 0 => some .nilslice
 | .map none => some .nilmap
 | .nilFunc => some .nilFunc
 | .nilIface => some .nilIface
 | _ => none
def z2o {α : Type} (a : Option α) (o : Option (List α)) : Option (List α) :=
 match a with
 | none => none
 | some a => z1L a o
def z5a (l : List Value) : Option (List AV) := List.rec (some []) (fun v _ ih => z2o (ofScalar v) ih) l
def aggO (o : Option (List AV)) : Option AV :=
 match o with
 | none => none
 | some l => some (.agg l)
def tupleO (o : Option (List AV)) : Option AV :=
 match o with
 | none => none
 | some l => some (.tuple l)
def ofValue (v : Value) : Option AV :=
 match v with
 | .agg cs => aggO (z5a cs.toList)
 | .tuple cs => tupleO (z5a cs.toList)
 | v => ofScalar v
def z0G : AV := .tuple []
def z3V (o : Option AV) : Option AV :=
 match o with
 | none => some z0G
 | o => o
def w8H (G : Tab) (g : Nat) : Option AV := bif Nat.blt g G.nglob then some (.ptr g 0) else none
def aev (G : Tab) (tm : T AV) (o : Operand) : Option AV :=
 match o with
 | .tmp t => z3V (tm.get t)
 | .const v => ofValue v
 | .global g => w8H G g
 | .func f => some (.func (.func f) [] [])
def aevs (G : Tab) (tm : T AV) (l : List Operand) : Option (List AV) := List.rec (some []) (fun o _ ih => z2o (aev G tm o) ih) l
def w4I (o : Option TypeInfo) : Option TypeDesc :=
 match o with
 | none => none
 | some i => some i.desc
def w4J (G : Tab) (d : TypeDesc) : Option TypeDesc :=
 match d with
 | .named _ u => w4I (G.types.get u)
 | d => some d
def Tab.und (G : Tab) (t : TypeId) : Option TypeDesc :=
 match G.types.get t with
 | none => none
 | some i => w4J G i.desc
def Tab.size (G : Tab) (t : TypeId) : Option Nat :=
 match G.types.get t with
 | none => none
 | some i => some i.size
def q6J (o : Option Value) : Option AV :=
 match o with
 | none => none
 | some v => ofValue v
def Tab.zero (G : Tab) (t : TypeId) : Option AV :=
 match G.types.get t with
 | none => none
 | some i => q6J i.zero
def aggD (d : TypeDesc) : Bool :=
 match d with
 | .struct _ => true
 | .array _ _ => true
 | _ => false
def Tab.isAgg (G : Tab) (t : TypeId) : Option Bool :=
 match G.und t with
 | none => none
 | some d => some (aggD d)
def z0b {α β : Type} (o : Option α) (f : α → Option β) : Option β :=
 match o with
 | none => none
 | some a => f a
def q4S (n : Nat) (z : List AV) (off : Nat) : Option AV := bif Nat.blt off n then nth z (off % len z) else none
def z5y (n : Nat) (z : List AV) (off k : Nat) : Option (List AV) :=
 Nat.rec (fun _ => some []) (fun _ ih off => z2o (q4S n z off) (ih (off + 1))) k off
def z0H (o : Option ABlk) (off : Nat) : Option AV :=
 match o with
 | some (.cells _ _ l) => nth l off
 | some (.big _ n z) => q4S n z off
 | _ => none
def cellsIn (o : Option ABlk) (off k : Nat) : Option (List AV) :=
 match o with
 | some (.cells _ _ l) => z4T (z6V l off) k
 | some (.big _ n z) => z5y n z off k
 | _ => none
def j5o (H : Heap) (b off : Nat) : Option AV := z0H (H.blks.get b) off
def z0p (H : Heap) (b off k : Nat) : Option (List AV) := bif Nat.beq k 0 then some [] else cellsIn (H.blks.get b) off k
def z2u (G : Tab) (H : Heap) (t : TypeId) (b off : Nat) : Option AV :=
 match G.isAgg t with
 | none => none
 | some true => z0b (G.size t) fun s => aggO (z0p H b off s)
 | some false => j5o H b off
def z0E (v : AV) : Bool :=
 match v with
 | .agg _ => false
 | .tuple _ => false
 | _ => true
def z0Y (l : List AV) : Bool := List.rec true (fun v _ ih => bif z0E v then ih else false) l
def z0y (H : Heap) (b : Nat) (o : Option ABlk) : Heap := H.blks.setK b o fun t => ⟨H.next, t⟩
def z0V {β : Type} (H : Heap) (b : Nat) (o : Option ABlk) (c : Heap → β) : β := H.blks.setK b o fun t => c ⟨H.next, t⟩
def z6r (H : Heap) (b : Nat) (e : TypeId) (x : Bool) (o : Option (List AV)) : Option Heap :=
 match o with
 | none => none
 | some l => z4Z l fun l => z0V H b (some (.cells e x l)) some
def z3W (H : Heap) (b off : Nat) (l : List AV) (o : Option ABlk) : Option Heap :=
 match o with
 | some (.cells e x old) => bif z0Y l then z6r H b e x (z1q l old off) else none
 | _ => none
def z1y (H : Heap) (b off : Nat) (l : List AV) : Option Heap :=
 match l with
 | [] => some H
 | l => z3W H b off l (H.blks.get b)
def q3h (G : Tab) (H : Heap) (t : TypeId) (b off : Nat) (v : AV) : Option Heap :=
 z0b (G.size t) fun s => bif Nat.beq (len v.cells) s then z1y H b off v.cells else none
def newA {β : Type} (H : Heap) (o : ABlk) (c : Nat → Heap → β) : β :=
 z0X H.next fun b => H.blks.setK b (some o) fun t => z0X (b + 1) fun m => c b ⟨m, t⟩
def z2v {β : Type} (H : Heap) (elem : TypeId) (ex : Bool) (l : List AV) (c : Nat → Heap → Option β) : Option β :=
 bif z0Y l then z4Z l fun l => newA H (.cells elem ex l) c else none
def z3w (G : Tab) (t : TypeId) (cs : List AV) (off : Nat) : Option AV :=
 match G.isAgg t with
 | none => none
 | some true => z0b (G.size t) fun s => aggO (z4T (z6V cs off) s)
 | some false => nth cs off
def andO (o : Option Bool) (next : Option Bool) : Option Bool :=
 match o with
 | none => none
 | some true => next
 | some false => some false
def eq2 (eq : AV → AV → Option Bool) (a b : Option AV) : Option Bool :=
 match a with
 | none => none
 | some a => match b with
  | none => none
  | some b => eq a b
def z6s (G : Tab) (eq : TypeId → AV → AV → Option Bool) (xs ys : List AV) (fs : List Field) : Option Bool :=
 List.rec (some true) (fun f _ ih => andO (eq2 (eq f.type) (z3w G f.type xs f.offset) (z3w G f.type ys f.offset)) ih) fs
noncomputable def q1D (G : Tab) (eq : AV → AV → Option Bool) (e : TypeId) (xs ys : List AV) (z : Nat) (n : Nat) : Nat → Option Bool :=
 Nat.rec (fun _ => some true) (fun _ ih i => andO (eq2 eq (z3w G e xs (i * z)) (z3w G e ys (i * z))) (ih (i + 1))) n
def z6b (u : TypeDesc) (x y : AV) : Option Bool :=
 match u, x, y with
 | .bool, .bool a, .bool b => some (bbeq a b)
 | .int _, .int k a, .int k' b => if k = k' then some (ibeq a b) else none
 | .string, .str a, .str b => some (sbeq a b)
 | .pointer _, .nilptr, .nilptr => some true
 | .pointer _, .nilptr, .ptr _ _ => some false
 | .pointer _, .ptr _ _, .nilptr => some false
 | .interface _, .nilIface, .nilIface => some true
 | .interface _, .nilIface, .iface _ _ => some false
 | .interface _, .iface _ _, .nilIface => some false
 | .slice _, .nilslice, .nilslice => some true
 | .slice _, .nilslice, .slice _ _ _ _ _ => some false
 | .slice _, .slice _ _ _ _ _, .nilslice => some false
 | .map _ _, .nilmap, .nilmap => some true
 | .map _ _, .nilmap, .map _ => some false
 | .map _ _, .map _, .nilmap => some false
 | .func _ _ _, .nilFunc, .nilFunc => some true
 | .func _ _ _, .nilFunc, .func _ _ _ => some false
 | .func _ _ _, .func _ _ _, .nilFunc => some false
 | _, _, _ => none
def k1i (a o b p : Nat) : Option Bool := bif Nat.beq a b then (bif Nat.beq o p then some true else none) else none
def eqD (G : Tab) (eq : TypeId → AV → AV → Option Bool) (x y : AV) (u : TypeDesc) : Option Bool :=
 match u, x, y with
 | .pointer e, .ptr a o, .ptr b p => z0b (G.size e) fun _ => k1i a o b p
 | .struct fs, .agg xs, .agg ys => z6s G eq xs ys fs.toList
 | .array n e, .agg xs, .agg ys => z0b (G.size e) fun z => q1D G (eq e) e xs ys z n 0
 | u, x, y => z6b u x y
def eqA (G : Tab) (d : Nat) : TypeId → AV → AV → Option Bool :=
 Nat.rec (fun _ _ _ => none) (fun _ ih t x y => z0b (G.und t) (eqD G ih x y)) d
end
end Go.Sx
namespace Go.Sx
noncomputable section
def z6t {α : Type} (l : List α) : Bool :=
 match l with
 | [] => true
 | _ :: _ => false
def z2a {α : Type} (f : α → α → Bool) (l : List α) : List α → Bool :=
 List.rec (fun m => z6t m) (fun a _ ih m => match m with | [] => false | b :: m => bif f a b then ih m else false) l
mutual
def AV.beq : AV → AV → Bool
 | .odd a b s c, .odd x y t z => bif Nat.beq a x then (bif Nat.beq b y then (bif Nat.beq c z then (if s = t then true else false) else false) else false) else false
 | .tail a b c d, .tail x y z w => bif Nat.beq a x then (bif Nat.beq b y then (bif Nat.beq c z then Nat.beq d w else false) else false) else false
 | .bool a, .bool b => bbeq a b
 | .int k a, .int k' b => if k = k' then ibeq a b else false
 | .str s, .str t => sbeq s t
 | .ptr a o, .ptr b p => bif Nat.beq a b then Nat.beq o p else false
 | .nilptr, .nilptr => true
 | .slice a o l q c, .slice b p m r d => bif Nat.beq a b then (bif Nat.beq o p then (bif Nat.beq l m then (bif Nat.beq c d then bbeq q r else false) else false) else false) else false
 | .nilslice, .nilslice => true
 | .map a, .map b => Nat.beq a b
 | .nilmap, .nilmap => true
 | .func f x y, .func g u v => if f = g then (bif AV.beqL x u then AV.beqL y v else false) else false
 | .yld a, .yld b => Nat.beq a b
 | .nilFunc, .nilFunc => true
 | .iface t x, .iface u y => bif Nat.beq t u then AV.beq x y else false
 | .nilIface, .nilIface => true
 | .agg x, .agg y => AV.beqL x y
 | .tuple x, .tuple y => AV.beqL x y
 | _, _ => false
def AV.beqL : List AV → List AV → Bool
 | [], [] => true
 | a :: x, b :: y => bif AV.beq a b then AV.beqL x y else false
 | _, _ => false
end
def z8s {α : Type} (f : α → α → Bool) (a b : Option α) : Bool :=
 match a, b with
 | none, none => true
 | some a, some b => f a b
 | _, _ => false
def T.beq {α : Type} (f : α → α → Bool) (t : T α) : T α → Bool :=
 T.rec (fun u => match u with | .e => true | .n _ _ _ => false)
  (fun _ v _ gl gr u => match u with | .e => false | .n l' v' r' => bif z8s f v v' then (bif gl l' then gr r' else false) else false) t
def intO (k : IntKind) (n : Int) : Option AV := some (.int k n)
def boolO (b : Bool) : Option AV := some (.bool b)
def q1E (k : IntKind) : Nat :=
 match k with
 | .i64 => 9223372036854775808
 | .u64 => 18446744073709551616
 | .u32 => 4294967296
 | .u8 => 256
 | _ => 128
def bitO (k : IntKind) (f : Nat → Nat → Nat) (a b : Int) : Option AV :=
 match a, b with
 | .ofNat m, .ofNat n => bif Nat.blt m (q1E k) then (bif Nat.blt n (q1E k) then some (.int k (.ofNat (f m n))) else none) else none
 | _, _ => none
def quoO (k : IntKind) (a b : Int) : Option AV := bif ibeq b 0 then none else some (.int k (z4Y k (a.tdiv b)))
def remO (k : IntKind) (a b : Int) : Option AV := bif ibeq b 0 then none else some (.int k (a.tmod b))
def shlO (k : IntKind) (a b : Int) : Option AV :=
 match a, b with
 | .ofNat m, .ofNat n => bif Nat.ble n 64 then some (.int k (k.wrap (.ofNat (m * 2 ^ (min n k.bits))))) else none
 | _, _ => none
def shrO (k : IntKind) (a b : Int) : Option AV :=
 match a, b with
 | .ofNat m, .ofNat n => bif Nat.ble n 64 then some (.int k (.ofNat (m / 2 ^ (min n k.bits)))) else none
 | _, _ => none
def ibin (op : BinOp) : IntKind → Int → Int → Option AV :=
 match op with
 | .add => fun k a b => some (.int k (z4Y k (a + b)))
 | .sub => fun k a b => some (.int k (z4Y k (a - b)))
 | .mul => fun k a b => some (.int k (z4Y k (a * b)))
 | .quo => quoO
 | .rem => remO
 | .eql => fun _ a b => boolO (ibeq a b)
 | .neq => fun _ a b => boolO (bnot (ibeq a b))
 | .lss => fun _ a b => boolO (iblt a b)
 | .leq => fun _ a b => boolO (bnot (iblt b a))
 | .gtr => fun _ a b => boolO (iblt b a)
 | .geq => fun _ a b => boolO (bnot (iblt a b))
 | .and => fun k => bitO k Nat.land
 | .or => fun k => bitO k Nat.lor
 | .xor => fun k => bitO k Nat.xor
 | .andNot => fun k => bitO k (fun a b => Nat.xor a (Nat.land a b))
 | _ => fun _ _ _ => none
def intBin (op : BinOp) : IntKind → Int → IntKind → Int → Option AV :=
 match op with
 | .shl => fun k a _ b => shlO k a b
 | .shr => fun k a _ b => shrO k a b
 | op => fun k a k' b => if k = k' then ibin op k a b else none
def catO (a b : List UInt8) : Option AV := bif Nat.ble (len a + len b) 1000000000 then some (.str (app a b)) else none
def sbin (op : BinOp) : List UInt8 → List UInt8 → Option AV :=
 match op with
 | .add => catO
 | .eql => fun a b => boolO (sbeq a b)
 | .neq => fun a b => boolO (bnot (sbeq a b))
 | .lss => fun a b => boolO (sblt a b)
 | .leq => fun a b => boolO (bnot (sblt b a))
 | .gtr => fun a b => boolO (sblt b a)
 | .geq => fun a b => boolO (bnot (sblt a b))
 | _ => fun _ _ => none
def yesO (o : Option Bool) : Option AV := z0b o fun b => some (.bool b)
def notO (o : Option Bool) : Option AV := z0b o fun b => some (.bool (bnot b))
def q3i (op : BinOp) : Option Bool → Option AV :=
 match op with
 | .eql => yesO
 | .neq => notO
 | _ => fun _ => none
def z1o (o : Operand) : Bool :=
 match o with
 | .const _ => true
 | _ => false
def q6K (c : Bool) (x y : AV) : Bool :=
 match x, y with
 | .nilIface, .nilIface => c
 | _, _ => true
def z8t {α : Type} (o : Option α) : Bool :=
 match o with
 | none => true
 | some _ => false
def j7j (G : Tab) (t : TypeId) (x : AV) : Bool :=
 match x with
 | .agg _ => z8t (G.noEq.get t)
 | _ => true
def binA (G : Tab) (op : BinOp) (t : TypeId) (c : Bool) (x y : AV) : Option AV :=
 match x, y with
 | .int k a, .int k' b => intBin op k a k' b
 | .str a, .str b => sbin op a b
 | x, y => bif q6K c x y then (bif j7j G t x then q3i op (eqA G 60 t x y) else none) else none
def j0o (k : IntKind) (n : Int) : Option AV :=
 match k with
 | .u8 => bitO .u8 Nat.xor (.ofNat 255) n
 | .u32 => bitO .u32 Nat.xor (.ofNat 4294967295) n
 | .u64 => bitO .u64 Nat.xor (.ofNat 18446744073709551615) n
 | _ => none
def unA (op : UnOp) (x : AV) : Option AV :=
 match op, x with
 | .neg, .int k n => some (.int k (z4Y k (0 - n)))
 | .not, .bool b => some (.bool (bnot b))
 | .xor, .int k n => j0o k n
 | _, _ => none
def j0p (d : TypeDesc) : Option (List Field) :=
 match d with
 | .struct fs => some fs.toList
 | _ => none
def q1F (G : Tab) (t : TypeId) (f : Nat) : Option Field := z0b (G.und t) fun d => z0b (j0p d) fun fs => nth fs f
def q6L (x : AV) (fd : Field) (z : Nat) : Option AV :=
 match x with
 | .ptr b off => bif Nat.beq z 0 then none else some (.ptr b (off + fd.offset))
 | _ => none
def z0g (G : Tab) (s : TypeId) (f : Nat) (x : AV) : Option AV :=
 z0b (q1F G s f) fun fd => z0b (G.size fd.type) fun z => q6L x fd z
def q6M (G : Tab) (t : TypeId) (f : Nat) (x : AV) : Option AV :=
 match x with
 | .agg cs => z0b (q1F G t f) fun fd => z3w G fd.type cs fd.offset
 | _ => none
def inB (i : AV) (n : Nat) : Option Nat :=
 match i with
 | .int _ (.ofNat m) => bif Nat.blt m n then some m else none
 | _ => none
def j0q (G : Tab) (e b off n : Nat) (i : AV) : Option AV :=
 z0b (inB i n) fun m => z0b (G.size e) fun z => some (.ptr b (off + m * z))
def q0r (G : Tab) (x i : AV) (d : TypeDesc) : Option AV :=
 match d, x with
 | .array n e, .ptr b off => j0q G e b off n i
 | .slice e, .slice b off n _ _ => j0q G e b off n i
 | _, _ => none
def z1K (G : Tab) (t : TypeId) (x i : AV) : Option AV := z0b (G.und t) (q0r G x i)
def z8u (b : UInt8) : AV := .int .u8 (.ofNat b.toNat)
def w4K (s : List UInt8) (i : AV) : Option AV :=
 match i with
 | .int _ (.ofNat m) => z0b (nth s m) fun b => some (z8u b)
 | _ => none
def j7k (G : Tab) (x i : AV) (d : TypeDesc) : Option AV :=
 match d, x with
 | .array n e, .agg cs => z0b (inB i n) fun m => z0b (G.size e) fun z => z3w G e cs (m * z)
 | .string, .str s => w4K s i
 | _, _ => none
def j7l (G : Tab) (t : TypeId) (x i : AV) : Option AV := z0b (G.und t) (j7k G x i)
def z1U (i : Option AV) (dflt most : Nat) : Option Nat :=
 match i with
 | none => some dflt
 | some (.int _ (.ofNat m)) => bif Nat.ble m most then some m else none
 | some _ => none
def z6W {β : Type} (lo hi : Option AV) (dflt most : Nat) (c : Nat → Nat → Option β) : Option β :=
 z0b (z1U hi dflt most) fun h => z0b (z1U lo 0 h) fun l => c l h
def q6N (s : List UInt8) (lo hi mx : Option AV) : Option AV :=
 match mx with
 | some _ => none
 | none => z6W lo hi (len s) (len s) fun l h => z0b (z4T (z6V s l) (h - l)) fun r => some (.str r)
def z5z (b off z m l h : Nat) : Option AV := some (.slice b (bif Nat.beq m l then off else off + l * z) (h - l) false (m - l))
def z6X (b off n c z : Nat) (lo hi mx : Option AV) : Option AV :=
 z0b (z1U mx c c) fun m => z6W lo hi n m fun l h => z5z b off z m l h
def q3j (b off n c z l h : Nat) : Option AV :=
 bif Nat.beq l 0 then some (.slice b off h true c)
 else bif Nat.blt l n then some (.slice b (off + l * z) (h - l) true (c + l)) else some (.tail b off (off + l * z) (c + l))
def q3k (b off n c z : Nat) (lo hi mx : Option AV) : Option AV :=
 match mx with
 | some m => z0b (z1U (some m) 0 n) fun m => z6W lo hi n m fun l h => z5z b off z m l h
 | none => z6W lo hi n n fun l h => q3j b off n c z l h
def q6O (lo hi mx : Option AV) : Option AV :=
 z0b (z1U mx 0 0) fun _ => z6W lo hi 0 0 fun _ _ => some .nilslice
def q1G (G : Tab) (lo hi mx : Option AV) (b off : Nat) (d : TypeDesc) : Option AV :=
 match d with
 | .array n e => z0b (G.size e) fun z => z6X b off n n z lo hi mx
 | _ => none
def j7m (G : Tab) (x : AV) (lo hi mx : Option AV) (d : TypeDesc) : Option AV :=
 match d, x with
 | .string, .str s => q6N s lo hi mx
 | .slice e, .slice b off n false c => z0b (G.size e) fun z => z6X b off n c z lo hi mx
 | .slice e, .slice b off n true c => z0b (G.size e) fun z => q3k b off n c z lo hi mx
 | .slice e, .nilslice => z0b (G.size e) fun _ => q6O lo hi mx
 | .array n e, .ptr b off => q1G G lo hi mx b off (.array n e)
 | .pointer p, .ptr b off => z0b (G.und p) (q1G G lo hi mx b off)
 | _, _ => none
def j0r (hi mx : Option AV) : Bool :=
 match mx, hi with
 | some _, none => false
 | _, _ => true
def q6P (G : Tab) (t : TypeId) (x : AV) (lo hi mx : Option AV) : Option AV := bif j0r hi mx then z0b (G.und t) (j7m G x lo hi mx) else none
def q8a (G : Tab) (kt : TypeId) (a b : AV) : Option Bool := eqA G 60 kt a b
def z8v (G : Tab) (p : TypeId → AV → Bool) (cs : List AV) (fs : List Field) : Bool :=
 List.rec true (fun f _ ih => match z3w G f.type cs f.offset with
  | none => false
  | some v => bif p f.type v then ih else false) fs
def keyD (G : Tab) (p : TypeId → AV → Bool) (k : AV) (d : TypeDesc) : Bool :=
 match d, k with
 | .int _, _ => true
 | .string, _ => true
 | .bool, _ => true
 | .struct fs, .agg cs => z8v G p cs fs.toList
 | _, _ => false
def j0s (G : Tab) (p : TypeId → AV → Bool) (k : AV) (o : Option TypeDesc) : Bool :=
 match o with
 | none => false
 | some d => keyD G p k d
def z8w (G : Tab) (d : Nat) : TypeId → AV → Bool := Nat.rec (fun _ _ => false) (fun _ ih t k => j0s G ih k (G.und t)) d
def z4f (v : AV) : Bool :=
 match v with
 | .int _ _ => true
 | .str _ => true
 | .bool _ => true
 | _ => false
def z6Y (l : List AV) : Bool := List.rec true (fun v _ ih => bif z4f v then ih else false) l
def z8x (v : AV) : Bool :=
 match v with
 | .agg cs => z6Y cs
 | v => z4f v
def z8y (i : Nat) (e : AEntry) (next : Option (Option (Nat × AEntry))) (o : Option Bool) : Option (Option (Nat × AEntry)) :=
 match o with
 | none => none
 | some true => some (some (i, e))
 | some false => next
def z8z (G : Tab) (kt : TypeId) (k : AV) (es : List AEntry) : Nat → Option (Option (Nat × AEntry)) :=
 List.rec (fun _ => some none) (fun e _ ih i => z8y i e (ih (i + 1)) (q8a G kt k e.key)) es
def z4V (o : Option ABlk) : Option (List AEntry × Nat) :=
 match o with
 | some (.map es c) => some (es, c)
 | _ => none
def q8b (H : Heap) (x : AV) : Option (List AEntry) :=
 match x with
 | .nilmap => some []
 | .map r => z0b (z4V (H.blks.get r)) fun p => some p.1
 | _ => none
def mapD (d : TypeDesc) : Option (TypeId × TypeId) :=
 match d with
 | .map k e => some (k, e)
 | _ => none
def z3L (G : Tab) (t : TypeId) (k : AV) : Option (TypeId × TypeId) :=
 z0b (G.und t) fun d => z0b (mapD d) fun kt => bif z8w G 20 kt.1 k then some kt else none
def k1j (G : Tab) (et : TypeId) (ok : Bool) (o : Option (Nat × AEntry)) : Option AV :=
 match o with
 | some (_, e) => some (bif ok then .tuple [e.val, .bool true] else e.val)
 | none => z0b (G.zero et) fun z => some (bif ok then .tuple [z, .bool false] else z)
def z4C (G : Tab) (H : Heap) (t : TypeId) (ok : Bool) (x k : AV) : Option AV :=
 z0b (z3L G t k) fun kt => z0b (q8b H x) fun es => z0b (z8z G kt.1 k es 0) (k1j G kt.2 ok)
def j0t {β : Type} (l : List AEntry) : (List AEntry → β) → β :=
 List.rec (fun c => c []) (fun e _ ih c => z4e e.key fun k => z4e e.val fun v => z0X e.born fun n => ih fun l' => c (⟨k, v, n⟩ :: l')) l
def z5b {β : Type} (H : Heap) (r : Nat) (es : List AEntry) (clock : Nat) (c : Heap → β) : β :=
 j0t es fun es => z0X clock fun cl => z0V H r (some (.map es cl)) c
def j7n (H : Heap) (r : Nat) (es : List AEntry) (clock : Nat) (k v : AV) (o : Option (Nat × AEntry)) : Option Heap :=
 match o with
 | some (i, e) => bif AV.beq k e.key then (bif z8x k then z5b H r (q3g es ⟨e.key, v, e.born⟩ i) clock some else none) else none
 | none => z5b H r (app es [⟨k, v, clock⟩]) (clock + 1) some
def z4g (G : Tab) (H : Heap) (t : TypeId) (x k v : AV) : Option Heap :=
 match x with
 | .map r => z0b (z3L G t k) fun kt => z0b (z4V (H.blks.get r)) fun p => z0b (z8z G kt.1 k p.1 0) (j7n H r p.1 p.2 k v)
 | _ => none
def q6Q (v : AV) (n : Nat) : AV := .tuple [v, .int .i64 (.ofNat n)]
def j7o (G : Tab) (et : TypeId) (H : Heap) (r : Nat) (es : List AEntry) (clock : Nat) (k : AV) (o : Option (Nat × AEntry)) : Option (AV × Heap) :=
 match o with
 | some (_, e) => bif AV.beq k e.key then (bif z8x k then some (q6Q e.val e.born, H) else none) else none
 | none => z0b (G.zero et) fun z => z5b H r (app es [⟨k, z, clock⟩]) (clock + 1) fun H' => some (q6Q z clock, H')
def z8A (G : Tab) (H : Heap) (t : TypeId) (x k : AV) : Option (AV × Heap) :=
 match x with
 | .map r => z0b (z3L G t k) fun kt => z0b (z4V (H.blks.get r)) fun p => z0b (z8z G kt.1 k p.1 0) (j7o G kt.2 H r p.1 p.2 k)
 | _ => none
def q6R (n : Nat) (es : List AEntry) : Nat → Option (Nat × AEntry) :=
 List.rec (fun _ => none) (fun e _ ih i => bif Nat.beq e.born n then some (i, e) else ih (i + 1)) es
def z6c (H : Heap) (x s v : AV) : Option Heap :=
 match x, s with
 | .map r, .int _ (.ofNat n) => z0b (z4V (H.blks.get r)) fun p => z0b (q6R n p.1 0) fun q =>
   z5b H r (q3g p.1 ⟨q.2.key, v, q.2.born⟩ q.1) p.2 some
 | _, _ => none
def j7p (H : Heap) (r : Nat) (es : List AEntry) (clock : Nat) (o : Option (Nat × AEntry)) : Option Heap :=
 match o with
 | some (i, _) => z5b H r (q6H es i) clock some
 | none => some H
def q4T (G : Tab) (H : Heap) (t : TypeId) (x k : AV) : Option Heap :=
 match x with
 | .nilmap => z0b (z3L G t k) fun _ => some H
 | .map r => z0b (z3L G t k) fun kt => z0b (z4V (H.blks.get r)) fun p => z0b (z8z G kt.1 k p.1 0) (j7p H r p.1 p.2)
 | _ => none
def z3M (seen : List Nat) (es : List AEntry) : List AEntry :=
 List.rec [] (fun e _ ih => bif z2U e.born seen then ih else e :: ih) es
def q3l (since : Nat) (es : List AEntry) : List AEntry :=
 List.rec [] (fun e _ ih => bif Nat.blt e.born since then e :: ih else ih) es
def q1H (since : Nat) (es : List AEntry) : List AEntry :=
 List.rec [] (fun e _ ih => bif Nat.blt e.born since then ih else e :: ih) es
def q1I (last : Nat) (es : List AEntry) : Bool :=
 List.rec false (fun e _ ih => bif Nat.blt e.born last then true else ih) es
def z4D (H : Heap) (it m since : Nat) (seen : List Nat) (clock : Nat) (es : List AEntry) : List (AV × Heap) :=
 List.rec [] (fun e _ ih => z0V H it (some (.mapIter (some m) since (app seen [e.born]) clock)) fun H' => (.tuple [.bool true, e.key, e.val], H') :: ih) es
def q1J : AV := .tuple [.bool false]
def j0u (H : Heap) (it m since : Nat) (seen : List Nat) (last : Nat) (es : List AEntry) (clock : Nat) : Option (List (AV × Heap)) :=
 bif (bif z6t seen then true else bif z6t es then true else q1I last es) then
  (match q3l since (z3M seen es) with
   | [] => some ((q1J, H) :: z4D H it m since seen clock (q1H since (z3M seen es)))
   | o :: os => some (z4D H it m since seen clock (app (o :: os) (q1H since (z3M seen es)))))
 else none
def j0v (H : Heap) (it pos : Nat) (s : List UInt8) (o : Option UInt8) : Option (List (AV × Heap)) :=
 match o with
 | none => some [(q1J, H)]
 | some b => bif Nat.blt b.toNat 128 then
   z0X (pos + 1) fun p => z0V H it (some (.strIter s p)) fun H' => some [(.tuple [.bool true, .int .i64 (.ofNat pos), .int .i32 (.ofNat b.toNat)], H')]
  else none
def j7q (H : Heap) (it : Nat) (s : Bool) (o : Option ABlk) : Option (List (AV × Heap)) :=
 match o, s with
 | some (.mapIter none _ _ _), false => some [(q1J, H)]
 | some (.mapIter (some m) since seen last), false => z0b (z4V (H.blks.get m)) fun p => j0u H it m since seen last p.1 p.2
 | some (.strIter s pos), true => j0v H it pos s (nth s pos)
 | _, _ => none
def q4U (H : Heap) (x : AV) (s : Bool) : Option (List (AV × Heap)) :=
 match x with
 | .ptr it 0 => j7q H it s (H.blks.get it)
 | _ => none
def q3m (H : Heap) (o : ABlk) : Option (AV × Heap) := newA H o fun b H => some (.ptr b 0, H)
def j7r (H : Heap) (x : AV) (d : TypeDesc) : Option (AV × Heap) :=
 match d, x with
 | .string, .str s => q3m H (.strIter s 0)
 | .map _ _, .nilmap => q3m H (.mapIter none 0 [] 0)
 | .map _ _, .map r => z0b (z4V (H.blks.get r)) fun p => q3m H (.mapIter (some r) p.2 [] p.2)
 | _, _ => none
def j0w (G : Tab) (H : Heap) (t : TypeId) (x : AV) : Option (AV × Heap) := z0b (G.und t) (j7r H x)
def q6S (l : List Nat) : Option Nat := List.rec none (fun a _ ih => match ih with | none => some a | some b => some b) l
def z6Z (H : Heap) (o : Option ABlk) : Option AV :=
 match o with
 | some (.mapIter (some m) _ seen stepped) => z0b (q6S seen) fun stamp => z0b (z4V (H.blks.get m)) fun p =>
   bif Nat.beq p.2 stepped then z0b (q6R stamp p.1 0) fun q => some (.tuple [q.2.key, q.2.val]) else none
 | _ => none
def z8B (H : Heap) (x : AV) : Option AV :=
 match x with
 | .ptr it 0 => z6Z H (H.blks.get it)
 | _ => none
def z6d (cells : List AV) (v : AV) (p : Nat × Nat) : Option (List AV) :=
 bif Nat.beq (len v.cells) p.2 then z1q v.cells cells p.1 else none
def z7W (place : Nat → Option (Nat × Nat)) (ps : List (Nat × AV)) : List AV → Option (List AV) :=
 List.rec (fun cells => some cells) (fun p _ ih cells => z0b (place p.1) fun q => z0b (z6d cells p.2 q) ih) ps
def q8c (i : Nat) (o : Option AV) : Option (Nat × AV) := z0b o fun v => some (i, v)
def z2j (G : Tab) (tm : T AV) (l : List (Nat × Operand)) : Option (List (Nat × AV)) :=
 List.rec (some []) (fun p _ ih => z2o (q8c p.1 (aev G tm p.2)) ih) l
def j0x (f : Field) (o : Option Nat) : Option (Nat × Nat) :=
 match o with
 | none => none
 | some z => some (f.offset, z)
def q1K (G : Tab) (fs : List Field) : Option (List (Nat × Nat)) := List.rec (some []) (fun f _ ih => z2o (j0x f (G.size f.type)) ih) fs
def j7s (G : Tab) (zero : AV) (parts : List (Nat × AV)) (d : TypeDesc) : Option AV :=
 match d with
 | .struct fs => z0b (q1K G fs.toList) fun ps => aggO (z7W (nth ps) parts zero.cells)
 | .array _ e => z0b (G.size e) fun z => aggO (z7W (fun i => some (i * z, z)) parts zero.cells)
 | _ => none
def z5O (G : Tab) (t : TypeId) (parts : List (Nat × AV)) : Option AV :=
 z0b (G.zero t) fun zero => z0b (G.und t) (j7s G zero parts)
def z0M (z : List AV) (n : Nat) : List AV := Nat.rec [] (fun _ ih => app z ih) n
def z8C (d : TypeDesc) : Option TypeId :=
 match d with
 | .slice e => some e
 | _ => none
def elemOf (G : Tab) (t : TypeId) : Option TypeId := z0b (G.und t) z8C
def z0N (H : Heap) (e n c : Nat) (l : List AV) : Option (AV × Heap) := z2v H e true l fun b H => some (.slice b 0 n false c, H)
def z1c (G : Tab) (H : Heap) (t : TypeId) (n : Nat) (parts : List (Nat × AV)) : Option (AV × Heap) :=
 z0b (elemOf G t) fun e => z0b (G.size e) fun z => z0b (G.zero e) fun zero =>
  bif Nat.ble (n * z) 10000 then
   bif Nat.beq (len zero.cells) z then z0b (z7W (fun i => some (i * z, z)) parts (z0M zero.cells n)) (z0N H e n n) else none
  else none
def boxA (H : Heap) (elem : TypeId) (v : AV) : Option (AV × Heap) := z2v H elem true v.cells fun b H => some (.ptr b 0, H)
def z5P (H : Heap) (e n c k : Nat) (z : List AV) : Option (AV × Heap) :=
 z0X k fun k => z4Z z fun z => newA H (.big e k z) fun b H => some (.slice b 0 n false c, H)
def z3o (G : Tab) (H : Heap) (e : TypeId) (n c : Nat) (i : TypeInfo) : Option (AV × Heap) :=
 z0b (G.zero e) fun zero =>
  bif Nat.ble n c then
   bif Nat.ble (c * (i.bytes + 1)) 1000000000 then
    bif Nat.beq (len zero.cells) i.size then
     bif Nat.ble (c * i.size) 1000 then z0N H e n c (z0M zero.cells c) else z5P H e n c (c * i.size) zero.cells
    else none
   else none
  else none
def z1b (G : Tab) (H : Heap) (t : TypeId) (n c : AV) : Option (AV × Heap) :=
 match n, c with
 | .int .i64 (.ofNat n), .int .i64 (.ofNat c) => z0b (elemOf G t) fun e => z0b (G.types.get e) (z3o G H e n c)
 | _, _ => none
def natV (n : Nat) : AV := .int .i64 (.ofNat n)
def j7t (d : TypeDesc) : Option AV :=
 match d with
 | .array n _ => some (natV n)
 | _ => none
def lenD (G : Tab) (H : Heap) (x : AV) (d : TypeDesc) : Option AV :=
 match d, x with
 | .string, .str s => some (natV (len s))
 | .slice _, .slice _ _ n _ _ => some (natV n)
 | .slice _, .nilslice => some (natV 0)
 | .slice _, .odd _ _ _ _ => some (natV 0)
 | .slice _, .tail _ _ _ _ => some (natV 0)
 | .array n _, _ => some (natV n)
 | .map _ _, x => z0b (q8b H x) fun es => some (natV (len es))
 | .pointer p, _ => z0b (G.und p) j7t
 | _, _ => none
def lenA (G : Tab) (H : Heap) (t : TypeId) (x : AV) : Option AV := z0b (G.und t) (lenD G H x)
def capD (x : AV) (d : TypeDesc) : Option AV :=
 match d, x with
 | .array n _, _ => some (natV n)
 | .slice _, .slice _ _ _ false c => some (natV c)
 | .slice _, .nilslice => some (natV 0)
 | _, _ => none
def capA (G : Tab) (t : TypeId) (x : AV) : Option AV := z0b (G.und t) (capD x)
def z0A (l : List UInt8) : List AV := List.rec [] (fun b _ ih => z8u b :: ih) l
def z4h (H : Heap) (z n : Nat) (x : AV) : Option (List AV) :=
 match x with
 | .slice b off _ _ _ => z0p H b off (n * z)
 | .nilslice => some []
 | .str s => z0b (z4T s n) fun s => some (z0A s)
 | .odd _ _ _ _ => bif Nat.beq n 0 then some [] else none
 | .tail _ _ _ _ => bif Nat.beq n 0 then some [] else none
 | _ => none
def z7x (x : AV) : Option Nat :=
 match x with
 | .slice _ _ n _ _ => some n
 | .nilslice => some 0
 | .str s => some (len s)
 | .odd _ _ _ _ => some 0
 | .tail _ _ _ _ => some 0
 | _ => none
def z3x (e : TypeId) (o : Option ABlk) : Option Nat :=
 match o with
 | some (.cells e' false l) => bif Nat.beq e e' then some (len l) else none
 | _ => none
def z2V (H : Heap) (e : TypeId) (need : Nat) (cells : List AV) : Option (AV × Heap) :=
 z2v H e false cells fun b H => some (.slice b 0 need true 0, H)
def inPlace (H : Heap) (b at_ : Nat) (new : List AV) (r : AV) : Option (AV × Heap) := z0b (z1y H b at_ new) fun H' => some (r, H')
def z8D (H : Heap) (e z b off l c n : Nat) (new : List AV) : Option (AV × Heap) :=
 bif Nat.ble (l + n) c then inPlace H b (off + l * z) new (.slice b off (l + n) false c)
 else bif Nat.ble c 1000000 then z0b (z0p H b off (l * z)) fun old => z2V H e (l + n) (app old new) else none
def q3n (H : Heap) (b : Nat) : Heap := z0y H b none
def q0s (H : Heap) (e z b off l c n : Nat) (new : List AV) : Option (AV × Heap) :=
 z0b (z3x e (H.blks.get b)) fun kn =>
  bif Nat.beq off (c * z) then
   bif Nat.ble (off + (l + n) * z) kn then inPlace H b (off + l * z) new (.slice b off (l + n) true c)
   else z0b (z0p H b off (l * z)) fun old => z0V H b none fun H' => z2V H' e (l + n) (app old new)
  else none
def z1Q (H : Heap) (e z n : Nat) (s : AV) (new : List AV) : Option (AV × Heap) :=
 match s with
 | .nilslice => bif Nat.beq n 0 then some (.nilslice, H) else z2V H e n new
 | .slice b off l false c => z8D H e z b off l c n new
 | .slice b off l true c => q0s H e z b off l c n new
 | _ => none
def q1L (s : AV) : Nat :=
 match s with
 | .slice _ _ l _ _ => l
 | _ => 0
def j0y (x : AV) (z : Nat) : Bool :=
 match x with
 | .str _ => Nat.beq z 1
 | _ => true
def z4E (G : Tab) (H : Heap) (e : TypeId) (s x : AV) (i : TypeInfo) : Option (AV × Heap) :=
 z0b (z7x x) fun n => z0b (G.zero e) fun zero =>
  bif Nat.beq i.size 0 then none else
  bif j0y x i.size then
  bif Nat.beq (len zero.cells) i.size then
   bif Nat.ble i.bytes 100000 then
    bif Nat.ble (q1L s + n) 1000000 then z0b (z4h H i.size n x) (z1Q H e i.size n s) else none
   else none
  else none
  else none
def intD (d : TypeDesc) : Bool :=
 match d with
 | .int _ => true
 | _ => false
def j7u (x : AV) : Option Nat :=
 match x with
 | .int _ (.ofNat n) => some n
 | _ => none
def z8E (G : Tab) (H : Heap) (e : TypeId) (s x : AV) (i : TypeInfo) : Option (AV × Heap) :=
 z0b (j7u x) fun n => z0b (G.zero e) fun zero =>
  bif Nat.beq i.size 0 then none else
  bif Nat.beq (len zero.cells) i.size then
   bif Nat.ble i.bytes 100000 then
    bif Nat.ble (q1L s + n) 1000000 then z1Q H e i.size n s (z0M zero.cells n) else none
   else none
  else none
def k1k (G : Tab) (H : Heap) (st xt : TypeId) (s x : AV) : Option (AV × Heap) :=
 z0b (elemOf G st) fun e => z0b (G.und xt) fun u => bif intD u then z0b (G.types.get e) (z8E G H e s x) else z0b (G.types.get e) (z4E G H e s x)
def z3y (G : Tab) (H : Heap) (ts : List TypeId) (xs : List AV) : Option (AV × Heap) :=
 match ts, xs with
 | [st, xt], [s, x] => k1k G H st xt s x
 | _, _ => none
def j0z (H : Heap) (d : AV) (k : Nat) (cs : List AV) : Option (AV × Heap) :=
 match d with
 | .slice b off _ _ _ => inPlace H b off cs (natV k)
 | .nilslice => some (natV 0, H)
 | _ => none
def w8I (G : Tab) (H : Heap) (dt : TypeId) (d x : AV) : Option (AV × Heap) :=
 z0b (elemOf G dt) fun e => z0b (G.size e) fun z => z0b (z7x x) fun n => z0b (z7x d) fun m =>
  z0b (z4h H z (Nat.min n m) x) (j0z H d (Nat.min n m))
def k1l (G : Tab) (H : Heap) (ts : List TypeId) (xs : List AV) : Option (AV × Heap) :=
 match ts, xs with
 | dt :: _, [d, x] => w8I G H dt d x
 | _, _ => none
def k1m (a b : AV) : Option AV :=
 match a, b with
 | .int k a, .int _ b => some (.int k (bif iblt b a then b else a))
 | _, _ => none
def q4V (a b : AV) : Option AV :=
 match a, b with
 | .int k a, .int _ b => some (.int k (bif iblt a b then b else a))
 | _, _ => none
def k1n (f : AV → AV → Option AV) (l : List AV) : AV → Option AV :=
 List.rec (fun a => some a) (fun b _ ih a => z0b (f a b) ih) l
def j0A (H : Heap) (x : AV) : Option Heap :=
 match x with
 | .nilmap => some H
 | .nilslice => some H
 | .map r => z0b (z4V (H.blks.get r)) fun p => z5b H r [] p.2 some
 | _ => none
def j0B (v : AV) : Option UInt8 :=
 match v with
 | .int .u8 (.ofNat n) => some (UInt8.ofNat n)
 | _ => none
def z8F (l : List AV) : Option (List UInt8) := List.rec (some []) (fun v _ ih => z2o (j0B v) ih) l
def u8D (d : TypeDesc) : Bool :=
 match d with
 | .int .u8 => true
 | _ => false
def j0C (H : Heap) (e : TypeId) (s : List UInt8) (d : TypeDesc) : Option (AV × Heap) :=
 bif u8D d then
  bif Nat.ble (len s) 1000000 then z2v H e false (z0A s) fun b H => some (.slice b 0 (len s) true 0, H) else none
 else none
def strO (H : Heap) (o : Option (List UInt8)) : Option (AV × Heap) := z0b o fun s => some (.str s, H)
def z2c (H : Heap) (x : AV) (d : TypeDesc) : Option (AV × Heap) :=
 bif u8D d then
  (match x with
   | .slice b off n _ _ => z0b (z0p H b off n) fun cs => strO H (z8F cs)
   | .nilslice => some (.str [], H)
   | .tail _ _ _ _ => some (.str [], H)
   | _ => none)
 else none
def w4L (H : Heap) (b : Nat) (v : AV) : Option (AV × Heap) :=
 match H.blks.get b with
 | some (.cells _ _ _) => some (v, H)
 | _ => none
def j0D (same : Bool) (H : Heap) (b o n : Nat) (q : Bool) (c : Nat) (d : TypeDesc) : Option (AV × Heap) :=
 bif same then (bif u8D d then w4L H b (.slice b o n q c) else none) else none
def j7v (H : Heap) (b off : Nat) : Option (TypeId × Nat) :=
 match H.blks.get b, off with
 | some (.cells e true l), 0 => some (e, len l)
 | _, _ => none
def z4i (G : Tab) (H : Heap) (u : TypeId) (x : AV) : Option (AV × Heap) :=
 match x with
 | .nilptr => some (.nilptr, H)
 | .ptr b off => z0b (j7v H b off) fun e => bif Nat.beq e.1 u then (z0b (G.size u) fun z => bif Nat.beq z 0 then none else (bif Nat.ble z e.2 then some (.ptr b off, H) else none)) else none
 | _ => none
def q6T (G : Tab) (H : Heap) (same : Bool) (x : AV) (su du : TypeDesc) : Option (AV × Heap) :=
 match su, du, x with
 | .pointer u, .unsafePointer, x => z4i G H u x
 | .unsafePointer, .pointer u, x => z4i G H u x
 | _, .int k, .int _ n => some (.int k (z4Y k n), H)
 | _, .string, .str s => some (.str s, H)
 | _, .slice e, .str s => z0b (G.und e) (j0C H e s)
 | .slice e, .string, x => z0b (G.und e) (z2c H x)
 | .slice _, .slice e, .slice b o n q c => z0b (G.und e) (j0D same H b o n q c)
 | _, _, _ => none
def z6u (G : Tab) (H : Heap) (src dst : TypeId) (x : AV) : Option (AV × Heap) :=
 z0b (G.und src) fun su => z0b (G.und dst) fun du => q6T G H (Nat.beq src dst) x su du
end
end Go.Sx
namespace Go.Sx
noncomputable section
def AEntry.beq (a b : AEntry) : Bool := bif AV.beq a.key b.key then (bif AV.beq a.val b.val then Nat.beq a.born b.born else false) else false
def ABlk.beq (a b : ABlk) : Bool :=
 match a, b with
 | .cells e x l, .cells e' x' l' => bif Nat.beq e e' then (bif bbeq x x' then z2a AV.beq l l' else false) else false
 | .big e n z, .big e' n' z' => bif Nat.beq e e' then (bif Nat.beq n n' then z2a AV.beq z z' else false) else false
 | .map es c, .map es' c' => bif Nat.beq c c' then z2a AEntry.beq es es' else false
 | .mapIter m s l p, .mapIter m' s' l' p' => bif z8s Nat.beq m m' then (bif Nat.beq s s' then (bif z2a Nat.beq l l' then Nat.beq p p' else false) else false) else false
 | .strIter s p, .strIter s' p' => bif sbeq s s' then Nat.beq p p' else false
 | .deferred, .deferred => true
 | _, _ => false
def Heap.beq (a b : Heap) : Bool := bif Nat.beq a.next b.next then T.beq ABlk.beq a.blks b.blks else false
inductive ADefer where
 | collected (r : Nat)
 | call (f : AV) (args : List AV)
inductive Ex where
 | normal
 | exit (id : Nat)
 | goto (l : Nat)
 | ret
structure St where
 tm : T AV
 h : Heap
 df : List ADefer
structure Ctx where
 rnd : Option Nat
 size : Nat
abbrev VH := AV × Heap
abbrev Outs := Option (List (Ex × St))
structure Fns where
 code : Ctx → Code → St → Outs
 scope : Ctx → Code → Code → St → Outs
 call : FuncId → List AV → Heap → Option (List VH)
 yld : Nat → List AV → Heap → Option (List VH)
 callD : FuncId → List AV → Heap → Option (List VH)
def appO {α : Type} (a : Option (List α)) (b : Option (List α)) : Option (List α) :=
 match a with
 | none => none
 | some x => match b with
  | none => none
  | some y => some (app x y)
def j0E {α β : Type} (f : α → Option (List β)) (l : List α) : Option (List β) := List.rec (some []) (fun a _ ih => appO (f a) ih) l
def j5p {α β : Type} (f : α → Option (List β)) (l : List α) : Option (List β) :=
 match l with
 | [a] => f a
 | l => j0E f l
def z2k {α β : Type} (o : Option (List α)) (f : α → Option (List β)) : Option (List β) :=
 match o with
 | none => none
 | some l => j5p f l
def z0W {β : Type} (c : Ctx) (tm : T AV) (dst : Option Tmp) (v : AV) (k : T AV → Option β) : Option β :=
 match dst with
 | none => k tm
 | some d => bif Nat.blt d c.size then z4e v fun v => tm.setK d (some v) k else none
def z5Q (want : Bool) (o : Option AV) : Bool :=
 match o with
 | some (.bool b) => bbeq b want
 | _ => false
def q4W (all : List Oper) (j : Nat) : Option Tmp := z0b (nth all j) fun g => g.dst
def guardA (all : List Oper) (tm : T AV) (j : Nat) (want : Bool) : Bool :=
 match q4W all j with
 | none => false
 | some d => z5Q want (tm.get d)
def z0v (all : List Oper) (g : Option (Nat × Bool)) (tm : T AV) : Bool :=
 match g with
 | none => true
 | some (j, want) => guardA all tm j want
inductive Kind where
 | pure | read | alloc | eff
def kindB (b : Builtin) : Kind :=
 match b with
 | .len => .read
 | .unsafeSliceData => .pure
 | .cap => .pure
 | .min => .pure
 | .max => .pure
 | _ => .eff
def kindC (c : Callee) : Kind :=
 match c with
 | .builtin b => kindB b
 | _ => .eff
def orX {α : Type} (a b : Option α) : Option α :=
 match a with
 | some x => some x
 | none => b
def twoB (lo hi : Option Operand) : Bool :=
 match lo, hi with
 | some _, some _ => true
 | _, _ => false
def kindOf (o : Op) : Kind :=
 match o with
 | .move _ => .pure
 | .assign _ => .pure
 | .pick _ _ _ => .pure
 | .build _ _ => .pure
 | .nilCheck _ => .pure
 | .binOp _ _ _ _ _ => .pure
 | .unOp _ _ _ => .pure
 | .makeInterface _ _ => .pure
 | .makeFunc _ _ _ => .pure
 | .slice _ _ lo hi _ => bif twoB lo hi then .read else .pure
 | .fieldAddr _ _ _ => .pure
 | .field _ _ _ => .pure
 | .indexAddr _ _ _ => .pure
 | .index _ _ _ => .pure
 | .extract _ _ => .pure
 | .load _ _ => .read
 | .lookup _ _ _ _ => .read
 | .entry _ => .read
 | .typeAssert _ _ _ _ => .pure
 | .alloc _ => .alloc
 | .box _ _ => .alloc
 | .buildSlice _ _ _ => .alloc
 | .makeMap _ _ => .alloc
 | .makeSlice _ _ _ => .alloc
 | .call c => kindC c.callee
 | _ => .eff
def isCv (o : Op) : Bool :=
 match o with
 | .convert _ _ _ => true
 | _ => false
def q4X (o : Op) : Kind := bif isCv o then .read else kindOf o
def z6e (l : List Oper) : Bool := List.rec false (fun o _ ih => bif isCv o.op then true else ih) l
abbrev NOp := Tab → T AV → Heap → Option VH
def z0U (H : Heap) (o : Option AV) : Option VH :=
 match o with
 | none => none
 | some v => some (v, H)
def w4M : NOp := fun _ _ _ => none
def q6U (x : Operand) : NOp := fun G tm H => z0U H (aev G tm x)
def q8d (G : Tab) (tm : T AV) (a b : Operand) (c : AV) : Option AV :=
 match c with
 | .bool true => aev G tm a
 | .bool false => aev G tm b
 | _ => none
def j7w (c a b : Operand) : NOp := fun G tm H => z0U H (z0b (aev G tm c) (q8d G tm a b))
def k1o (t : TypeId) : NOp := fun G _ H => z0b (G.zero t) (boxA H t)
def w4N (t : TypeId) (x : Operand) : NOp := fun G tm H => z0b (aev G tm x) (boxA H t)
def j0F (t : TypeId) (ps : Array (Nat × Operand)) : NOp := fun G tm H => z0U H (z0b (z2j G tm ps.toList) (z5O G t))
def z7y (t : TypeId) (n : Nat) (ps : Array (Nat × Operand)) : NOp := fun G tm H => z0b (z2j G tm ps.toList) (z1c G H t n)
def loadPtr (G : Tab) (H : Heap) (t : TypeId) (a : AV) : Option AV :=
 match a with
 | .ptr b off => z2u G H t b off
 | _ => none
def j7x (t : TypeId) (a : Operand) : NOp := fun G tm H => z0U H (z0b (aev G tm a) (loadPtr G H t))
def nilCheckA (v : AV) : Option AV :=
 match v with
 | .ptr b off => some (.ptr b off)
 | .iface t v => some (.iface t v)
 | .func (.func f) a b => some (.func (.func f) a b)
 | .yld l => some (.yld l)
 | _ => none
def q0t (x : Operand) : NOp := fun G tm H => z0U H (z0b (aev G tm x) nilCheckA)
def orB (a b : Bool) : Bool := bif a then true else b
def w4O (op : BinOp) (t : TypeId) (x y : Operand) : NOp := fun G tm H =>
 z0U H (z0b (aev G tm x) fun a => z0b (aev G tm y) fun b => binA G op t (orB (z1o x) (z1o y)) a b)
def opUn (op : UnOp) (x : Operand) : NOp := fun G tm H => z0U H (z0b (aev G tm x) (unA op))
def z4F (d : TypeDesc) : Bool :=
 match d with
 | .interface _ => false
 | _ => true
def z5c (t : TypeId) (x : Operand) : NOp := fun G tm H =>
 z0b (G.und t) fun d => bif z4F d then z0U H (z0b (aev G tm x) fun v => some (.iface t v)) else none
def z8G (fn : Fn) : Bool :=
 match fn with
 | .func _ => true
 | _ => false
def q0u (fn : Fn) (first cap : Array Operand) : NOp := fun G tm H =>
 bif z8G fn then z0U H (z0b (aevs G tm first.toList) fun a => z0b (aevs G tm cap.toList) fun b => some (.func fn a b)) else none
def z2A (H : Heap) : Option VH := newA H (.map [] 0) fun b H => some (.map b, H)
def z5d (G : Tab) (t : TypeId) (v : AV) : Bool :=
 match G.und t, v with
 | some (.map _ _), .int _ _ => true
 | _, _ => false
def q3o (t : TypeId) (r : Option Operand) : NOp := fun G tm H =>
 match r with
 | none => z2A H
 | some x => z0b (aev G tm x) fun v => bif z5d G t v then z2A H else none
def z8H (t : TypeId) (l c : Operand) : NOp := fun G tm H => z0b (aev G tm l) fun a => z0b (aev G tm c) fun b => z1b G H t a b
def opt1 (G : Tab) (tm : T AV) (o : Option Operand) : Option (Option AV) :=
 match o with
 | none => some none
 | some o => z0b (aev G tm o) fun v => some (some v)
def q4Y (G : Tab) (H : Heap) (x : AV) (lo hi : Option AV) (d : TypeDesc) : Option AV :=
 match d, x, lo, hi with
 | .slice e, .slice b off _ true c, some (.int _ (.ofNat l)), some (.int _ (.ofNat h)) => z0b (G.size e) fun z => z0b (z3x e (H.blks.get b)) fun kn =>
  bif Nat.beq z 0 then none else bif Nat.beq off (c * z) then (bif Nat.ble (off + h * z) kn then (bif Nat.blt l h then some (.slice b (off + l * z) (h - l) true (c + l)) else none) else none) else none
 | _, _, _, _ => none
def q3p (G : Tab) (H : Heap) (t : TypeId) (x : AV) (lo hi : Option AV) : Option AV := z0b (G.und t) (q4Y G H x lo hi)
def z7z (G : Tab) (H : Heap) (w : Bool) (t : TypeId) (x : AV) (lo hi mx : Option AV) : Option AV :=
 match w, mx with
 | true, none => orX (q6P G t x lo hi none) (q3p G H t x lo hi)
 | _, mx => q6P G t x lo hi mx
def j0G (t : TypeId) (x : Operand) (lo hi mx : Option Operand) : NOp := fun G tm H =>
 z0U H (z0b (aev G tm x) fun v => z0b (opt1 G tm lo) fun a => z0b (opt1 G tm hi) fun b => z0b (opt1 G tm mx) fun c => z7z G H (twoB lo hi) t v a b c)
def z8I (s : TypeId) (x : Operand) (f : Nat) : NOp := fun G tm H => z0U H (z0b (aev G tm x) (z0g G s f))
def j0H (t : TypeId) (x : Operand) (f : Nat) : NOp := fun G tm H => z0U H (z0b (aev G tm x) (q6M G t f))
def z8J (t : TypeId) (x i : Operand) : NOp := fun G tm H => z0U H (z0b (aev G tm x) fun v => z0b (aev G tm i) fun j => z1K G t v j)
def j0I (t : TypeId) (x i : Operand) : NOp := fun G tm H => z0U H (z0b (aev G tm x) fun v => z0b (aev G tm i) fun j => j7l G t v j)
def q6V (t : TypeId) (x k : Operand) (ok : Bool) : NOp := fun G tm H => z0U H (z0b (aev G tm x) fun v => z0b (aev G tm k) fun j => z4C G H t ok v j)
def j0J (x : Operand) : NOp := fun G tm H => z0U H (z0b (aev G tm x) (z8B H))
def extractA (i : Nat) (v : AV) : Option AV :=
 match v with
 | .tuple vs => nth vs i
 | _ => none
def q3q (t : Operand) (i : Nat) : NOp := fun G tm H => z0U H (z0b (aev G tm t) (extractA i))
def fst1 {α β : Type} (l : List α) (f : α → Option β) : Option β :=
 match l with
 | [] => none
 | a :: _ => f a
def q3r (f : AV → AV → Option AV) (l : List AV) : Option AV :=
 match l with
 | [] => none
 | a :: l => k1n f l a
def q0v (x : AV) : Option AV :=
 match x with
 | .nilslice => some .nilptr
 | .slice b off n true _ => bif Nat.beq n 0 then none else some (.ptr b off)
 | _ => none
def q0w (xs : List AV) : Option AV :=
 match xs with
 | [x] => q0v x
 | _ => none
def z4G (b : Builtin) : Tab → List TypeId → List AV → Heap → Option AV :=
 match b with
 | .unsafeSliceData => fun _ _ xs _ => q0w xs
 | .len => fun G ts xs H => fst1 ts fun t => fst1 xs (lenA G H t)
 | .cap => fun G ts xs _ => fst1 ts fun t => fst1 xs (capA G t)
 | .min => fun _ _ xs _ => q3r k1m xs
 | .max => fun _ _ xs _ => q3r q4V xs
 | _ => fun _ _ _ _ => none
def q1M (c : Callee) : Option Builtin :=
 match c with
 | .builtin b => some b
 | _ => none
def j0K (c : Call) : NOp := fun G tm H =>
 z0U H (z0b (q1M c.callee) fun b => z0b (aevs G tm c.args.toList) fun xs => z4G b G c.argTypes.toList xs H)
def j0L (G : Tab) (want : TypeId) (ok : Bool) (v : AV) : Option AV :=
 match v with
 | .iface t v => z0b (G.und want) fun d => bif z4F d then (bif Nat.beq t want then some (bif ok then .tuple [v, .bool true] else v) else none) else none
 | _ => none
def q6W (x : Operand) (want : TypeId) (ok : Bool) : NOp := fun G tm H => z0U H (z0b (aev G tm x) (j0L G want ok))
def fstO (o : Option (AV × Heap)) : Option AV := z0b o fun p => some p.1
def k1p (G : Tab) (H : Heap) (x : AV) (su du : TypeDesc) : Option AV :=
 match su, du, x with
 | _, .int k, .int _ n => some (.int k (z4Y k n))
 | .slice e, .string, .slice b o n q c => z0b (G.und e) fun d => fstO (z2c H (.slice b o n q c) d)
 | .slice e, .string, .nilslice => z0b (G.und e) fun d => fstO (z2c H .nilslice d)
 | .slice e, .string, .tail b o p c => z0b (G.und e) fun d => fstO (z2c H (.tail b o p c) d)
 | _, _, _ => none
def z8K (G : Tab) (H : Heap) (a b : TypeId) (x : AV) : Option AV := z0b (G.und a) fun su => z0b (G.und b) fun du => k1p G H x su du
def j0M (a b : TypeId) (x : Operand) : NOp := fun G tm H => z0U H (z0b (aev G tm x) (z8K G H a b))
def opN (o : Op) : NOp :=
 match o with
 | .typeAssert x _ t ok => q6W x t ok
 | .move x => q6U x
 | .assign x => q6U x
 | .pick c a b => j7w c a b
 | .alloc t => k1o t
 | .box t x => w4N t x
 | .build t ps => j0F t ps
 | .buildSlice t n ps => z7y t n ps
 | .load t a => j7x t a
 | .nilCheck x => q0t x
 | .binOp op t x y _ => w4O op t x y
 | .unOp op _ x => opUn op x
 | .makeInterface t x => z5c t x
 | .makeFunc fn a b => q0u fn a b
 | .makeMap t r => q3o t r
 | .makeSlice t l c => z8H t l c
 | .convert a b x => j0M a b x
 | .slice t x lo hi mx => j0G t x lo hi mx
 | .fieldAddr s x f => z8I s x f
 | .field t x f => j0H t x f
 | .indexAddr t x i => z8J t x i
 | .index t x i => j0I t x i
 | .lookup t x k ok => q6V t x k ok
 | .entry x => j0J x
 | .extract t i => q3q t i
 | .call c => j0K c
 | _ => w4M
def j0N (F : Fns) (fn : Fn) (first args cap : List AV) (H : Heap) : Option (List VH) :=
 match fn with
 | .func f => F.call f (app first (app args cap)) H
 | _ => none
def q0x (F : Fns) (args : List AV) (H : Heap) (v : AV) : Option (List VH) :=
 match v with
 | .func fn first cap => j0N F fn first args cap H
 | .yld l => F.yld l args H
 | _ => none
def j5q (name : String) (l : List Method) : Option Method := List.rec none (fun m _ ih => if m.name = name then some m else ih) l
def j7y (o : Option TypeDesc) : Bool :=
 match o with
 | some (.pointer _) => true
 | _ => false
def j0O (ptr : Bool) (p : List FieldStep) (f : Option (FuncId × Bool)) : Option FuncId :=
 match p, f with
 | [], some (f, q) => bif bbeq ptr q then some f else none
 | _, _ => none
def j0P (G : Tab) (t : TypeId) (name : String) : Option FuncId :=
 z0b (G.types.get t) fun i => z0b (j5q name i.methods.toList) fun m => z0b (G.und t) fun d => j0O (j7y (some d)) m.path.toList m.func
abbrev EOut := AV × List ADefer × Heap
abbrev EOp := Fns → Tab → Ctx → T AV → List ADefer → Heap → Option (List EOut)
def out1 (df : List ADefer) (o : Option Heap) : Option (List EOut) :=
 match o with
 | none => none
 | some H => some [(z0G, df, H)]
def out2 (df : List ADefer) (o : Option VH) : Option (List EOut) :=
 match o with
 | none => none
 | some p => some [(p.1, df, p.2)]
def outs (df : List ADefer) (o : Option (List VH)) : Option (List EOut) :=
 match o with
 | none => none
 | some [p] => some [(p.1, df, p.2)]
 | some l => some (l.map fun p => (p.1, df, p.2))
def k1q : EOp := fun _ _ _ _ _ _ => none
def z2i (G : Tab) (H : Heap) (t : TypeId) (a v : AV) : Option Heap :=
 match a with
 | .ptr b off => q3h G H t b off v
 | _ => none
def j0Q (t : TypeId) (a x : Operand) : EOp := fun _ G _ tm df H => out1 df (z0b (aev G tm a) fun p => z0b (aev G tm x) fun v => z2i G H t p v)
def z4H (t : TypeId) (m k x : Operand) : EOp := fun _ G _ tm df H =>
 out1 df (z0b (aev G tm m) fun m => z0b (aev G tm k) fun k => z0b (aev G tm x) fun x => z4g G H t m k x)
def q0y (t : TypeId) (m k : Operand) : EOp := fun _ G _ tm df H => out2 df (z0b (aev G tm m) fun m => z0b (aev G tm k) fun k => z8A G H t m k)
def z7A (m s x : Operand) : EOp := fun _ G _ tm df H =>
 out1 df (z0b (aev G tm m) fun m => z0b (aev G tm s) fun s => z0b (aev G tm x) fun x => z6c H m s x)
def j0R (t : TypeId) (x : Operand) : EOp := fun _ G _ tm df H => out2 df (z0b (aev G tm x) (j0w G H t))
def j7z (it : Operand) (s : Bool) : EOp := fun _ G _ tm df H => outs df (z0b (aev G tm it) fun v => q4U H v s)
def q3s (s d : TypeId) (x : Operand) : EOp := fun _ G _ tm df H => out2 df (z0b (aev G tm x) (z6u G H s d))
def q4Z (c : Callee) : Option Operand :=
 match c with
 | .value f => some f
 | _ => none
def w4P (v : AV) : Bool :=
 match v with
 | .func _ _ _ => true
 | _ => false
def q5a (cl : Call) : EOp := fun _ G c tm df H =>
 match c.rnd with
 | none => z0b (q4Z cl.callee) fun f => z0b (aev G tm f) fun v => bif w4P v then z0b (aevs G tm cl.args.toList) fun args => some [(z0G, .call v args :: df, H)] else none
 | some _ => none
def embD (f : FuncId) (r : AV) (d : TypeDesc) : Option (FuncId × AV) :=
 match d with
 | .pointer _ => some (f, r)
 | _ => none
def embF (G : Tab) (p : List FieldStep) (f : Option (FuncId × Bool)) (v : AV) : Option (FuncId × AV) :=
 match p, f, v with
 | [st], some (f, true), .agg cs => bif st.deref then none else z0b (q1F G st.struct st.index) fun fd => z0b (z3w G fd.type cs fd.offset) fun r => z0b (G.und fd.type) (embD f r)
 | _, _, _ => none
def j0S (G : Tab) (t : TypeId) (name : String) (v : AV) : Option (FuncId × AV) :=
 z0b (G.types.get t) fun i => z0b (j5q name i.methods.toList) fun m => embF G m.path.toList m.func v
def q1N (F : Fns) (G : Tab) (name : String) (args : List AV) (H : Heap) (r : AV) : Option (List VH) :=
 match r with
 | .iface t v => orX (z0b (j0P G t name) fun f => F.call f (v :: args) H) (z0b (j0S G t name v) fun p => F.call p.1 (p.2 :: args) H)
 | _ => none
def j0T (G : Tab) (H : Heap) (ts : List TypeId) (xs : List AV) : Option Heap :=
 match ts, xs with
 | t :: _, [m, k] => q4T G H t m k
 | _, _ => none
def j0U (G : Tab) (H : Heap) (d : TypeDesc) (x : AV) : Option Heap :=
 match d, x with
 | .slice e, .slice b off n _ _ => bif Nat.beq n 0 then none else z0b (G.zero e) fun z => z1y H b off (z0M z.cells n)
 | _, x => j0A H x
def j7A (G : Tab) (H : Heap) (ts : List TypeId) (xs : List AV) : Option Heap :=
 match ts, xs with
 | t :: _, [x] => z0b (G.und t) fun d => j0U G H d x
 | _, _ => none
def j0V (d : TypeDesc) : Option TypeId :=
 match d with
 | .pointer e => some e
 | _ => none
def q6X (G : Tab) (H : Heap) (t b off n : Nat) (o : Option ABlk) : Option VH :=
 match o with
 | some (.cells e false l) => z0b (z0b (G.und t) j0V) fun u => bif Nat.beq u e then
   (z0b (G.size e) fun z => bif Nat.beq z 1 then (bif Nat.ble n 1000000000 then (z0b (z4T (z6V l off) n) fun cs => z0b (z8F cs) fun s => bif z2a AV.beq (z0A s) cs then some (.str s, q3n H b) else none) else none) else none) else none
 | _ => none
def q3t (G : Tab) (H : Heap) (t : TypeId) (p n : AV) : Option VH :=
 match p, n with
 | .nilptr, .int .i64 (.ofNat 0) => some (.str [], H)
 | .ptr b off, .int .i64 (.ofNat (n + 1)) => q6X G H t b off (n + 1) (H.blks.get b)
 | _, _ => none
def z7a (G : Tab) (H : Heap) (ts : List TypeId) (xs : List AV) : Option VH :=
 match ts, xs with
 | t :: _, [p, n] => q3t G H t p n
 | _, _ => none
def z8d (b : Builtin) : Tab → List TypeId → List AV → List ADefer → Heap → Option (List EOut) :=
 match b with
 | .unsafeString => fun G ts xs df H => out2 df (z7a G H ts xs)
 | .append => fun G ts xs df H => out2 df (z3y G H ts xs)
 | .copy => fun G ts xs df H => out2 df (k1l G H ts xs)
 | .delete => fun G ts xs df H => out1 df (j0T G H ts xs)
 | .clear => fun G ts xs df H => out1 df (j7A G H ts xs)
 | _ => fun _ _ _ _ _ => none
def j7B (H : Heap) (t : Nat) (o : Option ABlk) : Option (List VH) :=
 match o with
 | some (.map es c) => newA H (.map es c) fun b H => some [(.iface t (.map b), H)]
 | _ => none
def j5r (s : List UInt8) (c : Nat) : Nat → Option Nat :=
 List.rec (fun _ => none) (fun b _ ih i => bif Nat.beq b.toNat c then some i else ih (i + 1)) s
def q6Y (o : Option Nat) : AV :=
 match o with
 | some i => .int .i64 (.ofNat i)
 | none => .int .i64 (.negSucc 0)
def j0W (H : Heap) (e n : Nat) : Option (List VH) :=
 bif Nat.ble n 1000000 then newA H (.cells e false []) fun b H => some [(.slice b 0 n true 0, H)] else none
def extA (G : Tab) (k : ExtK) (args : List AV) (H : Heap) : Option (List VH) :=
 match k, args with
 | .clone, [.iface t (.map r)] => j7B H t (H.blks.get r)
 | .same, [v] => some [(v, H)]
 | .indexByte, [.str s, .int .u8 (.ofNat c)] => bif Nat.blt c 256 then some [(q6Y (j5r s c 0), H)] else none
 | .noZero r, [.int .i64 (.ofNat n)] => z0b (elemOf G r) fun e => z0b (G.size e) fun z => bif Nat.beq z 1 then j0W H e n else none
 | _, _ => none
def extV (G : Tab) (args : List AV) (H : Heap) (v : AV) : Option (List VH) :=
 match v with
 | .func (.func f) [] [] => z0b (G.ext.get f) fun k => extA G k args H
 | _ => none
def q1O (c : Callee) (ts : List TypeId) (args : List AV) : EOp :=
 match c with
 | .value f => fun F G _ tm df H => orX (outs df (z0b (aev G tm f) (q0x F args H))) (outs df (z0b (aev G tm f) (extV G args H)))
 | .invoke r name => fun F G _ tm df H => outs df (z0b (aev G tm r) (q1N F G name args H))
 | .builtin b => fun _ G _ _ df H => z8d b G ts args df H
def j7C (cl : Call) : EOp := fun F G c tm df H =>
 z0b (aevs G tm cl.args.toList) fun args => q1O cl.callee cl.argTypes.toList args F G c tm df H
def opE (o : Op) : EOp :=
 match o with
 | .store t a x => j0Q t a x
 | .mapUpdate t m k x => z4H t m k x
 | .insert t m k x => z4H t m k x
 | .mapEntry t m k => q0y t m k
 | .entryStore _ m s x => z7A m s x
 | .range t x => j0R t x
 | .next it s => j7z it s
 | .convert s d x => q3s s d x
 | .defer cl => q5a cl
 | .call cl => j7C cl
 | _ => k1q
abbrev Run := Fns → Tab → Ctx → List Oper → St → Option (List St)
def runE (o : Oper) (ih : Run) : Run := fun F G c all s =>
 z2k (opE o.op F G c s.tm s.df s.h) fun p => z0W c s.tm o.dst p.1 fun tm => ih F G c all ⟨tm, p.2.2, p.2.1⟩
def runN (o : Oper) (ih : Run) : Run := fun F G c all s =>
 z0b (opN o.op G s.tm s.h) fun p => z0W c s.tm o.dst p.1 fun tm => ih F G c all ⟨tm, p.2, s.df⟩
def z5e (o : Oper) (ih : Run) : Run := fun F G c all s => z0W c s.tm o.dst z0G fun tm => ih F G c all ⟨tm, s.h, s.df⟩
def z2E (k : Kind) : Oper → Run → Run :=
 match k with
 | .eff => runE
 | _ => runN
def z5R (o : Oper) (ih : Run) : Run := fun F G c all s =>
 bif z0v all o.guard s.tm then z2E (kindOf o.op) o ih F G c all s else z5e o ih F G c all s
def z0z (l : List Oper) : Run := List.rec (fun _ _ _ _ s => some [s]) (fun o _ ih => z5R o ih) l
structure RO where
 i : Nat
 o : Oper
 pre : Nat
 kind : Kind
def sub (a b : Nat) : Bool := Nat.beq (Nat.land a b) a
def q5b (acc : T Nat) (i : Nat) (e : Edge) (ih : Nat → Option Nat) (m : Nat) : Option Nat :=
 bif Region.binds .any e then
  (bif Nat.blt e.on i then z0b (acc.get e.on) fun p => ih (Nat.lor (Nat.lor m (Nat.pow 2 e.on)) p) else none)
 else ih m
def q3u (acc : T Nat) (i : Nat) (es : List Edge) : Nat → Option Nat := List.rec (fun m => some m) (fun e _ ih => q5b acc i e ih) es
def z3k (l : List Oper) : Nat → T Nat → Option (List RO) :=
 List.rec (fun _ _ => some []) (fun o _ ih i acc => z0b (q3u acc i o.after.toList 0) fun m =>
  z0X m fun m => acc.setK i (some m) fun acc' => z0X (i + 1) fun i' => z1L ⟨i, o, m, kindOf o.op⟩ (ih i' acc')) l
def z8L (l : List Oper) : Nat → T Nat → Option (List RO) :=
 List.rec (fun _ _ => some []) (fun o _ ih i acc => z0b (q3u acc i o.after.toList 0) fun m =>
  z0X m fun m => acc.setK i (some m) fun acc' => z0X (i + 1) fun i' => z1L ⟨i, o, m, q4X o.op⟩ (ih i' acc')) l
def j0X (o : Operand) (l : List Tmp) : List Tmp :=
 match o with
 | .tmp t => t :: l
 | _ => l
def z8e (l : List Operand) : List Tmp := List.rec [] (fun o _ ih => j0X o ih) l
def j0Y (o : Option Tmp) (l : List Tmp) : List Tmp :=
 match o with
 | none => l
 | some d => d :: l
def looks (all : List Oper) (o : Oper) : List Tmp :=
 match o.guard with
 | none => z8e o.op.operands.toList
 | some (j, _) => j0Y (q4W all j) (z8e o.op.operands.toList)
def q1P (a b : RO) : Bool := bif Nat.testBit b.pre a.i then true else Nat.testBit a.pre b.i
def q1Q (r s : RO) (ls : List Tmp) (o : Option Tmp) : Bool :=
 match o with
 | none => true
 | some d => bif z2U d ls then q1P r s else true
def q5c (r : RO) (ls : List Tmp) (l : List RO) : Bool :=
 List.rec true (fun s _ ih => bif (bif Nat.beq s.i r.i then true else q1Q r s ls s.o.dst) then ih else false) l
def z8M (r s : RO) : Bool :=
 match r.o.dst, s.o.dst with
 | some d, some e => bif Nat.beq d e then q1P r s else true
 | _, _ => true
def q1R (r : RO) (l : List RO) : Bool := List.rec true (fun s _ ih => bif (bif Nat.beq s.i r.i then true else z8M r s) then ih else false) l
def v2Y (r : RO) (o : Option Nat) : Bool :=
 match o with
 | none => true
 | some j => Nat.testBit r.pre j
def z0S (k : Kind) : Bool :=
 match k with
 | .eff => true
 | _ => false
def z3z (all : List Oper) (rs l : List RO) : Bool :=
 List.rec true (fun r _ ih => bif q5c r (looks all r.o) rs then (bif q1R r rs then ih else false) else false) l
structure Kept where
 r : RO
 tm : T AV
 v : AV
structure DS where
 done : Nat
 s : St
 kept : List Kept
abbrev DK := DS → Option (List St)
def z2B (r : RO) (tm : T AV) (v : AV) (l : List Kept) : List Kept :=
 match r.kind with
 | .pure => l
 | _ => ⟨r, tm, v⟩ :: l
def z8N (G : Tab) (c : Ctx) (r : RO) (d : DS) (ih : DK) : Option (List St) :=
 z0b (opN r.o.op G d.s.tm d.s.h) fun p => z0W c d.s.tm r.o.dst p.1 fun tm =>
  z0X (Nat.lor d.done (Nat.pow 2 r.i)) fun m => ih ⟨m, ⟨tm, p.2, d.s.df⟩, z2B r d.s.tm p.1 d.kept⟩
def z5f (c : Ctx) (r : RO) (d : DS) (ih : DK) : Option (List St) :=
 z0W c d.s.tm r.o.dst z0G fun tm => z0X (Nat.lor d.done (Nat.pow 2 r.i)) fun m => ih ⟨m, ⟨tm, d.s.h, d.s.df⟩, d.kept⟩
def ready (r : RO) (done : Nat) : Bool := bif z0S r.kind then false else bif Nat.testBit done r.i then false else sub r.pre done
def z5g (G : Tab) (c : Ctx) (all : List Oper) (r : RO) (ih : DK → DK) (k : DK) (d : DS) : Option (List St) :=
 bif ready r d.done then
  (bif z0v all r.o.guard d.s.tm then z8N G c r d (ih k) else z5f c r d (ih k))
 else ih k d
def z0Z (G : Tab) (c : Ctx) (all : List Oper) (l : List RO) : DK → DK := List.rec (fun k d => k d) (fun r _ ih => z5g G c all r ih) l
def z0e (done : Nat) (l : List RO) : Bool := List.rec true (fun r _ ih => bif ready r done then false else ih) l
def z0B (done : Nat) (l : List RO) : Option RO :=
 List.rec none (fun r _ ih => bif z0S r.kind then (bif Nat.testBit done r.i then ih else some r) else ih) l
def j0Z (e r : RO) (done : Nat) : Bool :=
 bif z0S r.kind then (bif Nat.testBit done r.i then true else bif Nat.beq r.i e.i then true else Nat.testBit r.pre e.i) else true
def z0o (e : RO) (done : Nat) (l : List RO) : Bool := List.rec true (fun r _ ih => bif j0Z e r done then ih else false) l
def z0K (v : AV) : Option Nat :=
 match v with
 | .ptr b _ => some b
 | .slice b _ _ _ _ => some b
 | .map b => some b
 | _ => none
def k1r (v : AV) (o : Option VH) : Bool :=
 match o with
 | some p => AV.beq p.1 v
 | none => false
def k1s (x y : Option ABlk) : Bool :=
 match x, y with
 | some x, some y => ABlk.beq x y
 | _, _ => false
def z8f (v : AV) (H : Heap) (b : Nat) (o : Option VH) : Bool :=
 match o with
 | some p => bif AV.beq p.1 v then k1s (p.2.blks.get b) (H.blks.get b) else false
 | none => false
def j1a (G : Tab) (H : Heap) (k : Kept) (o : Option Nat) : Bool :=
 match o with
 | some b => z8f k.v H b (opN k.r.o.op G k.tm ⟨b, .e⟩)
 | none => false
def z0L (k : Kind) : Bool :=
 match k with
 | .alloc => true
 | _ => false
def z3X (G : Tab) (H : Heap) (k : Kept) : Bool :=
 bif z0L k.r.kind then j1a G H k (z0K k.v) else k1r k.v (opN k.r.o.op G k.tm H)
def z7B (G : Tab) (H : Heap) (sealed : Nat) (l : List Kept) : Bool :=
 List.rec true (fun k _ ih => bif (bif Nat.testBit sealed k.r.i then true else z3X G H k) then ih else false) l
def z3e (G : Tab) (rs : List RO) (sealed : Nat) (d : DS) : Bool := bif z0e d.done rs then z7B G d.s.h sealed d.kept else false
def q1S (F : Fns) (G : Tab) (c : Ctx) (r : RO) (d : DS) (next : DK) : Option (List St) :=
 z2k (opE r.o.op F G c d.s.tm d.s.df d.s.h) fun p => z0W c d.s.tm r.o.dst p.1 fun tm =>
  z0X (Nat.lor d.done (Nat.pow 2 r.i)) fun m => next ⟨m, ⟨tm, p.2.2, p.2.1⟩, d.kept⟩
def z4I (c : Ctx) (r : RO) (d : DS) (next : DK) : Option (List St) :=
 z0W c d.s.tm r.o.dst z0G fun tm => z0X (Nat.lor d.done (Nat.pow 2 r.i)) fun m => next ⟨m, ⟨tm, d.s.h, d.s.df⟩, d.kept⟩
def z2p (F : Fns) (G : Tab) (c : Ctx) (all : List Oper) (r : RO) (d : DS) (next : DK) : Option (List St) :=
 bif z0v all r.o.guard d.s.tm then q1S F G c r d next else z4I c r d next
def k1t (F : Fns) (G : Tab) (c : Ctx) (all : List Oper) (rs : List RO) (next : Nat → DK) (d : DS) (o : Option RO) : Option (List St) :=
 match o with
 | none => some [d.s]
 | some r => bif sub r.pre d.done then (bif z0o r d.done rs then z2p F G c all r d (next r.pre) else none) else none
def z0n (F : Fns) (G : Tab) (c : Ctx) (all : List Oper) (rs : List RO) (next : Nat → DK) (sealed : Nat) (d : DS) : Option (List St) :=
 bif z3e G rs sealed d then k1t F G c all rs next d (z0B d.done rs) else none
def z0t (F : Fns) (G : Tab) (c : Ctx) (all : List Oper) (rs : List RO) (f : Nat) : Nat → DK :=
 Nat.rec (fun _ _ => none) (fun _ ih sealed d => z0Z G c all rs (z0n F G c all rs ih sealed) d) f
def z7C (F : Fns) (G : Tab) (c : Ctx) (all : List Oper) (s : St) (rs : List RO) : Option (List St) :=
 bif z3z all rs rs then z0t F G c all rs 100 0 ⟨0, s, []⟩ else none
def z1M : Run := fun F G c all s => z0b (z3k all 0 .e) (z7C F G c all s)
def j5s : Run := fun F G c all s => z0b (z8L all 0 .e) (z7C F G c all s)
def z8O : Run := fun F G c all s => bif z6e all then j5s F G c all s else z1M F G c all s
def z4j (k : St → Outs) (p : Ex × St) : Outs :=
 match p.1 with
 | .normal => k p.2
 | e => some [(e, p.2)]
def z1O (o : Option (List St)) : Outs :=
 match o with
 | none => none
 | some [s] => some [(.normal, s)]
 | some l => some (l.map fun s => (.normal, s))
def z4J (id : Nat) (p : Ex × St) : Outs :=
 match p.1 with
 | .exit j => bif Nat.beq j id then some [(.normal, p.2)] else some [(.exit j, p.2)]
 | e => some [(e, p.2)]
def q5d (F : Fns) (c : Ctx) (body : Code) (l : Nat) (s : St) (o : Option Code) : Outs :=
 match o with
 | some rest => F.scope c body rest s
 | none => some [(.goto l, s)]
def z5h (F : Fns) (c : Ctx) (body : Code) (p : Ex × St) : Outs :=
 match p.1 with
 | .goto l => q5d F c body l p.2 (findLabel body l)
 | e => some [(e, p.2)]
def q6Z (c : Code) : Option Ex :=
 match c with
 | .ret => some .ret
 | .exit id => some (.exit id)
 | .goto l => some (.goto l)
 | _ => none
def exOf (o : Option Code) : Option Ex :=
 match o with
 | none => some .normal
 | some c => q6Z c
def j1b (s : LoopState) : Bool :=
 match s with
 | .busy => false
 | _ => true
def z7D (o : Option ABlk) : Option ALoop :=
 match o with
 | some (.loop r) => some r
 | _ => none
def q7a (l : Nat) (tm : T AV) (df : List ADefer) (H : Heap) : Outs :=
 z0b (z7D (H.blks.get l)) fun r => bif j1b r.state then z0b (exOf r.pending) fun e => z0V H l none fun H' => some [(e, ⟨tm, H', df⟩)] else none
abbrev CRun := Fns → Tab → Ctx → St → Outs
def cSkip : CRun := fun _ _ _ s => some [(.normal, s)]
def cRet : CRun := fun _ _ _ s => some [(.ret, s)]
def cExit (id : Nat) : CRun := fun _ _ _ s => some [(.exit id, s)]
def w8J (l : Nat) : CRun := fun _ _ _ s => some [(.goto l, s)]
def k1u (_ : String) : CRun := fun _ _ _ _ => none
def cSeq (a b : CRun) : CRun := fun F G c s => z2k (a F G c s) (z4j (b F G c))
def condV (a b : CRun) (v : AV) : CRun :=
 match v with
 | .bool true => a
 | .bool false => b
 | _ => fun _ _ _ _ => none
def cCond (x : Operand) (a b : CRun) : CRun := fun F G c s => z0b (aev G s.tm x) fun v => condV a b v F G c s
def q7b (id : Nat) (b : CRun) : CRun := fun F G c s => z2k (b F G c s) (z4J id)
def j5t (body : Code) (b : CRun) : CRun := fun F G c s => z2k (b F G c s) (z4j (F.code c (.loop body)))
def j7D (body : Code) (b : CRun) : CRun := fun F G c s => z2k (b F G c s) (z5h F c body)
def z2F (_ : Nat) (ops : Array Oper) (draw : Bool) : CRun := fun F G c s =>
 z1O (bif draw then z8O F G c ops.toList s else z0z ops.toList F G c ops.toList s)
def z8g (F : Fns) (c : Ctx) (params : List Tmp) (assign body : Code) (s : St) (df : List ADefer) (r : Nat) (H : Heap) (v : AV) : Outs :=
 newA H (.loop ⟨.ready, none, c.size, s.tm, params, assign, body, r⟩) fun l H => z2k (q0x F [.yld l] H v) fun p => q7a l s.tm df p.2
def z7b (f : Operand) (params : Array Tmp) (assign body : Code) : CRun := fun F G c s =>
 z0b (aev G s.tm f) fun v => match c.rnd with
  | none => newA s.h .deferred fun r H => z8g F c params.toList assign body s (.collected r :: s.df) r H v
  | some l₀ => z0b (z7D (s.h.blks.get l₀)) fun r₀ => z8g F c params.toList assign body s s.df r₀.defers s.h v
def z0u (c : Code) : CRun :=
 Code.rec cSkip z2F (fun _ _ a b => cSeq a b) (fun x _ _ a b => cCond x a b) (fun id _ b => q7b id b) (fun body b => j5t body b)
  (fun f ps a b _ _ => z7b f ps a b) cExit (fun body b => j7D body b) (fun _ => cSkip) w8J cRet k1u c
def q1T {β : Type} (l : List AV) : T AV → Nat → (T AV → β) → β :=
 List.rec (fun tm _ k => k tm) (fun v _ ih tm i k => z4e v fun v => tm.setK i (some v) fun tm' => ih tm' (i + 1) k) l
def z8P (G : Tab) (H : Heap) (t : TypeId) (o : Option AV) : Option AV :=
 match o with
 | some (.ptr b off) => z2u G H t b off
 | _ => none
def resultA (G : Tab) (tm : T AV) (H : Heap) (r : ResultVar) : Option AV :=
 match r with
 | .tmp t => z3V (tm.get t)
 | .cell a t => z8P G H t (tm.get a)
def z0I (G : Tab) (tm : T AV) (H : Heap) (l : List ResultVar) : Option (List AV) :=
 List.rec (some []) (fun r _ ih => z2o (resultA G tm H r) ih) l
def z2d (l : List AV) : AV :=
 match l with
 | [v] => v
 | l => .tuple l
def q7c (F : Fns) (fn : Fn) (first args cap : List AV) (H : Heap) : Option (List VH) :=
 match fn with
 | .func f => F.callD f (app first (app args cap)) H
 | _ => none
def j1c (F : Fns) (args : List AV) (H : Heap) (v : AV) : Option (List VH) :=
 match v with
 | .func fn first cap => q7c F fn first args cap H
 | _ => none
def q1U (F : Fns) (d : ADefer) (H : Heap) : Option (List Heap) :=
 match d with
 | .collected r => (match H.blks.get r with
  | some .deferred => some [q3n H r]
  | _ => none)
 | .call v args => z2k (j1c F args H v) fun p => some [p.2]
def z8Q (F : Fns) (l : List ADefer) : Heap → Option (List Heap) :=
 List.rec (fun H => some [H]) (fun d _ ih H => z2k (q1U F d H) ih) l
def j1d (o : Option ABlk) : Bool :=
 match o with
 | some (.mapIter _ _ _ _) => true
 | _ => false
def z4k (n : Nat) : Heap → Nat → Heap :=
 Nat.rec (fun H _ => H) (fun _ ih H b => bif j1d (H.blks.get b) then ih (q3n H b) (b + 1) else ih H (b + 1)) n
def q7d (p q : VH) : Bool := bif AV.beq p.1 q.1 then Heap.beq p.2 q.2 else false
def q3v (p : VH) (l : List VH) : Bool := List.rec false (fun q _ ih => bif q7d p q then true else ih) l
def j1e (p : VH) (l : List VH) : List VH := bif q3v p l then l else p :: l
def dedup (l : List VH) : List VH := List.rec [] (fun p _ ih => j1e p ih) l
def z6v (b : Nat) (l : List VH) : List VH :=
 match l with
 | [p] => [p]
 | l => dedup (l.map fun p => (p.1, z4k (p.2.next - b) p.2 b))
def z2W (e : Ex) : Bool :=
 match e with
 | .normal => true
 | .ret => true
 | _ => false
def resOut (G : Tab) (tm : T AV) (rs : List ResultVar) (H : Heap) : Option (List VH) := z0b (z0I G tm H rs) fun vs => some [(z2d vs, H)]
def z2G (F : Fns) (G : Tab) (rs : List ResultVar) (p : Ex × St) : Option (List VH) :=
 bif z2W p.1 then
  (match p.2.df with
   | [] => resOut G p.2.tm rs p.2.h
   | df => z2k (z8Q F df p.2.h) (resOut G p.2.tm rs))
 else none
def q0z (b : Nat) (o : Option (List VH)) : Option (List VH) :=
 match o with
 | none => none
 | some l => some (z6v b l)
def callFn (F : Fns) (G : Tab) (args : List AV) (H : Heap) (fn : Func) : Option (List VH) :=
 z0b fn.body fun body => q1T args .e 0 fun tm => z0X (len args + (fn.ntmps - len args)) fun N =>
  q0z H.next (z2k (F.code ⟨none, N⟩ body ⟨tm, H, []⟩) (z2G F G fn.results.toList))
def q5e (F : Fns) (G : Tab) (f : FuncId) (args : List AV) (H : Heap) : Option (List VH) := z0b (G.funcs.get f) (callFn F G args H)
def j7E (size t : Nat) (v : AV) (tm : T AV) (k : T AV → Option (T AV)) : Option (T AV) :=
 bif Nat.blt t size then z4e v fun v => tm.setK t (some v) k else none
def z8R (size : Nat) (ts : List Tmp) : List AV → T AV → Option (T AV) :=
 List.rec (fun vs tm => bif z6t vs then some tm else none)
  (fun t _ ih vs tm => match vs with | [] => none | v :: vs => j7E size t v tm (ih vs)) ts
def j1f (e : Ex) : Option Code :=
 match e with
 | .normal => none
 | .ret => some .ret
 | .exit id => some (.exit id)
 | .goto l => some (.goto l)
def z2R (e : Ex) : Bool :=
 match e with
 | .normal => true
 | _ => false
def j5u (l : Nat) (p : Ex × St) : Option (List VH) :=
 bif z6t p.2.df then z0b (z7D (p.2.h.blks.get l)) fun r =>
  z0V p.2.h l (some (.loop ⟨bif z2R p.1 then .ready else .done, j1f p.1, r.size, r.tmps, r.params, r.assign, r.body, r.defers⟩)) fun H' => some [(.bool (z2R p.1), H')]
 else none
def j1g (s : LoopState) : Bool :=
 match s with
 | .ready => true
 | _ => false
def q5f (l : Nat) (s : St) : Option St :=
 z0b (z7D (s.h.blks.get l)) fun r => bif j1g r.state then
  z0V s.h l (some (.loop ⟨.busy, r.pending, r.size, r.tmps, r.params, r.assign, r.body, r.defers⟩)) fun H' => some ⟨s.tm, H', s.df⟩ else none
def k1v (F : Fns) (l : Nat) (r : ALoop) (p : Ex × St) : Option (List VH) :=
 bif z2R p.1 then z0b (q5f l p.2) fun s => z2k (F.code ⟨some l, r.size⟩ r.body s) (j5u l) else none
def w4Q (F : Fns) (l : Nat) (args : List AV) (H : Heap) (r : ALoop) : Option (List VH) :=
 z0b (z8R r.size r.params args r.tmps) fun tm => z2k (F.code ⟨some l, r.size⟩ r.assign ⟨tm, H, []⟩) (k1v F l r)
def yldB (F : Fns) (l : Nat) (args : List AV) (H : Heap) : Option (List VH) := z0b (z7D (H.blks.get l)) (w4Q F l args H)
def fnsB (G : Tab) (F : Fns) : Fns where
 code := fun c x s => z0u x F G c s
 scope := fun c body rest s => z2k (z0u rest F G c s) (z5h F c body)
 call := q5e F G
 yld := yldB F
 callD := q5e F G
def fns (G : Tab) (n : Nat) : Fns :=
 Nat.rec ⟨fun _ _ _ => none, fun _ _ _ _ => none, fun _ _ _ => none, fun _ _ _ => none, fun _ _ _ => none⟩ (fun _ ih => fnsB G ih) n
end
end Go.Sx
