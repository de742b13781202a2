/-
  An executor for calls over an abstract heap, made for the kernel (definitions).
-/
import GoSem.Step
set_option linter.unusedSimpArgs false
set_option linter.unusedVariables false
namespace Go.Sx
noncomputable section
inductive T (α : Type) where
 | e : T α
 | n (l : T α) (v : Option α) (r : T α) : T α
def T.get {α : Type} (t : T α) : Nat → Option α :=
 T.rec (fun _ => none) (fun _ v _ gl gr k => Bool.rec (Bool.rec (gr (Nat.sub (Nat.div k 2) 1)) (gl (Nat.div k 2)) (Nat.beq (Nat.mod k 2) 1)) v (Nat.beq k 0)) t
def T.putK {α β : Type} (f : Nat) : T α → Nat → Option α → (T α → β) → β :=
 Nat.rec (fun t _ _ c => c t) (fun _ ih t k a c =>
  T.rec (motive := fun _ => β)
   (Bool.rec (Bool.rec (ih .e (Nat.sub (Nat.div k 2) 1) a fun r => c (.n .e none r)) (ih .e (Nat.div k 2) a fun l => c (.n l none .e)) (Nat.beq (Nat.mod k 2) 1))
    (c (.n .e a .e)) (Nat.beq k 0))
   (fun l v r _ _ => Bool.rec (Bool.rec (ih r (Nat.sub (Nat.div k 2) 1) a fun r' => c (.n l v r')) (ih l (Nat.div k 2) a fun l' => c (.n l' v r)) (Nat.beq (Nat.mod k 2) 1))
    (c (.n l a r)) (Nat.beq k 0)) t) f
def T.setK {α β : Type} (t : T α) (k : Nat) (a : Option α) (c : T α → β) : β := t.putK (Nat.succ k) k a c
inductive AV where
 | bool (b : Bool)
 | int (k : IntKind) (n : Int)
 | str (s : List UInt8)
 | ptr (b off : Nat)
 | nilptr
 | slice (b off len : Nat) (opn : Bool) (c : Nat)
 | nilslice
 | odd (blk off : Nat) (spot : Option Nat) (c : Nat)
 | tail (b off off1 c : Nat)
 | map (r : Nat)
 | nilmap
 | func (fn : Fn) (first captured : List AV)
 | yld (l : Nat)
 | nilFunc
 | iface (t : TypeId) (v : AV)
 | nilIface
 | agg (cs : List AV)
 | tuple (vs : List AV)
 deriving Inhabited
def AV.cells : AV → List AV
 | .agg cs => cs
 | v => [v]
structure AEntry where
 key : AV
 val : AV
 born : Nat
structure ALoop where
 state : LoopState
 pending : Option Code
 size : Nat
 tmps : T AV
 params : List Tmp
 assign : Code
 body : Code
 defers : Nat
inductive ABlk where
 | cells (elem : TypeId) (ex : Bool) (l : List AV)
 | big (elem : TypeId) (n : Nat) (z : List AV)
 | map (es : List AEntry) (clock : Nat)
 | mapIter (m : Option Nat) (since : Nat) (seen : List Nat) (stepped : Nat)
 | strIter (s : List UInt8) (pos : Nat)
 | loop (l : ALoop)
 | deferred
 | fix (elem : TypeId) (l : List AV)
structure Heap where
 next : Nat
 blks : T ABlk
inductive ExtK where
 | clone
 | same
 | noZero (r : TypeId)
 | indexByte
 | countByte
structure Tab where
 funcs : T Func
 types : T TypeInfo
 nglob : Nat
 ext : T ExtK := .e
 noEq : T Nat := .e
def q5W (n : Int) : Int :=
 match n with
 | .ofNat m => bif Nat.blt m 9223372036854775808 then .ofNat m else IntKind.i64.wrap (.ofNat m)
 | .negSucc m => bif Nat.blt m 9223372036854775808 then .negSucc m else IntKind.i64.wrap (.negSucc m)
def q0l (k : IntKind) (w : Nat) (n : Int) : Int :=
 match n with
 | .ofNat m => .ofNat (m % w)
 | .negSucc m => k.wrap (.negSucc m)
def z6k (k : IntKind) (n : Int) : Int :=
 match k with
 | .i64 => q5W n
 | .u64 => q0l .u64 18446744073709551616 n
 | .u8 => q0l .u8 256 n
 | .u32 => q0l .u32 4294967296 n
 | k => k.wrap n
def ibeq : Int → Int → Bool
 | .ofNat a, .ofNat b => Nat.beq a b
 | .negSucc a, .negSucc b => Nat.beq a b
 | _, _ => false
def iblt : Int → Int → Bool
 | .ofNat a, .ofNat b => Nat.blt a b
 | .negSucc a, .negSucc b => Nat.blt b a
 | .negSucc _, .ofNat _ => true
 | .ofNat _, .negSucc _ => false
def bnot (b : Bool) : Bool := bif b then false else true
def bbeq (a b : Bool) : Bool := bif a then b else bnot b
def q7g (a b : UInt8) : Bool := Nat.beq a.toNat b.toNat
def nth {α : Type} (l : List α) : Nat → Option α :=
 List.rec (fun _ => none) (fun a _ ih k => Bool.rec (ih (Nat.sub k 1)) (some a) (Nat.beq k 0)) l
def z6S {α : Type} (l : List α) : Nat → List α :=
 List.rec (fun _ => []) (fun a l ih k => Bool.rec (ih (Nat.sub k 1)) (a :: l) (Nat.beq k 0)) l
def z1D {α : Type} (a : α) (o : Option (List α)) : Option (List α) :=
 match o with
 | none => none
 | some l => some (a :: l)
def z4J {α : Type} (l : List α) : Nat → Option (List α) :=
 List.rec (fun k => Bool.rec none (some []) (Nat.beq k 0))
  (fun a _ ih k => Bool.rec (z1D a (ih (Nat.sub k 1))) (some []) (Nat.beq k 0)) l
def len {α : Type} (l : List α) : Nat := List.rec 0 (fun _ _ n => n + 1) l
def app {α : Type} (l m : List α) : List α := List.rec m (fun a _ ih => a :: ih) l
def z4K {α : Type} (new : List α) : List α → Option (List α) :=
 List.rec (fun l => some l) (fun a _ ih l => match l with
  | [] => none
  | _ :: l => z1D a (ih l)) new
def z1m {α : Type} (new l : List α) : Nat → Option (List α) :=
 List.rec (fun k => bif Nat.beq k 0 then z4K new [] else none)
  (fun a l ih k => bif Nat.beq k 0 then z4K new (a :: l) else z1D a (ih (k - 1))) l
def q2A {α : Type} (l : List α) (b : α) : Nat → List α :=
 List.rec (fun _ => []) (fun a l ih k => bif Nat.beq k 0 then b :: l else a :: ih (k - 1)) l
def q5X {α : Type} (l : List α) : Nat → List α :=
 List.rec (fun _ => []) (fun a l ih k => bif Nat.beq k 0 then l else a :: ih (k - 1)) l
def z2j (n : Nat) (l : List Nat) : Bool := List.rec false (fun m _ ih => bif Nat.beq m n then true else ih) l
def sbeq (s : List UInt8) : List UInt8 → Bool :=
 List.rec (fun t => match t with | [] => true | _ :: _ => false)
  (fun a _ ih t => match t with | [] => false | b :: t => bif q7g a b then ih t else false) s
def sblt (s : List UInt8) : List UInt8 → Bool :=
 List.rec (fun t => match t with | [] => false | _ :: _ => true)
  (fun a _ ih t => match t with | [] => false | b :: t => bif Nat.blt a.toNat b.toNat then true else bif q7g a b then ih t else false) s
def z0G {β : Type} (m : Nat) (c : Nat → β) : β := Nat.rec (c 0) (fun p _ => c (p + 1)) m
def j4u {β : Type} (n : Int) (c : Int → β) : β :=
 Int.rec (fun m => z0G m fun m => c (.ofNat m)) (fun m => z0G m fun m => c (.negSucc m)) n
def q8F {β : Type} (b : Bool) (c : Bool → β) : β := Bool.rec (c false) (c true) b
def q5Y {α β : Type} (l : List α) : (List α → β) → β :=
 List.rec (fun c => c []) (fun a _ ih c => ih fun l' => c (a :: l')) l
def q0m {β : Type} (c : AV → β) (b o l : Nat) (q : Bool) (x : Nat) : β :=
 z0G b fun b => z0G o fun o => z0G l fun l => q8F q fun q => z0G x fun x => c (.slice b o l q x)
def z3V {β : Type} (v : AV) (c : AV → β) : β :=
 match v with
 | .bool b => q8F b fun b => c (.bool b)
 | .int k n => j4u n fun n => c (.int k n)
 | .str s => q5Y s fun s => c (.str s)
 | .ptr b o => z0G b fun b => z0G o fun o => c (.ptr b o)
 | .slice b o l q x => q0m c b o l q x
 | .agg cs => q5Y cs fun cs => c (.agg cs)
 | .tuple cs => q5Y cs fun cs => c (.tuple cs)
 | v => c v
def z4N {β : Type} (l : List AV) : (List AV → β) → β :=
 List.rec (fun c => c []) (fun a _ ih c => z3V a fun a => ih fun l' => c (a :: l')) l
def ofScalar (v : Value) : Option AV :=
 match v with
 | .bool b => some (.bool b)
 | .int k n => some (.int k n)
 | .string s => some (.str s.data.toList)
 | .pointer none => some .nilptr
 | .slice none 0 0 => some .nilslice
 | .map none => some .nilmap
 | .nilFunc => some .nilFunc
 | .nilIface => some .nilIface
 | _ => none
def z2k {α : Type} (a : Option α) (o : Option (List α)) : Option (List α) :=
 match a with
 | none => none
 | some a => z1D a o
def z4O (l : List Value) : Option (List AV) := List.rec (some []) (fun v _ ih => z2k (ofScalar v) ih) l
def aggO (o : Option (List AV)) : Option AV :=
 match o with
 | none => none
 | some l => some (.agg l)
def tupleO (o : Option (List AV)) : Option AV :=
 match o with
 | none => none
 | some l => some (.tuple l)
def ofValue (v : Value) : Option AV :=
 match v with
 | .agg cs => aggO (z4O cs.toList)
 | .tuple cs => tupleO (z4O cs.toList)
 | v => ofScalar v
def z0A : AV := .tuple []
def z3N (o : Option AV) : Option AV :=
 match o with
 | none => some z0A
 | o => o
def k3s (G : Tab) (g : Nat) : Option AV := bif Nat.blt g G.nglob then some (.ptr g 0) else none
def aev (G : Tab) (tm : T AV) (o : Operand) : Option AV :=
 match o with
 | .tmp t => z3N (tm.get t)
 | .const v => ofValue v
 | .global g => k3s G g
 | .func f => some (.func (.func f) [] [])
def aevs (G : Tab) (tm : T AV) (l : List Operand) : Option (List AV) := List.rec (some []) (fun o _ ih => z2k (aev G tm o) ih) l
def j9C (o : Option TypeInfo) : Option TypeDesc :=
 match o with
 | none => none
 | some i => some i.desc
def j9D (G : Tab) (d : TypeDesc) : Option TypeDesc :=
 match d with
 | .named _ u => j9C (G.types.get u)
 | d => some d
def Tab.und (G : Tab) (t : TypeId) : Option TypeDesc :=
 match G.types.get t with
 | none => none
 | some i => j9D G i.desc
def Tab.size (G : Tab) (t : TypeId) : Option Nat :=
 match G.types.get t with
 | none => none
 | some i => some i.size
def q5Z (o : Option Value) : Option AV :=
 match o with
 | none => none
 | some v => ofValue v
def Tab.zero (G : Tab) (t : TypeId) : Option AV :=
 match G.types.get t with
 | none => none
 | some i => q5Z i.zero
def aggD (d : TypeDesc) : Bool :=
 match d with
 | .struct _ => true
 | .array _ _ => true
 | _ => false
def Tab.isAgg (G : Tab) (t : TypeId) : Option Bool :=
 match G.und t with
 | none => none
 | some d => some (aggD d)
def z0b {α β : Type} (o : Option α) (f : α → Option β) : Option β :=
 match o with
 | none => none
 | some a => f a
def q4m (n : Nat) (z : List AV) (off : Nat) : Option AV := bif Nat.blt off n then nth z (off % len z) else none
def z5q (n : Nat) (z : List AV) (off k : Nat) : Option (List AV) :=
 Nat.rec (fun _ => some []) (fun _ ih off => z2k (q4m n z off) (ih (off + 1))) k off
def cellIn (o : Option ABlk) (off : Nat) : Option AV :=
 match o with
 | some (.cells _ _ l) => nth l off
 | some (.big _ n z) => q4m n z off
 | _ => none
def z2o (o : Option ABlk) (off k : Nat) : Option (List AV) :=
 match o with
 | some (.cells _ _ l) => z4J (z6S l off) k
 | some (.big _ n z) => z5q n z off k
 | _ => none
def j2S (H : Heap) (b off : Nat) : Option AV := cellIn (H.blks.get b) off
def z0o (H : Heap) (b off k : Nat) : Option (List AV) := bif Nat.beq k 0 then some [] else z2o (H.blks.get b) off k
def z2p (G : Tab) (H : Heap) (t : TypeId) (b off : Nat) : Option AV :=
 match G.isAgg t with
 | none => none
 | some true => z0b (G.size t) fun s => aggO (z0o H b off s)
 | some false => j2S H b off
def z0F (v : AV) : Bool :=
 match v with
 | .agg _ => false
 | .tuple _ => false
 | _ => true
def z0V (l : List AV) : Bool := List.rec true (fun v _ ih => bif z0F v then ih else false) l
def z0y (H : Heap) (b : Nat) (o : Option ABlk) : Heap := H.blks.setK b o fun t => ⟨H.next, t⟩
def z0M {β : Type} (H : Heap) (b : Nat) (o : Option ABlk) (c : Heap → β) : β := H.blks.setK b o fun t => c ⟨H.next, t⟩
def z6l (H : Heap) (b : Nat) (e : TypeId) (x : Bool) (o : Option (List AV)) : Option Heap :=
 match o with
 | none => none
 | some l => z4N l fun l => z0M H b (some (.cells e x l)) some
def z4q (H : Heap) (b off : Nat) (l : List AV) (o : Option ABlk) : Option Heap :=
 match o with
 | some (.cells e x old) => bif z0V l then z6l H b e x (z1m l old off) else none
 | _ => none
def z1s (H : Heap) (b off : Nat) (l : List AV) : Option Heap :=
 match l with
 | [] => some H
 | l => z4q H b off l (H.blks.get b)
def q2B (G : Tab) (H : Heap) (t : TypeId) (b off : Nat) (v : AV) : Option Heap :=
 z0b (G.size t) fun s => bif Nat.beq (len v.cells) s then z1s H b off v.cells else none
def newA {β : Type} (H : Heap) (o : ABlk) (c : Nat → Heap → β) : β :=
 z0G H.next fun b => H.blks.setK b (some o) fun t => z0G (b + 1) fun m => c b ⟨m, t⟩
def z2q {β : Type} (H : Heap) (elem : TypeId) (ex : Bool) (l : List AV) (c : Nat → Heap → Option β) : Option β :=
 bif z0V l then z4N l fun l => newA H (.cells elem ex l) c else none
def z3l (G : Tab) (t : TypeId) (cs : List AV) (off : Nat) : Option AV :=
 match G.isAgg t with
 | none => none
 | some true => z0b (G.size t) fun s => aggO (z4J (z6S cs off) s)
 | some false => nth cs off
def andO (o : Option Bool) (next : Option Bool) : Option Bool :=
 match o with
 | none => none
 | some true => next
 | some false => some false
def eq2 (eq : AV → AV → Option Bool) (a b : Option AV) : Option Bool :=
 match a with
 | none => none
 | some a => match b with
  | none => none
  | some b => eq a b
def z6m (G : Tab) (eq : TypeId → AV → AV → Option Bool) (xs ys : List AV) (fs : List Field) : Option Bool :=
 List.rec (some true) (fun f _ ih => andO (eq2 (eq f.type) (z3l G f.type xs f.offset) (z3l G f.type ys f.offset)) ih) fs
noncomputable def q1a (G : Tab) (eq : AV → AV → Option Bool) (e : TypeId) (xs ys : List AV) (z : Nat) (n : Nat) : Nat → Option Bool :=
 Nat.rec (fun _ => some true) (fun _ ih i => andO (eq2 eq (z3l G e xs (i * z)) (z3l G e ys (i * z))) (ih (i + 1))) n
def z5Y (u : TypeDesc) (x y : AV) : Option Bool :=
 match u, x, y with
 | .bool, .bool a, .bool b => some (bbeq a b)
 | .int _, .int k a, .int k' b => if k = k' then some (ibeq a b) else none
 | .string, .str a, .str b => some (sbeq a b)
 | .pointer _, .nilptr, .nilptr => some true
 | .pointer _, .nilptr, .ptr _ _ => some false
 | .pointer _, .ptr _ _, .nilptr => some false
 | .interface _, .nilIface, .nilIface => some true
 | .interface _, .nilIface, .iface _ _ => some false
 | .interface _, .iface _ _, .nilIface => some false
 | .slice _, .nilslice, .nilslice => some true
 | .slice _, .nilslice, .slice _ _ _ _ _ => some false
 | .slice _, .slice _ _ _ _ _, .nilslice => some false
 | .map _ _, .nilmap, .nilmap => some true
 | .map _ _, .nilmap, .map _ => some false
 | .map _ _, .map _, .nilmap => some false
 | .func _ _ _, .nilFunc, .nilFunc => some true
 | .func _ _ _, .nilFunc, .func _ _ _ => some false
 | .func _ _ _, .func _ _ _, .nilFunc => some false
 | _, _, _ => none
def j6K (a o b p : Nat) : Option Bool := bif Nat.beq a b then (bif Nat.beq o p then some true else none) else none
def eqD (G : Tab) (eq : TypeId → AV → AV → Option Bool) (x y : AV) (u : TypeDesc) : Option Bool :=
 match u, x, y with
 | .pointer e, .ptr a o, .ptr b p => z0b (G.size e) fun _ => j6K a o b p
 | .struct fs, .agg xs, .agg ys => z6m G eq xs ys fs.toList
 | .array n e, .agg xs, .agg ys => z0b (G.size e) fun z => q1a G (eq e) e xs ys z n 0
 | u, x, y => z5Y u x y
def eqA (G : Tab) (d : Nat) : TypeId → AV → AV → Option Bool :=
 Nat.rec (fun _ _ _ => none) (fun _ ih t x y => z0b (G.und t) (eqD G ih x y)) d
end
end Go.Sx
namespace Go.Sx
noncomputable section
def z5I {α : Type} (l : List α) : Bool :=
 match l with
 | [] => true
 | _ :: _ => false
def z1X {α : Type} (f : α → α → Bool) (l : List α) : List α → Bool :=
 List.rec (fun m => z5I m) (fun a _ ih m => match m with | [] => false | b :: m => bif f a b then ih m else false) l
mutual
def AV.beq : AV → AV → Bool
 | .odd a b s c, .odd x y t z => bif Nat.beq a x then (bif Nat.beq b y then (bif Nat.beq c z then (if s = t then true else false) else false) else false) else false
 | .tail a b c d, .tail x y z w => bif Nat.beq a x then (bif Nat.beq b y then (bif Nat.beq c z then Nat.beq d w else false) else false) else false
 | .bool a, .bool b => bbeq a b
 | .int k a, .int k' b => if k = k' then ibeq a b else false
 | .str s, .str t => sbeq s t
 | .ptr a o, .ptr b p => bif Nat.beq a b then Nat.beq o p else false
 | .nilptr, .nilptr => true
 | .slice a o l q c, .slice b p m r d => bif Nat.beq a b then (bif Nat.beq o p then (bif Nat.beq l m then (bif Nat.beq c d then bbeq q r else false) else false) else false) else false
 | .nilslice, .nilslice => true
 | .map a, .map b => Nat.beq a b
 | .nilmap, .nilmap => true
 | .func f x y, .func g u v => if f = g then (bif AV.beqL x u then AV.beqL y v else false) else false
 | .yld a, .yld b => Nat.beq a b
 | .nilFunc, .nilFunc => true
 | .iface t x, .iface u y => bif Nat.beq t u then AV.beq x y else false
 | .nilIface, .nilIface => true
 | .agg x, .agg y => AV.beqL x y
 | .tuple x, .tuple y => AV.beqL x y
 | _, _ => false
def AV.beqL : List AV → List AV → Bool
 | [], [] => true
 | a :: x, b :: y => bif AV.beq a b then AV.beqL x y else false
 | _, _ => false
end
def z8p {α : Type} (f : α → α → Bool) (a b : Option α) : Bool :=
 match a, b with
 | none, none => true
 | some a, some b => f a b
 | _, _ => false
def T.beq {α : Type} (f : α → α → Bool) (t : T α) : T α → Bool :=
 T.rec (fun u => match u with | .e => true | .n _ _ _ => false)
  (fun _ v _ gl gr u => match u with | .e => false | .n l' v' r' => bif z8p f v v' then (bif gl l' then gr r' else false) else false) t
def intO (k : IntKind) (n : Int) : Option AV := some (.int k n)
def boolO (b : Bool) : Option AV := some (.bool b)
def q1b (k : IntKind) : Nat :=
 match k with
 | .i64 => 9223372036854775808
 | .u64 => 18446744073709551616
 | .u32 => 4294967296
 | .u8 => 256
 | _ => 128
def bitO (k : IntKind) (f : Nat → Nat → Nat) (a b : Int) : Option AV :=
 match a, b with
 | .ofNat m, .ofNat n => bif Nat.blt m (q1b k) then (bif Nat.blt n (q1b k) then some (.int k (.ofNat (f m n))) else none) else none
 | _, _ => none
def quoO (k : IntKind) (a b : Int) : Option AV := bif ibeq b 0 then none else some (.int k (z6k k (a.tdiv b)))
def remO (k : IntKind) (a b : Int) : Option AV := bif ibeq b 0 then none else some (.int k (a.tmod b))
def shlO (k : IntKind) (a b : Int) : Option AV :=
 match a, b with
 | .ofNat m, .ofNat n => bif Nat.ble n 64 then some (.int k (k.wrap (.ofNat (m * 2 ^ (min n k.bits))))) else none
 | _, _ => none
def shrO (k : IntKind) (a b : Int) : Option AV :=
 match a, b with
 | .ofNat m, .ofNat n => bif Nat.ble n 64 then some (.int k (.ofNat (m / 2 ^ (min n k.bits)))) else none
 | _, _ => none
def ibin (op : BinOp) : IntKind → Int → Int → Option AV :=
 match op with
 | .add => fun k a b => some (.int k (z6k k (a + b)))
 | .sub => fun k a b => some (.int k (z6k k (a - b)))
 | .mul => fun k a b => some (.int k (z6k k (a * b)))
 | .quo => quoO
 | .rem => remO
 | .eql => fun _ a b => boolO (ibeq a b)
 | .neq => fun _ a b => boolO (bnot (ibeq a b))
 | .lss => fun _ a b => boolO (iblt a b)
 | .leq => fun _ a b => boolO (bnot (iblt b a))
 | .gtr => fun _ a b => boolO (iblt b a)
 | .geq => fun _ a b => boolO (bnot (iblt a b))
 | .and => fun k => bitO k Nat.land
 | .or => fun k => bitO k Nat.lor
 | .xor => fun k => bitO k Nat.xor
 | .andNot => fun k => bitO k (fun a b => Nat.xor a (Nat.land a b))
 | _ => fun _ _ _ => none
def intBin (op : BinOp) : IntKind → Int → IntKind → Int → Option AV :=
 match op with
 | .shl => fun k a _ b => shlO k a b
 | .shr => fun k a _ b => shrO k a b
 | op => fun k a k' b => if k = k' then ibin op k a b else none
def catO (a b : List UInt8) : Option AV := bif Nat.ble (len a + len b) 1000000000 then some (.str (app a b)) else none
def sbin (op : BinOp) : List UInt8 → List UInt8 → Option AV :=
 match op with
 | .add => catO
 | .eql => fun a b => boolO (sbeq a b)
 | .neq => fun a b => boolO (bnot (sbeq a b))
 | .lss => fun a b => boolO (sblt a b)
 | .leq => fun a b => boolO (bnot (sblt b a))
 | .gtr => fun a b => boolO (sblt b a)
 | .geq => fun a b => boolO (bnot (sblt a b))
 | _ => fun _ _ => none
def yesO (o : Option Bool) : Option AV := z0b o fun b => some (.bool b)
def notO (o : Option Bool) : Option AV := z0b o fun b => some (.bool (bnot b))
def q2C (op : BinOp) : Option Bool → Option AV :=
 match op with
 | .eql => yesO
 | .neq => notO
 | _ => fun _ => none
def z1j (o : Operand) : Bool :=
 match o with
 | .const _ => true
 | _ => false
def q6a (c : Bool) (x y : AV) : Bool :=
 match x, y with
 | .nilIface, .nilIface => c
 | _, _ => true
def z8q {α : Type} (o : Option α) : Bool :=
 match o with
 | none => true
 | some _ => false
def j4v (G : Tab) (t : TypeId) (x : AV) : Bool :=
 match x with
 | .agg _ => z8q (G.noEq.get t)
 | _ => true
def binA (G : Tab) (op : BinOp) (t : TypeId) (c : Bool) (x y : AV) : Option AV :=
 match x, y with
 | .int k a, .int k' b => intBin op k a k' b
 | .str a, .str b => sbin op a b
 | x, y => bif q6a c x y then (bif j4v G t x then q2C op (eqA G 60 t x y) else none) else none
def q8G (k : IntKind) (n : Int) : Option AV :=
 match k with
 | .u8 => bitO .u8 Nat.xor (.ofNat 255) n
 | .u32 => bitO .u32 Nat.xor (.ofNat 4294967295) n
 | .u64 => bitO .u64 Nat.xor (.ofNat 18446744073709551615) n
 | _ => none
def unA (op : UnOp) (x : AV) : Option AV :=
 match op, x with
 | .neg, .int k n => some (.int k (z6k k (0 - n)))
 | .not, .bool b => some (.bool (bnot b))
 | .xor, .int k n => q8G k n
 | _, _ => none
def q8H (d : TypeDesc) : Option (List Field) :=
 match d with
 | .struct fs => some fs.toList
 | _ => none
def q1c (G : Tab) (t : TypeId) (f : Nat) : Option Field := z0b (G.und t) fun d => z0b (q8H d) fun fs => nth fs f
def q6b (x : AV) (fd : Field) (z : Nat) : Option AV :=
 match x with
 | .ptr b off => bif Nat.beq z 0 then none else some (.ptr b (off + fd.offset))
 | _ => none
def z3e (G : Tab) (s : TypeId) (f : Nat) (x : AV) : Option AV :=
 z0b (q1c G s f) fun fd => z0b (G.size fd.type) fun z => q6b x fd z
def q6c (G : Tab) (t : TypeId) (f : Nat) (x : AV) : Option AV :=
 match x with
 | .agg cs => z0b (q1c G t f) fun fd => z3l G fd.type cs fd.offset
 | _ => none
def inB (i : AV) (n : Nat) : Option Nat :=
 match i with
 | .int _ (.ofNat m) => bif Nat.blt m n then some m else none
 | _ => none
def q8I (G : Tab) (e b off n : Nat) (i : AV) : Option AV :=
 z0b (inB i n) fun m => z0b (G.size e) fun z => some (.ptr b (off + m * z))
def q0n (G : Tab) (x i : AV) (d : TypeDesc) : Option AV :=
 match d, x with
 | .array n e, .ptr b off => q8I G e b off n i
 | .slice e, .slice b off n _ _ => q8I G e b off n i
 | _, _ => none
def z1M (G : Tab) (t : TypeId) (x i : AV) : Option AV := z0b (G.und t) (q0n G x i)
def z8r (b : UInt8) : AV := .int .u8 (.ofNat b.toNat)
def j9E (s : List UInt8) (i : AV) : Option AV :=
 match i with
 | .int _ (.ofNat m) => z0b (nth s m) fun b => some (z8r b)
 | _ => none
def j4w (G : Tab) (x i : AV) (d : TypeDesc) : Option AV :=
 match d, x with
 | .array n e, .agg cs => z0b (inB i n) fun m => z0b (G.size e) fun z => z3l G e cs (m * z)
 | .string, .str s => j9E s i
 | _, _ => none
def j4x (G : Tab) (t : TypeId) (x i : AV) : Option AV := z0b (G.und t) (j4w G x i)
def z1R (i : Option AV) (dflt most : Nat) : Option Nat :=
 match i with
 | none => some dflt
 | some (.int _ (.ofNat m)) => bif Nat.ble m most then some m else none
 | some _ => none
def z6T {β : Type} (lo hi : Option AV) (dflt most : Nat) (c : Nat → Nat → Option β) : Option β :=
 z0b (z1R hi dflt most) fun h => z0b (z1R lo 0 h) fun l => c l h
def q6d (s : List UInt8) (lo hi mx : Option AV) : Option AV :=
 match mx with
 | some _ => none
 | none => z6T lo hi (len s) (len s) fun l h => z0b (z4J (z6S s l) (h - l)) fun r => some (.str r)
def z5r (b off z m l h : Nat) : Option AV := some (.slice b (bif Nat.beq m l then off else off + l * z) (h - l) false (m - l))
def z6U (b off n c z : Nat) (lo hi mx : Option AV) : Option AV :=
 z0b (z1R mx c c) fun m => z6T lo hi n m fun l h => z5r b off z m l h
def q2D (b off n c z l h : Nat) : Option AV :=
 bif Nat.beq l 0 then some (.slice b off h true c)
 else bif Nat.blt l n then some (.slice b (off + l * z) (h - l) true (c + l)) else some (.tail b off (off + l * z) (c + l))
def q2E (b off n c z : Nat) (lo hi mx : Option AV) : Option AV :=
 match mx with
 | some m => z0b (z1R (some m) 0 n) fun m => z6T lo hi n m fun l h => z5r b off z m l h
 | none => z6T lo hi n n fun l h => q2D b off n c z l h
def q6e (lo hi mx : Option AV) : Option AV :=
 z0b (z1R mx 0 0) fun _ => z6T lo hi 0 0 fun _ _ => some .nilslice
def q1d (G : Tab) (lo hi mx : Option AV) (b off : Nat) (d : TypeDesc) : Option AV :=
 match d with
 | .array n e => z0b (G.size e) fun z => z6U b off n n z lo hi mx
 | _ => none
def j4y (G : Tab) (x : AV) (lo hi mx : Option AV) (d : TypeDesc) : Option AV :=
 match d, x with
 | .string, .str s => q6d s lo hi mx
 | .slice e, .slice b off n false c => z0b (G.size e) fun z => z6U b off n c z lo hi mx
 | .slice e, .slice b off n true c => z0b (G.size e) fun z => q2E b off n c z lo hi mx
 | .slice e, .nilslice => z0b (G.size e) fun _ => q6e lo hi mx
 | .array n e, .ptr b off => q1d G lo hi mx b off (.array n e)
 | .pointer p, .ptr b off => z0b (G.und p) (q1d G lo hi mx b off)
 | _, _ => none
def q8J (hi mx : Option AV) : Bool :=
 match mx, hi with
 | some _, none => false
 | _, _ => true
def q6f (G : Tab) (t : TypeId) (x : AV) (lo hi mx : Option AV) : Option AV := bif q8J hi mx then z0b (G.und t) (j4y G x lo hi mx) else none
def q7h (G : Tab) (kt : TypeId) (a b : AV) : Option Bool := eqA G 60 kt a b
def z8s (G : Tab) (p : TypeId → AV → Bool) (cs : List AV) (fs : List Field) : Bool :=
 List.rec true (fun f _ ih => match z3l G f.type cs f.offset with
  | none => false
  | some v => bif p f.type v then ih else false) fs
def keyD (G : Tab) (p : TypeId → AV → Bool) (k : AV) (d : TypeDesc) : Bool :=
 match d, k with
 | .int _, _ => true
 | .string, _ => true
 | .bool, _ => true
 | .struct fs, .agg cs => z8s G p cs fs.toList
 | _, _ => false
def q8K (G : Tab) (p : TypeId → AV → Bool) (k : AV) (o : Option TypeDesc) : Bool :=
 match o with
 | none => false
 | some d => keyD G p k d
def z8t (G : Tab) (d : Nat) : TypeId → AV → Bool := Nat.rec (fun _ _ => false) (fun _ ih t k => q8K G ih k (G.und t)) d
def z3W (v : AV) : Bool :=
 match v with
 | .int _ _ => true
 | .str _ => true
 | .bool _ => true
 | _ => false
def z6V (l : List AV) : Bool := List.rec true (fun v _ ih => bif z3W v then ih else false) l
def z8u (v : AV) : Bool :=
 match v with
 | .agg cs => z6V cs
 | v => z3W v
def z8v (i : Nat) (e : AEntry) (next : Option (Option (Nat × AEntry))) (o : Option Bool) : Option (Option (Nat × AEntry)) :=
 match o with
 | none => none
 | some true => some (some (i, e))
 | some false => next
def z8w (G : Tab) (kt : TypeId) (k : AV) (es : List AEntry) : Nat → Option (Option (Nat × AEntry)) :=
 List.rec (fun _ => some none) (fun e _ ih i => z8v i e (ih (i + 1)) (q7h G kt k e.key)) es
def z5J (o : Option ABlk) : Option (List AEntry × Nat) :=
 match o with
 | some (.map es c) => some (es, c)
 | _ => none
def q7i (H : Heap) (x : AV) : Option (List AEntry) :=
 match x with
 | .nilmap => some []
 | .map r => z0b (z5J (H.blks.get r)) fun p => some p.1
 | _ => none
def mapD (d : TypeDesc) : Option (TypeId × TypeId) :=
 match d with
 | .map k e => some (k, e)
 | _ => none
def z5s (G : Tab) (t : TypeId) (k : AV) : Option (TypeId × TypeId) :=
 z0b (G.und t) fun d => z0b (mapD d) fun kt => bif z8t G 20 kt.1 k then some kt else none
def j6L (G : Tab) (et : TypeId) (ok : Bool) (o : Option (Nat × AEntry)) : Option AV :=
 match o with
 | some (_, e) => some (bif ok then .tuple [e.val, .bool true] else e.val)
 | none => z0b (G.zero et) fun z => some (bif ok then .tuple [z, .bool false] else z)
def z8x (G : Tab) (H : Heap) (t : TypeId) (ok : Bool) (x k : AV) : Option AV :=
 z0b (z5s G t k) fun kt => z0b (q7i H x) fun es => z0b (z8w G kt.1 k es 0) (j6L G kt.2 ok)
def q8L {β : Type} (l : List AEntry) : (List AEntry → β) → β :=
 List.rec (fun c => c []) (fun e _ ih c => z3V e.key fun k => z3V e.val fun v => z0G e.born fun n => ih fun l' => c (⟨k, v, n⟩ :: l')) l
def z4P {β : Type} (H : Heap) (r : Nat) (es : List AEntry) (clock : Nat) (c : Heap → β) : β :=
 q8L es fun es => z0G clock fun cl => z0M H r (some (.map es cl)) c
def j4z (H : Heap) (r : Nat) (es : List AEntry) (clock : Nat) (k v : AV) (o : Option (Nat × AEntry)) : Option Heap :=
 match o with
 | some (i, e) => bif AV.beq k e.key then (bif z8u k then z4P H r (q2A es ⟨e.key, v, e.born⟩ i) clock some else none) else none
 | none => z4P H r (app es [⟨k, v, clock⟩]) (clock + 1) some
def z3X (G : Tab) (H : Heap) (t : TypeId) (x k v : AV) : Option Heap :=
 match x with
 | .map r => z0b (z5s G t k) fun kt => z0b (z5J (H.blks.get r)) fun p => z0b (z8w G kt.1 k p.1 0) (j4z H r p.1 p.2 k v)
 | _ => none
def q6g (v : AV) (n : Nat) : AV := .tuple [v, .int .i64 (.ofNat n)]
def j4A (G : Tab) (et : TypeId) (H : Heap) (r : Nat) (es : List AEntry) (clock : Nat) (k : AV) (o : Option (Nat × AEntry)) : Option (AV × Heap) :=
 match o with
 | some (_, e) => bif AV.beq k e.key then (bif z8u k then some (q6g e.val e.born, H) else none) else none
 | none => z0b (G.zero et) fun z => z4P H r (app es [⟨k, z, clock⟩]) (clock + 1) fun H' => some (q6g z clock, H')
def z8y (G : Tab) (H : Heap) (t : TypeId) (x k : AV) : Option (AV × Heap) :=
 match x with
 | .map r => z0b (z5s G t k) fun kt => z0b (z5J (H.blks.get r)) fun p => z0b (z8w G kt.1 k p.1 0) (j4A G kt.2 H r p.1 p.2 k)
 | _ => none
def q6h (n : Nat) (es : List AEntry) : Nat → Option (Nat × AEntry) :=
 List.rec (fun _ => none) (fun e _ ih i => bif Nat.beq e.born n then some (i, e) else ih (i + 1)) es
def z5Z (H : Heap) (x s v : AV) : Option Heap :=
 match x, s with
 | .map r, .int _ (.ofNat n) => z0b (z5J (H.blks.get r)) fun p => z0b (q6h n p.1 0) fun q =>
   z4P H r (q2A p.1 ⟨q.2.key, v, q.2.born⟩ q.1) p.2 some
 | _, _ => none
def j4B (H : Heap) (r : Nat) (es : List AEntry) (clock : Nat) (o : Option (Nat × AEntry)) : Option Heap :=
 match o with
 | some (i, _) => z4P H r (q5X es i) clock some
 | none => some H
def q4n (G : Tab) (H : Heap) (t : TypeId) (x k : AV) : Option Heap :=
 match x with
 | .nilmap => z0b (z5s G t k) fun _ => some H
 | .map r => z0b (z5s G t k) fun kt => z0b (z5J (H.blks.get r)) fun p => z0b (z8w G kt.1 k p.1 0) (j4B H r p.1 p.2)
 | _ => none
def z3z (seen : List Nat) (es : List AEntry) : List AEntry :=
 List.rec [] (fun e _ ih => bif z2j e.born seen then ih else e :: ih) es
def q2F (since : Nat) (es : List AEntry) : List AEntry :=
 List.rec [] (fun e _ ih => bif Nat.blt e.born since then e :: ih else ih) es
def q1e (since : Nat) (es : List AEntry) : List AEntry :=
 List.rec [] (fun e _ ih => bif Nat.blt e.born since then ih else e :: ih) es
def q1f (last : Nat) (es : List AEntry) : Bool :=
 List.rec false (fun e _ ih => bif Nat.blt e.born last then true else ih) es
def z4r (H : Heap) (it m since : Nat) (seen : List Nat) (clock : Nat) (es : List AEntry) : List (AV × Heap) :=
 List.rec [] (fun e _ ih => z0M H it (some (.mapIter (some m) since (app seen [e.born]) clock)) fun H' => (.tuple [.bool true, e.key, e.val], H') :: ih) es
def q1g : AV := .tuple [.bool false]
def q8M (H : Heap) (it m since : Nat) (seen : List Nat) (last : Nat) (es : List AEntry) (clock : Nat) : Option (List (AV × Heap)) :=
 bif (bif z5I seen then true else bif z5I es then true else q1f last es) then
  (match q2F since (z3z seen es) with
   | [] => some ((q1g, H) :: z4r H it m since seen clock (q1e since (z3z seen es)))
   | o :: os => some (z4r H it m since seen clock (app (o :: os) (q1e since (z3z seen es)))))
 else none
def q8N (H : Heap) (it pos : Nat) (s : List UInt8) (o : Option UInt8) : Option (List (AV × Heap)) :=
 match o with
 | none => some [(q1g, H)]
 | some b => bif Nat.blt b.toNat 128 then
   z0G (pos + 1) fun p => z0M H it (some (.strIter s p)) fun H' => some [(.tuple [.bool true, .int .i64 (.ofNat pos), .int .i32 (.ofNat b.toNat)], H')]
  else none
def j4C (H : Heap) (it : Nat) (s : Bool) (o : Option ABlk) : Option (List (AV × Heap)) :=
 match o, s with
 | some (.mapIter none _ _ _), false => some [(q1g, H)]
 | some (.mapIter (some m) since seen last), false => z0b (z5J (H.blks.get m)) fun p => q8M H it m since seen last p.1 p.2
 | some (.strIter s pos), true => q8N H it pos s (nth s pos)
 | _, _ => none
def q4o (H : Heap) (x : AV) (s : Bool) : Option (List (AV × Heap)) :=
 match x with
 | .ptr it 0 => j4C H it s (H.blks.get it)
 | _ => none
def q2G (H : Heap) (o : ABlk) : Option (AV × Heap) := newA H o fun b H => some (.ptr b 0, H)
def j4D (H : Heap) (x : AV) (d : TypeDesc) : Option (AV × Heap) :=
 match d, x with
 | .string, .str s => q2G H (.strIter s 0)
 | .map _ _, .nilmap => q2G H (.mapIter none 0 [] 0)
 | .map _ _, .map r => z0b (z5J (H.blks.get r)) fun p => q2G H (.mapIter (some r) p.2 [] p.2)
 | _, _ => none
def q8O (G : Tab) (H : Heap) (t : TypeId) (x : AV) : Option (AV × Heap) := z0b (G.und t) (j4D H x)
def q6i (l : List Nat) : Option Nat := List.rec none (fun a _ ih => match ih with | none => some a | some b => some b) l
def z6W (H : Heap) (o : Option ABlk) : Option AV :=
 match o with
 | some (.mapIter (some m) _ seen stepped) => z0b (q6i seen) fun stamp => z0b (z5J (H.blks.get m)) fun p =>
   bif Nat.beq p.2 stepped then z0b (q6h stamp p.1 0) fun q => some (.tuple [q.2.key, q.2.val]) else none
 | _ => none
def z8z (H : Heap) (x : AV) : Option AV :=
 match x with
 | .ptr it 0 => z6W H (H.blks.get it)
 | _ => none
def z6a (cells : List AV) (v : AV) (p : Nat × Nat) : Option (List AV) :=
 bif Nat.beq (len v.cells) p.2 then z1m v.cells cells p.1 else none
def q4p (place : Nat → Option (Nat × Nat)) (ps : List (Nat × AV)) : List AV → Option (List AV) :=
 List.rec (fun cells => some cells) (fun p _ ih cells => z0b (place p.1) fun q => z0b (z6a cells p.2 q) ih) ps
def q7j (i : Nat) (o : Option AV) : Option (Nat × AV) := z0b o fun v => some (i, v)
def z2e (G : Tab) (tm : T AV) (l : List (Nat × Operand)) : Option (List (Nat × AV)) :=
 List.rec (some []) (fun p _ ih => z2k (q7j p.1 (aev G tm p.2)) ih) l
def q8P (f : Field) (o : Option Nat) : Option (Nat × Nat) :=
 match o with
 | none => none
 | some z => some (f.offset, z)
def q1h (G : Tab) (fs : List Field) : Option (List (Nat × Nat)) := List.rec (some []) (fun f _ ih => z2k (q8P f (G.size f.type)) ih) fs
def j4E (G : Tab) (zero : AV) (parts : List (Nat × AV)) (d : TypeDesc) : Option AV :=
 match d with
 | .struct fs => z0b (q1h G fs.toList) fun ps => aggO (q4p (nth ps) parts zero.cells)
 | .array _ e => z0b (G.size e) fun z => aggO (q4p (fun i => some (i * z, z)) parts zero.cells)
 | _ => none
def q6j (G : Tab) (t : TypeId) (parts : List (Nat × AV)) : Option AV :=
 z0b (G.zero t) fun zero => z0b (G.und t) (j4E G zero parts)
def z0T (z : List AV) (n : Nat) : List AV := Nat.rec [] (fun _ ih => app z ih) n
def z8A (d : TypeDesc) : Option TypeId :=
 match d with
 | .slice e => some e
 | _ => none
def elemOf (G : Tab) (t : TypeId) : Option TypeId := z0b (G.und t) z8A
def z1c (H : Heap) (e n c : Nat) (l : List AV) : Option (AV × Heap) := z2q H e true l fun b H => some (.slice b 0 n false c, H)
def z1t (G : Tab) (H : Heap) (t : TypeId) (n : Nat) (parts : List (Nat × AV)) : Option (AV × Heap) :=
 z0b (elemOf G t) fun e => z0b (G.size e) fun z => z0b (G.zero e) fun zero =>
  bif Nat.ble (n * z) 10000 then
   bif Nat.beq (len zero.cells) z then z0b (q4p (fun i => some (i * z, z)) parts (z0T zero.cells n)) (z1c H e n n) else none
  else none
def boxA (H : Heap) (elem : TypeId) (v : AV) : Option (AV × Heap) := z2q H elem true v.cells fun b H => some (.ptr b 0, H)
def z5N (H : Heap) (e n c k : Nat) (z : List AV) : Option (AV × Heap) :=
 z0G k fun k => z4N z fun z => newA H (.big e k z) fun b H => some (.slice b 0 n false c, H)
def z3f (G : Tab) (H : Heap) (e : TypeId) (n c : Nat) (i : TypeInfo) : Option (AV × Heap) :=
 z0b (G.zero e) fun zero =>
  bif Nat.ble n c then
   bif Nat.ble (c * (i.bytes + 1)) 1000000000 then
    bif Nat.beq (len zero.cells) i.size then
     bif Nat.ble (c * i.size) 1000 then z1c H e n c (z0T zero.cells c) else z5N H e n c (c * i.size) zero.cells
    else none
   else none
  else none
def z0R (G : Tab) (H : Heap) (t : TypeId) (n c : AV) : Option (AV × Heap) :=
 match n, c with
 | .int .i64 (.ofNat n), .int .i64 (.ofNat c) => z0b (elemOf G t) fun e => z0b (G.types.get e) (z3f G H e n c)
 | _, _ => none
def natV (n : Nat) : AV := .int .i64 (.ofNat n)
def j4F (d : TypeDesc) : Option AV :=
 match d with
 | .array n _ => some (natV n)
 | _ => none
def lenD (G : Tab) (H : Heap) (x : AV) (d : TypeDesc) : Option AV :=
 match d, x with
 | .string, .str s => some (natV (len s))
 | .slice _, .slice _ _ n _ _ => some (natV n)
 | .slice _, .nilslice => some (natV 0)
 | .slice _, .odd _ _ _ _ => some (natV 0)
 | .slice _, .tail _ _ _ _ => some (natV 0)
 | .array n _, _ => some (natV n)
 | .map _ _, x => z0b (q7i H x) fun es => some (natV (len es))
 | .pointer p, _ => z0b (G.und p) j4F
 | _, _ => none
def lenA (G : Tab) (H : Heap) (t : TypeId) (x : AV) : Option AV := z0b (G.und t) (lenD G H x)
def capD (x : AV) (d : TypeDesc) : Option AV :=
 match d, x with
 | .array n _, _ => some (natV n)
 | .slice _, .slice _ _ _ false c => some (natV c)
 | .slice _, .nilslice => some (natV 0)
 | _, _ => none
def capA (G : Tab) (t : TypeId) (x : AV) : Option AV := z0b (G.und t) (capD x)
def z0x (l : List UInt8) : List AV := List.rec [] (fun b _ ih => z8r b :: ih) l
def z3Y (H : Heap) (z n : Nat) (x : AV) : Option (List AV) :=
 match x with
 | .slice b off _ _ _ => z0o H b off (n * z)
 | .nilslice => some []
 | .str s => z0b (z4J s n) fun s => some (z0x s)
 | .odd _ _ _ _ => bif Nat.beq n 0 then some [] else none
 | .tail _ _ _ _ => bif Nat.beq n 0 then some [] else none
 | _ => none
def z7w (x : AV) : Option Nat :=
 match x with
 | .slice _ _ n _ _ => some n
 | .nilslice => some 0
 | .str s => some (len s)
 | .odd _ _ _ _ => some 0
 | .tail _ _ _ _ => some 0
 | _ => none
def z3m (e : TypeId) (o : Option ABlk) : Option Nat :=
 match o with
 | some (.cells e' false l) => bif Nat.beq e e' then some (len l) else none
 | _ => none
def z2Q (H : Heap) (e : TypeId) (need : Nat) (cells : List AV) : Option (AV × Heap) :=
 z2q H e false cells fun b H => some (.slice b 0 need true 0, H)
def inPlace (H : Heap) (b at_ : Nat) (new : List AV) (r : AV) : Option (AV × Heap) := z0b (z1s H b at_ new) fun H' => some (r, H')
def z8B (H : Heap) (e z b off l c n : Nat) (new : List AV) : Option (AV × Heap) :=
 bif Nat.ble (l + n) c then inPlace H b (off + l * z) new (.slice b off (l + n) false c)
 else bif Nat.ble c 1000000 then z0b (z0o H b off (l * z)) fun old => z2Q H e (l + n) (app old new) else none
def z9T (H : Heap) (b : Nat) : Heap := z0y H b none
def q0o (H : Heap) (e z b off l c n : Nat) (new : List AV) : Option (AV × Heap) :=
 z0b (z3m e (H.blks.get b)) fun kn =>
  bif Nat.beq off (c * z) then
   bif Nat.ble (off + (l + n) * z) kn then inPlace H b (off + l * z) new (.slice b off (l + n) true c)
   else z0b (z0o H b off (l * z)) fun old => z0M H b none fun H' => z2Q H' e (l + n) (app old new)
  else none
def z1N (H : Heap) (e z n : Nat) (s : AV) (new : List AV) : Option (AV × Heap) :=
 match s with
 | .nilslice => bif Nat.beq n 0 then some (.nilslice, H) else z2Q H e n new
 | .slice b off l false c => z8B H e z b off l c n new
 | .slice b off l true c => q0o H e z b off l c n new
 | _ => none
def q1i (s : AV) : Nat :=
 match s with
 | .slice _ _ l _ _ => l
 | _ => 0
def q8Q (x : AV) (z : Nat) : Bool :=
 match x with
 | .str _ => Nat.beq z 1
 | _ => true
def z4s (G : Tab) (H : Heap) (e : TypeId) (s x : AV) (i : TypeInfo) : Option (AV × Heap) :=
 z0b (z7w x) fun n => z0b (G.zero e) fun zero =>
  bif Nat.beq i.size 0 then none else
  bif q8Q x i.size then
  bif Nat.beq (len zero.cells) i.size then
   bif Nat.ble i.bytes 100000 then
    bif Nat.ble (q1i s + n) 1000000 then z0b (z3Y H i.size n x) (z1N H e i.size n s) else none
   else none
  else none
  else none
def intD (d : TypeDesc) : Bool :=
 match d with
 | .int _ => true
 | _ => false
def j4G (x : AV) : Option Nat :=
 match x with
 | .int _ (.ofNat n) => some n
 | _ => none
def z8C (G : Tab) (H : Heap) (e : TypeId) (s x : AV) (i : TypeInfo) : Option (AV × Heap) :=
 z0b (j4G x) fun n => z0b (G.zero e) fun zero =>
  bif Nat.beq i.size 0 then none else
  bif Nat.beq (len zero.cells) i.size then
   bif Nat.ble i.bytes 100000 then
    bif Nat.ble (q1i s + n) 1000000 then z1N H e i.size n s (z0T zero.cells n) else none
   else none
  else none
def j6M (G : Tab) (H : Heap) (st xt : TypeId) (s x : AV) : Option (AV × Heap) :=
 z0b (elemOf G st) fun e => z0b (G.und xt) fun u => bif intD u then z0b (G.types.get e) (z8C G H e s x) else z0b (G.types.get e) (z4s G H e s x)
def z3n (G : Tab) (H : Heap) (ts : List TypeId) (xs : List AV) : Option (AV × Heap) :=
 match ts, xs with
 | [st, xt], [s, x] => j6M G H st xt s x
 | _, _ => none
def q8R (H : Heap) (d : AV) (k : Nat) (cs : List AV) : Option (AV × Heap) :=
 match d with
 | .slice b off _ _ _ => inPlace H b off cs (natV k)
 | .nilslice => some (natV 0, H)
 | _ => none
def k3t (G : Tab) (H : Heap) (dt : TypeId) (d x : AV) : Option (AV × Heap) :=
 z0b (elemOf G dt) fun e => z0b (G.size e) fun z => z0b (z7w x) fun n => z0b (z7w d) fun m =>
  z0b (z3Y H z (Nat.min n m) x) (q8R H d (Nat.min n m))
def j6N (G : Tab) (H : Heap) (ts : List TypeId) (xs : List AV) : Option (AV × Heap) :=
 match ts, xs with
 | dt :: _, [d, x] => k3t G H dt d x
 | _, _ => none
def j6O (a b : AV) : Option AV :=
 match a, b with
 | .int k a, .int _ b => some (.int k (bif iblt b a then b else a))
 | _, _ => none
def q8S (a b : AV) : Option AV :=
 match a, b with
 | .int k a, .int _ b => some (.int k (bif iblt a b then b else a))
 | _, _ => none
def j6P (f : AV → AV → Option AV) (l : List AV) : AV → Option AV :=
 List.rec (fun a => some a) (fun b _ ih a => z0b (f a b) ih) l
def q8T (H : Heap) (x : AV) : Option Heap :=
 match x with
 | .nilmap => some H
 | .nilslice => some H
 | .map r => z0b (z5J (H.blks.get r)) fun p => z4P H r [] p.2 some
 | _ => none
def q8U (v : AV) : Option UInt8 :=
 match v with
 | .int .u8 (.ofNat n) => some (UInt8.ofNat n)
 | _ => none
def z8D (l : List AV) : Option (List UInt8) := List.rec (some []) (fun v _ ih => z2k (q8U v) ih) l
def u8D (d : TypeDesc) : Bool :=
 match d with
 | .int .u8 => true
 | _ => false
def q8V (H : Heap) (e : TypeId) (s : List UInt8) (d : TypeDesc) : Option (AV × Heap) :=
 bif u8D d then
  bif Nat.ble (len s) 1000000 then z2q H e false (z0x s) fun b H => some (.slice b 0 (len s) true 0, H) else none
 else none
def strO (H : Heap) (o : Option (List UInt8)) : Option (AV × Heap) := z0b o fun s => some (.str s, H)
def z1Z (H : Heap) (x : AV) (d : TypeDesc) : Option (AV × Heap) :=
 bif u8D d then
  (match x with
   | .slice b off n _ _ => z0b (z0o H b off n) fun cs => strO H (z8D cs)
   | .nilslice => some (.str [], H)
   | .tail _ _ _ _ => some (.str [], H)
   | _ => none)
 else none
def j9F (H : Heap) (b : Nat) (v : AV) : Option (AV × Heap) :=
 match H.blks.get b with
 | some (.cells _ _ _) => some (v, H)
 | _ => none
def q8W (same : Bool) (H : Heap) (b o n : Nat) (q : Bool) (c : Nat) (d : TypeDesc) : Option (AV × Heap) :=
 bif same then (bif u8D d then j9F H b (.slice b o n q c) else none) else none
def j4H (H : Heap) (b off : Nat) : Option (TypeId × Nat) :=
 match H.blks.get b, off with
 | some (.cells e true l), 0 => some (e, len l)
 | _, _ => none
def z3Z (G : Tab) (H : Heap) (u : TypeId) (x : AV) : Option (AV × Heap) :=
 match x with
 | .nilptr => some (.nilptr, H)
 | .ptr b off => z0b (j4H H b off) fun e => bif Nat.beq e.1 u then (z0b (G.size u) fun z => bif Nat.beq z 0 then none else (bif Nat.ble z e.2 then some (.ptr b off, H) else none)) else none
 | _ => none
def q6k (G : Tab) (H : Heap) (same : Bool) (x : AV) (su du : TypeDesc) : Option (AV × Heap) :=
 match su, du, x with
 | .pointer u, .unsafePointer, x => z3Z G H u x
 | .unsafePointer, .pointer u, x => z3Z G H u x
 | _, .int k, .int _ n => some (.int k (z6k k n), H)
 | _, .string, .str s => some (.str s, H)
 | _, .slice e, .str s => z0b (G.und e) (q8V H e s)
 | .slice e, .string, x => z0b (G.und e) (z1Z H x)
 | .slice _, .slice e, .slice b o n q c => z0b (G.und e) (q8W same H b o n q c)
 | _, _, _ => none
def z6n (G : Tab) (H : Heap) (src dst : TypeId) (x : AV) : Option (AV × Heap) :=
 z0b (G.und src) fun su => z0b (G.und dst) fun du => q6k G H (Nat.beq src dst) x su du
end
end Go.Sx
namespace Go.Sx
noncomputable section
def AEntry.beq (a b : AEntry) : Bool := bif AV.beq a.key b.key then (bif AV.beq a.val b.val then Nat.beq a.born b.born else false) else false
def ABlk.beq (a b : ABlk) : Bool :=
 match a, b with
 | .cells e x l, .cells e' x' l' => bif Nat.beq e e' then (bif bbeq x x' then z1X AV.beq l l' else false) else false
 | .big e n z, .big e' n' z' => bif Nat.beq e e' then (bif Nat.beq n n' then z1X AV.beq z z' else false) else false
 | .map es c, .map es' c' => bif Nat.beq c c' then z1X AEntry.beq es es' else false
 | .mapIter m s l p, .mapIter m' s' l' p' => bif z8p Nat.beq m m' then (bif Nat.beq s s' then (bif z1X Nat.beq l l' then Nat.beq p p' else false) else false) else false
 | .strIter s p, .strIter s' p' => bif sbeq s s' then Nat.beq p p' else false
 | .deferred, .deferred => true
 | _, _ => false
def Heap.beq (a b : Heap) : Bool := bif Nat.beq a.next b.next then T.beq ABlk.beq a.blks b.blks else false
inductive ADefer where
 | collected (r : Nat)
 | call (f : AV) (args : List AV)
inductive Ex where
 | normal
 | exit (id : Nat)
 | goto (l : Nat)
 | ret
structure St where
 tm : T AV
 h : Heap
 df : List ADefer
structure Ctx where
 rnd : Option Nat
 size : Nat
abbrev VH := AV × Heap
abbrev Outs := Option (List (Ex × St))
structure Fns where
 code : Ctx → Code → St → Outs
 scope : Ctx → Code → Code → St → Outs
 call : FuncId → List AV → Heap → Option (List VH)
 yld : Nat → List AV → Heap → Option (List VH)
 callD : FuncId → List AV → Heap → Option (List VH)
def appO {α : Type} (a : Option (List α)) (b : Option (List α)) : Option (List α) :=
 match a with
 | none => none
 | some x => match b with
  | none => none
  | some y => some (app x y)
def q8X {α β : Type} (f : α → Option (List β)) (l : List α) : Option (List β) := List.rec (some []) (fun a _ ih => appO (f a) ih) l
def q8Y {α β : Type} (f : α → Option (List β)) (l : List α) : Option (List β) :=
 match l with
 | [a] => f a
 | l => q8X f l
def z1B {α β : Type} (o : Option (List α)) (f : α → Option (List β)) : Option (List β) :=
 match o with
 | none => none
 | some l => q8Y f l
def z0J {β : Type} (c : Ctx) (tm : T AV) (dst : Option Tmp) (v : AV) (k : T AV → Option β) : Option β :=
 match dst with
 | none => k tm
 | some d => bif Nat.blt d c.size then z3V v fun v => tm.setK d (some v) k else none
def z5O (want : Bool) (o : Option AV) : Bool :=
 match o with
 | some (.bool b) => bbeq b want
 | _ => false
def q4q (all : List Oper) (j : Nat) : Option Tmp := z0b (nth all j) fun g => g.dst
def guardA (all : List Oper) (tm : T AV) (j : Nat) (want : Bool) : Bool :=
 match q4q all j with
 | none => false
 | some d => z5O want (tm.get d)
def z0s (all : List Oper) (g : Option (Nat × Bool)) (tm : T AV) : Bool :=
 match g with
 | none => true
 | some (j, want) => guardA all tm j want
inductive Kind where
 | pure | read | alloc | eff
def kindB (b : Builtin) : Kind :=
 match b with
 | .len => .read
 | .unsafeSliceData => .pure
 | .cap => .pure
 | .min => .pure
 | .max => .pure
 | _ => .eff
def kindC (c : Callee) : Kind :=
 match c with
 | .builtin b => kindB b
 | _ => .eff
def orX {α : Type} (a b : Option α) : Option α :=
 match a with
 | some x => some x
 | none => b
def twoB (lo hi : Option Operand) : Bool :=
 match lo, hi with
 | some _, some _ => true
 | _, _ => false
def kindOf (o : Op) : Kind :=
 match o with
 | .move _ => .pure
 | .assign _ => .pure
 | .pick _ _ _ => .pure
 | .build _ _ => .pure
 | .nilCheck _ => .pure
 | .binOp _ _ _ _ _ => .pure
 | .unOp _ _ _ => .pure
 | .makeInterface _ _ => .pure
 | .makeFunc _ _ _ => .pure
 | .slice _ _ lo hi _ => bif twoB lo hi then .read else .pure
 | .fieldAddr _ _ _ => .pure
 | .field _ _ _ => .pure
 | .indexAddr _ _ _ => .pure
 | .index _ _ _ => .pure
 | .extract _ _ => .pure
 | .load _ _ => .read
 | .lookup _ _ _ _ => .read
 | .entry _ => .read
 | .typeAssert _ _ _ _ => .pure
 | .alloc _ => .alloc
 | .box _ _ => .alloc
 | .buildSlice _ _ _ => .alloc
 | .makeMap _ _ => .alloc
 | .makeSlice _ _ _ => .alloc
 | .call c => kindC c.callee
 | _ => .eff
def isCv (o : Op) : Bool :=
 match o with
 | .convert _ _ _ => true
 | _ => false
def q4r (o : Op) : Kind := bif isCv o then .read else kindOf o
def z5K (l : List Oper) : Bool := List.rec false (fun o _ ih => bif isCv o.op then true else ih) l
abbrev NOp := Tab → T AV → Heap → Option VH
def z0N (H : Heap) (o : Option AV) : Option VH :=
 match o with
 | none => none
 | some v => some (v, H)
def j9G : NOp := fun _ _ _ => none
def q6l (x : Operand) : NOp := fun G tm H => z0N H (aev G tm x)
def q7k (G : Tab) (tm : T AV) (a b : Operand) (c : AV) : Option AV :=
 match c with
 | .bool true => aev G tm a
 | .bool false => aev G tm b
 | _ => none
def j4I (c a b : Operand) : NOp := fun G tm H => z0N H (z0b (aev G tm c) (q7k G tm a b))
def j6Q (t : TypeId) : NOp := fun G _ H => z0b (G.zero t) (boxA H t)
def j9H (t : TypeId) (x : Operand) : NOp := fun G tm H => z0b (aev G tm x) (boxA H t)
def q8Z (t : TypeId) (ps : Array (Nat × Operand)) : NOp := fun G tm H => z0N H (z0b (z2e G tm ps.toList) (q6j G t))
def z7x (t : TypeId) (n : Nat) (ps : Array (Nat × Operand)) : NOp := fun G tm H => z0b (z2e G tm ps.toList) (z1t G H t n)
def loadPtr (G : Tab) (H : Heap) (t : TypeId) (a : AV) : Option AV :=
 match a with
 | .ptr b off => z2p G H t b off
 | _ => none
def j4J (t : TypeId) (a : Operand) : NOp := fun G tm H => z0N H (z0b (aev G tm a) (loadPtr G H t))
def nilCheckA (v : AV) : Option AV :=
 match v with
 | .ptr b off => some (.ptr b off)
 | .iface t v => some (.iface t v)
 | .func (.func f) a b => some (.func (.func f) a b)
 | .yld l => some (.yld l)
 | _ => none
def q0p (x : Operand) : NOp := fun G tm H => z0N H (z0b (aev G tm x) nilCheckA)
def orB (a b : Bool) : Bool := bif a then true else b
def j9I (op : BinOp) (t : TypeId) (x y : Operand) : NOp := fun G tm H =>
 z0N H (z0b (aev G tm x) fun a => z0b (aev G tm y) fun b => binA G op t (orB (z1j x) (z1j y)) a b)
def opUn (op : UnOp) (x : Operand) : NOp := fun G tm H => z0N H (z0b (aev G tm x) (unA op))
def z4t (d : TypeDesc) : Bool :=
 match d with
 | .interface _ => false
 | _ => true
def z4Q (t : TypeId) (x : Operand) : NOp := fun G tm H =>
 z0b (G.und t) fun d => bif z4t d then z0N H (z0b (aev G tm x) fun v => some (.iface t v)) else none
def z8E (fn : Fn) : Bool :=
 match fn with
 | .func _ => true
 | _ => false
def q0q (fn : Fn) (first cap : Array Operand) : NOp := fun G tm H =>
 bif z8E fn then z0N H (z0b (aevs G tm first.toList) fun a => z0b (aevs G tm cap.toList) fun b => some (.func fn a b)) else none
def z2y (H : Heap) : Option VH := newA H (.map [] 0) fun b H => some (.map b, H)
def z4R (G : Tab) (t : TypeId) (v : AV) : Bool :=
 match G.und t, v with
 | some (.map _ _), .int _ _ => true
 | _, _ => false
def q2H (t : TypeId) (r : Option Operand) : NOp := fun G tm H =>
 match r with
 | none => z2y H
 | some x => z0b (aev G tm x) fun v => bif z4R G t v then z2y H else none
def z8F (t : TypeId) (l c : Operand) : NOp := fun G tm H => z0b (aev G tm l) fun a => z0b (aev G tm c) fun b => z0R G H t a b
def opt1 (G : Tab) (tm : T AV) (o : Option Operand) : Option (Option AV) :=
 match o with
 | none => some none
 | some o => z0b (aev G tm o) fun v => some (some v)
def q4s (G : Tab) (H : Heap) (x : AV) (lo hi : Option AV) (d : TypeDesc) : Option AV :=
 match d, x, lo, hi with
 | .slice e, .slice b off _ true c, some (.int _ (.ofNat l)), some (.int _ (.ofNat h)) => z0b (G.size e) fun z => z0b (z3m e (H.blks.get b)) fun kn =>
  bif Nat.beq z 0 then none else bif Nat.beq off (c * z) then (bif Nat.ble (off + h * z) kn then (bif Nat.blt l h then some (.slice b (off + l * z) (h - l) true (c + l)) else none) else none) else none
 | _, _, _, _ => none
def q2I (G : Tab) (H : Heap) (t : TypeId) (x : AV) (lo hi : Option AV) : Option AV := z0b (G.und t) (q4s G H x lo hi)
def z7y (G : Tab) (H : Heap) (w : Bool) (t : TypeId) (x : AV) (lo hi mx : Option AV) : Option AV :=
 match w, mx with
 | true, none => orX (q6f G t x lo hi none) (q2I G H t x lo hi)
 | _, mx => q6f G t x lo hi mx
def q9a (t : TypeId) (x : Operand) (lo hi mx : Option Operand) : NOp := fun G tm H =>
 z0N H (z0b (aev G tm x) fun v => z0b (opt1 G tm lo) fun a => z0b (opt1 G tm hi) fun b => z0b (opt1 G tm mx) fun c => z7y G H (twoB lo hi) t v a b c)
def z8G (s : TypeId) (x : Operand) (f : Nat) : NOp := fun G tm H => z0N H (z0b (aev G tm x) (z3e G s f))
def q9b (t : TypeId) (x : Operand) (f : Nat) : NOp := fun G tm H => z0N H (z0b (aev G tm x) (q6c G t f))
def z8H (t : TypeId) (x i : Operand) : NOp := fun G tm H => z0N H (z0b (aev G tm x) fun v => z0b (aev G tm i) fun j => z1M G t v j)
def q9c (t : TypeId) (x i : Operand) : NOp := fun G tm H => z0N H (z0b (aev G tm x) fun v => z0b (aev G tm i) fun j => j4x G t v j)
def q6m (t : TypeId) (x k : Operand) (ok : Bool) : NOp := fun G tm H => z0N H (z0b (aev G tm x) fun v => z0b (aev G tm k) fun j => z8x G H t ok v j)
def q9d (x : Operand) : NOp := fun G tm H => z0N H (z0b (aev G tm x) (z8z H))
def extractA (i : Nat) (v : AV) : Option AV :=
 match v with
 | .tuple vs => nth vs i
 | _ => none
def q2J (t : Operand) (i : Nat) : NOp := fun G tm H => z0N H (z0b (aev G tm t) (extractA i))
def fst1 {α β : Type} (l : List α) (f : α → Option β) : Option β :=
 match l with
 | [] => none
 | a :: _ => f a
def q7l (f : AV → AV → Option AV) (l : List AV) : Option AV :=
 match l with
 | [] => none
 | a :: l => j6P f l a
def q0r (x : AV) : Option AV :=
 match x with
 | .nilslice => some .nilptr
 | .slice b off n true _ => bif Nat.beq n 0 then none else some (.ptr b off)
 | _ => none
def q0s (xs : List AV) : Option AV :=
 match xs with
 | [x] => q0r x
 | _ => none
def z4u (b : Builtin) : Tab → List TypeId → List AV → Heap → Option AV :=
 match b with
 | .unsafeSliceData => fun _ _ xs _ => q0s xs
 | .len => fun G ts xs H => fst1 ts fun t => fst1 xs (lenA G H t)
 | .cap => fun G ts xs _ => fst1 ts fun t => fst1 xs (capA G t)
 | .min => fun _ _ xs _ => q7l j6O xs
 | .max => fun _ _ xs _ => q7l q8S xs
 | _ => fun _ _ _ _ => none
def q1j (c : Callee) : Option Builtin :=
 match c with
 | .builtin b => some b
 | _ => none
def q9e (c : Call) : NOp := fun G tm H =>
 z0N H (z0b (q1j c.callee) fun b => z0b (aevs G tm c.args.toList) fun xs => z4u b G c.argTypes.toList xs H)
def q9f (G : Tab) (want : TypeId) (ok : Bool) (v : AV) : Option AV :=
 match v with
 | .iface t v => z0b (G.und want) fun d => bif z4t d then (bif Nat.beq t want then some (bif ok then .tuple [v, .bool true] else v) else none) else none
 | _ => none
def q6n (x : Operand) (want : TypeId) (ok : Bool) : NOp := fun G tm H => z0N H (z0b (aev G tm x) (q9f G want ok))
def fstO (o : Option (AV × Heap)) : Option AV := z0b o fun p => some p.1
def j6R (G : Tab) (H : Heap) (x : AV) (su du : TypeDesc) : Option AV :=
 match su, du, x with
 | _, .int k, .int _ n => some (.int k (z6k k n))
 | .slice e, .string, .slice b o n q c => z0b (G.und e) fun d => fstO (z1Z H (.slice b o n q c) d)
 | .slice e, .string, .nilslice => z0b (G.und e) fun d => fstO (z1Z H .nilslice d)
 | .slice e, .string, .tail b o p c => z0b (G.und e) fun d => fstO (z1Z H (.tail b o p c) d)
 | _, _, _ => none
def z8I (G : Tab) (H : Heap) (a b : TypeId) (x : AV) : Option AV := z0b (G.und a) fun su => z0b (G.und b) fun du => j6R G H x su du
def q9g (a b : TypeId) (x : Operand) : NOp := fun G tm H => z0N H (z0b (aev G tm x) (z8I G H a b))
def opN (o : Op) : NOp :=
 match o with
 | .typeAssert x _ t ok => q6n x t ok
 | .move x => q6l x
 | .assign x => q6l x
 | .pick c a b => j4I c a b
 | .alloc t => j6Q t
 | .box t x => j9H t x
 | .build t ps => q8Z t ps
 | .buildSlice t n ps => z7x t n ps
 | .load t a => j4J t a
 | .nilCheck x => q0p x
 | .binOp op t x y _ => j9I op t x y
 | .unOp op _ x => opUn op x
 | .makeInterface t x => z4Q t x
 | .makeFunc fn a b => q0q fn a b
 | .makeMap t r => q2H t r
 | .makeSlice t l c => z8F t l c
 | .convert a b x => q9g a b x
 | .slice t x lo hi mx => q9a t x lo hi mx
 | .fieldAddr s x f => z8G s x f
 | .field t x f => q9b t x f
 | .indexAddr t x i => z8H t x i
 | .index t x i => q9c t x i
 | .lookup t x k ok => q6m t x k ok
 | .entry x => q9d x
 | .extract t i => q2J t i
 | .call c => q9e c
 | _ => j9G
def q9h (F : Fns) (fn : Fn) (first args cap : List AV) (H : Heap) : Option (List VH) :=
 match fn with
 | .func f => F.call f (app first (app args cap)) H
 | _ => none
def q0t (F : Fns) (args : List AV) (H : Heap) (v : AV) : Option (List VH) :=
 match v with
 | .func fn first cap => q9h F fn first args cap H
 | .yld l => F.yld l args H
 | _ => none
def j2T (name : String) (l : List Method) : Option Method := List.rec none (fun m _ ih => if m.name = name then some m else ih) l
def j4K (o : Option TypeDesc) : Bool :=
 match o with
 | some (.pointer _) => true
 | _ => false
def q9i (ptr : Bool) (p : List FieldStep) (f : Option (FuncId × Bool)) : Option FuncId :=
 match p, f with
 | [], some (f, q) => bif bbeq ptr q then some f else none
 | _, _ => none
def q9j (G : Tab) (t : TypeId) (name : String) : Option FuncId :=
 z0b (G.types.get t) fun i => z0b (j2T name i.methods.toList) fun m => z0b (G.und t) fun d => q9i (j4K (some d)) m.path.toList m.func
abbrev EOut := AV × List ADefer × Heap
abbrev EOp := Fns → Tab → Ctx → T AV → List ADefer → Heap → Option (List EOut)
def out1 (df : List ADefer) (o : Option Heap) : Option (List EOut) :=
 match o with
 | none => none
 | some H => some [(z0A, df, H)]
def out2 (df : List ADefer) (o : Option VH) : Option (List EOut) :=
 match o with
 | none => none
 | some p => some [(p.1, df, p.2)]
def outs (df : List ADefer) (o : Option (List VH)) : Option (List EOut) :=
 match o with
 | none => none
 | some [p] => some [(p.1, df, p.2)]
 | some l => some (l.map fun p => (p.1, df, p.2))
def j6S : EOp := fun _ _ _ _ _ _ => none
def z2r (G : Tab) (H : Heap) (t : TypeId) (a v : AV) : Option Heap :=
 match a with
 | .ptr b off => q2B G H t b off v
 | _ => none
def q9k (t : TypeId) (a x : Operand) : EOp := fun _ G _ tm df H => out1 df (z0b (aev G tm a) fun p => z0b (aev G tm x) fun v => z2r G H t p v)
def z4v (t : TypeId) (m k x : Operand) : EOp := fun _ G _ tm df H =>
 out1 df (z0b (aev G tm m) fun m => z0b (aev G tm k) fun k => z0b (aev G tm x) fun x => z3X G H t m k x)
def q0u (t : TypeId) (m k : Operand) : EOp := fun _ G _ tm df H => out2 df (z0b (aev G tm m) fun m => z0b (aev G tm k) fun k => z8y G H t m k)
def z7z (m s x : Operand) : EOp := fun _ G _ tm df H =>
 out1 df (z0b (aev G tm m) fun m => z0b (aev G tm s) fun s => z0b (aev G tm x) fun x => z5Z H m s x)
def q9l (t : TypeId) (x : Operand) : EOp := fun _ G _ tm df H => out2 df (z0b (aev G tm x) (q8O G H t))
def j4L (it : Operand) (s : Bool) : EOp := fun _ G _ tm df H => outs df (z0b (aev G tm it) fun v => q4o H v s)
def q2K (s d : TypeId) (x : Operand) : EOp := fun _ G _ tm df H => out2 df (z0b (aev G tm x) (z6n G H s d))
def z6b (c : Callee) : Option Operand :=
 match c with
 | .value f => some f
 | _ => none
def j9J (v : AV) : Bool :=
 match v with
 | .func _ _ _ => true
 | _ => false
def q4t (cl : Call) : EOp := fun _ G c tm df H =>
 match c.rnd with
 | none => z0b (z6b cl.callee) fun f => z0b (aev G tm f) fun v => bif j9J v then z0b (aevs G tm cl.args.toList) fun args => some [(z0A, .call v args :: df, H)] else none
 | some _ => none
def embD (f : FuncId) (r : AV) (d : TypeDesc) : Option (FuncId × AV) :=
 match d with
 | .pointer _ => some (f, r)
 | _ => none
def embF (G : Tab) (p : List FieldStep) (f : Option (FuncId × Bool)) (v : AV) : Option (FuncId × AV) :=
 match p, f, v with
 | [st], some (f, true), .agg cs => bif st.deref then none else z0b (q1c G st.struct st.index) fun fd => z0b (z3l G fd.type cs fd.offset) fun r => z0b (G.und fd.type) (embD f r)
 | _, _, _ => none
def q9m (G : Tab) (t : TypeId) (name : String) (v : AV) : Option (FuncId × AV) :=
 z0b (G.types.get t) fun i => z0b (j2T name i.methods.toList) fun m => embF G m.path.toList m.func v
def q1k (F : Fns) (G : Tab) (name : String) (args : List AV) (H : Heap) (r : AV) : Option (List VH) :=
 match r with
 | .iface t v => orX (z0b (q9j G t name) fun f => F.call f (v :: args) H) (z0b (q9m G t name v) fun p => F.call p.1 (p.2 :: args) H)
 | _ => none
def q9n (G : Tab) (H : Heap) (ts : List TypeId) (xs : List AV) : Option Heap :=
 match ts, xs with
 | t :: _, [m, k] => q4n G H t m k
 | _, _ => none
def q9o (G : Tab) (H : Heap) (d : TypeDesc) (x : AV) : Option Heap :=
 match d, x with
 | .slice e, .slice b off n _ _ => bif Nat.beq n 0 then none else z0b (G.zero e) fun z => z1s H b off (z0T z.cells n)
 | _, x => q8T H x
def j4M (G : Tab) (H : Heap) (ts : List TypeId) (xs : List AV) : Option Heap :=
 match ts, xs with
 | t :: _, [x] => z0b (G.und t) fun d => q9o G H d x
 | _, _ => none
def q9p (d : TypeDesc) : Option TypeId :=
 match d with
 | .pointer e => some e
 | _ => none
def q6o (G : Tab) (H : Heap) (t b off n : Nat) (o : Option ABlk) : Option VH :=
 match o with
 | some (.cells e false l) => z0b (z0b (G.und t) q9p) fun u => bif Nat.beq u e then
   (z0b (G.size e) fun z => bif Nat.beq z 1 then (bif Nat.ble n 1000000000 then (z0b (z4J (z6S l off) n) fun cs => z0b (z8D cs) fun s => bif z1X AV.beq (z0x s) cs then some (.str s, z9T H b) else none) else none) else none) else none
 | _ => none
def q2L (G : Tab) (H : Heap) (t : TypeId) (p n : AV) : Option VH :=
 match p, n with
 | .nilptr, .int .i64 (.ofNat 0) => some (.str [], H)
 | .ptr b off, .int .i64 (.ofNat (n + 1)) => q6o G H t b off (n + 1) (H.blks.get b)
 | _, _ => none
def z6X (G : Tab) (H : Heap) (ts : List TypeId) (xs : List AV) : Option VH :=
 match ts, xs with
 | t :: _, [p, n] => q2L G H t p n
 | _, _ => none
def z8d (b : Builtin) : Tab → List TypeId → List AV → List ADefer → Heap → Option (List EOut) :=
 match b with
 | .unsafeString => fun G ts xs df H => out2 df (z6X G H ts xs)
 | .append => fun G ts xs df H => out2 df (z3n G H ts xs)
 | .copy => fun G ts xs df H => out2 df (j6N G H ts xs)
 | .delete => fun G ts xs df H => out1 df (q9n G H ts xs)
 | .clear => fun G ts xs df H => out1 df (j4M G H ts xs)
 | _ => fun _ _ _ _ _ => none
def j4N (H : Heap) (t : Nat) (o : Option ABlk) : Option (List VH) :=
 match o with
 | some (.map es c) => newA H (.map es c) fun b H => some [(.iface t (.map b), H)]
 | _ => none
def j2U (s : List UInt8) (c : Nat) : Nat → Option Nat :=
 List.rec (fun _ => none) (fun b _ ih i => bif Nat.beq b.toNat c then some i else ih (i + 1)) s
def q6p (o : Option Nat) : AV :=
 match o with
 | some i => .int .i64 (.ofNat i)
 | none => .int .i64 (.negSucc 0)
def q9q (H : Heap) (e n : Nat) : Option (List VH) :=
 bif Nat.ble n 1000000 then newA H (.cells e false []) fun b H => some [(.slice b 0 n true 0, H)] else none
def q6q (s : List UInt8) (c : Nat) : Nat := List.rec 0 (fun b _ ih => bif Nat.beq b.toNat c then ih + 1 else ih) s
def extA (G : Tab) (k : ExtK) (args : List AV) (H : Heap) : Option (List VH) :=
 match k, args with
 | .clone, [.iface t (.map r)] => j4N H t (H.blks.get r)
 | .same, [v] => some [(v, H)]
 | .indexByte, [.str s, .int .u8 (.ofNat c)] => bif Nat.blt c 256 then some [(q6p (j2U s c 0), H)] else none
 | .noZero r, [.int .i64 (.ofNat n)] => z0b (elemOf G r) fun e => z0b (G.size e) fun z => bif Nat.beq z 1 then q9q H e n else none
 | .countByte, [.str s, .int .u8 (.ofNat c)] => bif Nat.blt c 256 then some [(.int .i64 (.ofNat (q6q s c)), H)] else none
 | _, _ => none
def extV (G : Tab) (args : List AV) (H : Heap) (v : AV) : Option (List VH) :=
 match v with
 | .func (.func f) [] [] => z0b (G.ext.get f) fun k => extA G k args H
 | _ => none
def q1l (c : Callee) (ts : List TypeId) (args : List AV) : EOp :=
 match c with
 | .value f => fun F G _ tm df H => orX (outs df (z0b (aev G tm f) (q0t F args H))) (outs df (z0b (aev G tm f) (extV G args H)))
 | .invoke r name => fun F G _ tm df H => outs df (z0b (aev G tm r) (q1k F G name args H))
 | .builtin b => fun _ G _ _ df H => z8d b G ts args df H
def j4O (cl : Call) : EOp := fun F G c tm df H =>
 z0b (aevs G tm cl.args.toList) fun args => q1l cl.callee cl.argTypes.toList args F G c tm df H
def opE (o : Op) : EOp :=
 match o with
 | .store t a x => q9k t a x
 | .mapUpdate t m k x => z4v t m k x
 | .insert t m k x => z4v t m k x
 | .mapEntry t m k => q0u t m k
 | .entryStore _ m s x => z7z m s x
 | .range t x => q9l t x
 | .next it s => j4L it s
 | .convert s d x => q2K s d x
 | .defer cl => q4t cl
 | .call cl => j4O cl
 | _ => j6S
abbrev Run := Fns → Tab → Ctx → List Oper → St → Option (List St)
def runE (o : Oper) (ih : Run) : Run := fun F G c all s =>
 z1B (opE o.op F G c s.tm s.df s.h) fun p => z0J c s.tm o.dst p.1 fun tm => ih F G c all ⟨tm, p.2.2, p.2.1⟩
def runN (o : Oper) (ih : Run) : Run := fun F G c all s =>
 z0b (opN o.op G s.tm s.h) fun p => z0J c s.tm o.dst p.1 fun tm => ih F G c all ⟨tm, p.2, s.df⟩
def z4S (o : Oper) (ih : Run) : Run := fun F G c all s => z0J c s.tm o.dst z0A fun tm => ih F G c all ⟨tm, s.h, s.df⟩
def z2B (k : Kind) : Oper → Run → Run :=
 match k with
 | .eff => runE
 | _ => runN
def z3A (o : Oper) (ih : Run) : Run := fun F G c all s =>
 bif z0s all o.guard s.tm then z2B (kindOf o.op) o ih F G c all s else z4S o ih F G c all s
def z0t (l : List Oper) : Run := List.rec (fun _ _ _ _ s => some [s]) (fun o _ ih => z3A o ih) l
structure RO where
 i : Nat
 o : Oper
 pre : Nat
 kind : Kind
def sub (a b : Nat) : Bool := Nat.beq (Nat.land a b) a
def q4u (acc : T Nat) (i : Nat) (e : Edge) (ih : Nat → Option Nat) (m : Nat) : Option Nat :=
 bif Region.binds .any e then
  (bif Nat.blt e.on i then z0b (acc.get e.on) fun p => ih (Nat.lor (Nat.lor m (Nat.pow 2 e.on)) p) else none)
 else ih m
def q2M (acc : T Nat) (i : Nat) (es : List Edge) : Nat → Option Nat := List.rec (fun m => some m) (fun e _ ih => q4u acc i e ih) es
def z2R (l : List Oper) : Nat → T Nat → Option (List RO) :=
 List.rec (fun _ _ => some []) (fun o _ ih i acc => z0b (q2M acc i o.after.toList 0) fun m =>
  z0G m fun m => acc.setK i (some m) fun acc' => z0G (i + 1) fun i' => z1D ⟨i, o, m, kindOf o.op⟩ (ih i' acc')) l
def z6Y (l : List Oper) : Nat → T Nat → Option (List RO) :=
 List.rec (fun _ _ => some []) (fun o _ ih i acc => z0b (q2M acc i o.after.toList 0) fun m =>
  z0G m fun m => acc.setK i (some m) fun acc' => z0G (i + 1) fun i' => z1D ⟨i, o, m, q4r o.op⟩ (ih i' acc')) l
def q9r (o : Operand) (l : List Tmp) : List Tmp :=
 match o with
 | .tmp t => t :: l
 | _ => l
def z8e (l : List Operand) : List Tmp := List.rec [] (fun o _ ih => q9r o ih) l
def q9s (o : Option Tmp) (l : List Tmp) : List Tmp :=
 match o with
 | none => l
 | some d => d :: l
def looks (all : List Oper) (o : Oper) : List Tmp :=
 match o.guard with
 | none => z8e o.op.operands.toList
 | some (j, _) => q9s (q4q all j) (z8e o.op.operands.toList)
def q1m (a b : RO) : Bool := bif Nat.testBit b.pre a.i then true else Nat.testBit a.pre b.i
def q1n (r s : RO) (ls : List Tmp) (o : Option Tmp) : Bool :=
 match o with
 | none => true
 | some d => bif z2j d ls then q1m r s else true
def q4v (r : RO) (ls : List Tmp) (l : List RO) : Bool :=
 List.rec true (fun s _ ih => bif (bif Nat.beq s.i r.i then true else q1n r s ls s.o.dst) then ih else false) l
def z8J (r s : RO) : Bool :=
 match r.o.dst, s.o.dst with
 | some d, some e => bif Nat.beq d e then q1m r s else true
 | _, _ => true
def q1o (r : RO) (l : List RO) : Bool := List.rec true (fun s _ ih => bif (bif Nat.beq s.i r.i then true else z8J r s) then ih else false) l
def w2b (r : RO) (o : Option Nat) : Bool :=
 match o with
 | none => true
 | some j => Nat.testBit r.pre j
def z0K (k : Kind) : Bool :=
 match k with
 | .eff => true
 | _ => false
def z3c (all : List Oper) (rs l : List RO) : Bool :=
 List.rec true (fun r _ ih => bif q4v r (looks all r.o) rs then (bif q1o r rs then ih else false) else false) l
structure Kept where
 r : RO
 tm : T AV
 v : AV
structure DS where
 done : Nat
 s : St
 kept : List Kept
abbrev DK := DS → Option (List St)
def z2z (r : RO) (tm : T AV) (v : AV) (l : List Kept) : List Kept :=
 match r.kind with
 | .pure => l
 | _ => ⟨r, tm, v⟩ :: l
def z8K (G : Tab) (c : Ctx) (r : RO) (d : DS) (ih : DK) : Option (List St) :=
 z0b (opN r.o.op G d.s.tm d.s.h) fun p => z0J c d.s.tm r.o.dst p.1 fun tm =>
  z0G (Nat.lor d.done (Nat.pow 2 r.i)) fun m => ih ⟨m, ⟨tm, p.2, d.s.df⟩, z2z r d.s.tm p.1 d.kept⟩
def z4T (c : Ctx) (r : RO) (d : DS) (ih : DK) : Option (List St) :=
 z0J c d.s.tm r.o.dst z0A fun tm => z0G (Nat.lor d.done (Nat.pow 2 r.i)) fun m => ih ⟨m, ⟨tm, d.s.h, d.s.df⟩, d.kept⟩
def ready (r : RO) (done : Nat) : Bool := bif z0K r.kind then false else bif Nat.testBit done r.i then false else sub r.pre done
def z4U (G : Tab) (c : Ctx) (all : List Oper) (r : RO) (ih : DK → DK) (k : DK) (d : DS) : Option (List St) :=
 bif ready r d.done then
  (bif z0s all r.o.guard d.s.tm then z8K G c r d (ih k) else z4T c r d (ih k))
 else ih k d
def z0O (G : Tab) (c : Ctx) (all : List Oper) (l : List RO) : DK → DK := List.rec (fun k d => k d) (fun r _ ih => z4U G c all r ih) l
def z0e (done : Nat) (l : List RO) : Bool := List.rec true (fun r _ ih => bif ready r done then false else ih) l
def z0v (done : Nat) (l : List RO) : Option RO :=
 List.rec none (fun r _ ih => bif z0K r.kind then (bif Nat.testBit done r.i then ih else some r) else ih) l
def q2N (e r : RO) (done : Nat) : Bool :=
 bif z0K r.kind then (bif Nat.testBit done r.i then true else bif Nat.beq r.i e.i then true else Nat.testBit r.pre e.i) else true
def z0l (e : RO) (done : Nat) (l : List RO) : Bool := List.rec true (fun r _ ih => bif q2N e r done then ih else false) l
def z0H (v : AV) : Option Nat :=
 match v with
 | .ptr b _ => some b
 | .slice b _ _ _ _ => some b
 | .map b => some b
 | _ => none
def j6T (v : AV) (o : Option VH) : Bool :=
 match o with
 | some p => AV.beq p.1 v
 | none => false
def j6U (x y : Option ABlk) : Bool :=
 match x, y with
 | some x, some y => ABlk.beq x y
 | _, _ => false
def z8f (v : AV) (H : Heap) (b : Nat) (o : Option VH) : Bool :=
 match o with
 | some p => bif AV.beq p.1 v then j6U (p.2.blks.get b) (H.blks.get b) else false
 | none => false
def q9t (G : Tab) (H : Heap) (k : Kept) (o : Option Nat) : Bool :=
 match o with
 | some b => z8f k.v H b (opN k.r.o.op G k.tm ⟨b, .e⟩)
 | none => false
def z0I (k : Kind) : Bool :=
 match k with
 | .alloc => true
 | _ => false
def z3O (G : Tab) (H : Heap) (k : Kept) : Bool :=
 bif z0I k.r.kind then q9t G H k (z0H k.v) else j6T k.v (opN k.r.o.op G k.tm H)
def z6o (G : Tab) (H : Heap) (sealed : Nat) (l : List Kept) : Bool :=
 List.rec true (fun k _ ih => bif (bif Nat.testBit sealed k.r.i then true else z3O G H k) then ih else false) l
def z2s (G : Tab) (rs : List RO) (sealed : Nat) (d : DS) : Bool := bif z0e d.done rs then z6o G d.s.h sealed d.kept else false
def q1p (F : Fns) (G : Tab) (c : Ctx) (r : RO) (d : DS) (next : DK) : Option (List St) :=
 z1B (opE r.o.op F G c d.s.tm d.s.df d.s.h) fun p => z0J c d.s.tm r.o.dst p.1 fun tm =>
  z0G (Nat.lor d.done (Nat.pow 2 r.i)) fun m => next ⟨m, ⟨tm, p.2.2, p.2.1⟩, d.kept⟩
def z4w (c : Ctx) (r : RO) (d : DS) (next : DK) : Option (List St) :=
 z0J c d.s.tm r.o.dst z0A fun tm => z0G (Nat.lor d.done (Nat.pow 2 r.i)) fun m => next ⟨m, ⟨tm, d.s.h, d.s.df⟩, d.kept⟩
def z2l (F : Fns) (G : Tab) (c : Ctx) (all : List Oper) (r : RO) (d : DS) (next : DK) : Option (List St) :=
 bif z0s all r.o.guard d.s.tm then q1p F G c r d next else z4w c r d next
def j6V (F : Fns) (G : Tab) (c : Ctx) (all : List Oper) (rs : List RO) (next : Nat → DK) (d : DS) (o : Option RO) : Option (List St) :=
 match o with
 | none => some [d.s]
 | some r => bif sub r.pre d.done then (bif z0l r d.done rs then z2l F G c all r d (next r.pre) else none) else none
def z0n (F : Fns) (G : Tab) (c : Ctx) (all : List Oper) (rs : List RO) (next : Nat → DK) (sealed : Nat) (d : DS) : Option (List St) :=
 bif z2s G rs sealed d then j6V F G c all rs next d (z0v d.done rs) else none
def z0u (F : Fns) (G : Tab) (c : Ctx) (all : List Oper) (rs : List RO) (f : Nat) : Nat → DK :=
 Nat.rec (fun _ _ => none) (fun _ ih sealed d => z0O G c all rs (z0n F G c all rs ih sealed) d) f
def z7A (F : Fns) (G : Tab) (c : Ctx) (all : List Oper) (s : St) (rs : List RO) : Option (List St) :=
 bif z3c all rs rs then z0u F G c all rs 100 0 ⟨0, s, []⟩ else none
def z1E : Run := fun F G c all s => z0b (z2R all 0 .e) (z7A F G c all s)
def j2V : Run := fun F G c all s => z0b (z6Y all 0 .e) (z7A F G c all s)
def z8L : Run := fun F G c all s => bif z5K all then j2V F G c all s else z1E F G c all s
def z3o (k : St → Outs) (p : Ex × St) : Outs :=
 match p.1 with
 | .normal => k p.2
 | e => some [(e, p.2)]
def z1u (o : Option (List St)) : Outs :=
 match o with
 | none => none
 | some [s] => some [(.normal, s)]
 | some l => some (l.map fun s => (.normal, s))
def z4x (id : Nat) (p : Ex × St) : Outs :=
 match p.1 with
 | .exit j => bif Nat.beq j id then some [(.normal, p.2)] else some [(.exit j, p.2)]
 | e => some [(e, p.2)]
def q4w (F : Fns) (c : Ctx) (body : Code) (l : Nat) (s : St) (o : Option Code) : Outs :=
 match o with
 | some rest => F.scope c body rest s
 | none => some [(.goto l, s)]
def z4V (F : Fns) (c : Ctx) (body : Code) (p : Ex × St) : Outs :=
 match p.1 with
 | .goto l => q4w F c body l p.2 (findLabel body l)
 | e => some [(e, p.2)]
def q6r (c : Code) : Option Ex :=
 match c with
 | .ret => some .ret
 | .exit id => some (.exit id)
 | .goto l => some (.goto l)
 | _ => none
def exOf (o : Option Code) : Option Ex :=
 match o with
 | none => some .normal
 | some c => q6r c
def q9u (s : LoopState) : Bool :=
 match s with
 | .busy => false
 | _ => true
def z7B (o : Option ABlk) : Option ALoop :=
 match o with
 | some (.loop r) => some r
 | _ => none
def q6s (l : Nat) (tm : T AV) (df : List ADefer) (H : Heap) : Outs :=
 z0b (z7B (H.blks.get l)) fun r => bif q9u r.state then z0b (exOf r.pending) fun e => z0M H l none fun H' => some [(e, ⟨tm, H', df⟩)] else none
abbrev CRun := Fns → Tab → Ctx → St → Outs
def cSkip : CRun := fun _ _ _ s => some [(.normal, s)]
def cRet : CRun := fun _ _ _ s => some [(.ret, s)]
def cExit (id : Nat) : CRun := fun _ _ _ s => some [(.exit id, s)]
def k3u (l : Nat) : CRun := fun _ _ _ s => some [(.goto l, s)]
def j6W (_ : String) : CRun := fun _ _ _ _ => none
def cSeq (a b : CRun) : CRun := fun F G c s => z1B (a F G c s) (z3o (b F G c))
def condV (a b : CRun) (v : AV) : CRun :=
 match v with
 | .bool true => a
 | .bool false => b
 | _ => fun _ _ _ _ => none
def cCond (x : Operand) (a b : CRun) : CRun := fun F G c s => z0b (aev G s.tm x) fun v => condV a b v F G c s
def q6t (id : Nat) (b : CRun) : CRun := fun F G c s => z1B (b F G c s) (z4x id)
def j2W (body : Code) (b : CRun) : CRun := fun F G c s => z1B (b F G c s) (z3o (F.code c (.loop body)))
def j4P (body : Code) (b : CRun) : CRun := fun F G c s => z1B (b F G c s) (z4V F c body)
def z2C (_ : Nat) (ops : Array Oper) (draw : Bool) : CRun := fun F G c s =>
 z1u (bif draw then z8L F G c ops.toList s else z0t ops.toList F G c ops.toList s)
def z8g (F : Fns) (c : Ctx) (params : List Tmp) (assign body : Code) (s : St) (df : List ADefer) (r : Nat) (H : Heap) (v : AV) : Outs :=
 newA H (.loop ⟨.ready, none, c.size, s.tm, params, assign, body, r⟩) fun l H => z1B (q0t F [.yld l] H v) fun p => q6s l s.tm df p.2
def z6Z (f : Operand) (params : Array Tmp) (assign body : Code) : CRun := fun F G c s =>
 z0b (aev G s.tm f) fun v => match c.rnd with
  | none => newA s.h .deferred fun r H => z8g F c params.toList assign body s (.collected r :: s.df) r H v
  | some l₀ => z0b (z7B (s.h.blks.get l₀)) fun r₀ => z8g F c params.toList assign body s s.df r₀.defers s.h v
def z0p (c : Code) : CRun :=
 Code.rec cSkip z2C (fun _ _ a b => cSeq a b) (fun x _ _ a b => cCond x a b) (fun id _ b => q6t id b) (fun body b => j2W body b)
  (fun f ps a b _ _ => z6Z f ps a b) cExit (fun body b => j4P body b) (fun _ => cSkip) k3u cRet j6W c
def z7V {β : Type} (l : List AV) : T AV → Nat → (T AV → β) → β :=
 List.rec (fun tm _ k => k tm) (fun v _ ih tm i k => z3V v fun v => tm.setK i (some v) fun tm' => ih tm' (i + 1) k) l
def z8M (G : Tab) (H : Heap) (t : TypeId) (o : Option AV) : Option AV :=
 match o with
 | some (.ptr b off) => z2p G H t b off
 | _ => none
def resultA (G : Tab) (tm : T AV) (H : Heap) (r : ResultVar) : Option AV :=
 match r with
 | .tmp t => z3N (tm.get t)
 | .cell a t => z8M G H t (tm.get a)
def z0C (G : Tab) (tm : T AV) (H : Heap) (l : List ResultVar) : Option (List AV) :=
 List.rec (some []) (fun r _ ih => z2k (resultA G tm H r) ih) l
def z2a (l : List AV) : AV :=
 match l with
 | [v] => v
 | l => .tuple l
def q6u (F : Fns) (fn : Fn) (first args cap : List AV) (H : Heap) : Option (List VH) :=
 match fn with
 | .func f => F.callD f (app first (app args cap)) H
 | _ => none
def q9v (F : Fns) (args : List AV) (H : Heap) (v : AV) : Option (List VH) :=
 match v with
 | .func fn first cap => q6u F fn first args cap H
 | _ => none
def q1q (F : Fns) (d : ADefer) (H : Heap) : Option (List Heap) :=
 match d with
 | .collected r => (match H.blks.get r with
  | some .deferred => some [z9T H r]
  | _ => none)
 | .call v args => z1B (q9v F args H v) fun p => some [p.2]
def z8N (F : Fns) (l : List ADefer) : Heap → Option (List Heap) :=
 List.rec (fun H => some [H]) (fun d _ ih H => z1B (q1q F d H) ih) l
def q9w (o : Option ABlk) : Bool :=
 match o with
 | some (.mapIter _ _ _ _) => true
 | _ => false
def z4a (n : Nat) : Heap → Nat → Heap :=
 Nat.rec (fun H _ => H) (fun _ ih H b => bif q9w (H.blks.get b) then ih (z9T H b) (b + 1) else ih H (b + 1)) n
def q6v (p q : VH) : Bool := bif AV.beq p.1 q.1 then Heap.beq p.2 q.2 else false
def q2O (p : VH) (l : List VH) : Bool := List.rec false (fun q _ ih => bif q6v p q then true else ih) l
def q9x (p : VH) (l : List VH) : List VH := bif q2O p l then l else p :: l
def dedup (l : List VH) : List VH := List.rec [] (fun p _ ih => q9x p ih) l
def z4W (b : Nat) (l : List VH) : List VH :=
 match l with
 | [p] => [p]
 | l => dedup (l.map fun p => (p.1, z4a (p.2.next - b) p.2 b))
def z1I (e : Ex) : Bool :=
 match e with
 | .normal => true
 | .ret => true
 | _ => false
def resOut (G : Tab) (tm : T AV) (rs : List ResultVar) (H : Heap) : Option (List VH) := z0b (z0C G tm H rs) fun vs => some [(z2a vs, H)]
def z2D (F : Fns) (G : Tab) (rs : List ResultVar) (p : Ex × St) : Option (List VH) :=
 bif z1I p.1 then
  (match p.2.df with
   | [] => resOut G p.2.tm rs p.2.h
   | df => z1B (z8N F df p.2.h) (resOut G p.2.tm rs))
 else none
def z7C (b : Nat) (o : Option (List VH)) : Option (List VH) :=
 match o with
 | none => none
 | some l => some (z4W b l)
def callFn (F : Fns) (G : Tab) (args : List AV) (H : Heap) (fn : Func) : Option (List VH) :=
 z0b fn.body fun body => z7V args .e 0 fun tm => z0G (len args + (fn.ntmps - len args)) fun N =>
  z7C H.next (z1B (F.code ⟨none, N⟩ body ⟨tm, H, []⟩) (z2D F G fn.results.toList))
def q4x (F : Fns) (G : Tab) (f : FuncId) (args : List AV) (H : Heap) : Option (List VH) := z0b (G.funcs.get f) (callFn F G args H)
def j4Q (size t : Nat) (v : AV) (tm : T AV) (k : T AV → Option (T AV)) : Option (T AV) :=
 bif Nat.blt t size then z3V v fun v => tm.setK t (some v) k else none
def z8O (size : Nat) (ts : List Tmp) : List AV → T AV → Option (T AV) :=
 List.rec (fun vs tm => bif z5I vs then some tm else none)
  (fun t _ ih vs tm => match vs with | [] => none | v :: vs => j4Q size t v tm (ih vs)) ts
def q9y (e : Ex) : Option Code :=
 match e with
 | .normal => none
 | .ret => some .ret
 | .exit id => some (.exit id)
 | .goto l => some (.goto l)
def z2N (e : Ex) : Bool :=
 match e with
 | .normal => true
 | _ => false
def j2X (l : Nat) (p : Ex × St) : Option (List VH) :=
 bif z5I p.2.df then z0b (z7B (p.2.h.blks.get l)) fun r =>
  z0M p.2.h l (some (.loop ⟨bif z2N p.1 then .ready else .done, q9y p.1, r.size, r.tmps, r.params, r.assign, r.body, r.defers⟩)) fun H' => some [(.bool (z2N p.1), H')]
 else none
def q9z (s : LoopState) : Bool :=
 match s with
 | .ready => true
 | _ => false
def q4y (l : Nat) (s : St) : Option St :=
 z0b (z7B (s.h.blks.get l)) fun r => bif q9z r.state then
  z0M s.h l (some (.loop ⟨.busy, r.pending, r.size, r.tmps, r.params, r.assign, r.body, r.defers⟩)) fun H' => some ⟨s.tm, H', s.df⟩ else none
def j6X (F : Fns) (l : Nat) (r : ALoop) (p : Ex × St) : Option (List VH) :=
 bif z2N p.1 then z0b (q4y l p.2) fun s => z1B (F.code ⟨some l, r.size⟩ r.body s) (j2X l) else none
def j9K (F : Fns) (l : Nat) (args : List AV) (H : Heap) (r : ALoop) : Option (List VH) :=
 z0b (z8O r.size r.params args r.tmps) fun tm => z1B (F.code ⟨some l, r.size⟩ r.assign ⟨tm, H, []⟩) (j6X F l r)
def yldB (F : Fns) (l : Nat) (args : List AV) (H : Heap) : Option (List VH) := z0b (z7B (H.blks.get l)) (j9K F l args H)
def fnsB (G : Tab) (F : Fns) : Fns where
 code := fun c x s => z0p x F G c s
 scope := fun c body rest s => z1B (z0p rest F G c s) (z4V F c body)
 call := q4x F G
 yld := yldB F
 callD := q4x F G
def fns (G : Tab) (n : Nat) : Fns :=
 Nat.rec ⟨fun _ _ _ => none, fun _ _ _ _ => none, fun _ _ _ => none, fun _ _ _ => none, fun _ _ _ => none⟩ (fun _ ih => fnsB G ih) n
end
end Go.Sx
