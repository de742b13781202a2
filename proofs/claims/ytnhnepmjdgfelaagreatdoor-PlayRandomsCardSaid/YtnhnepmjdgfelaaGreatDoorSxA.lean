/-
  An executor for calls over an abstract heap, made for the kernel (definitions).
-/
import GoSem.Step
set_option linter.unusedSimpArgs false
set_option linter.unusedVariables false
namespace Go.Sx
noncomputable section
inductive T (α : Type) where
 | e : T α
 | n (l : T α) (v : Option α) (r : T α) : T α
def T.get {α : Type} (t : T α) : Nat → Option α :=
 T.rec (fun _ => none) (fun _ v _ gl gr k => Bool.rec (Bool.rec (gr (Nat.sub (Nat.div k 2) 1)) (gl (Nat.div k 2)) (Nat.beq (Nat.mod k 2) 1)) v (Nat.beq k 0)) t
def T.putK {α β : Type} (f : Nat) : T α → Nat → Option α → (T α → β) → β :=
 Nat.rec (fun t _ _ c => c t) (fun _ ih t k a c =>
  T.rec (motive := fun _ => β)
   (Bool.rec (Bool.rec (ih .e (Nat.sub (Nat.div k 2) 1) a fun r => c (.n .e none r)) (ih .e (Nat.div k 2) a fun l => c (.n l none .e)) (Nat.beq (Nat.mod k 2) 1))
    (c (.n .e a .e)) (Nat.beq k 0))
   (fun l v r _ _ => Bool.rec (Bool.rec (ih r (Nat.sub (Nat.div k 2) 1) a fun r' => c (.n l v r')) (ih l (Nat.div k 2) a fun l' => c (.n l' v r)) (Nat.beq (Nat.mod k 2) 1))
    (c (.n l a r)) (Nat.beq k 0)) t) f
def T.setK {α β : Type} (t : T α) (k : Nat) (a : Option α) (c : T α → β) : β := t.putK (Nat.succ k) k a c
inductive AV where
 | bool (b : Bool)
 | int (k : IntKind) (n : Int)
 | str (s : List UInt8)
 | ptr (b off : Nat)
 | nilptr
 | slice (b off len : Nat) (opn : Bool) (c : Nat)
 | nilslice
 | odd (blk off : Nat) (spot : Option Nat) (c : Nat)
 | map (r : Nat)
 | nilmap
 | func (fn : Fn) (first captured : List AV)
 | yld (l : Nat)
 | nilFunc
 | iface (t : TypeId) (v : AV)
 | nilIface
 | agg (cs : List AV)
 | tuple (vs : List AV)
 deriving Inhabited
def AV.cells : AV → List AV
 | .agg cs => cs
 | v => [v]
structure AEntry where
 key : AV
 val : AV
 born : Nat
structure ALoop where
 state : LoopState
 pending : Option Code
 size : Nat
 tmps : T AV
 params : List Tmp
 assign : Code
 body : Code
 defers : Nat
inductive ABlk where
 | cells (elem : TypeId) (ex : Bool) (l : List AV)
 | big (elem : TypeId) (n : Nat) (z : List AV)
 | map (es : List AEntry) (clock : Nat)
 | mapIter (m : Option Nat) (since : Nat) (seen : List Nat) (stepped : Nat)
 | strIter (s : List UInt8) (pos : Nat)
 | loop (l : ALoop)
 | deferred
structure Heap where
 next : Nat
 blks : T ABlk
inductive ExtK where
 | clone
 | same
 | noZero (r : TypeId)
 | indexByte
structure Tab where
 funcs : T Func
 types : T TypeInfo
 nglob : Nat
 ext : T ExtK := .e
 noEq : T Nat := .e
def awrapI64 (n : Int) : Int :=
 match n with
 | .ofNat m => bif Nat.blt m 9223372036854775808 then .ofNat m else IntKind.i64.wrap (.ofNat m)
 | .negSucc m => bif Nat.blt m 9223372036854775808 then .negSucc m else IntKind.i64.wrap (.negSucc m)
def awrapU (k : IntKind) (w : Nat) (n : Int) : Int :=
 match n with
 | .ofNat m => .ofNat (m % w)
 | .negSucc m => k.wrap (.negSucc m)
def awrap (k : IntKind) (n : Int) : Int :=
 match k with
 | .i64 => awrapI64 n
 | .u64 => awrapU .u64 18446744073709551616 n
 | .u8 => awrapU .u8 256 n
 | .u32 => awrapU .u32 4294967296 n
 | k => k.wrap n
def ibeq : Int → Int → Bool
 | .ofNat a, .ofNat b => Nat.beq a b
 | .negSucc a, .negSucc b => Nat.beq a b
 | _, _ => false
def iblt : Int → Int → Bool
 | .ofNat a, .ofNat b => Nat.blt a b
 | .negSucc a, .negSucc b => Nat.blt b a
 | .negSucc _, .ofNat _ => true
 | .ofNat _, .negSucc _ => false
def bnot (b : Bool) : Bool := bif b then false else true
def bbeq (a b : Bool) : Bool := bif a then b else bnot b
def u8beq (a b : UInt8) : Bool := Nat.beq a.toNat b.toNat
def nth {α : Type} (l : List α) : Nat → Option α :=
 List.rec (fun _ => none) (fun a _ ih k => Bool.rec (ih (Nat.sub k 1)) (some a) (Nat.beq k 0)) l
def dropN {α : Type} (l : List α) : Nat → List α :=
 List.rec (fun _ => []) (fun a l ih k => Bool.rec (ih (Nat.sub k 1)) (a :: l) (Nat.beq k 0)) l
def consO {α : Type} (a : α) (o : Option (List α)) : Option (List α) :=
 match o with
 | none => none
 | some l => some (a :: l)
def takeN {α : Type} (l : List α) : Nat → Option (List α) :=
 List.rec (fun k => Bool.rec none (some []) (Nat.beq k 0))
  (fun a _ ih k => Bool.rec (consO a (ih (Nat.sub k 1))) (some []) (Nat.beq k 0)) l
def len {α : Type} (l : List α) : Nat := List.rec 0 (fun _ _ n => n + 1) l
def app {α : Type} (l m : List α) : List α := List.rec m (fun a _ ih => a :: ih) l
def overN {α : Type} (new : List α) : List α → Option (List α) :=
 List.rec (fun l => some l) (fun a _ ih l => match l with
  | [] => none
  | _ :: l => consO a (ih l)) new
def spliceN {α : Type} (new l : List α) : Nat → Option (List α) :=
 List.rec (fun k => bif Nat.beq k 0 then overN new [] else none)
  (fun a l ih k => bif Nat.beq k 0 then overN new (a :: l) else consO a (ih (k - 1))) l
def setNth {α : Type} (l : List α) (b : α) : Nat → List α :=
 List.rec (fun _ => []) (fun a l ih k => bif Nat.beq k 0 then b :: l else a :: ih (k - 1)) l
def delNth {α : Type} (l : List α) : Nat → List α :=
 List.rec (fun _ => []) (fun a l ih k => bif Nat.beq k 0 then l else a :: ih (k - 1)) l
def hasNat (n : Nat) (l : List Nat) : Bool := List.rec false (fun m _ ih => bif Nat.beq m n then true else ih) l
def sbeq (s : List UInt8) : List UInt8 → Bool :=
 List.rec (fun t => match t with | [] => true | _ :: _ => false)
  (fun a _ ih t => match t with | [] => false | b :: t => bif u8beq a b then ih t else false) s
def sblt (s : List UInt8) : List UInt8 → Bool :=
 List.rec (fun t => match t with | [] => false | _ :: _ => true)
  (fun a _ ih t => match t with | [] => false | b :: t => bif Nat.blt a.toNat b.toNat then true else bif u8beq a b then ih t else false) s
def forceN {β : Type} (m : Nat) (c : Nat → β) : β := Nat.rec (c 0) (fun p _ => c (p + 1)) m
def forceI {β : Type} (n : Int) (c : Int → β) : β :=
 Int.rec (fun m => forceN m fun m => c (.ofNat m)) (fun m => forceN m fun m => c (.negSucc m)) n
def forceB {β : Type} (b : Bool) (c : Bool → β) : β := Bool.rec (c false) (c true) b
def forceL {α β : Type} (l : List α) : (List α → β) → β :=
 List.rec (fun c => c []) (fun a _ ih c => ih fun l' => c (a :: l')) l
def forceSlice {β : Type} (c : AV → β) (b o l : Nat) (q : Bool) (x : Nat) : β :=
 forceN b fun b => forceN o fun o => forceN l fun l => forceB q fun q => forceN x fun x => c (.slice b o l q x)
def forceV {β : Type} (v : AV) (c : AV → β) : β :=
 match v with
 | .bool b => forceB b fun b => c (.bool b)
 | .int k n => forceI n fun n => c (.int k n)
 | .str s => forceL s fun s => c (.str s)
 | .ptr b o => forceN b fun b => forceN o fun o => c (.ptr b o)
 | .slice b o l q x => forceSlice c b o l q x
 | .agg cs => forceL cs fun cs => c (.agg cs)
 | .tuple cs => forceL cs fun cs => c (.tuple cs)
 | v => c v
def forceVs {β : Type} (l : List AV) : (List AV → β) → β :=
 List.rec (fun c => c []) (fun a _ ih c => forceV a fun a => ih fun l' => c (a :: l')) l
def ofScalar (v : Value) : Option AV :=
 match v with
 | .bool b => some (.bool b)
 | .int k n => some (.int k n)
 | .string s => some (.str s.data.toList)
 | .pointer none => some .nilptr
 | .slice none 0 0 => some .nilslice
 | .map none => some .nilmap
 | .nilFunc => some .nilFunc
 | .nilIface => some .nilIface
 | _ => none
def consOO {α : Type} (a : Option α) (o : Option (List α)) : Option (List α) :=
 match a with
 | none => none
 | some a => consO a o
def ofScalars (l : List Value) : Option (List AV) := List.rec (some []) (fun v _ ih => consOO (ofScalar v) ih) l
def aggO (o : Option (List AV)) : Option AV :=
 match o with
 | none => none
 | some l => some (.agg l)
def tupleO (o : Option (List AV)) : Option AV :=
 match o with
 | none => none
 | some l => some (.tuple l)
def ofValue (v : Value) : Option AV :=
 match v with
 | .agg cs => aggO (ofScalars cs.toList)
 | .tuple cs => tupleO (ofScalars cs.toList)
 | v => ofScalar v
def undefA : AV := .tuple []
def orUndef (o : Option AV) : Option AV :=
 match o with
 | none => some undefA
 | o => o
def globA (G : Tab) (g : Nat) : Option AV := bif Nat.blt g G.nglob then some (.ptr g 0) else none
def aev (G : Tab) (tm : T AV) (o : Operand) : Option AV :=
 match o with
 | .tmp t => orUndef (tm.get t)
 | .const v => ofValue v
 | .global g => globA G g
 | .func f => some (.func (.func f) [] [])
def aevs (G : Tab) (tm : T AV) (l : List Operand) : Option (List AV) := List.rec (some []) (fun o _ ih => consOO (aev G tm o) ih) l
def descO (o : Option TypeInfo) : Option TypeDesc :=
 match o with
 | none => none
 | some i => some i.desc
def undOf (G : Tab) (d : TypeDesc) : Option TypeDesc :=
 match d with
 | .named _ u => descO (G.types.get u)
 | d => some d
def Tab.und (G : Tab) (t : TypeId) : Option TypeDesc :=
 match G.types.get t with
 | none => none
 | some i => undOf G i.desc
def Tab.size (G : Tab) (t : TypeId) : Option Nat :=
 match G.types.get t with
 | none => none
 | some i => some i.size
def ofValueO (o : Option Value) : Option AV :=
 match o with
 | none => none
 | some v => ofValue v
def Tab.zero (G : Tab) (t : TypeId) : Option AV :=
 match G.types.get t with
 | none => none
 | some i => ofValueO i.zero
def aggD (d : TypeDesc) : Bool :=
 match d with
 | .struct _ => true
 | .array _ _ => true
 | _ => false
def Tab.isAgg (G : Tab) (t : TypeId) : Option Bool :=
 match G.und t with
 | none => none
 | some d => some (aggD d)
def bindO {α β : Type} (o : Option α) (f : α → Option β) : Option β :=
 match o with
 | none => none
 | some a => f a
def bigAt (n : Nat) (z : List AV) (off : Nat) : Option AV := bif Nat.blt off n then nth z (off % len z) else none
def bigCells (n : Nat) (z : List AV) (off k : Nat) : Option (List AV) :=
 Nat.rec (fun _ => some []) (fun _ ih off => consOO (bigAt n z off) (ih (off + 1))) k off
def cellIn (o : Option ABlk) (off : Nat) : Option AV :=
 match o with
 | some (.cells _ _ l) => nth l off
 | some (.big _ n z) => bigAt n z off
 | _ => none
def cellsIn (o : Option ABlk) (off k : Nat) : Option (List AV) :=
 match o with
 | some (.cells _ _ l) => takeN (dropN l off) k
 | some (.big _ n z) => bigCells n z off k
 | _ => none
def loadA (H : Heap) (b off : Nat) : Option AV := cellIn (H.blks.get b) off
def loadCellsA (H : Heap) (b off k : Nat) : Option (List AV) := bif Nat.beq k 0 then some [] else cellsIn (H.blks.get b) off k
def loadVarA (G : Tab) (H : Heap) (t : TypeId) (b off : Nat) : Option AV :=
 match G.isAgg t with
 | none => none
 | some true => bindO (G.size t) fun s => aggO (loadCellsA H b off s)
 | some false => loadA H b off
def oneCell (v : AV) : Bool :=
 match v with
 | .agg _ => false
 | .tuple _ => false
 | _ => true
def allOne (l : List AV) : Bool := List.rec true (fun v _ ih => bif oneCell v then ih else false) l
def putBlk (H : Heap) (b : Nat) (o : Option ABlk) : Heap := H.blks.setK b o fun t => ⟨H.next, t⟩
def putBlkK {β : Type} (H : Heap) (b : Nat) (o : Option ABlk) (c : Heap → β) : β := H.blks.setK b o fun t => c ⟨H.next, t⟩
def putCells (H : Heap) (b : Nat) (e : TypeId) (x : Bool) (o : Option (List AV)) : Option Heap :=
 match o with
 | none => none
 | some l => forceVs l fun l => putBlkK H b (some (.cells e x l)) some
def storeIn (H : Heap) (b off : Nat) (l : List AV) (o : Option ABlk) : Option Heap :=
 match o with
 | some (.cells e x old) => bif allOne l then putCells H b e x (spliceN l old off) else none
 | _ => none
def storeCellsA (H : Heap) (b off : Nat) (l : List AV) : Option Heap :=
 match l with
 | [] => some H
 | l => storeIn H b off l (H.blks.get b)
def storeVarA (G : Tab) (H : Heap) (t : TypeId) (b off : Nat) (v : AV) : Option Heap :=
 bindO (G.size t) fun s => bif Nat.beq (len v.cells) s then storeCellsA H b off v.cells else none
def newA {β : Type} (H : Heap) (o : ABlk) (c : Nat → Heap → β) : β :=
 forceN H.next fun b => H.blks.setK b (some o) fun t => forceN (b + 1) fun m => c b ⟨m, t⟩
def newRowA {β : Type} (H : Heap) (elem : TypeId) (ex : Bool) (l : List AV) (c : Nat → Heap → Option β) : Option β :=
 bif allOne l then forceVs l fun l => newA H (.cells elem ex l) c else none
def partA (G : Tab) (t : TypeId) (cs : List AV) (off : Nat) : Option AV :=
 match G.isAgg t with
 | none => none
 | some true => bindO (G.size t) fun s => aggO (takeN (dropN cs off) s)
 | some false => nth cs off
def andO (o : Option Bool) (next : Option Bool) : Option Bool :=
 match o with
 | none => none
 | some true => next
 | some false => some false
def eq2 (eq : AV → AV → Option Bool) (a b : Option AV) : Option Bool :=
 match a with
 | none => none
 | some a => match b with
  | none => none
  | some b => eq a b
def eqFieldsA (G : Tab) (eq : TypeId → AV → AV → Option Bool) (xs ys : List AV) (fs : List Field) : Option Bool :=
 List.rec (some true) (fun f _ ih => andO (eq2 (eq f.type) (partA G f.type xs f.offset) (partA G f.type ys f.offset)) ih) fs
noncomputable def eqElemsA (G : Tab) (eq : AV → AV → Option Bool) (e : TypeId) (xs ys : List AV) (z : Nat) (n : Nat) : Nat → Option Bool :=
 Nat.rec (fun _ => some true) (fun _ ih i => andO (eq2 eq (partA G e xs (i * z)) (partA G e ys (i * z))) (ih (i + 1))) n
def eqPlain (u : TypeDesc) (x y : AV) : Option Bool :=
 match u, x, y with
 | .bool, .bool a, .bool b => some (bbeq a b)
 | .int _, .int k a, .int k' b => if k = k' then some (ibeq a b) else none
 | .string, .str a, .str b => some (sbeq a b)
 | .pointer _, .nilptr, .nilptr => some true
 | .pointer _, .nilptr, .ptr _ _ => some false
 | .pointer _, .ptr _ _, .nilptr => some false
 | .interface _, .nilIface, .nilIface => some true
 | .interface _, .nilIface, .iface _ _ => some false
 | .interface _, .iface _ _, .nilIface => some false
 | .slice _, .nilslice, .nilslice => some true
 | .slice _, .nilslice, .slice _ _ _ _ _ => some false
 | .slice _, .slice _ _ _ _ _, .nilslice => some false
 | .map _ _, .nilmap, .nilmap => some true
 | .map _ _, .nilmap, .map _ => some false
 | .map _ _, .map _, .nilmap => some false
 | .func _ _ _, .nilFunc, .nilFunc => some true
 | .func _ _ _, .nilFunc, .func _ _ _ => some false
 | .func _ _ _, .func _ _ _, .nilFunc => some false
 | _, _, _ => none
def samePtr (a o b p : Nat) : Option Bool := bif Nat.beq a b then (bif Nat.beq o p then some true else none) else none
def eqD (G : Tab) (eq : TypeId → AV → AV → Option Bool) (x y : AV) (u : TypeDesc) : Option Bool :=
 match u, x, y with
 | .pointer e, .ptr a o, .ptr b p => bindO (G.size e) fun _ => samePtr a o b p
 | .struct fs, .agg xs, .agg ys => eqFieldsA G eq xs ys fs.toList
 | .array n e, .agg xs, .agg ys => bindO (G.size e) fun z => eqElemsA G (eq e) e xs ys z n 0
 | u, x, y => eqPlain u x y
def eqA (G : Tab) (d : Nat) : TypeId → AV → AV → Option Bool :=
 Nat.rec (fun _ _ _ => none) (fun _ ih t x y => bindO (G.und t) (eqD G ih x y)) d
end
end Go.Sx
namespace Go.Sx
noncomputable section
def isNil {α : Type} (l : List α) : Bool :=
 match l with
 | [] => true
 | _ :: _ => false
def listBeq {α : Type} (f : α → α → Bool) (l : List α) : List α → Bool :=
 List.rec (fun m => isNil m) (fun a _ ih m => match m with | [] => false | b :: m => bif f a b then ih m else false) l
mutual
def AV.beq : AV → AV → Bool
 | .odd a b s c, .odd x y t z => bif Nat.beq a x then (bif Nat.beq b y then (bif Nat.beq c z then (if s = t then true else false) else false) else false) else false
 | .bool a, .bool b => bbeq a b
 | .int k a, .int k' b => if k = k' then ibeq a b else false
 | .str s, .str t => sbeq s t
 | .ptr a o, .ptr b p => bif Nat.beq a b then Nat.beq o p else false
 | .nilptr, .nilptr => true
 | .slice a o l q c, .slice b p m r d => bif Nat.beq a b then (bif Nat.beq o p then (bif Nat.beq l m then (bif Nat.beq c d then bbeq q r else false) else false) else false) else false
 | .nilslice, .nilslice => true
 | .map a, .map b => Nat.beq a b
 | .nilmap, .nilmap => true
 | .func f x y, .func g u v => if f = g then (bif AV.beqL x u then AV.beqL y v else false) else false
 | .yld a, .yld b => Nat.beq a b
 | .nilFunc, .nilFunc => true
 | .iface t x, .iface u y => bif Nat.beq t u then AV.beq x y else false
 | .nilIface, .nilIface => true
 | .agg x, .agg y => AV.beqL x y
 | .tuple x, .tuple y => AV.beqL x y
 | _, _ => false
def AV.beqL : List AV → List AV → Bool
 | [], [] => true
 | a :: x, b :: y => bif AV.beq a b then AV.beqL x y else false
 | _, _ => false
end
def optBeq {α : Type} (f : α → α → Bool) (a b : Option α) : Bool :=
 match a, b with
 | none, none => true
 | some a, some b => f a b
 | _, _ => false
def T.beq {α : Type} (f : α → α → Bool) (t : T α) : T α → Bool :=
 T.rec (fun u => match u with | .e => true | .n _ _ _ => false)
  (fun _ v _ gl gr u => match u with | .e => false | .n l' v' r' => bif optBeq f v v' then (bif gl l' then gr r' else false) else false) t
def intO (k : IntKind) (n : Int) : Option AV := some (.int k n)
def boolO (b : Bool) : Option AV := some (.bool b)
def limOf (k : IntKind) : Nat :=
 match k with
 | .i64 => 9223372036854775808
 | .u64 => 18446744073709551616
 | .u32 => 4294967296
 | .u8 => 256
 | _ => 128
def bitO (k : IntKind) (f : Nat → Nat → Nat) (a b : Int) : Option AV :=
 match a, b with
 | .ofNat m, .ofNat n => bif Nat.blt m (limOf k) then (bif Nat.blt n (limOf k) then some (.int k (.ofNat (f m n))) else none) else none
 | _, _ => none
def quoO (k : IntKind) (a b : Int) : Option AV := bif ibeq b 0 then none else some (.int k (awrap k (a.tdiv b)))
def remO (k : IntKind) (a b : Int) : Option AV := bif ibeq b 0 then none else some (.int k (a.tmod b))
def shlO (k : IntKind) (a b : Int) : Option AV :=
 match a, b with
 | .ofNat m, .ofNat n => bif Nat.ble n 64 then some (.int k (k.wrap (.ofNat (m * 2 ^ (min n k.bits))))) else none
 | _, _ => none
def shrO (k : IntKind) (a b : Int) : Option AV :=
 match a, b with
 | .ofNat m, .ofNat n => bif Nat.ble n 64 then some (.int k (.ofNat (m / 2 ^ (min n k.bits)))) else none
 | _, _ => none
def ibin (op : BinOp) : IntKind → Int → Int → Option AV :=
 match op with
 | .add => fun k a b => some (.int k (awrap k (a + b)))
 | .sub => fun k a b => some (.int k (awrap k (a - b)))
 | .mul => fun k a b => some (.int k (awrap k (a * b)))
 | .quo => quoO
 | .rem => remO
 | .eql => fun _ a b => boolO (ibeq a b)
 | .neq => fun _ a b => boolO (bnot (ibeq a b))
 | .lss => fun _ a b => boolO (iblt a b)
 | .leq => fun _ a b => boolO (bnot (iblt b a))
 | .gtr => fun _ a b => boolO (iblt b a)
 | .geq => fun _ a b => boolO (bnot (iblt a b))
 | .and => fun k => bitO k Nat.land
 | .or => fun k => bitO k Nat.lor
 | .xor => fun k => bitO k Nat.xor
 | .andNot => fun k => bitO k (fun a b => Nat.xor a (Nat.land a b))
 | _ => fun _ _ _ => none
def intBin (op : BinOp) : IntKind → Int → IntKind → Int → Option AV :=
 match op with
 | .shl => fun k a _ b => shlO k a b
 | .shr => fun k a _ b => shrO k a b
 | op => fun k a k' b => if k = k' then ibin op k a b else none
def catO (a b : List UInt8) : Option AV := bif Nat.ble (len a + len b) 1000000000 then some (.str (app a b)) else none
def sbin (op : BinOp) : List UInt8 → List UInt8 → Option AV :=
 match op with
 | .add => catO
 | .eql => fun a b => boolO (sbeq a b)
 | .neq => fun a b => boolO (bnot (sbeq a b))
 | .lss => fun a b => boolO (sblt a b)
 | .leq => fun a b => boolO (bnot (sblt b a))
 | .gtr => fun a b => boolO (sblt b a)
 | .geq => fun a b => boolO (bnot (sblt a b))
 | _ => fun _ _ => none
def yesO (o : Option Bool) : Option AV := bindO o fun b => some (.bool b)
def notO (o : Option Bool) : Option AV := bindO o fun b => some (.bool (bnot b))
def eqBin (op : BinOp) : Option Bool → Option AV :=
 match op with
 | .eql => yesO
 | .neq => notO
 | _ => fun _ => none
def isConstO (o : Operand) : Bool :=
 match o with
 | .const _ => true
 | _ => false
def nilsOk (c : Bool) (x y : AV) : Bool :=
 match x, y with
 | .nilIface, .nilIface => c
 | _, _ => true
def isNoneO {α : Type} (o : Option α) : Bool :=
 match o with
 | none => true
 | some _ => false
def eqFree (G : Tab) (t : TypeId) (x : AV) : Bool :=
 match x with
 | .agg _ => isNoneO (G.noEq.get t)
 | _ => true
def binA (G : Tab) (op : BinOp) (t : TypeId) (c : Bool) (x y : AV) : Option AV :=
 match x, y with
 | .int k a, .int k' b => intBin op k a k' b
 | .str a, .str b => sbin op a b
 | x, y => bif nilsOk c x y then (bif eqFree G t x then eqBin op (eqA G 60 t x y) else none) else none
def notBits (k : IntKind) (n : Int) : Option AV :=
 match k with
 | .u8 => bitO .u8 Nat.xor (.ofNat 255) n
 | .u32 => bitO .u32 Nat.xor (.ofNat 4294967295) n
 | .u64 => bitO .u64 Nat.xor (.ofNat 18446744073709551615) n
 | _ => none
def unA (op : UnOp) (x : AV) : Option AV :=
 match op, x with
 | .neg, .int k n => some (.int k (awrap k (0 - n)))
 | .not, .bool b => some (.bool (bnot b))
 | .xor, .int k n => notBits k n
 | _, _ => none
def structD (d : TypeDesc) : Option (List Field) :=
 match d with
 | .struct fs => some fs.toList
 | _ => none
def fieldOf (G : Tab) (t : TypeId) (f : Nat) : Option Field := bindO (G.und t) fun d => bindO (structD d) fun fs => nth fs f
def fieldPtr (x : AV) (fd : Field) (z : Nat) : Option AV :=
 match x with
 | .ptr b off => bif Nat.beq z 0 then none else some (.ptr b (off + fd.offset))
 | _ => none
def fieldAddrA (G : Tab) (s : TypeId) (f : Nat) (x : AV) : Option AV :=
 bindO (fieldOf G s f) fun fd => bindO (G.size fd.type) fun z => fieldPtr x fd z
def fieldA (G : Tab) (t : TypeId) (f : Nat) (x : AV) : Option AV :=
 match x with
 | .agg cs => bindO (fieldOf G t f) fun fd => partA G fd.type cs fd.offset
 | _ => none
def inB (i : AV) (n : Nat) : Option Nat :=
 match i with
 | .int _ (.ofNat m) => bif Nat.blt m n then some m else none
 | _ => none
def elemPtr (G : Tab) (e b off n : Nat) (i : AV) : Option AV :=
 bindO (inB i n) fun m => bindO (G.size e) fun z => some (.ptr b (off + m * z))
def indexAddrD (G : Tab) (x i : AV) (d : TypeDesc) : Option AV :=
 match d, x with
 | .array n e, .ptr b off => elemPtr G e b off n i
 | .slice e, .slice b off n _ _ => elemPtr G e b off n i
 | _, _ => none
def indexAddrA (G : Tab) (t : TypeId) (x i : AV) : Option AV := bindO (G.und t) (indexAddrD G x i)
def byteV (b : UInt8) : AV := .int .u8 (.ofNat b.toNat)
def strAt (s : List UInt8) (i : AV) : Option AV :=
 match i with
 | .int _ (.ofNat m) => bindO (nth s m) fun b => some (byteV b)
 | _ => none
def indexD (G : Tab) (x i : AV) (d : TypeDesc) : Option AV :=
 match d, x with
 | .array n e, .agg cs => bindO (inB i n) fun m => bindO (G.size e) fun z => partA G e cs (m * z)
 | .string, .str s => strAt s i
 | _, _ => none
def indexA (G : Tab) (t : TypeId) (x i : AV) : Option AV := bindO (G.und t) (indexD G x i)
def boundA (i : Option AV) (dflt most : Nat) : Option Nat :=
 match i with
 | none => some dflt
 | some (.int _ (.ofNat m)) => bif Nat.ble m most then some m else none
 | some _ => none
def bounds2 {β : Type} (lo hi : Option AV) (dflt most : Nat) (c : Nat → Nat → Option β) : Option β :=
 bindO (boundA hi dflt most) fun h => bindO (boundA lo 0 h) fun l => c l h
def sliceStr (s : List UInt8) (lo hi mx : Option AV) : Option AV :=
 match mx with
 | some _ => none
 | none => bounds2 lo hi (len s) (len s) fun l h => bindO (takeN (dropN s l) (h - l)) fun r => some (.str r)
def exactSlice (b off z m l h : Nat) : Option AV := some (.slice b (bif Nat.beq m l then off else off + l * z) (h - l) false (m - l))
def sliceExact (b off n c z : Nat) (lo hi mx : Option AV) : Option AV :=
 bindO (boundA mx c c) fun m => bounds2 lo hi n m fun l h => exactSlice b off z m l h
def openSlice (b off n c z l h : Nat) : Option AV :=
 bif Nat.beq l 0 then some (.slice b off h true c)
 else bif Nat.blt l n then some (.slice b (off + l * z) (h - l) true (c + l)) else none
def sliceOpen (b off n c z : Nat) (lo hi mx : Option AV) : Option AV :=
 match mx with
 | some m => bindO (boundA (some m) 0 n) fun m => bounds2 lo hi n m fun l h => exactSlice b off z m l h
 | none => bounds2 lo hi n n fun l h => openSlice b off n c z l h
def sliceNil (lo hi mx : Option AV) : Option AV :=
 bindO (boundA mx 0 0) fun _ => bounds2 lo hi 0 0 fun _ _ => some .nilslice
def sliceArr (G : Tab) (lo hi mx : Option AV) (b off : Nat) (d : TypeDesc) : Option AV :=
 match d with
 | .array n e => bindO (G.size e) fun z => sliceExact b off n n z lo hi mx
 | _ => none
def sliceD (G : Tab) (x : AV) (lo hi mx : Option AV) (d : TypeDesc) : Option AV :=
 match d, x with
 | .string, .str s => sliceStr s lo hi mx
 | .slice e, .slice b off n false c => bindO (G.size e) fun z => sliceExact b off n c z lo hi mx
 | .slice e, .slice b off n true c => bindO (G.size e) fun z => sliceOpen b off n c z lo hi mx
 | .slice e, .nilslice => bindO (G.size e) fun _ => sliceNil lo hi mx
 | .array n e, .ptr b off => sliceArr G lo hi mx b off (.array n e)
 | .pointer p, .ptr b off => bindO (G.und p) (sliceArr G lo hi mx b off)
 | _, _ => none
def maxOk (hi mx : Option AV) : Bool :=
 match mx, hi with
 | some _, none => false
 | _, _ => true
def sliceA (G : Tab) (t : TypeId) (x : AV) (lo hi mx : Option AV) : Option AV := bif maxOk hi mx then bindO (G.und t) (sliceD G x lo hi mx) else none
def keyEq (G : Tab) (kt : TypeId) (a b : AV) : Option Bool := eqA G 60 kt a b
def keyFields (G : Tab) (p : TypeId → AV → Bool) (cs : List AV) (fs : List Field) : Bool :=
 List.rec true (fun f _ ih => match partA G f.type cs f.offset with
  | none => false
  | some v => bif p f.type v then ih else false) fs
def keyD (G : Tab) (p : TypeId → AV → Bool) (k : AV) (d : TypeDesc) : Bool :=
 match d, k with
 | .int _, _ => true
 | .string, _ => true
 | .bool, _ => true
 | .struct fs, .agg cs => keyFields G p cs fs.toList
 | _, _ => false
def keyDO (G : Tab) (p : TypeId → AV → Bool) (k : AV) (o : Option TypeDesc) : Bool :=
 match o with
 | none => false
 | some d => keyD G p k d
def keyOk (G : Tab) (d : Nat) : TypeId → AV → Bool := Nat.rec (fun _ _ => false) (fun _ ih t k => keyDO G ih k (G.und t)) d
def scalarKey (v : AV) : Bool :=
 match v with
 | .int _ _ => true
 | .str _ => true
 | .bool _ => true
 | _ => false
def scalarKeys (l : List AV) : Bool := List.rec true (fun v _ ih => bif scalarKey v then ih else false) l
def flatKey (v : AV) : Bool :=
 match v with
 | .agg cs => scalarKeys cs
 | v => scalarKey v
def foundO (i : Nat) (e : AEntry) (next : Option (Option (Nat × AEntry))) (o : Option Bool) : Option (Option (Nat × AEntry)) :=
 match o with
 | none => none
 | some true => some (some (i, e))
 | some false => next
def findA (G : Tab) (kt : TypeId) (k : AV) (es : List AEntry) : Nat → Option (Option (Nat × AEntry)) :=
 List.rec (fun _ => some none) (fun e _ ih i => foundO i e (ih (i + 1)) (keyEq G kt k e.key)) es
def mapIn (o : Option ABlk) : Option (List AEntry × Nat) :=
 match o with
 | some (.map es c) => some (es, c)
 | _ => none
def mapOf (H : Heap) (x : AV) : Option (List AEntry) :=
 match x with
 | .nilmap => some []
 | .map r => bindO (mapIn (H.blks.get r)) fun p => some p.1
 | _ => none
def mapD (d : TypeDesc) : Option (TypeId × TypeId) :=
 match d with
 | .map k e => some (k, e)
 | _ => none
def keyTypes (G : Tab) (t : TypeId) (k : AV) : Option (TypeId × TypeId) :=
 bindO (G.und t) fun d => bindO (mapD d) fun kt => bif keyOk G 20 kt.1 k then some kt else none
def lookOut (G : Tab) (et : TypeId) (ok : Bool) (o : Option (Nat × AEntry)) : Option AV :=
 match o with
 | some (_, e) => some (bif ok then .tuple [e.val, .bool true] else e.val)
 | none => bindO (G.zero et) fun z => some (bif ok then .tuple [z, .bool false] else z)
def lookupA (G : Tab) (H : Heap) (t : TypeId) (ok : Bool) (x k : AV) : Option AV :=
 bindO (keyTypes G t k) fun kt => bindO (mapOf H x) fun es => bindO (findA G kt.1 k es 0) (lookOut G kt.2 ok)
def forceE {β : Type} (l : List AEntry) : (List AEntry → β) → β :=
 List.rec (fun c => c []) (fun e _ ih c => forceV e.key fun k => forceV e.val fun v => forceN e.born fun n => ih fun l' => c (⟨k, v, n⟩ :: l')) l
def putMapK {β : Type} (H : Heap) (r : Nat) (es : List AEntry) (clock : Nat) (c : Heap → β) : β :=
 forceE es fun es => forceN clock fun cl => putBlkK H r (some (.map es cl)) c
def mapPut (H : Heap) (r : Nat) (es : List AEntry) (clock : Nat) (k v : AV) (o : Option (Nat × AEntry)) : Option Heap :=
 match o with
 | some (i, e) => bif AV.beq k e.key then (bif flatKey k then putMapK H r (setNth es ⟨e.key, v, e.born⟩ i) clock some else none) else none
 | none => putMapK H r (app es [⟨k, v, clock⟩]) (clock + 1) some
def mapUpdateA (G : Tab) (H : Heap) (t : TypeId) (x k v : AV) : Option Heap :=
 match x with
 | .map r => bindO (keyTypes G t k) fun kt => bindO (mapIn (H.blks.get r)) fun p => bindO (findA G kt.1 k p.1 0) (mapPut H r p.1 p.2 k v)
 | _ => none
def entryV (v : AV) (n : Nat) : AV := .tuple [v, .int .i64 (.ofNat n)]
def mapEnt (G : Tab) (et : TypeId) (H : Heap) (r : Nat) (es : List AEntry) (clock : Nat) (k : AV) (o : Option (Nat × AEntry)) : Option (AV × Heap) :=
 match o with
 | some (_, e) => bif AV.beq k e.key then (bif flatKey k then some (entryV e.val e.born, H) else none) else none
 | none => bindO (G.zero et) fun z => putMapK H r (app es [⟨k, z, clock⟩]) (clock + 1) fun H' => some (entryV z clock, H')
def mapEntryA (G : Tab) (H : Heap) (t : TypeId) (x k : AV) : Option (AV × Heap) :=
 match x with
 | .map r => bindO (keyTypes G t k) fun kt => bindO (mapIn (H.blks.get r)) fun p => bindO (findA G kt.1 k p.1 0) (mapEnt G kt.2 H r p.1 p.2 k)
 | _ => none
def bornAt (n : Nat) (es : List AEntry) : Nat → Option (Nat × AEntry) :=
 List.rec (fun _ => none) (fun e _ ih i => bif Nat.beq e.born n then some (i, e) else ih (i + 1)) es
def entryStoreA (H : Heap) (x s v : AV) : Option Heap :=
 match x, s with
 | .map r, .int _ (.ofNat n) => bindO (mapIn (H.blks.get r)) fun p => bindO (bornAt n p.1 0) fun q =>
   putMapK H r (setNth p.1 ⟨q.2.key, v, q.2.born⟩ q.1) p.2 some
 | _, _ => none
def mapDel (H : Heap) (r : Nat) (es : List AEntry) (clock : Nat) (o : Option (Nat × AEntry)) : Option Heap :=
 match o with
 | some (i, _) => putMapK H r (delNth es i) clock some
 | none => some H
def deleteA (G : Tab) (H : Heap) (t : TypeId) (x k : AV) : Option Heap :=
 match x with
 | .nilmap => bindO (keyTypes G t k) fun _ => some H
 | .map r => bindO (keyTypes G t k) fun kt => bindO (mapIn (H.blks.get r)) fun p => bindO (findA G kt.1 k p.1 0) (mapDel H r p.1 p.2)
 | _ => none
def leftOf (seen : List Nat) (es : List AEntry) : List AEntry :=
 List.rec [] (fun e _ ih => bif hasNat e.born seen then ih else e :: ih) es
def oldOf (since : Nat) (es : List AEntry) : List AEntry :=
 List.rec [] (fun e _ ih => bif Nat.blt e.born since then e :: ih else ih) es
def newOf (since : Nat) (es : List AEntry) : List AEntry :=
 List.rec [] (fun e _ ih => bif Nat.blt e.born since then ih else e :: ih) es
def someOld (last : Nat) (es : List AEntry) : Bool :=
 List.rec false (fun e _ ih => bif Nat.blt e.born last then true else ih) es
def nextEach (H : Heap) (it m since : Nat) (seen : List Nat) (clock : Nat) (es : List AEntry) : List (AV × Heap) :=
 List.rec [] (fun e _ ih => putBlkK H it (some (.mapIter (some m) since (app seen [e.born]) clock)) fun H' => (.tuple [.bool true, e.key, e.val], H') :: ih) es
def overV : AV := .tuple [.bool false]
def nextMap (H : Heap) (it m since : Nat) (seen : List Nat) (last : Nat) (es : List AEntry) (clock : Nat) : Option (List (AV × Heap)) :=
 bif (bif isNil seen then true else bif isNil es then true else someOld last es) then
  (match oldOf since (leftOf seen es) with
   | [] => some ((overV, H) :: nextEach H it m since seen clock (newOf since (leftOf seen es)))
   | o :: os => some (nextEach H it m since seen clock (app (o :: os) (newOf since (leftOf seen es)))))
 else none
def nextStr (H : Heap) (it pos : Nat) (s : List UInt8) (o : Option UInt8) : Option (List (AV × Heap)) :=
 match o with
 | none => some [(overV, H)]
 | some b => bif Nat.blt b.toNat 128 then
   forceN (pos + 1) fun p => putBlkK H it (some (.strIter s p)) fun H' => some [(.tuple [.bool true, .int .i64 (.ofNat pos), .int .i32 (.ofNat b.toNat)], H')]
  else none
def nextIn (H : Heap) (it : Nat) (s : Bool) (o : Option ABlk) : Option (List (AV × Heap)) :=
 match o, s with
 | some (.mapIter none _ _ _), false => some [(overV, H)]
 | some (.mapIter (some m) since seen last), false => bindO (mapIn (H.blks.get m)) fun p => nextMap H it m since seen last p.1 p.2
 | some (.strIter s pos), true => nextStr H it pos s (nth s pos)
 | _, _ => none
def nextA (H : Heap) (x : AV) (s : Bool) : Option (List (AV × Heap)) :=
 match x with
 | .ptr it 0 => nextIn H it s (H.blks.get it)
 | _ => none
def newPtr (H : Heap) (o : ABlk) : Option (AV × Heap) := newA H o fun b H => some (.ptr b 0, H)
def rangeD (H : Heap) (x : AV) (d : TypeDesc) : Option (AV × Heap) :=
 match d, x with
 | .string, .str s => newPtr H (.strIter s 0)
 | .map _ _, .nilmap => newPtr H (.mapIter none 0 [] 0)
 | .map _ _, .map r => bindO (mapIn (H.blks.get r)) fun p => newPtr H (.mapIter (some r) p.2 [] p.2)
 | _, _ => none
def rangeA (G : Tab) (H : Heap) (t : TypeId) (x : AV) : Option (AV × Heap) := bindO (G.und t) (rangeD H x)
def lastOf (l : List Nat) : Option Nat := List.rec none (fun a _ ih => match ih with | none => some a | some b => some b) l
def entryIn (H : Heap) (o : Option ABlk) : Option AV :=
 match o with
 | some (.mapIter (some m) _ seen stepped) => bindO (lastOf seen) fun stamp => bindO (mapIn (H.blks.get m)) fun p =>
   bif Nat.beq p.2 stepped then bindO (bornAt stamp p.1 0) fun q => some (.tuple [q.2.key, q.2.val]) else none
 | _ => none
def entryA (H : Heap) (x : AV) : Option AV :=
 match x with
 | .ptr it 0 => entryIn H (H.blks.get it)
 | _ => none
def fillOne (cells : List AV) (v : AV) (p : Nat × Nat) : Option (List AV) :=
 bif Nat.beq (len v.cells) p.2 then spliceN v.cells cells p.1 else none
def fillA (place : Nat → Option (Nat × Nat)) (ps : List (Nat × AV)) : List AV → Option (List AV) :=
 List.rec (fun cells => some cells) (fun p _ ih cells => bindO (place p.1) fun q => bindO (fillOne cells p.2 q) ih) ps
def pairO (i : Nat) (o : Option AV) : Option (Nat × AV) := bindO o fun v => some (i, v)
def evParts (G : Tab) (tm : T AV) (l : List (Nat × Operand)) : Option (List (Nat × AV)) :=
 List.rec (some []) (fun p _ ih => consOO (pairO p.1 (aev G tm p.2)) ih) l
def placeO (f : Field) (o : Option Nat) : Option (Nat × Nat) :=
 match o with
 | none => none
 | some z => some (f.offset, z)
def placesOf (G : Tab) (fs : List Field) : Option (List (Nat × Nat)) := List.rec (some []) (fun f _ ih => consOO (placeO f (G.size f.type)) ih) fs
def buildD (G : Tab) (zero : AV) (parts : List (Nat × AV)) (d : TypeDesc) : Option AV :=
 match d with
 | .struct fs => bindO (placesOf G fs.toList) fun ps => aggO (fillA (nth ps) parts zero.cells)
 | .array _ e => bindO (G.size e) fun z => aggO (fillA (fun i => some (i * z, z)) parts zero.cells)
 | _ => none
def buildA (G : Tab) (t : TypeId) (parts : List (Nat × AV)) : Option AV :=
 bindO (G.zero t) fun zero => bindO (G.und t) (buildD G zero parts)
def repeatL (z : List AV) (n : Nat) : List AV := Nat.rec [] (fun _ ih => app z ih) n
def sliceElem (d : TypeDesc) : Option TypeId :=
 match d with
 | .slice e => some e
 | _ => none
def elemOf (G : Tab) (t : TypeId) : Option TypeId := bindO (G.und t) sliceElem
def newSlice (H : Heap) (e n c : Nat) (l : List AV) : Option (AV × Heap) := newRowA H e true l fun b H => some (.slice b 0 n false c, H)
def buildSliceA (G : Tab) (H : Heap) (t : TypeId) (n : Nat) (parts : List (Nat × AV)) : Option (AV × Heap) :=
 bindO (elemOf G t) fun e => bindO (G.size e) fun z => bindO (G.zero e) fun zero =>
  bif Nat.ble (n * z) 10000 then
   bif Nat.beq (len zero.cells) z then bindO (fillA (fun i => some (i * z, z)) parts (repeatL zero.cells n)) (newSlice H e n n) else none
  else none
def boxA (H : Heap) (elem : TypeId) (v : AV) : Option (AV × Heap) := newRowA H elem true v.cells fun b H => some (.ptr b 0, H)
def newBig (H : Heap) (e n c k : Nat) (z : List AV) : Option (AV × Heap) :=
 forceN k fun k => forceVs z fun z => newA H (.big e k z) fun b H => some (.slice b 0 n false c, H)
def makeSliceI (G : Tab) (H : Heap) (e : TypeId) (n c : Nat) (i : TypeInfo) : Option (AV × Heap) :=
 bindO (G.zero e) fun zero =>
  bif Nat.ble n c then
   bif Nat.ble (c * (i.bytes + 1)) 1000000000 then
    bif Nat.beq (len zero.cells) i.size then
     bif Nat.ble (c * i.size) 1000 then newSlice H e n c (repeatL zero.cells c) else newBig H e n c (c * i.size) zero.cells
    else none
   else none
  else none
def makeSliceA (G : Tab) (H : Heap) (t : TypeId) (n c : AV) : Option (AV × Heap) :=
 match n, c with
 | .int .i64 (.ofNat n), .int .i64 (.ofNat c) => bindO (elemOf G t) fun e => bindO (G.types.get e) (makeSliceI G H e n c)
 | _, _ => none
def natV (n : Nat) : AV := .int .i64 (.ofNat n)
def arrLen (d : TypeDesc) : Option AV :=
 match d with
 | .array n _ => some (natV n)
 | _ => none
def lenD (G : Tab) (H : Heap) (x : AV) (d : TypeDesc) : Option AV :=
 match d, x with
 | .string, .str s => some (natV (len s))
 | .slice _, .slice _ _ n _ _ => some (natV n)
 | .slice _, .nilslice => some (natV 0)
 | .slice _, .odd _ _ _ _ => some (natV 0)
 | .array n _, _ => some (natV n)
 | .map _ _, x => bindO (mapOf H x) fun es => some (natV (len es))
 | .pointer p, _ => bindO (G.und p) arrLen
 | _, _ => none
def lenA (G : Tab) (H : Heap) (t : TypeId) (x : AV) : Option AV := bindO (G.und t) (lenD G H x)
def capD (x : AV) (d : TypeDesc) : Option AV :=
 match d, x with
 | .array n _, _ => some (natV n)
 | .slice _, .slice _ _ _ false c => some (natV c)
 | .slice _, .nilslice => some (natV 0)
 | _, _ => none
def capA (G : Tab) (t : TypeId) (x : AV) : Option AV := bindO (G.und t) (capD x)
def bytesA (l : List UInt8) : List AV := List.rec [] (fun b _ ih => byteV b :: ih) l
def firstA (H : Heap) (z n : Nat) (x : AV) : Option (List AV) :=
 match x with
 | .slice b off _ _ _ => loadCellsA H b off (n * z)
 | .nilslice => some []
 | .str s => bindO (takeN s n) fun s => some (bytesA s)
 | _ => none
def lenOfA (x : AV) : Option Nat :=
 match x with
 | .slice _ _ n _ _ => some n
 | .nilslice => some 0
 | .str s => some (len s)
 | _ => none
def knownIn (e : TypeId) (o : Option ABlk) : Option Nat :=
 match o with
 | some (.cells e' false l) => bif Nat.beq e e' then some (len l) else none
 | _ => none
def growA (H : Heap) (e : TypeId) (need : Nat) (cells : List AV) : Option (AV × Heap) :=
 newRowA H e false cells fun b H => some (.slice b 0 need true 0, H)
def inPlace (H : Heap) (b at_ : Nat) (new : List AV) (r : AV) : Option (AV × Heap) := bindO (storeCellsA H b at_ new) fun H' => some (r, H')
def appendExact (H : Heap) (e z b off l c n : Nat) (new : List AV) : Option (AV × Heap) :=
 bif Nat.ble (l + n) c then inPlace H b (off + l * z) new (.slice b off (l + n) false c)
 else bif Nat.ble c 1000000 then bindO (loadCellsA H b off (l * z)) fun old => growA H e (l + n) (app old new) else none
def killA (H : Heap) (b : Nat) : Heap := putBlk H b none
def appendOpen (H : Heap) (e z b off l c n : Nat) (new : List AV) : Option (AV × Heap) :=
 bindO (knownIn e (H.blks.get b)) fun kn =>
  bif Nat.beq off (c * z) then
   bif Nat.ble (off + (l + n) * z) kn then inPlace H b (off + l * z) new (.slice b off (l + n) true c)
   else bindO (loadCellsA H b off (l * z)) fun old => putBlkK H b none fun H' => growA H' e (l + n) (app old new)
  else none
def appendTo (H : Heap) (e z n : Nat) (s : AV) (new : List AV) : Option (AV × Heap) :=
 match s with
 | .nilslice => bif Nat.beq n 0 then some (.nilslice, H) else growA H e n new
 | .slice b off l false c => appendExact H e z b off l c n new
 | .slice b off l true c => appendOpen H e z b off l c n new
 | _ => none
def slenA (s : AV) : Nat :=
 match s with
 | .slice _ _ l _ _ => l
 | _ => 0
def srcOk (x : AV) (z : Nat) : Bool :=
 match x with
 | .str _ => Nat.beq z 1
 | _ => true
def appendI (G : Tab) (H : Heap) (e : TypeId) (s x : AV) (i : TypeInfo) : Option (AV × Heap) :=
 bindO (lenOfA x) fun n => bindO (G.zero e) fun zero =>
  bif Nat.beq i.size 0 then none else
  bif srcOk x i.size then
  bif Nat.beq (len zero.cells) i.size then
   bif Nat.ble i.bytes 100000 then
    bif Nat.ble (slenA s + n) 1000000 then bindO (firstA H i.size n x) (appendTo H e i.size n s) else none
   else none
  else none
  else none
def intD (d : TypeDesc) : Bool :=
 match d with
 | .int _ => true
 | _ => false
def append2 (G : Tab) (H : Heap) (st xt : TypeId) (s x : AV) : Option (AV × Heap) :=
 bindO (elemOf G st) fun e => bindO (G.und xt) fun u => bif intD u then none else bindO (G.types.get e) (appendI G H e s x)
def appendA (G : Tab) (H : Heap) (ts : List TypeId) (xs : List AV) : Option (AV × Heap) :=
 match ts, xs with
 | [st, xt], [s, x] => append2 G H st xt s x
 | _, _ => none
def copyTo (H : Heap) (d : AV) (k : Nat) (cs : List AV) : Option (AV × Heap) :=
 match d with
 | .slice b off _ _ _ => inPlace H b off cs (natV k)
 | .nilslice => some (natV 0, H)
 | _ => none
def copy2 (G : Tab) (H : Heap) (dt : TypeId) (d x : AV) : Option (AV × Heap) :=
 bindO (elemOf G dt) fun e => bindO (G.size e) fun z => bindO (lenOfA x) fun n => bindO (lenOfA d) fun m =>
  bindO (firstA H z (Nat.min n m) x) (copyTo H d (Nat.min n m))
def copyA (G : Tab) (H : Heap) (ts : List TypeId) (xs : List AV) : Option (AV × Heap) :=
 match ts, xs with
 | dt :: _, [d, x] => copy2 G H dt d x
 | _, _ => none
def min2A (a b : AV) : Option AV :=
 match a, b with
 | .int k a, .int _ b => some (.int k (bif iblt b a then b else a))
 | _, _ => none
def max2A (a b : AV) : Option AV :=
 match a, b with
 | .int k a, .int _ b => some (.int k (bif iblt a b then b else a))
 | _, _ => none
def fold2 (f : AV → AV → Option AV) (l : List AV) : AV → Option AV :=
 List.rec (fun a => some a) (fun b _ ih a => bindO (f a b) ih) l
def clearA (H : Heap) (x : AV) : Option Heap :=
 match x with
 | .nilmap => some H
 | .nilslice => some H
 | .map r => bindO (mapIn (H.blks.get r)) fun p => putMapK H r [] p.2 some
 | _ => none
def unbyte (v : AV) : Option UInt8 :=
 match v with
 | .int .u8 (.ofNat n) => some (UInt8.ofNat n)
 | _ => none
def unbytes (l : List AV) : Option (List UInt8) := List.rec (some []) (fun v _ ih => consOO (unbyte v) ih) l
def u8D (d : TypeDesc) : Bool :=
 match d with
 | .int .u8 => true
 | _ => false
def toBytes (H : Heap) (e : TypeId) (s : List UInt8) (d : TypeDesc) : Option (AV × Heap) :=
 bif u8D d then
  bif Nat.ble (len s) 1000000 then newRowA H e false (bytesA s) fun b H => some (.slice b 0 (len s) true 0, H) else none
 else none
def strO (H : Heap) (o : Option (List UInt8)) : Option (AV × Heap) := bindO o fun s => some (.str s, H)
def fromBytes (H : Heap) (x : AV) (d : TypeDesc) : Option (AV × Heap) :=
 bif u8D d then
  (match x with
   | .slice b off n _ _ => bindO (loadCellsA H b off n) fun cs => strO H (unbytes cs)
   | .nilslice => some (.str [], H)
   | _ => none)
 else none
def rowIn (H : Heap) (b : Nat) (v : AV) : Option (AV × Heap) :=
 match H.blks.get b with
 | some (.cells _ _ _) => some (v, H)
 | _ => none
def sameBytes (same : Bool) (H : Heap) (b o n : Nat) (q : Bool) (c : Nat) (d : TypeDesc) : Option (AV × Heap) :=
 bif same then (bif u8D d then rowIn H b (.slice b o n q c) else none) else none
def headOf (H : Heap) (b off : Nat) : Option (TypeId × Nat) :=
 match H.blks.get b, off with
 | some (.cells e true l), 0 => some (e, len l)
 | _, _ => none
def unsafePtr (G : Tab) (H : Heap) (u : TypeId) (x : AV) : Option (AV × Heap) :=
 match x with
 | .nilptr => some (.nilptr, H)
 | .ptr b off => bindO (headOf H b off) fun e => bif Nat.beq e.1 u then (bindO (G.size u) fun z => bif Nat.beq z 0 then none else (bif Nat.ble z e.2 then some (.ptr b off, H) else none)) else none
 | _ => none
def convertD (G : Tab) (H : Heap) (same : Bool) (x : AV) (su du : TypeDesc) : Option (AV × Heap) :=
 match su, du, x with
 | .pointer u, .unsafePointer, x => unsafePtr G H u x
 | .unsafePointer, .pointer u, x => unsafePtr G H u x
 | _, .int k, .int _ n => some (.int k (awrap k n), H)
 | _, .string, .str s => some (.str s, H)
 | _, .slice e, .str s => bindO (G.und e) (toBytes H e s)
 | .slice e, .string, x => bindO (G.und e) (fromBytes H x)
 | .slice _, .slice e, .slice b o n q c => bindO (G.und e) (sameBytes same H b o n q c)
 | _, _, _ => none
def convertA (G : Tab) (H : Heap) (src dst : TypeId) (x : AV) : Option (AV × Heap) :=
 bindO (G.und src) fun su => bindO (G.und dst) fun du => convertD G H (Nat.beq src dst) x su du
end
end Go.Sx
namespace Go.Sx
noncomputable section
def AEntry.beq (a b : AEntry) : Bool := bif AV.beq a.key b.key then (bif AV.beq a.val b.val then Nat.beq a.born b.born else false) else false
def ABlk.beq (a b : ABlk) : Bool :=
 match a, b with
 | .cells e x l, .cells e' x' l' => bif Nat.beq e e' then (bif bbeq x x' then listBeq AV.beq l l' else false) else false
 | .big e n z, .big e' n' z' => bif Nat.beq e e' then (bif Nat.beq n n' then listBeq AV.beq z z' else false) else false
 | .map es c, .map es' c' => bif Nat.beq c c' then listBeq AEntry.beq es es' else false
 | .mapIter m s l p, .mapIter m' s' l' p' => bif optBeq Nat.beq m m' then (bif Nat.beq s s' then (bif listBeq Nat.beq l l' then Nat.beq p p' else false) else false) else false
 | .strIter s p, .strIter s' p' => bif sbeq s s' then Nat.beq p p' else false
 | .deferred, .deferred => true
 | _, _ => false
def Heap.beq (a b : Heap) : Bool := bif Nat.beq a.next b.next then T.beq ABlk.beq a.blks b.blks else false
inductive ADefer where
 | collected (r : Nat)
 | call (f : AV) (args : List AV)
inductive Ex where
 | normal
 | exit (id : Nat)
 | goto (l : Nat)
 | ret
structure St where
 tm : T AV
 h : Heap
 df : List ADefer
structure Ctx where
 rnd : Option Nat
 size : Nat
abbrev VH := AV × Heap
abbrev Outs := Option (List (Ex × St))
structure Fns where
 code : Ctx → Code → St → Outs
 scope : Ctx → Code → Code → St → Outs
 call : FuncId → List AV → Heap → Option (List VH)
 yld : Nat → List AV → Heap → Option (List VH)
def appO {α : Type} (a : Option (List α)) (b : Option (List α)) : Option (List α) :=
 match a with
 | none => none
 | some x => match b with
  | none => none
  | some y => some (app x y)
def eachL {α β : Type} (f : α → Option (List β)) (l : List α) : Option (List β) := List.rec (some []) (fun a _ ih => appO (f a) ih) l
def each1 {α β : Type} (f : α → Option (List β)) (l : List α) : Option (List β) :=
 match l with
 | [a] => f a
 | l => eachL f l
def bindL {α β : Type} (o : Option (List α)) (f : α → Option (List β)) : Option (List β) :=
 match o with
 | none => none
 | some l => each1 f l
def putTm {β : Type} (c : Ctx) (tm : T AV) (dst : Option Tmp) (v : AV) (k : T AV → Option β) : Option β :=
 match dst with
 | none => k tm
 | some d => bif Nat.blt d c.size then forceV v fun v => tm.setK d (some v) k else none
def isBool (want : Bool) (o : Option AV) : Bool :=
 match o with
 | some (.bool b) => bbeq b want
 | _ => false
def dstOf (all : List Oper) (j : Nat) : Option Tmp := bindO (nth all j) fun g => g.dst
def guardA (all : List Oper) (tm : T AV) (j : Nat) (want : Bool) : Bool :=
 match dstOf all j with
 | none => false
 | some d => isBool want (tm.get d)
def wantedA (all : List Oper) (g : Option (Nat × Bool)) (tm : T AV) : Bool :=
 match g with
 | none => true
 | some (j, want) => guardA all tm j want
inductive Kind where
 | pure | read | alloc | eff
def kindB (b : Builtin) : Kind :=
 match b with
 | .len => .read
 | .unsafeSliceData => .pure
 | .cap => .pure
 | .min => .pure
 | .max => .pure
 | _ => .eff
def kindC (c : Callee) : Kind :=
 match c with
 | .builtin b => kindB b
 | _ => .eff
def kindOf (o : Op) : Kind :=
 match o with
 | .move _ => .pure
 | .assign _ => .pure
 | .pick _ _ _ => .pure
 | .build _ _ => .pure
 | .nilCheck _ => .pure
 | .binOp _ _ _ _ _ => .pure
 | .unOp _ _ _ => .pure
 | .makeInterface _ _ => .pure
 | .makeFunc _ _ _ => .pure
 | .slice _ _ _ _ _ => .pure
 | .fieldAddr _ _ _ => .pure
 | .field _ _ _ => .pure
 | .indexAddr _ _ _ => .pure
 | .index _ _ _ => .pure
 | .extract _ _ => .pure
 | .load _ _ => .read
 | .lookup _ _ _ _ => .read
 | .entry _ => .read
 | .typeAssert _ _ _ _ => .pure
 | .alloc _ => .alloc
 | .box _ _ => .alloc
 | .buildSlice _ _ _ => .alloc
 | .makeMap _ _ => .alloc
 | .makeSlice _ _ _ => .alloc
 | .call c => kindC c.callee
 | _ => .eff
abbrev NOp := Tab → T AV → Heap → Option VH
def withH (H : Heap) (o : Option AV) : Option VH :=
 match o with
 | none => none
 | some v => some (v, H)
def opNone : NOp := fun _ _ _ => none
def opMove (x : Operand) : NOp := fun G tm H => withH H (aev G tm x)
def pickB (G : Tab) (tm : T AV) (a b : Operand) (c : AV) : Option AV :=
 match c with
 | .bool true => aev G tm a
 | .bool false => aev G tm b
 | _ => none
def opPick (c a b : Operand) : NOp := fun G tm H => withH H (bindO (aev G tm c) (pickB G tm a b))
def opAlloc (t : TypeId) : NOp := fun G _ H => bindO (G.zero t) (boxA H t)
def opBox (t : TypeId) (x : Operand) : NOp := fun G tm H => bindO (aev G tm x) (boxA H t)
def opBuild (t : TypeId) (ps : Array (Nat × Operand)) : NOp := fun G tm H => withH H (bindO (evParts G tm ps.toList) (buildA G t))
def opBuildSlice (t : TypeId) (n : Nat) (ps : Array (Nat × Operand)) : NOp := fun G tm H => bindO (evParts G tm ps.toList) (buildSliceA G H t n)
def loadPtr (G : Tab) (H : Heap) (t : TypeId) (a : AV) : Option AV :=
 match a with
 | .ptr b off => loadVarA G H t b off
 | _ => none
def opLoad (t : TypeId) (a : Operand) : NOp := fun G tm H => withH H (bindO (aev G tm a) (loadPtr G H t))
def nilCheckA (v : AV) : Option AV :=
 match v with
 | .ptr b off => some (.ptr b off)
 | .iface t v => some (.iface t v)
 | .func (.func f) a b => some (.func (.func f) a b)
 | .yld l => some (.yld l)
 | _ => none
def opNilCheck (x : Operand) : NOp := fun G tm H => withH H (bindO (aev G tm x) nilCheckA)
def orB (a b : Bool) : Bool := bif a then true else b
def opBin (op : BinOp) (t : TypeId) (x y : Operand) : NOp := fun G tm H =>
 withH H (bindO (aev G tm x) fun a => bindO (aev G tm y) fun b => binA G op t (orB (isConstO x) (isConstO y)) a b)
def opUn (op : UnOp) (x : Operand) : NOp := fun G tm H => withH H (bindO (aev G tm x) (unA op))
def notIface (d : TypeDesc) : Bool :=
 match d with
 | .interface _ => false
 | _ => true
def opMakeInterface (t : TypeId) (x : Operand) : NOp := fun G tm H =>
 bindO (G.und t) fun d => bif notIface d then withH H (bindO (aev G tm x) fun v => some (.iface t v)) else none
def plainFn (fn : Fn) : Bool :=
 match fn with
 | .func _ => true
 | _ => false
def opMakeFunc (fn : Fn) (first cap : Array Operand) : NOp := fun G tm H =>
 bif plainFn fn then withH H (bindO (aevs G tm first.toList) fun a => bindO (aevs G tm cap.toList) fun b => some (.func fn a b)) else none
def newMap (H : Heap) : Option VH := newA H (.map [] 0) fun b H => some (.map b, H)
def reserveOk (G : Tab) (t : TypeId) (v : AV) : Bool :=
 match G.und t, v with
 | some (.map _ _), .int _ _ => true
 | _, _ => false
def opMakeMap (t : TypeId) (r : Option Operand) : NOp := fun G tm H =>
 match r with
 | none => newMap H
 | some x => bindO (aev G tm x) fun v => bif reserveOk G t v then newMap H else none
def opMakeSlice (t : TypeId) (l c : Operand) : NOp := fun G tm H => bindO (aev G tm l) fun a => bindO (aev G tm c) fun b => makeSliceA G H t a b
def opt1 (G : Tab) (tm : T AV) (o : Option Operand) : Option (Option AV) :=
 match o with
 | none => some none
 | some o => bindO (aev G tm o) fun v => some (some v)
def opSlice (t : TypeId) (x : Operand) (lo hi mx : Option Operand) : NOp := fun G tm H =>
 withH H (bindO (aev G tm x) fun v => bindO (opt1 G tm lo) fun a => bindO (opt1 G tm hi) fun b => bindO (opt1 G tm mx) fun c => sliceA G t v a b c)
def opFieldAddr (s : TypeId) (x : Operand) (f : Nat) : NOp := fun G tm H => withH H (bindO (aev G tm x) (fieldAddrA G s f))
def opField (t : TypeId) (x : Operand) (f : Nat) : NOp := fun G tm H => withH H (bindO (aev G tm x) (fieldA G t f))
def opIndexAddr (t : TypeId) (x i : Operand) : NOp := fun G tm H => withH H (bindO (aev G tm x) fun v => bindO (aev G tm i) fun j => indexAddrA G t v j)
def opIndex (t : TypeId) (x i : Operand) : NOp := fun G tm H => withH H (bindO (aev G tm x) fun v => bindO (aev G tm i) fun j => indexA G t v j)
def opLookup (t : TypeId) (x k : Operand) (ok : Bool) : NOp := fun G tm H => withH H (bindO (aev G tm x) fun v => bindO (aev G tm k) fun j => lookupA G H t ok v j)
def opEntry (x : Operand) : NOp := fun G tm H => withH H (bindO (aev G tm x) (entryA H))
def extractA (i : Nat) (v : AV) : Option AV :=
 match v with
 | .tuple vs => nth vs i
 | _ => none
def opExtract (t : Operand) (i : Nat) : NOp := fun G tm H => withH H (bindO (aev G tm t) (extractA i))
def fst1 {α β : Type} (l : List α) (f : α → Option β) : Option β :=
 match l with
 | [] => none
 | a :: _ => f a
def fold1 (f : AV → AV → Option AV) (l : List AV) : Option AV :=
 match l with
 | [] => none
 | a :: l => fold2 f l a
def sliceDataA (x : AV) : Option AV :=
 match x with
 | .nilslice => some .nilptr
 | .slice b off n true _ => bif Nat.beq n 0 then none else some (.ptr b off)
 | _ => none
def sliceData1 (xs : List AV) : Option AV :=
 match xs with
 | [x] => sliceDataA x
 | _ => none
def builtinN (b : Builtin) : Tab → List TypeId → List AV → Heap → Option AV :=
 match b with
 | .unsafeSliceData => fun _ _ xs _ => sliceData1 xs
 | .len => fun G ts xs H => fst1 ts fun t => fst1 xs (lenA G H t)
 | .cap => fun G ts xs _ => fst1 ts fun t => fst1 xs (capA G t)
 | .min => fun _ _ xs _ => fold1 min2A xs
 | .max => fun _ _ xs _ => fold1 max2A xs
 | _ => fun _ _ _ _ => none
def calleeB (c : Callee) : Option Builtin :=
 match c with
 | .builtin b => some b
 | _ => none
def opCallN (c : Call) : NOp := fun G tm H =>
 withH H (bindO (calleeB c.callee) fun b => bindO (aevs G tm c.args.toList) fun xs => builtinN b G c.argTypes.toList xs H)
def assertV (G : Tab) (want : TypeId) (ok : Bool) (v : AV) : Option AV :=
 match v with
 | .iface t v => bindO (G.und want) fun d => bif notIface d then (bif Nat.beq t want then some (bif ok then .tuple [v, .bool true] else v) else none) else none
 | _ => none
def opAssert (x : Operand) (want : TypeId) (ok : Bool) : NOp := fun G tm H => withH H (bindO (aev G tm x) (assertV G want ok))
def opN (o : Op) : NOp :=
 match o with
 | .typeAssert x _ t ok => opAssert x t ok
 | .move x => opMove x
 | .assign x => opMove x
 | .pick c a b => opPick c a b
 | .alloc t => opAlloc t
 | .box t x => opBox t x
 | .build t ps => opBuild t ps
 | .buildSlice t n ps => opBuildSlice t n ps
 | .load t a => opLoad t a
 | .nilCheck x => opNilCheck x
 | .binOp op t x y _ => opBin op t x y
 | .unOp op _ x => opUn op x
 | .makeInterface t x => opMakeInterface t x
 | .makeFunc fn a b => opMakeFunc fn a b
 | .makeMap t r => opMakeMap t r
 | .makeSlice t l c => opMakeSlice t l c
 | .slice t x lo hi mx => opSlice t x lo hi mx
 | .fieldAddr s x f => opFieldAddr s x f
 | .field t x f => opField t x f
 | .indexAddr t x i => opIndexAddr t x i
 | .index t x i => opIndex t x i
 | .lookup t x k ok => opLookup t x k ok
 | .entry x => opEntry x
 | .extract t i => opExtract t i
 | .call c => opCallN c
 | _ => opNone
def applyFn (F : Fns) (fn : Fn) (first args cap : List AV) (H : Heap) : Option (List VH) :=
 match fn with
 | .func f => F.call f (app first (app args cap)) H
 | _ => none
def applyV (F : Fns) (args : List AV) (H : Heap) (v : AV) : Option (List VH) :=
 match v with
 | .func fn first cap => applyFn F fn first args cap H
 | .yld l => F.yld l args H
 | _ => none
def findM (name : String) (l : List Method) : Option Method := List.rec none (fun m _ ih => if m.name = name then some m else ih) l
def isPtrD (o : Option TypeDesc) : Bool :=
 match o with
 | some (.pointer _) => true
 | _ => false
def methodF (ptr : Bool) (p : List FieldStep) (f : Option (FuncId × Bool)) : Option FuncId :=
 match p, f with
 | [], some (f, q) => bif bbeq ptr q then some f else none
 | _, _ => none
def methodA (G : Tab) (t : TypeId) (name : String) : Option FuncId :=
 bindO (G.types.get t) fun i => bindO (findM name i.methods.toList) fun m => bindO (G.und t) fun d => methodF (isPtrD (some d)) m.path.toList m.func
abbrev EOut := AV × List ADefer × Heap
abbrev EOp := Fns → Tab → Ctx → T AV → List ADefer → Heap → Option (List EOut)
def out1 (df : List ADefer) (o : Option Heap) : Option (List EOut) :=
 match o with
 | none => none
 | some H => some [(undefA, df, H)]
def out2 (df : List ADefer) (o : Option VH) : Option (List EOut) :=
 match o with
 | none => none
 | some p => some [(p.1, df, p.2)]
def outs (df : List ADefer) (o : Option (List VH)) : Option (List EOut) :=
 match o with
 | none => none
 | some [p] => some [(p.1, df, p.2)]
 | some l => some (l.map fun p => (p.1, df, p.2))
def opNoneE : EOp := fun _ _ _ _ _ _ => none
def storePtr (G : Tab) (H : Heap) (t : TypeId) (a v : AV) : Option Heap :=
 match a with
 | .ptr b off => storeVarA G H t b off v
 | _ => none
def opStore (t : TypeId) (a x : Operand) : EOp := fun _ G _ tm df H => out1 df (bindO (aev G tm a) fun p => bindO (aev G tm x) fun v => storePtr G H t p v)
def opMapUpdate (t : TypeId) (m k x : Operand) : EOp := fun _ G _ tm df H =>
 out1 df (bindO (aev G tm m) fun m => bindO (aev G tm k) fun k => bindO (aev G tm x) fun x => mapUpdateA G H t m k x)
def opMapEntry (t : TypeId) (m k : Operand) : EOp := fun _ G _ tm df H => out2 df (bindO (aev G tm m) fun m => bindO (aev G tm k) fun k => mapEntryA G H t m k)
def opEntryStore (m s x : Operand) : EOp := fun _ G _ tm df H =>
 out1 df (bindO (aev G tm m) fun m => bindO (aev G tm s) fun s => bindO (aev G tm x) fun x => entryStoreA H m s x)
def opRange (t : TypeId) (x : Operand) : EOp := fun _ G _ tm df H => out2 df (bindO (aev G tm x) (rangeA G H t))
def opNext (it : Operand) (s : Bool) : EOp := fun _ G _ tm df H => outs df (bindO (aev G tm it) fun v => nextA H v s)
def opConvert (s d : TypeId) (x : Operand) : EOp := fun _ G _ tm df H => out2 df (bindO (aev G tm x) (convertA G H s d))
def calleeF (c : Callee) : Option Operand :=
 match c with
 | .value f => some f
 | _ => none
def isFnV (v : AV) : Bool :=
 match v with
 | .func _ _ _ => true
 | _ => false
def opDefer (cl : Call) : EOp := fun _ G c tm df H =>
 match c.rnd with
 | none => bindO (calleeF cl.callee) fun f => bindO (aev G tm f) fun v => bif isFnV v then bindO (aevs G tm cl.args.toList) fun args => some [(undefA, .call v args :: df, H)] else none
 | some _ => none
def invokeI (F : Fns) (G : Tab) (name : String) (args : List AV) (H : Heap) (r : AV) : Option (List VH) :=
 match r with
 | .iface t v => bindO (methodA G t name) fun f => F.call f (v :: args) H
 | _ => none
def delete2 (G : Tab) (H : Heap) (ts : List TypeId) (xs : List AV) : Option Heap :=
 match ts, xs with
 | t :: _, [m, k] => deleteA G H t m k
 | _, _ => none
def clear1 (G : Tab) (H : Heap) (ts : List TypeId) (xs : List AV) : Option Heap :=
 match ts, xs with
 | t :: _, [x] => bindO (G.und t) fun _ => clearA H x
 | _, _ => none
def ptrElem (d : TypeDesc) : Option TypeId :=
 match d with
 | .pointer e => some e
 | _ => none
def strOfRow (G : Tab) (H : Heap) (t b off n : Nat) (o : Option ABlk) : Option VH :=
 match o with
 | some (.cells e false l) => bindO (bindO (G.und t) ptrElem) fun u => bif Nat.beq u e then
   (bindO (G.size e) fun z => bif Nat.beq z 1 then (bif Nat.ble n 1000000000 then (bindO (takeN (dropN l off) n) fun cs => bindO (unbytes cs) fun s => bif listBeq AV.beq (bytesA s) cs then some (.str s, killA H b) else none) else none) else none) else none
 | _ => none
def unsafeStr (G : Tab) (H : Heap) (t : TypeId) (p n : AV) : Option VH :=
 match p, n with
 | .nilptr, .int .i64 (.ofNat 0) => some (.str [], H)
 | .ptr b off, .int .i64 (.ofNat (n + 1)) => strOfRow G H t b off (n + 1) (H.blks.get b)
 | _, _ => none
def unsafeStr2 (G : Tab) (H : Heap) (ts : List TypeId) (xs : List AV) : Option VH :=
 match ts, xs with
 | t :: _, [p, n] => unsafeStr G H t p n
 | _, _ => none
def builtinE (b : Builtin) : Tab → List TypeId → List AV → List ADefer → Heap → Option (List EOut) :=
 match b with
 | .unsafeString => fun G ts xs df H => out2 df (unsafeStr2 G H ts xs)
 | .append => fun G ts xs df H => out2 df (appendA G H ts xs)
 | .copy => fun G ts xs df H => out2 df (copyA G H ts xs)
 | .delete => fun G ts xs df H => out1 df (delete2 G H ts xs)
 | .clear => fun G ts xs df H => out1 df (clear1 G H ts xs)
 | _ => fun _ _ _ _ _ => none
def orX {α : Type} (a b : Option α) : Option α :=
 match a with
 | some x => some x
 | none => b
def cloneA (H : Heap) (t : Nat) (o : Option ABlk) : Option (List VH) :=
 match o with
 | some (.map es c) => newA H (.map es c) fun b H => some [(.iface t (.map b), H)]
 | _ => none
def findB (s : List UInt8) (c : Nat) : Nat → Option Nat :=
 List.rec (fun _ => none) (fun b _ ih i => bif Nat.beq b.toNat c then some i else ih (i + 1)) s
def indexV (o : Option Nat) : AV :=
 match o with
 | some i => .int .i64 (.ofNat i)
 | none => .int .i64 (.negSucc 0)
def noZeroA (H : Heap) (e n : Nat) : Option (List VH) :=
 bif Nat.ble n 1000000 then newA H (.cells e false []) fun b H => some [(.slice b 0 n true 0, H)] else none
def extA (G : Tab) (k : ExtK) (args : List AV) (H : Heap) : Option (List VH) :=
 match k, args with
 | .clone, [.iface t (.map r)] => cloneA H t (H.blks.get r)
 | .same, [v] => some [(v, H)]
 | .indexByte, [.str s, .int .u8 (.ofNat c)] => bif Nat.blt c 256 then some [(indexV (findB s c 0), H)] else none
 | .noZero r, [.int .i64 (.ofNat n)] => bindO (elemOf G r) fun e => bindO (G.size e) fun z => bif Nat.beq z 1 then noZeroA H e n else none
 | _, _ => none
def extV (G : Tab) (args : List AV) (H : Heap) (v : AV) : Option (List VH) :=
 match v with
 | .func (.func f) [] [] => bindO (G.ext.get f) fun k => extA G k args H
 | _ => none
def opCallee (c : Callee) (ts : List TypeId) (args : List AV) : EOp :=
 match c with
 | .value f => fun F G _ tm df H => orX (outs df (bindO (aev G tm f) (applyV F args H))) (outs df (bindO (aev G tm f) (extV G args H)))
 | .invoke r name => fun F G _ tm df H => outs df (bindO (aev G tm r) (invokeI F G name args H))
 | .builtin b => fun _ G _ _ df H => builtinE b G ts args df H
def opCall (cl : Call) : EOp := fun F G c tm df H =>
 bindO (aevs G tm cl.args.toList) fun args => opCallee cl.callee cl.argTypes.toList args F G c tm df H
def opE (o : Op) : EOp :=
 match o with
 | .store t a x => opStore t a x
 | .mapUpdate t m k x => opMapUpdate t m k x
 | .insert t m k x => opMapUpdate t m k x
 | .mapEntry t m k => opMapEntry t m k
 | .entryStore _ m s x => opEntryStore m s x
 | .range t x => opRange t x
 | .next it s => opNext it s
 | .convert s d x => opConvert s d x
 | .defer cl => opDefer cl
 | .call cl => opCall cl
 | _ => opNoneE
abbrev Run := Fns → Tab → Ctx → List Oper → St → Option (List St)
def runE (o : Oper) (ih : Run) : Run := fun F G c all s =>
 bindL (opE o.op F G c s.tm s.df s.h) fun p => putTm c s.tm o.dst p.1 fun tm => ih F G c all ⟨tm, p.2.2, p.2.1⟩
def runN (o : Oper) (ih : Run) : Run := fun F G c all s =>
 bindO (opN o.op G s.tm s.h) fun p => putTm c s.tm o.dst p.1 fun tm => ih F G c all ⟨tm, p.2, s.df⟩
def runSkip (o : Oper) (ih : Run) : Run := fun F G c all s => putTm c s.tm o.dst undefA fun tm => ih F G c all ⟨tm, s.h, s.df⟩
def runKind (k : Kind) : Oper → Run → Run :=
 match k with
 | .eff => runE
 | _ => runN
def runOne (o : Oper) (ih : Run) : Run := fun F G c all s =>
 bif wantedA all o.guard s.tm then runKind (kindOf o.op) o ih F G c all s else runSkip o ih F G c all s
def seqOps (l : List Oper) : Run := List.rec (fun _ _ _ _ s => some [s]) (fun o _ ih => runOne o ih) l
structure RO where
 i : Nat
 o : Oper
 pre : Nat
 kind : Kind
def sub (a b : Nat) : Bool := Nat.beq (Nat.land a b) a
def preStep (acc : T Nat) (i : Nat) (e : Edge) (ih : Nat → Option Nat) (m : Nat) : Option Nat :=
 bif Region.binds .any e then
  (bif Nat.blt e.on i then bindO (acc.get e.on) fun p => ih (Nat.lor (Nat.lor m (Nat.pow 2 e.on)) p) else none)
 else ih m
def preOf (acc : T Nat) (i : Nat) (es : List Edge) : Nat → Option Nat := List.rec (fun m => some m) (fun e _ ih => preStep acc i e ih) es
def prepGo (l : List Oper) : Nat → T Nat → Option (List RO) :=
 List.rec (fun _ _ => some []) (fun o _ ih i acc => bindO (preOf acc i o.after.toList 0) fun m =>
  forceN m fun m => acc.setK i (some m) fun acc' => forceN (i + 1) fun i' => consO ⟨i, o, m, kindOf o.op⟩ (ih i' acc')) l
def readTmp (o : Operand) (l : List Tmp) : List Tmp :=
 match o with
 | .tmp t => t :: l
 | _ => l
def readsTmp (l : List Operand) : List Tmp := List.rec [] (fun o _ ih => readTmp o ih) l
def consTmp (o : Option Tmp) (l : List Tmp) : List Tmp :=
 match o with
 | none => l
 | some d => d :: l
def looks (all : List Oper) (o : Oper) : List Tmp :=
 match o.guard with
 | none => readsTmp o.op.operands.toList
 | some (j, _) => consTmp (dstOf all j) (readsTmp o.op.operands.toList)
def ordered (a b : RO) : Bool := bif Nat.testBit b.pre a.i then true else Nat.testBit a.pre b.i
def looksOk1 (r s : RO) (ls : List Tmp) (o : Option Tmp) : Bool :=
 match o with
 | none => true
 | some d => bif hasNat d ls then ordered r s else true
def looksOk (r : RO) (ls : List Tmp) (l : List RO) : Bool :=
 List.rec true (fun s _ ih => bif (bif Nat.beq s.i r.i then true else looksOk1 r s ls s.o.dst) then ih else false) l
def writesOk1 (r s : RO) : Bool :=
 match r.o.dst, s.o.dst with
 | some d, some e => bif Nat.beq d e then ordered r s else true
 | _, _ => true
def writesOk (r : RO) (l : List RO) : Bool := List.rec true (fun s _ ih => bif (bif Nat.beq s.i r.i then true else writesOk1 r s) then ih else false) l
def afterO (r : RO) (o : Option Nat) : Bool :=
 match o with
 | none => true
 | some j => Nat.testBit r.pre j
def isEff (k : Kind) : Bool :=
 match k with
 | .eff => true
 | _ => false
def allOk (all : List Oper) (rs l : List RO) : Bool :=
 List.rec true (fun r _ ih => bif looksOk r (looks all r.o) rs then (bif writesOk r rs then ih else false) else false) l
structure Kept where
 r : RO
 tm : T AV
 v : AV
structure DS where
 done : Nat
 s : St
 kept : List Kept
abbrev DK := DS → Option (List St)
def keepIt (r : RO) (tm : T AV) (v : AV) (l : List Kept) : List Kept :=
 match r.kind with
 | .pure => l
 | _ => ⟨r, tm, v⟩ :: l
def saturDo (G : Tab) (c : Ctx) (r : RO) (d : DS) (ih : DK) : Option (List St) :=
 bindO (opN r.o.op G d.s.tm d.s.h) fun p => putTm c d.s.tm r.o.dst p.1 fun tm =>
  forceN (Nat.lor d.done (Nat.pow 2 r.i)) fun m => ih ⟨m, ⟨tm, p.2, d.s.df⟩, keepIt r d.s.tm p.1 d.kept⟩
def saturSkip (c : Ctx) (r : RO) (d : DS) (ih : DK) : Option (List St) :=
 putTm c d.s.tm r.o.dst undefA fun tm => forceN (Nat.lor d.done (Nat.pow 2 r.i)) fun m => ih ⟨m, ⟨tm, d.s.h, d.s.df⟩, d.kept⟩
def ready (r : RO) (done : Nat) : Bool := bif isEff r.kind then false else bif Nat.testBit done r.i then false else sub r.pre done
def saturStep (G : Tab) (c : Ctx) (all : List Oper) (r : RO) (ih : DK → DK) (k : DK) (d : DS) : Option (List St) :=
 bif ready r d.done then
  (bif wantedA all r.o.guard d.s.tm then saturDo G c r d (ih k) else saturSkip c r d (ih k))
 else ih k d
def satur (G : Tab) (c : Ctx) (all : List Oper) (l : List RO) : DK → DK := List.rec (fun k d => k d) (fun r _ ih => saturStep G c all r ih) l
def noneReady (done : Nat) (l : List RO) : Bool := List.rec true (fun r _ ih => bif ready r done then false else ih) l
def nextEff (done : Nat) (l : List RO) : Option RO :=
 List.rec none (fun r _ ih => bif isEff r.kind then (bif Nat.testBit done r.i then ih else some r) else ih) l
def afterE (e r : RO) (done : Nat) : Bool :=
 bif isEff r.kind then (bif Nat.testBit done r.i then true else bif Nat.beq r.i e.i then true else Nat.testBit r.pre e.i) else true
def othersAfter (e : RO) (done : Nat) (l : List RO) : Bool := List.rec true (fun r _ ih => bif afterE e r done then ih else false) l
def blockOf (v : AV) : Option Nat :=
 match v with
 | .ptr b _ => some b
 | .slice b _ _ _ _ => some b
 | .map b => some b
 | _ => none
def sameV (v : AV) (o : Option VH) : Bool :=
 match o with
 | some p => AV.beq p.1 v
 | none => false
def sameB (x y : Option ABlk) : Bool :=
 match x, y with
 | some x, some y => ABlk.beq x y
 | _, _ => false
def sameMade (v : AV) (H : Heap) (b : Nat) (o : Option VH) : Bool :=
 match o with
 | some p => bif AV.beq p.1 v then sameB (p.2.blks.get b) (H.blks.get b) else false
 | none => false
def madeNow (G : Tab) (H : Heap) (k : Kept) (o : Option Nat) : Bool :=
 match o with
 | some b => sameMade k.v H b (opN k.r.o.op G k.tm ⟨b, .e⟩)
 | none => false
def isAlloc (k : Kind) : Bool :=
 match k with
 | .alloc => true
 | _ => false
def keptNow (G : Tab) (H : Heap) (k : Kept) : Bool :=
 bif isAlloc k.r.kind then madeNow G H k (blockOf k.v) else sameV k.v (opN k.r.o.op G k.tm H)
def keptOk (G : Tab) (H : Heap) (sealed : Nat) (l : List Kept) : Bool :=
 List.rec true (fun k _ ih => bif (bif Nat.testBit sealed k.r.i then true else keptNow G H k) then ih else false) l
def stageOk (G : Tab) (rs : List RO) (sealed : Nat) (d : DS) : Bool := bif noneReady d.done rs then keptOk G d.s.h sealed d.kept else false
def effDo (F : Fns) (G : Tab) (c : Ctx) (r : RO) (d : DS) (next : DK) : Option (List St) :=
 bindL (opE r.o.op F G c d.s.tm d.s.df d.s.h) fun p => putTm c d.s.tm r.o.dst p.1 fun tm =>
  forceN (Nat.lor d.done (Nat.pow 2 r.i)) fun m => next ⟨m, ⟨tm, p.2.2, p.2.1⟩, d.kept⟩
def effSkip (c : Ctx) (r : RO) (d : DS) (next : DK) : Option (List St) :=
 putTm c d.s.tm r.o.dst undefA fun tm => forceN (Nat.lor d.done (Nat.pow 2 r.i)) fun m => next ⟨m, ⟨tm, d.s.h, d.s.df⟩, d.kept⟩
def effRun (F : Fns) (G : Tab) (c : Ctx) (all : List Oper) (r : RO) (d : DS) (next : DK) : Option (List St) :=
 bif wantedA all r.o.guard d.s.tm then effDo F G c r d next else effSkip c r d next
def effStep (F : Fns) (G : Tab) (c : Ctx) (all : List Oper) (rs : List RO) (next : Nat → DK) (d : DS) (o : Option RO) : Option (List St) :=
 match o with
 | none => some [d.s]
 | some r => bif sub r.pre d.done then (bif othersAfter r d.done rs then effRun F G c all r d (next r.pre) else none) else none
def stageEnd (F : Fns) (G : Tab) (c : Ctx) (all : List Oper) (rs : List RO) (next : Nat → DK) (sealed : Nat) (d : DS) : Option (List St) :=
 bif stageOk G rs sealed d then effStep F G c all rs next d (nextEff d.done rs) else none
def stages (F : Fns) (G : Tab) (c : Ctx) (all : List Oper) (rs : List RO) (f : Nat) : Nat → DK :=
 Nat.rec (fun _ _ => none) (fun _ ih sealed d => satur G c all rs (stageEnd F G c all rs ih sealed) d) f
def drawOn (F : Fns) (G : Tab) (c : Ctx) (all : List Oper) (s : St) (rs : List RO) : Option (List St) :=
 bif allOk all rs rs then stages F G c all rs 100 0 ⟨0, s, []⟩ else none
def drawOps : Run := fun F G c all s => bindO (prepGo all 0 .e) (drawOn F G c all s)
def contEx (k : St → Outs) (p : Ex × St) : Outs :=
 match p.1 with
 | .normal => k p.2
 | e => some [(e, p.2)]
def normals (o : Option (List St)) : Outs :=
 match o with
 | none => none
 | some [s] => some [(.normal, s)]
 | some l => some (l.map fun s => (.normal, s))
def blockEx (id : Nat) (p : Ex × St) : Outs :=
 match p.1 with
 | .exit j => bif Nat.beq j id then some [(.normal, p.2)] else some [(.exit j, p.2)]
 | e => some [(e, p.2)]
def scopeTo (F : Fns) (c : Ctx) (body : Code) (l : Nat) (s : St) (o : Option Code) : Outs :=
 match o with
 | some rest => F.scope c body rest s
 | none => some [(.goto l, s)]
def scopeEx (F : Fns) (c : Ctx) (body : Code) (p : Ex × St) : Outs :=
 match p.1 with
 | .goto l => scopeTo F c body l p.2 (findLabel body l)
 | e => some [(e, p.2)]
def exOfCode (c : Code) : Option Ex :=
 match c with
 | .ret => some .ret
 | .exit id => some (.exit id)
 | .goto l => some (.goto l)
 | _ => none
def exOf (o : Option Code) : Option Ex :=
 match o with
 | none => some .normal
 | some c => exOfCode c
def notBusy (s : LoopState) : Bool :=
 match s with
 | .busy => false
 | _ => true
def loopIn (o : Option ABlk) : Option ALoop :=
 match o with
 | some (.loop r) => some r
 | _ => none
def endLoopA (l : Nat) (tm : T AV) (df : List ADefer) (H : Heap) : Outs :=
 bindO (loopIn (H.blks.get l)) fun r => bif notBusy r.state then bindO (exOf r.pending) fun e => putBlkK H l none fun H' => some [(e, ⟨tm, H', df⟩)] else none
abbrev CRun := Fns → Tab → Ctx → St → Outs
def cSkip : CRun := fun _ _ _ s => some [(.normal, s)]
def cRet : CRun := fun _ _ _ s => some [(.ret, s)]
def cExit (id : Nat) : CRun := fun _ _ _ s => some [(.exit id, s)]
def cGoto (l : Nat) : CRun := fun _ _ _ s => some [(.goto l, s)]
def cRefuse (_ : String) : CRun := fun _ _ _ _ => none
def cSeq (a b : CRun) : CRun := fun F G c s => bindL (a F G c s) (contEx (b F G c))
def condV (a b : CRun) (v : AV) : CRun :=
 match v with
 | .bool true => a
 | .bool false => b
 | _ => fun _ _ _ _ => none
def cCond (x : Operand) (a b : CRun) : CRun := fun F G c s => bindO (aev G s.tm x) fun v => condV a b v F G c s
def cBlock (id : Nat) (b : CRun) : CRun := fun F G c s => bindL (b F G c s) (blockEx id)
def cLoop (body : Code) (b : CRun) : CRun := fun F G c s => bindL (b F G c s) (contEx (F.code c (.loop body)))
def cScope (body : Code) (b : CRun) : CRun := fun F G c s => bindL (b F G c s) (scopeEx F c body)
def cRegion (_ : Nat) (ops : Array Oper) (draw : Bool) : CRun := fun F G c s =>
 normals (bif draw then drawOps F G c ops.toList s else seqOps ops.toList F G c ops.toList s)
def rangeRun (F : Fns) (c : Ctx) (params : List Tmp) (assign body : Code) (s : St) (df : List ADefer) (r : Nat) (H : Heap) (v : AV) : Outs :=
 newA H (.loop ⟨.ready, none, c.size, s.tm, params, assign, body, r⟩) fun l H => bindL (applyV F [.yld l] H v) fun p => endLoopA l s.tm df p.2
def cRangeFunc (f : Operand) (params : Array Tmp) (assign body : Code) : CRun := fun F G c s =>
 bindO (aev G s.tm f) fun v => match c.rnd with
  | none => newA s.h .deferred fun r H => rangeRun F c params.toList assign body s (.collected r :: s.df) r H v
  | some l₀ => bindO (loopIn (s.h.blks.get l₀)) fun r₀ => rangeRun F c params.toList assign body s s.df r₀.defers s.h v
def codeB (c : Code) : CRun :=
 Code.rec cSkip cRegion (fun _ _ a b => cSeq a b) (fun x _ _ a b => cCond x a b) (fun id _ b => cBlock id b) (fun body b => cLoop body b)
  (fun f ps a b _ _ => cRangeFunc f ps a b) cExit (fun body b => cScope body b) (fun _ => cSkip) cGoto cRet cRefuse c
def argsK {β : Type} (l : List AV) : T AV → Nat → (T AV → β) → β :=
 List.rec (fun tm _ k => k tm) (fun v _ ih tm i k => forceV v fun v => tm.setK i (some v) fun tm' => ih tm' (i + 1) k) l
def resCell (G : Tab) (H : Heap) (t : TypeId) (o : Option AV) : Option AV :=
 match o with
 | some (.ptr b off) => loadVarA G H t b off
 | _ => none
def resultA (G : Tab) (tm : T AV) (H : Heap) (r : ResultVar) : Option AV :=
 match r with
 | .tmp t => orUndef (tm.get t)
 | .cell a t => resCell G H t (tm.get a)
def resultsA (G : Tab) (tm : T AV) (H : Heap) (l : List ResultVar) : Option (List AV) :=
 List.rec (some []) (fun r _ ih => consOO (resultA G tm H r) ih) l
def oneOf (l : List AV) : AV :=
 match l with
 | [v] => v
 | l => .tuple l
def applyD (F : Fns) (args : List AV) (H : Heap) (v : AV) : Option (List VH) :=
 match v with
 | .func fn first cap => applyFn F fn first args cap H
 | _ => none
def deferOne (F : Fns) (d : ADefer) (H : Heap) : Option (List Heap) :=
 match d with
 | .collected r => (match H.blks.get r with
  | some .deferred => some [killA H r]
  | _ => none)
 | .call v args => bindL (applyD F args H v) fun p => some [p.2]
def runDefers (F : Fns) (l : List ADefer) : Heap → Option (List Heap) :=
 List.rec (fun H => some [H]) (fun d _ ih H => bindL (deferOne F d H) ih) l
def iterAt (o : Option ABlk) : Bool :=
 match o with
 | some (.mapIter _ _ _ _) => true
 | _ => false
def killIters (n : Nat) : Heap → Nat → Heap :=
 Nat.rec (fun H _ => H) (fun _ ih H b => bif iterAt (H.blks.get b) then ih (killA H b) (b + 1) else ih H (b + 1)) n
def outBeq (p q : VH) : Bool := bif AV.beq p.1 q.1 then Heap.beq p.2 q.2 else false
def hasOut (p : VH) (l : List VH) : Bool := List.rec false (fun q _ ih => bif outBeq p q then true else ih) l
def addOut (p : VH) (l : List VH) : List VH := bif hasOut p l then l else p :: l
def dedup (l : List VH) : List VH := List.rec [] (fun p _ ih => addOut p ih) l
def mergeOuts (b : Nat) (l : List VH) : List VH :=
 match l with
 | [p] => [p]
 | l => dedup (l.map fun p => (p.1, killIters (p.2.next - b) p.2 b))
def leaves (e : Ex) : Bool :=
 match e with
 | .normal => true
 | .ret => true
 | _ => false
def resOut (G : Tab) (tm : T AV) (rs : List ResultVar) (H : Heap) : Option (List VH) := bindO (resultsA G tm H rs) fun vs => some [(oneOf vs, H)]
def endCall (F : Fns) (G : Tab) (rs : List ResultVar) (p : Ex × St) : Option (List VH) :=
 bif leaves p.1 then
  (match p.2.df with
   | [] => resOut G p.2.tm rs p.2.h
   | df => bindL (runDefers F df p.2.h) (resOut G p.2.tm rs))
 else none
def merged (b : Nat) (o : Option (List VH)) : Option (List VH) :=
 match o with
 | none => none
 | some l => some (mergeOuts b l)
def callFn (F : Fns) (G : Tab) (args : List AV) (H : Heap) (fn : Func) : Option (List VH) :=
 bindO fn.body fun body => argsK args .e 0 fun tm => forceN (len args + (fn.ntmps - len args)) fun N =>
  merged H.next (bindL (F.code ⟨none, N⟩ body ⟨tm, H, []⟩) (endCall F G fn.results.toList))
def callB (F : Fns) (G : Tab) (f : FuncId) (args : List AV) (H : Heap) : Option (List VH) := bindO (G.funcs.get f) (callFn F G args H)
def setOne (size t : Nat) (v : AV) (tm : T AV) (k : T AV → Option (T AV)) : Option (T AV) :=
 bif Nat.blt t size then forceV v fun v => tm.setK t (some v) k else none
def setParams (size : Nat) (ts : List Tmp) : List AV → T AV → Option (T AV) :=
 List.rec (fun vs tm => bif isNil vs then some tm else none)
  (fun t _ ih vs tm => match vs with | [] => none | v :: vs => setOne size t v tm (ih vs)) ts
def pendOf (e : Ex) : Option Code :=
 match e with
 | .normal => none
 | .ret => some .ret
 | .exit id => some (.exit id)
 | .goto l => some (.goto l)
def isNormal (e : Ex) : Bool :=
 match e with
 | .normal => true
 | _ => false
def roundEnd (l : Nat) (p : Ex × St) : Option (List VH) :=
 bif isNil p.2.df then bindO (loopIn (p.2.h.blks.get l)) fun r =>
  putBlkK p.2.h l (some (.loop ⟨bif isNormal p.1 then .ready else .done, pendOf p.1, r.size, r.tmps, r.params, r.assign, r.body, r.defers⟩)) fun H' => some [(.bool (isNormal p.1), H')]
 else none
def isReady (s : LoopState) : Bool :=
 match s with
 | .ready => true
 | _ => false
def beginRoundA (l : Nat) (s : St) : Option St :=
 bindO (loopIn (s.h.blks.get l)) fun r => bif isReady r.state then
  putBlkK s.h l (some (.loop ⟨.busy, r.pending, r.size, r.tmps, r.params, r.assign, r.body, r.defers⟩)) fun H' => some ⟨s.tm, H', s.df⟩ else none
def yldBody (F : Fns) (l : Nat) (r : ALoop) (p : Ex × St) : Option (List VH) :=
 bif isNormal p.1 then bindO (beginRoundA l p.2) fun s => bindL (F.code ⟨some l, r.size⟩ r.body s) (roundEnd l) else none
def yldRun (F : Fns) (l : Nat) (args : List AV) (H : Heap) (r : ALoop) : Option (List VH) :=
 bindO (setParams r.size r.params args r.tmps) fun tm => bindL (F.code ⟨some l, r.size⟩ r.assign ⟨tm, H, []⟩) (yldBody F l r)
def yldB (F : Fns) (l : Nat) (args : List AV) (H : Heap) : Option (List VH) := bindO (loopIn (H.blks.get l)) (yldRun F l args H)
def fnsB (G : Tab) (F : Fns) : Fns where
 code := fun c x s => codeB x F G c s
 scope := fun c body rest s => bindL (codeB rest F G c s) (scopeEx F c body)
 call := callB F G
 yld := yldB F
def fns (G : Tab) (n : Nat) : Fns :=
 Nat.rec ⟨fun _ _ _ => none, fun _ _ _ _ => none, fun _ _ _ => none, fun _ _ _ => none⟩ (fun _ ih => fnsB G ih) n
end
end Go.Sx
