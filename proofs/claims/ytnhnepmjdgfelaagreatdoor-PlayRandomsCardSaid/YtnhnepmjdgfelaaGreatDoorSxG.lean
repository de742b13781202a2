/-
  Rules by which simp carries the executor out where values are variables; code piece by piece.
-/
import Derived.Test.YtnhnepmjdgfelaaGreatDoorSxF
set_option linter.unusedSimpArgs false
set_option linter.unusedVariables false
namespace Go.Sx
section
variable {G : Tab} {F : Fns}
theorem T.get_set_eq {α : Type} (t : T α) (k : Nat) (a : Option α) : (t.set k a).get k = a := by rw [T.get_set, if_pos rfl]
theorem T.get_set_ne {α : Type} (t : T α) {k j : Nat} (h : j ≠ k) (a : Option α) : (t.set k a).get j = t.get j := by rw [T.get_set, if_neg h]
theorem s_codeB_skip : codeB .skip = cSkip := rfl
theorem s_codeB_seq (a b : Code) : codeB (.seq a b) = cSeq (codeB a) (codeB b) := rfl
theorem s_codeB_region (i : Nat) (ops : Array Oper) (d : Bool) : codeB (.region i ops d) = cRegion i ops d := rfl
theorem s_codeB_cond (x : Operand) (a b : Code) : codeB (.cond x a b) = cCond x (codeB a) (codeB b) := rfl
theorem s_codeB_block (i : Nat) (b : Code) : codeB (.block i b) = cBlock i (codeB b) := rfl
theorem s_codeB_loop (b : Code) : codeB (.loop b) = cLoop b (codeB b) := rfl
theorem s_codeB_exit (i : Nat) : codeB (.exit i) = cExit i := rfl
theorem s_codeB_ret : codeB .ret = cRet := rfl
theorem s_region (i : Nat) (l : List Oper) (c : Ctx) (s : St) : cRegion i l.toArray false F G c s = normals (seqOps l F G c l s) := rfl
theorem s_seq (a b : CRun) (c : Ctx) (s : St) : cSeq a b F G c s = bindL (a F G c s) (contEx (b F G c)) := rfl
theorem s_bindL {α β : Type} (a : α) (f : α → Option (List β)) : bindL (some [a]) f = f a := rfl
theorem s_normals (s : St) : normals (some [s]) = some [(.normal, s)] := rfl
theorem s_contEx_normal (k : St → Outs) (s : St) : contEx k (.normal, s) = k s := rfl
theorem s_contEx_ret (k : St → Outs) (s : St) : contEx k (.ret, s) = some [(.ret, s)] := rfl
theorem s_contEx_exit (k : St → Outs) (i : Nat) (s : St) : contEx k (.exit i, s) = some [(.exit i, s)] := rfl
theorem s_ops_nil (c : Ctx) (all : List Oper) (s : St) : seqOps [] F G c all s = some [s] := rfl
theorem s_ops_cons (o : Oper) (l : List Oper) (c : Ctx) (all : List Oper) (s : St) : seqOps (o :: l) F G c all s = runOne o (seqOps l) F G c all s := rfl
theorem s_bindO {α β : Type} (a : α) (f : α → Option β) : bindO (some a) f = f a := rfl
theorem s_orUndef (v : AV) : orUndef (some v) = some v := rfl
theorem s_withH (H : Heap) (v : AV) : withH H (some v) = some (v, H) := rfl
theorem s_putTm {β : Type} (c : Ctx) (tm : T AV) (d : Tmp) (v : AV) (k : T AV → Option β) : putTm c tm (some d) v k = if d < c.size then k (tm.set d (some v)) else none := by
 unfold putTm
 by_cases h : d < c.size
 ·rw [if_pos h]
  have : Nat.blt d c.size = true := by simpa [Nat.blt_eq] using h
  simp only [this, cond_true, forceV_eq, T.setK_eq]
 ·rw [if_neg h]
  have : Nat.blt d c.size = false := by
   cases hb : Nat.blt d c.size
   ·rfl
   ·exact absurd (blt_lt hb) h
  simp only [this, cond_false]
theorem s_putTm0 {β : Type} (c : Ctx) (tm : T AV) (v : AV) (k : T AV → Option β) : putTm c tm none v k = k tm := rfl
theorem s_aev_tmp (tm : T AV) (t : Tmp) : aev G tm (.tmp t) = orUndef (tm.get t) := rfl
theorem s_aev_const (tm : T AV) (v : Value) : aev G tm (.const v) = ofValue v := rfl
theorem s_dstOf (all : List Oper) (j : Nat) : dstOf all j = bindO (all[j]?) fun g => g.dst := by unfold dstOf; rw [nth_eq]
theorem s_isBool_tt : isBool true (some (.bool true)) = true := rfl
theorem s_isBool_tf : isBool true (some (.bool false)) = false := rfl
theorem s_isBool_ft : isBool false (some (.bool true)) = false := rfl
theorem s_isBool_ff : isBool false (some (.bool false)) = true := rfl
theorem s_code (n : Nat) (c : Ctx) (x : Code) (s : St) : (fns G (n + 1)).code c x s = codeB x (fns G n) G c s := rfl
theorem s_call (n : Nat) (f : FuncId) (args : List AV) (H : Heap) : (fns G (n + 1)).call f args H = bindO (G.funcs.get f) (callFn (fns G n) G args H) := rfl
theorem s_merged (b : Nat) (p : VH) : merged b (some [p]) = some [p] := rfl
theorem s_endCall_ret (rs : List ResultVar) (tm : T AV) (H : Heap) : endCall F G rs (.ret, ⟨tm, H, []⟩) = resOut G tm rs H := rfl
theorem s_endCall_normal (rs : List ResultVar) (tm : T AV) (H : Heap) : endCall F G rs (.normal, ⟨tm, H, []⟩) = resOut G tm rs H := rfl
theorem s_results_nil (tm : T AV) (H : Heap) : resultsA G tm H [] = some [] := rfl
theorem s_results_cons (tm : T AV) (H : Heap) (r : ResultVar) (l : List ResultVar) : resultsA G tm H (r :: l) = consOO (resultA G tm H r) (resultsA G tm H l) := rfl
theorem s_consOO {α : Type} (a : α) (l : List α) : consOO (some a) (some l) = some (a :: l) := rfl
theorem s_oneOf (v : AV) : oneOf [v] = v := rfl
theorem s_oneOf2 (v u : AV) (l : List AV) : oneOf (v :: u :: l) = .tuple (v :: u :: l) := rfl
theorem s_run (c : Ctx) (all : List Oper) (s : St) (d : Option Tmp) (op : Op) (t : TypeId) (p : String) (a : Array Edge) (ih : Run) :
  runOne ⟨d, op, t, p, a, none⟩ ih F G c all s = runKind (kindOf op) ⟨d, op, t, p, a, none⟩ ih F G c all s := rfl
theorem s_runG (c : Ctx) (all : List Oper) (s : St) (d : Option Tmp) (op : Op) (t : TypeId) (p : String) (a : Array Edge) (j : Nat) (w : Bool) (ih : Run) :
  runOne ⟨d, op, t, p, a, some (j, w)⟩ ih F G c all s =
   bif guardA all s.tm j w then runKind (kindOf op) ⟨d, op, t, p, a, some (j, w)⟩ ih F G c all s else putTm c s.tm d undefA fun tm => ih F G c all ⟨tm, s.h, s.df⟩ := rfl
theorem s_kind_pure (o : Oper) (ih : Run) (c : Ctx) (all : List Oper) (s : St) :
  runKind .pure o ih F G c all s = bindO (opN o.op G s.tm s.h) fun p => putTm c s.tm o.dst p.1 fun tm => ih F G c all ⟨tm, p.2, s.df⟩ := rfl
theorem s_kind_read (o : Oper) (ih : Run) (c : Ctx) (all : List Oper) (s : St) :
  runKind .read o ih F G c all s = bindO (opN o.op G s.tm s.h) fun p => putTm c s.tm o.dst p.1 fun tm => ih F G c all ⟨tm, p.2, s.df⟩ := rfl
theorem s_kind_alloc (o : Oper) (ih : Run) (c : Ctx) (all : List Oper) (s : St) :
  runKind .alloc o ih F G c all s = bindO (opN o.op G s.tm s.h) fun p => putTm c s.tm o.dst p.1 fun tm => ih F G c all ⟨tm, p.2, s.df⟩ := rfl
theorem s_kind_eff (o : Oper) (ih : Run) (c : Ctx) (all : List Oper) (s : St) :
  runKind .eff o ih F G c all s = bindL (opE o.op F G c s.tm s.df s.h) fun p => putTm c s.tm o.dst p.1 fun tm => ih F G c all ⟨tm, p.2.2, p.2.1⟩ := rfl
theorem s_newRowA {β : Type} (H : Heap) (e : TypeId) (x : Bool) (l : List AV) (k : Nat → Heap → Option β) : newRowA H e x l k = bif allOne l then k H.next (H.push (.cells e x l)) else none := by
 unfold newRowA; rw [forceVs_eq, newA_eq]
theorem s_allOne_nil : allOne [] = true := rfl
theorem s_allOne_cons (v : AV) (l : List AV) : allOne (v :: l) = bif oneCell v then allOne l else false := rfl
theorem s_push_next (H : Heap) (o : ABlk) : (H.push o).next = H.next + 1 := rfl
theorem s_push_same (H : Heap) (o : ABlk) : (H.push o).blks.get H.next = some o := by rw [Heap.get_push]; simp
theorem s_push_other (H : Heap) (o : ABlk) {b : Nat} (h : b ≠ H.next) : (H.push o).blks.get b = H.blks.get b := by rw [Heap.get_push, if_neg h]
theorem s_load (H : Heap) (b off : Nat) : loadA H b off = cellIn (H.blks.get b) off := rfl
theorem s_cellIn (e : TypeId) (x : Bool) (l : List AV) (off : Nat) : cellIn (some (.cells e x l)) off = l[off]? := nth_eq l off
theorem s_loadCells (H : Heap) (b off k : Nat) : loadCellsA H b off k = bif Nat.beq k 0 then some [] else cellsIn (H.blks.get b) off k := rfl
theorem s_cellsIn (e : TypeId) (x : Bool) (l : List AV) (off k : Nat) : cellsIn (some (.cells e x l)) off k = if k ≤ (l.drop off).length then some ((l.drop off).take k) else none := by
 show takeN (dropN l off) k = _; rw [dropN_eq, takeN_eq]
theorem s_partTrue {t : TypeId} (h : G.isAgg t = some true) {z : Nat} (hz : G.size t = some z) (cs : List AV) (off : Nat) : partA G t cs off = aggO (if z ≤ (cs.drop off).length then some ((cs.drop off).take z) else none) := by
 unfold partA; rw [h]; simp only [hz, bindO]; rw [dropN_eq, takeN_eq]
theorem s_partFalse {t : TypeId} (h : G.isAgg t = some false) (cs : List AV) (off : Nat) : partA G t cs off = cs[off]? := by
 unfold partA; rw [h]; simp only []; rw [nth_eq]
theorem s_varTrue {t : TypeId} (h : G.isAgg t = some true) {z : Nat} (hz : G.size t = some z) (H : Heap) (b off : Nat) : loadVarA G H t b off = aggO (loadCellsA H b off z) := by
 unfold loadVarA; rw [h]; simp only [hz, bindO]
theorem s_varFalse {t : TypeId} (h : G.isAgg t = some false) (H : Heap) (b off : Nat) : loadVarA G H t b off = loadA H b off := by
 unfold loadVarA; rw [h]
theorem s_aggO (l : List AV) : aggO (some l) = some (.agg l) := rfl
theorem s_aevs_nil (tm : T AV) : aevs G tm [] = some [] := rfl
theorem s_aevs_cons (tm : T AV) (o : Operand) (l : List Operand) : aevs G tm (o :: l) = consOO (aev G tm o) (aevs G tm l) := rfl
theorem s_app_nil (l : List AV) : app [] l = l := rfl
theorem s_app_cons (a : AV) (l m : List AV) : app (a :: l) m = a :: app l m := rfl
theorem s_outs (df : List ADefer) (v : AV) (H : Heap) : outs df (some [(v, H)]) = some [(v, df, H)] := rfl
theorem s_bnot_t : bnot true = false := rfl
theorem s_bnot_f : bnot false = true := rfl
theorem s_codeO (ov : Ov) (n : Nat) (c : Ctx) (x : Code) (s : St) : (fnsO G ov (n + 1)).code c x s = codeB x (fnsO G ov n) G c s := rfl
theorem s_callO (ov : Ov) (n : Nat) (f : FuncId) (args : List AV) (H : Heap) : (fnsO G ov (n + 1)).call f args H = orOv (ov f args H) (callB (fnsO G ov n) G f args H) := rfl
theorem s_callB (f : FuncId) (args : List AV) (H : Heap) : callB F G f args H = bindO (G.funcs.get f) (callFn F G args H) := rfl
theorem s_orOv_some (l : List VH) (d : Option (List VH)) : orOv (some l) d = some l := rfl
theorem s_orOv_none (d : Option (List VH)) : orOv none d = d := rfl
theorem s_addOv_eq (ov : Ov) (f : FuncId) (g : List AV → Heap → Option (List VH)) (args : List AV) (H : Heap) : addOv ov f g f args H = g args H := by unfold addOv; rw [if_pos rfl]
theorem s_addOv_ne (ov : Ov) {f f' : FuncId} (h : f' ≠ f) (g : List AV → Heap → Option (List VH)) (args : List AV) (H : Heap) : addOv ov f g f' args H = ov f' args H := by unfold addOv; rw [if_neg h]
theorem s_block (i : Nat) (b : CRun) (c : Ctx) (s : St) : cBlock i b F G c s = bindL (b F G c s) (blockEx i) := rfl
theorem s_loop (x : Code) (b : CRun) (c : Ctx) (s : St) : cLoop x b F G c s = bindL (b F G c s) (contEx (F.code c (.loop x))) := rfl
theorem s_blockEx_normal (i : Nat) (s : St) : blockEx i (.normal, s) = some [(.normal, s)] := rfl
theorem s_blockEx_ret (i : Nat) (s : St) : blockEx i (.ret, s) = some [(.ret, s)] := rfl
theorem s_blockEx_exit (i j : Nat) (s : St) : blockEx i (.exit j, s) = if j = i then some [(.normal, s)] else some [(.exit j, s)] := by
 show (bif Nat.beq j i then some [(Ex.normal, s)] else some [(Ex.exit j, s)]) = _
 by_cases h : j = i
 ·rw [if_pos h, beq_true h]; rfl
 ·rw [if_neg h, beq_false h]; rfl
theorem s_iblt (a b : Int) : iblt a b = decide (a < b) := iblt_eq a b
theorem s_ibeq (a b : Int) : ibeq a b = decide (a = b) := by rw [ibeq_eq]; rfl
theorem s_bnot (b : Bool) : bnot b = !b := bnot_eq b
theorem s_wrap {x : Int} (h : -9223372036854775808 ≤ x) (h' : x ≤ 9223372036854775807) : awrap .i64 x = x := by
 rw [awrap_eq]; exact IntWalk.i64_in x ⟨by omega, by omega⟩
theorem s_inB (k : IntKind) (x : Int) (n : Nat) : inB (.int k x) n = if 0 ≤ x ∧ x < (n : Int) then some x.toNat else none := by
 cases x with
 | ofNat m =>
  show (bif Nat.blt m n then some m else none) = _
  by_cases h : m < n
  ·rw [if_pos ⟨Int.natCast_nonneg m, by simp; exact h⟩]
   have : Nat.blt m n = true := by simpa [Nat.blt_eq] using h
   rw [this]; rfl
  ·rw [if_neg (by simp; omega)]
   have : Nat.blt m n = false := by
    cases hb : Nat.blt m n
    ·rfl
    ·exact absurd (blt_lt hb) h
   rw [this]; rfl
 | negSucc m => rw [if_neg (by omega)]; rfl
theorem s_indexSlice {t e : TypeId} (hu : G.und t = some (.slice e)) {z : Nat} (hz : G.size e = some z) (b off n : Nat) (q : Bool) (c : Nat) (k : IntKind) (x : Int) :
  indexAddrA G t (.slice b off n q c) (.int k x) = if 0 ≤ x ∧ x < (n : Int) then some (.ptr b (off + x.toNat * z)) else none := by
 unfold indexAddrA
 rw [hu]
 show bindO (inB (.int k x) n) (fun m => bindO (G.size e) fun z => some (AV.ptr b (off + m * z))) = _
 rw [s_inB]
 by_cases h : 0 ≤ x ∧ x < (n : Int)
 ·rw [if_pos h, if_pos h]; simp only [bindO, hz]
 ·rw [if_neg h, if_neg h]; rfl
theorem s_lenSlice {t e : TypeId} (hu : G.und t = some (.slice e)) (H : Heap) (b off n : Nat) (q : Bool) (c : Nat) : lenA G H t (.slice b off n q c) = some (.int .i64 (n : Int)) := by
 unfold lenA; rw [hu]; rfl
theorem s_lenNil {t e : TypeId} (hu : G.und t = some (.slice e)) (H : Heap) : lenA G H t .nilslice = some (.int .i64 0) := by
 unfold lenA; rw [hu]; rfl
theorem s_lenStr {t : TypeId} (hu : G.und t = some .string) (H : Heap) (s : List UInt8) : lenA G H t (.str s) = some (.int .i64 (s.length : Int)) := by
 unfold lenA; rw [hu]
 show some (natV (len s)) = _
 rw [len_eq]; rfl
noncomputable def stepN (r : Option VH) (d : Option Tmp) (l : List Oper) (F : Fns) (G : Tab) (c : Ctx) (all : List Oper) (s : St) : Option (List St) :=
 bindO r fun p => putTm c s.tm d p.1 fun tm => seqOps l F G c all ⟨tm, p.2, s.df⟩
noncomputable def stepE (r : Option (List EOut)) (d : Option Tmp) (l : List Oper) (F : Fns) (G : Tab) (c : Ctx) (all : List Oper) (s : St) : Option (List St) :=
 bindL r fun p => putTm c s.tm d p.1 fun tm => seqOps l F G c all ⟨tm, p.2.2, p.2.1⟩
noncomputable def stepK (k : Kind) (op : Op) (d : Option Tmp) (l : List Oper) (F : Fns) (G : Tab) (c : Ctx) (all : List Oper) (s : St) : Option (List St) :=
 match k with
 | .eff => stepE (opE op F G c s.tm s.df s.h) d l F G c all s
 | _ => stepN (opN op G s.tm s.h) d l F G c all s
noncomputable def stepG (b : Bool) (op : Op) (d : Option Tmp) (l : List Oper) (F : Fns) (G : Tab) (c : Ctx) (all : List Oper) (s : St) : Option (List St) :=
 bif b then stepK (kindOf op) op d l F G c all s else putTm c s.tm d undefA fun tm => seqOps l F G c all ⟨tm, s.h, s.df⟩
theorem z_ops (o : Option Tmp) (op : Op) (t : TypeId) (p : String) (a : Array Edge) (l : List Oper) (c : Ctx) (all : List Oper) (s : St) :
  seqOps (⟨o, op, t, p, a, none⟩ :: l) F G c all s = stepK (kindOf op) op o l F G c all s := by
 show runKind (kindOf op) ⟨o, op, t, p, a, none⟩ (seqOps l) F G c all s = _
 cases kindOf op <;> rfl
theorem z_opsG (o : Option Tmp) (op : Op) (t : TypeId) (p : String) (a : Array Edge) (j : Nat) (w : Bool) (l : List Oper) (c : Ctx) (all : List Oper) (s : St) :
  seqOps (⟨o, op, t, p, a, some (j, w)⟩ :: l) F G c all s = stepG (guardA all s.tm j w) op o l F G c all s := by
 show (bif guardA all s.tm j w then runKind (kindOf op) ⟨o, op, t, p, a, some (j, w)⟩ (seqOps l) F G c all s else putTm c s.tm o undefA fun tm => seqOps l F G c all ⟨tm, s.h, s.df⟩) = _
 unfold stepG
 cases guardA all s.tm j w
 ·rfl
 ·cases kindOf op <;> rfl
theorem z_G_true (op : Op) (d : Option Tmp) (l : List Oper) (c : Ctx) (all : List Oper) (s : St) : stepG true op d l F G c all s = stepK (kindOf op) op d l F G c all s := rfl
theorem z_G_false (op : Op) (d : Tmp) (l : List Oper) (c : Ctx) (all : List Oper) (s : St) (h : d < c.size) : stepG false op (some d) l F G c all s = seqOps l F G c all ⟨s.tm.set d (some undefA), s.h, s.df⟩ := by
 show putTm c s.tm (some d) undefA _ = _
 rw [s_putTm, if_pos h]
theorem z_G_false0 (op : Op) (l : List Oper) (c : Ctx) (all : List Oper) (s : St) : stepG false op none l F G c all s = seqOps l F G c all s := rfl
theorem z_K_pure (op : Op) (d : Option Tmp) (l : List Oper) (c : Ctx) (all : List Oper) (s : St) : stepK .pure op d l F G c all s = stepN (opN op G s.tm s.h) d l F G c all s := rfl
theorem z_K_read (op : Op) (d : Option Tmp) (l : List Oper) (c : Ctx) (all : List Oper) (s : St) : stepK .read op d l F G c all s = stepN (opN op G s.tm s.h) d l F G c all s := rfl
theorem z_K_alloc (op : Op) (d : Option Tmp) (l : List Oper) (c : Ctx) (all : List Oper) (s : St) : stepK .alloc op d l F G c all s = stepN (opN op G s.tm s.h) d l F G c all s := rfl
theorem z_K_eff (op : Op) (d : Option Tmp) (l : List Oper) (c : Ctx) (all : List Oper) (s : St) : stepK .eff op d l F G c all s = stepE (opE op F G c s.tm s.df s.h) d l F G c all s := rfl
theorem z_N (v : AV) (H : Heap) (d : Tmp) (l : List Oper) (c : Ctx) (all : List Oper) (s : St) (h : d < c.size) : stepN (some (v, H)) (some d) l F G c all s = seqOps l F G c all ⟨s.tm.set d (some v), H, s.df⟩ := by
 show putTm c s.tm (some d) v _ = _
 rw [s_putTm, if_pos h]
theorem z_N0 (v : AV) (H : Heap) (l : List Oper) (c : Ctx) (all : List Oper) (s : St) : stepN (some (v, H)) none l F G c all s = seqOps l F G c all ⟨s.tm, H, s.df⟩ := rfl
theorem z_E (v : AV) (df : List ADefer) (H : Heap) (d : Tmp) (l : List Oper) (c : Ctx) (all : List Oper) (s : St) (h : d < c.size) :
  stepE (some [(v, df, H)]) (some d) l F G c all s = seqOps l F G c all ⟨s.tm.set d (some v), H, df⟩ := by
 show putTm c s.tm (some d) v _ = _
 rw [s_putTm, if_pos h]
theorem z_E0 (v : AV) (df : List ADefer) (H : Heap) (l : List Oper) (c : Ctx) (all : List Oper) (s : St) : stepE (some [(v, df, H)]) none l F G c all s = seqOps l F G c all ⟨s.tm, H, df⟩ := rfl
noncomputable def binR (G : Tab) (op : BinOp) (t : TypeId) (k : Bool) (a b : Option AV) : Option AV := bindO a fun a => bindO b fun b => binA G op t k a b
theorem z_opBin (op : BinOp) (t : TypeId) (x y : Operand) (u : TypeId) (tm : T AV) (H : Heap) : opN (.binOp op t x y u) G tm H = withH H (binR G op t (orB (isConstO x) (isConstO y)) (aev G tm x) (aev G tm y)) := rfl
theorem z_binR (op : BinOp) (t : TypeId) (k : Bool) (a b : AV) : binR G op t k (some a) (some b) = binA G op t k a b := rfl
noncomputable def idxR (G : Tab) (t : TypeId) (a b : Option AV) : Option AV := bindO a fun a => bindO b fun b => indexAddrA G t a b
theorem z_opIdx (t : TypeId) (x y : Operand) (tm : T AV) (H : Heap) : opN (.indexAddr t x y) G tm H = withH H (idxR G t (aev G tm x) (aev G tm y)) := rfl
theorem z_idxR (t : TypeId) (a b : AV) : idxR G t (some a) (some b) = indexAddrA G t a b := rfl
noncomputable def lookR (G : Tab) (H : Heap) (t : TypeId) (ok : Bool) (a b : Option AV) : Option AV := bindO a fun a => bindO b fun b => lookupA G H t ok a b
theorem z_opLook (t : TypeId) (x y : Operand) (ok : Bool) (tm : T AV) (H : Heap) : opN (.lookup t x y ok) G tm H = withH H (lookR G H t ok (aev G tm x) (aev G tm y)) := rfl
theorem z_lookR (H : Heap) (t : TypeId) (ok : Bool) (a b : AV) : lookR G H t ok (some a) (some b) = lookupA G H t ok a b := rfl
noncomputable def storeR (G : Tab) (H : Heap) (t : TypeId) (a b : Option AV) : Option Heap := bindO a fun a => bindO b fun b => storePtr G H t a b
theorem z_opStore (t : TypeId) (x y : Operand) (c : Ctx) (tm : T AV) (df : List ADefer) (H : Heap) : opE (.store t x y) F G c tm df H = out1 df (storeR G H t (aev G tm x) (aev G tm y)) := rfl
theorem z_storeR (H : Heap) (t : TypeId) (a b : AV) : storeR G H t (some a) (some b) = storePtr G H t a b := rfl
theorem z_out1 (df : List ADefer) (H : Heap) : out1 df (some H) = some [(undefA, df, H)] := rfl
theorem z_out2 (df : List ADefer) (v : AV) (H : Heap) : out2 df (some (v, H)) = some [(v, df, H)] := rfl
noncomputable def mapR (G : Tab) (H : Heap) (t : TypeId) (a b x : Option AV) : Option Heap := bindO a fun a => bindO b fun b => bindO x fun x => mapUpdateA G H t a b x
theorem z_opMap (t : TypeId) (x y z : Operand) (c : Ctx) (tm : T AV) (df : List ADefer) (H : Heap) : opE (.mapUpdate t x y z) F G c tm df H = out1 df (mapR G H t (aev G tm x) (aev G tm y) (aev G tm z)) := rfl
theorem z_mapR (H : Heap) (t : TypeId) (a b x : AV) : mapR G H t (some a) (some b) (some x) = mapUpdateA G H t a b x := rfl
noncomputable def mkR (G : Tab) (H : Heap) (t : TypeId) (a b : Option AV) : Option VH := bindO a fun a => bindO b fun b => makeSliceA G H t a b
theorem z_opMk (t : TypeId) (x y : Operand) (tm : T AV) (H : Heap) : opN (.makeSlice t x y) G tm H = mkR G H t (aev G tm x) (aev G tm y) := rfl
theorem z_mkR (H : Heap) (t : TypeId) (a b : AV) : mkR G H t (some a) (some b) = makeSliceA G H t a b := rfl
noncomputable def callR (F : Fns) (G : Tab) (f : Option AV) (args : Option (List AV)) (df : List ADefer) (H : Heap) : Option (List EOut) :=
 bindO args fun args => orX (outs df (bindO f (applyV F args H))) (outs df (bindO f (extV G args H)))
theorem s_orX (l : List EOut) (d : Option (List EOut)) : orX (some l) d = some l := rfl
theorem z_opCall (f : Operand) (as : Array Operand) (ts : Array TypeId) (c : Ctx) (tm : T AV) (df : List ADefer) (H : Heap) :
  opE (.call ⟨.value f, as, ts⟩) F G c tm df H = callR F G (aev G tm f) (aevs G tm as.toList) df H := rfl
theorem z_callR (f : FuncId) (first cap args : List AV) (df : List ADefer) (H : Heap) : callR F G (some (.func (.func f) first cap)) (some args) df H = orX (outs df (F.call f (app first (app args cap)) H)) (outs df (extV G args H (.func (.func f) first cap))) := rfl
theorem z_len (as : Array Operand) (t : TypeId) (ts : List TypeId) (tm : T AV) (H : Heap) :
  opN (.call ⟨.builtin .len, as, (t :: ts).toArray⟩) G tm H = withH H (bindO (aevs G tm as.toList) fun xs => fst1 xs (lenA G H t)) := rfl
theorem z_opMove (x : Operand) (tm : T AV) (H : Heap) : opN (.move x) G tm H = withH H (aev G tm x) := rfl
theorem z_opAssign (x : Operand) (tm : T AV) (H : Heap) : opN (.assign x) G tm H = withH H (aev G tm x) := rfl
noncomputable def pickR (c a b : Option AV) : Option AV := bindO c fun v => match v with
 | .bool true => a
 | .bool false => b
 | _ => none
theorem z_opPick (x a b : Operand) (tm : T AV) (H : Heap) : opN (.pick x a b) G tm H = withH H (pickR (aev G tm x) (aev G tm a) (aev G tm b)) := by
 show withH H (bindO (aev G tm x) (pickB G tm a b)) = _
 unfold pickR
 cases aev G tm x with
 | none => rfl
 | some v => cases v <;> rfl
theorem z_pickR_t (a b : Option AV) : pickR (some (.bool true)) a b = a := rfl
theorem z_pickR_f (a b : Option AV) : pickR (some (.bool false)) a b = b := rfl
theorem z_opUn (op : UnOp) (t : TypeId) (x : Operand) (tm : T AV) (H : Heap) : opN (.unOp op t x) G tm H = withH H (bindO (aev G tm x) (unA op)) := rfl
theorem z_opBox (t : TypeId) (x : Operand) (tm : T AV) (H : Heap) : opN (.box t x) G tm H = bindO (aev G tm x) (boxA H t) := rfl
theorem z_opAlloc (t : TypeId) (tm : T AV) (H : Heap) : opN (.alloc t) G tm H = bindO (G.zero t) (boxA H t) := rfl
theorem z_opFA (t : TypeId) (x : Operand) (f : Nat) (tm : T AV) (H : Heap) : opN (.fieldAddr t x f) G tm H = withH H (bindO (aev G tm x) (fieldAddrA G t f)) := rfl
theorem z_opField (t : TypeId) (x : Operand) (f : Nat) (tm : T AV) (H : Heap) : opN (.field t x f) G tm H = withH H (bindO (aev G tm x) (fieldA G t f)) := rfl
theorem z_opLoad (t : TypeId) (x : Operand) (tm : T AV) (H : Heap) : opN (.load t x) G tm H = withH H (bindO (aev G tm x) (loadPtr G H t)) := rfl
theorem z_opNil (x : Operand) (tm : T AV) (H : Heap) : opN (.nilCheck x) G tm H = withH H (bindO (aev G tm x) nilCheckA) := rfl
theorem z_opExtract (x : Operand) (i : Nat) (tm : T AV) (H : Heap) : opN (.extract x i) G tm H = withH H (bindO (aev G tm x) (extractA i)) := rfl
theorem z_opBuild (t : TypeId) (ps : List (Nat × Operand)) (tm : T AV) (H : Heap) : opN (.build t ps.toArray) G tm H = withH H (bindO (evParts G tm ps) (buildA G t)) := rfl
theorem z_opBS (t : TypeId) (n : Nat) (ps : List (Nat × Operand)) (tm : T AV) (H : Heap) : opN (.buildSlice t n ps.toArray) G tm H = bindO (evParts G tm ps) (buildSliceA G H t n) := rfl
theorem z_opMM (t : TypeId) (tm : T AV) (H : Heap) : opN (.makeMap t none) G tm H = some (.map H.next, H.push (.map [] 0)) := by
 show newMap H = _
 unfold newMap
 rw [newA_eq]
theorem z_evParts_nil (tm : T AV) : evParts G tm [] = some [] := rfl
theorem z_evParts_cons (tm : T AV) (i : Nat) (o : Operand) (l : List (Nat × Operand)) : evParts G tm ((i, o) :: l) = consOO (pairO i (aev G tm o)) (evParts G tm l) := rfl
theorem z_pairO (i : Nat) (v : AV) : pairO i (some v) = some (i, v) := rfl
theorem s_aev_func (tm : T AV) (f : FuncId) : aev G tm (.func f) = some (.func (.func f) [] []) := rfl
theorem s_aev_glob (tm : T AV) (g : Nat) (h : Nat.blt g G.nglob = true) : aev G tm (.global g) = some (.ptr g 0) := by
 show (bif Nat.blt g G.nglob then some (AV.ptr g 0) else none) = _
 rw [h]; rfl
theorem s_bigIn (e : TypeId) (n : Nat) (z : List AV) (off : Nat) : cellIn (some (.big e n z)) off = if off < n then z[off % z.length]? else none := by
 show (bif Nat.blt off n then nth z (off % len z) else none) = _
 rw [nth_eq, len_eq]
 by_cases h : off < n
 ·rw [if_pos h]
  have : Nat.blt off n = true := by simpa [Nat.blt_eq] using h
  rw [this]; rfl
 ·rw [if_neg h]
  have : Nat.blt off n = false := by
   cases hb : Nat.blt off n
   ·rfl
   ·exact absurd (blt_lt hb) h
  rw [this]; rfl
structure Grows (H H' : Heap) : Prop where
 next : H.next ≤ H'.next
 get : ∀ b, b < H.next → H'.blks.get b = H.blks.get b
theorem Grows.refl (H : Heap) : Grows H H := ⟨Nat.le_refl _, fun _ _ => rfl⟩
theorem Grows.trans {a b c : Heap} (h : Grows a b) (h' : Grows b c) : Grows a c :=
 ⟨Nat.le_trans h.next h'.next, fun x hx => by rw [h'.get x (Nat.lt_of_lt_of_le hx h.next), h.get x hx]⟩
theorem Grows.push (H : Heap) (o : ABlk) : Grows H (H.push o) := ⟨Nat.le_succ _, fun b hb => s_push_other H o (Nat.ne_of_lt hb)⟩
def Neat (H : Heap) : Prop := ∀ b o, H.blks.get b = some o → b < H.next
theorem Neat.push {H : Heap} (h : Neat H) (o : ABlk) : Neat (H.push o) := fun b o' hb => by
 rw [Heap.get_push] at hb
 split at hb
 ·rename_i e; rw [e]; exact Nat.lt_succ_self _
 ·exact Nat.lt_succ_of_lt (h b o' hb)
theorem Neat.put {H : Heap} (h : Neat H) {b : Nat} (hb : b < H.next) (o : Option ABlk) : Neat (putBlk H b o) := fun x o' hx => by
 rw [Heap.get_put] at hx
 rw [Heap.next_put]
 split at hx
 ·rename_i e; rw [e]; exact hb
 ·exact h x o' hx
theorem callTo_pure {P : Program} (TT : TabOk P G) {ov : Ov} (ho : OvOk P G ov) {n : Nat} {f : FuncId} {args : List AV} {H H' : Heap} {v : AV} (h : (fnsO G ov n).call f args H = some [(v, H')]) (hg : Grows H H') (hn : Neat H)
  (hv : ltV H.next v) : CallTo P G f args H [(v, H)] :=
 (callTo_run TT ho h).cut fun p hp => by
  simp only [List.mem_singleton] at hp; subst hp
  exact ⟨(v, H), List.mem_singleton.2 rfl, .pure hg.next hg.get hn hv⟩
end
end Go.Sx
namespace Go.Sx
section
variable {G : Tab} {F : Fns}
theorem AV.beq_refl' (v : AV) : AV.beq v v = true := by
 have hn : ∀ n : Nat, Nat.beq n n = true := fun n => Nat.beq_refl n
 have hb : ∀ b : Bool, bbeq b b = true := fun b => by cases b <;> rfl
 exact AV.rec (motive_1 := fun v => AV.beq v v = true) (motive_2 := fun l => AV.beqL l l = true)
  (fun b => by simp only [AV.beq]; exact hb b) (fun k n => by simp only [AV.beq, if_true, ibeq_eq, beq_self_eq_true]) (fun s => by simp only [AV.beq, sbeq_eq, beq_self_eq_true])
  (fun b o => by simp only [AV.beq, hn, cond_true]) (by simp only [AV.beq]) (fun b o l q c => by simp only [AV.beq, hn, hb, cond_true]) (by simp only [AV.beq]) (fun b o s c => by simp only [AV.beq, hn, cond_true, if_true]) (fun r => by simp only [AV.beq, hn])
  (by simp only [AV.beq]) (fun f x y hx hy => by simp only [AV.beq, if_true, hx, hy, cond_true]) (fun l => by simp only [AV.beq, hn]) (by simp only [AV.beq]) (fun t v h => by simp only [AV.beq, hn, h, cond_true])
  (by simp only [AV.beq]) (fun l h => by simp only [AV.beq, h]) (fun l h => by simp only [AV.beq, h]) (by simp only [AV.beqL]) (fun a l ha hl => by simp only [AV.beqL, ha, hl, cond_true]) v
noncomputable def doneOf (l : List RO) (done : Nat) : Nat := List.rec (fun m => m) (fun r _ ih m => ih (Nat.lor m (Nat.pow 2 r.i))) l done
noncomputable def chainA (l : List RO) (done : Nat) : Bool := List.rec (fun _ => true) (fun r _ ih m => bif ready r m then (bif isAlloc r.kind then false else ih (Nat.lor m (Nat.pow 2 r.i))) else false) l done
noncomputable def sealedL (m : Nat) (l : List RO) : Bool := List.rec true (fun r _ ih => bif Nat.testBit m r.i then ih else false) l
theorem bindO_assoc {α β γ : Type} (o : Option α) (f : α → Option β) (g : β → Option γ) : bindO (bindO o f) g = bindO o fun a => bindO (f a) g := by cases o <;> rfl
theorem bindO_ite {α β : Type} (b : Bool) (x y : Option α) (f : α → Option β) : bindO (bif b then x else y) f = bif b then bindO x f else bindO y f := by cases b <;> rfl
theorem putTm_bind {α β : Type} (c : Ctx) (tm : T AV) (d : Option Tmp) (v : AV) (k : T AV → Option α) (f : α → Option β) : bindO (putTm c tm d v k) f = putTm c tm d v fun tm => bindO (k tm) f := by
 cases d with
 | none => rfl
 | some d => rw [s_putTm, s_putTm]; by_cases h : d < c.size <;> simp [h] <;> rfl
noncomputable def stepA (G : Tab) (c : Ctx) (all : List Oper) (r : RO) (d : DS) : Option DS :=
 bif wantedA all r.o.guard d.s.tm then (bindO (opN r.o.op G d.s.tm d.s.h) fun p => putTm c d.s.tm r.o.dst p.1 fun tm => some ⟨Nat.lor d.done (Nat.pow 2 r.i), ⟨tm, p.2, d.s.df⟩, keepIt r d.s.tm p.1 d.kept⟩)
 else putTm c d.s.tm r.o.dst undefA fun tm => some ⟨Nat.lor d.done (Nat.pow 2 r.i), ⟨tm, d.s.h, d.s.df⟩, d.kept⟩
noncomputable def runA (G : Tab) (c : Ctx) (all : List Oper) (l : List RO) (d : DS) : Option DS := List.rec (fun d => some d) (fun r _ ih d => bindO (stepA G c all r d) ih) l d
theorem runA_cons (c : Ctx) (all : List Oper) (r : RO) (l : List RO) (d : DS) : runA G c all (r :: l) d = bindO (stepA G c all r d) (runA G c all l) := rfl
theorem bindO_eq_some {α β : Type} {o : Option α} {f : α → Option β} {b : β} (h : bindO o f = some b) : ∃ a, o = some a ∧ f a = some b := bindO_some h
theorem stepA_done {c : Ctx} {all : List Oper} {r : RO} {d d' : DS} (h : stepA G c all r d = some d') : d'.done = Nat.lor d.done (Nat.pow 2 r.i) := by
 unfold stepA at h
 cases hw : wantedA all r.o.guard d.s.tm
 ·rw [hw, cond_false] at h
  obtain ⟨_, h⟩ := putTm_split h
  simp only [Option.some.injEq] at h; subst h; rfl
 ·rw [hw, cond_true] at h
  obtain ⟨p, _, h⟩ := bindO_some h
  obtain ⟨_, h⟩ := putTm_split h
  simp only [Option.some.injEq] at h; subst h; rfl
theorem runA_done {c : Ctx} {all : List Oper} : ∀ {l : List RO} {d d' : DS}, runA G c all l d = some d' → d'.done = doneOf l d.done
 | [], d, d', h => by have h : some d = some d' := h; simp only [Option.some.injEq] at h; subst h; rfl
 | r :: l, d, d', h => by
  obtain ⟨e, h1, h2⟩ := bindO_some h
  rw [runA_done h2, stepA_done h1]; rfl
theorem saturDo_eq {c : Ctx} {r : RO} {d : DS} {k : DK} : saturDo G c r d k = bindO (bindO (opN r.o.op G d.s.tm d.s.h) fun p => putTm c d.s.tm r.o.dst p.1 fun tm => some ⟨Nat.lor d.done (Nat.pow 2 r.i), ⟨tm, p.2, d.s.df⟩, keepIt r d.s.tm p.1 d.kept⟩) k := by
 unfold saturDo
 rw [bindO_assoc]
 congr 1; funext p
 rw [putTm_bind]
 congr 1; funext tm
 rw [forceN_eq]; rfl
theorem saturSkip_eq {c : Ctx} {r : RO} {d : DS} {k : DK} : saturSkip c r d k = bindO (putTm c d.s.tm r.o.dst undefA fun tm => some ⟨Nat.lor d.done (Nat.pow 2 r.i), ⟨tm, d.s.h, d.s.df⟩, d.kept⟩) k := by
 unfold saturSkip
 rw [putTm_bind]
 congr 1; funext tm
 rw [forceN_eq]; rfl
theorem satur_runA {c : Ctx} {all : List Oper} {R : List RO} {k : DK} : ∀ {A : List RO} {d : DS}, chainA A d.done = true → satur G c all (A ++ R) k d = bindO (runA G c all A d) (satur G c all R k)
 | [], d, _ => rfl
 | r :: A, d, h => by
  have h : (bif ready r d.done then (bif isAlloc r.kind then false else chainA A (Nat.lor d.done (Nat.pow 2 r.i))) else false) = true := h
  cases hr : ready r d.done
  ·rw [hr] at h; simp at h
  ·cases ha : isAlloc r.kind
   ·rw [hr, ha] at h
    simp only [cond_true, cond_false] at h
    show (bif ready r d.done then (bif wantedA all r.o.guard d.s.tm then saturDo G c r d (satur G c all (A ++ R) k) else saturSkip c r d (satur G c all (A ++ R) k)) else satur G c all (A ++ R) k d) = _
    rw [hr, cond_true, runA_cons, bindO_assoc]
    have key : ∀ {o : Option DS}, (∀ e, o = some e → e.done = Nat.lor d.done (Nat.pow 2 r.i)) → bindO o (satur G c all (A ++ R) k) = bindO o fun a => bindO (runA G c all A a) (satur G c all R k) := by
     intro o ho
     cases o with
     | none => rfl
     | some e => exact satur_runA (by rw [ho e rfl]; exact h)
    have hd : ∀ e, stepA G c all r d = some e → e.done = Nat.lor d.done (Nat.pow 2 r.i) := fun e he => stepA_done he
    rw [← key hd]
    unfold stepA
    rw [bindO_ite, saturDo_eq, saturSkip_eq]
   ·rw [hr, ha] at h; simp at h
theorem satur_skip {c : Ctx} {all : List Oper} {k : DK} : ∀ {R : List RO} {d : DS}, noneReady d.done R = true → satur G c all R k d = k d
 | [], _, _ => rfl
 | r :: R, d, h => by
  have h : (bif ready r d.done then false else noneReady d.done R) = true := h
  cases hr : ready r d.done
  ·rw [hr, cond_false] at h
   show (bif ready r d.done then _ else satur G c all R k d) = _
   rw [hr, cond_false]; exact satur_skip h
  ·rw [hr] at h; simp at h
def KindsOk (l : List RO) : Prop := ∀ r ∈ l, r.kind = kindOf r.o.op
theorem seqOps_step {c : Ctx} {all : List Oper} {r : RO} {d : DS} {rest : List Oper} (hk : r.kind = kindOf r.o.op) (he : isEff r.kind = false) :
  seqOps (r.o :: rest) F G c all d.s = bindO (stepA G c all r d) fun d' => seqOps rest F G c all d'.s := by
 rw [s_ops_cons]
 unfold runOne stepA
 rw [bindO_ite]
 congr 1
 ·have : runKind (kindOf r.o.op) = runN := by
   rw [← hk]
   cases h : r.kind
   all_goals first | rfl | (rw [h] at he; simp [isEff] at he)
  rw [this]
  unfold runN
  rw [bindO_assoc]
  congr 1; funext p
  rw [putTm_bind]; rfl
 ·unfold runSkip
  rw [putTm_bind]; rfl
theorem chainA_cons {r : RO} {A : List RO} {m : Nat} (h : chainA (r :: A) m = true) : ready r m = true ∧ isAlloc r.kind = false ∧ chainA A (Nat.lor m (Nat.pow 2 r.i)) = true := by
 have h : (bif ready r m then (bif isAlloc r.kind then false else chainA A (Nat.lor m (Nat.pow 2 r.i))) else false) = true := h
 cases hr : ready r m
 ·rw [hr] at h; simp at h
 ·cases ha : isAlloc r.kind
  ·rw [hr, ha] at h; exact ⟨rfl, rfl, h⟩
  ·rw [hr, ha] at h; simp at h
theorem ready_eff {r : RO} {m : Nat} (h : ready r m = true) : isEff r.kind = false := by
 unfold ready at h
 cases he : isEff r.kind
 ·rfl
 ·rw [he] at h; simp at h
theorem seqOps_runA {c : Ctx} {all : List Oper} {rest : List Oper} : ∀ {A : List RO} {d : DS} {m : Nat}, KindsOk A → chainA A m = true → seqOps (A.map (·.o) ++ rest) F G c all d.s = bindO (runA G c all A d) fun d' => seqOps rest F G c all d'.s
 | [], _, _, _, _ => rfl
 | r :: A, d, m, hk, h => by
  obtain ⟨h1, h2, h3⟩ := chainA_cons h
  rw [List.map_cons, List.cons_append, seqOps_step (hk r List.mem_cons_self) (ready_eff h1), runA_cons, bindO_assoc]
  congr 1; funext e
  exact seqOps_runA (fun r hr => hk r (List.mem_cons_of_mem _ hr)) h3
def Good (G : Tab) (H : Heap) (k : Kept) : Prop := isAlloc k.r.kind = false ∧ opN k.r.o.op G k.tm H = some (k.v, H)
theorem opN_same {op : Op} (hk : isAlloc (kindOf op) = false) {tm : T AV} {H : Heap} {p : VH} (h : opN op G tm H = some p) : p.2 = H := by
 cases op
 case makeInterface t x =>
  obtain ⟨d, hd, h⟩ := bindO_some h
  obtain ⟨hn, h⟩ := cond_some h
  exact (withH_some (v := p.1) (H' := p.2) h).2
 case makeFunc fn a b =>
  obtain ⟨hp, h⟩ := cond_some h
  exact (withH_some (v := p.1) (H' := p.2) h).2
 all_goals first
  | exact (withH_some (v := p.1) (H' := p.2) h).2
  | (exfalso; simp [kindOf, isAlloc] at hk; done)
  | (exfalso; have h : (none : Option VH) = some p := h; simp at h)
theorem stepA_good {c : Ctx} {all : List Oper} {r : RO} {d d' : DS} (hk : r.kind = kindOf r.o.op) (ha : isAlloc r.kind = false) (h : stepA G c all r d = some d') (hg : ∀ k ∈ d.kept, Good G d.s.h k) :
  d'.s.h = d.s.h ∧ (∀ k ∈ d'.kept, Good G d.s.h k) ∧ ∀ k ∈ d'.kept, k ∈ d.kept ∨ (k.r = r ∧ r.kind ≠ .pure) := by
 unfold stepA at h
 cases hw : wantedA all r.o.guard d.s.tm
 ·rw [hw, cond_false] at h
  obtain ⟨_, h⟩ := putTm_split h
  simp only [Option.some.injEq] at h; subst h; exact ⟨rfl, hg, fun k hk => .inl hk⟩
 ·rw [hw, cond_true] at h
  obtain ⟨p, hp, h⟩ := bindO_some h
  obtain ⟨_, h⟩ := putTm_split h
  have e := opN_same (by rw [← hk]; exact ha) hp
  simp only [Option.some.injEq] at h; subst h
  refine ⟨e, fun k hkk => ?_, fun k hkk => ?_⟩
  ·unfold keepIt at hkk
   split at hkk
   ·exact hg k hkk
   ·rcases List.mem_cons.1 hkk with rfl | hkk
    ·exact ⟨ha, by show opN r.o.op G d.s.tm d.s.h = _; rw [hp, ← e]⟩
    ·exact hg k hkk
  ·unfold keepIt at hkk
   split at hkk
   ·exact .inl hkk
   ·rename_i hne
    rcases List.mem_cons.1 hkk with rfl | hkk
    ·exact .inr ⟨rfl, fun e => hne e⟩
    ·exact .inl hkk
theorem runA_good {c : Ctx} {all : List Oper} : ∀ {A : List RO} {m : Nat} {d d' : DS}, KindsOk A → chainA A m = true → runA G c all A d = some d' → (∀ k ∈ d.kept, Good G d.s.h k) →
  d'.s.h = d.s.h ∧ (∀ k ∈ d'.kept, Good G d.s.h k) ∧ ∀ k ∈ d'.kept, k ∈ d.kept ∨ (k.r ∈ A ∧ k.r.kind ≠ .pure)
 | [], _, d, d', _, _, h, hg => by have h : some d = some d' := h; simp only [Option.some.injEq] at h; subst h; exact ⟨rfl, hg, fun k hk => .inl hk⟩
 | r :: A, m, d, d', hk, hc, h, hg => by
  obtain ⟨h1, h2, h3⟩ := chainA_cons hc
  obtain ⟨e, g1, g2⟩ := bindO_some h
  obtain ⟨a1, a2, a3⟩ := stepA_good (hk r List.mem_cons_self) h2 g1 hg
  obtain ⟨b1, b2, b3⟩ := runA_good (fun r hr => hk r (List.mem_cons_of_mem _ hr)) h3 g2 (fun k hk => by rw [a1]; exact a2 k hk)
  rw [a1] at b1 b2
  refine ⟨b1, b2, fun k hkk => ?_⟩
  rcases b3 k hkk with h | ⟨h, h'⟩
  ·rcases a3 k h with h | ⟨h, h'⟩
   ·exact .inl h
   ·exact .inr ⟨by rw [h]; exact List.mem_cons_self, by rw [h]; exact h'⟩
  ·exact .inr ⟨List.mem_cons_of_mem _ h, h'⟩
theorem stepA_new {c : Ctx} {all : List Oper} {r : RO} {d d' : DS} (hk : r.kind = kindOf r.o.op) (ha : isAlloc r.kind = false) (h : stepA G c all r d = some d') :
  d'.s.h = d.s.h ∧ ∀ k ∈ d'.kept, k ∈ d.kept ∨ Good G d.s.h k := by
 unfold stepA at h
 cases hw : wantedA all r.o.guard d.s.tm
 ·rw [hw, cond_false] at h
  obtain ⟨_, h⟩ := putTm_split h
  simp only [Option.some.injEq] at h; subst h; exact ⟨rfl, fun k hk => .inl hk⟩
 ·rw [hw, cond_true] at h
  obtain ⟨p, hp, h⟩ := bindO_some h
  obtain ⟨_, h⟩ := putTm_split h
  have e := opN_same (by rw [← hk]; exact ha) hp
  simp only [Option.some.injEq] at h; subst h
  refine ⟨e, fun k hkk => ?_⟩
  unfold keepIt at hkk
  split at hkk
  ·exact .inl hkk
  ·rcases List.mem_cons.1 hkk with rfl | hkk
   ·exact .inr ⟨ha, by show opN r.o.op G d.s.tm d.s.h = _; rw [hp, ← e]⟩
   ·exact .inl hkk
theorem runA_new {c : Ctx} {all : List Oper} : ∀ {A : List RO} {m : Nat} {d d' : DS}, KindsOk A → chainA A m = true → runA G c all A d = some d' → d'.s.h = d.s.h ∧ ∀ k ∈ d'.kept, k ∈ d.kept ∨ Good G d.s.h k
 | [], _, d, d', _, _, h => by have h : some d = some d' := h; simp only [Option.some.injEq] at h; subst h; exact ⟨rfl, fun k hk => .inl hk⟩
 | r :: A, m, d, d', hk, hc, h => by
  obtain ⟨h1, h2, h3⟩ := chainA_cons hc
  obtain ⟨e, g1, g2⟩ := bindO_some h
  obtain ⟨a1, a2⟩ := stepA_new (hk r List.mem_cons_self) h2 g1
  obtain ⟨b1, b2⟩ := runA_new (fun r hr => hk r (List.mem_cons_of_mem _ hr)) h3 g2
  rw [a1] at b1 b2
  exact ⟨b1, fun k hkk => (b2 k hkk).elim (a2 k) .inr⟩
theorem keptOk_good {H : Heap} {m : Nat} : ∀ {l : List Kept}, (∀ k ∈ l, Nat.testBit m k.r.i = true ∨ Good G H k) → keptOk G H m l = true
 | [], _ => rfl
 | k :: l, h => by
  show (bif (bif Nat.testBit m k.r.i then true else keptNow G H k) then keptOk G H m l else false) = true
  rw [keptOk_good fun k hk => h k (List.mem_cons_of_mem _ hk)]
  rcases h k List.mem_cons_self with h | ⟨h1, h2⟩
  ·rw [h]; rfl
  ·unfold keptNow
   rw [h1, cond_false, h2]
   show (bif (bif Nat.testBit m k.r.i then true else AV.beq k.v k.v) then true else false) = true
   rw [AV.beq_refl']; cases Nat.testBit m k.r.i <;> rfl
theorem prepGo_ops : ∀ {l : List Oper} {i : Nat} {acc : T Nat} {rs : List RO}, prepGo l i acc = some rs → rs.map (·.o) = l ∧ KindsOk rs
 | [], _, _, rs, h => by have h : some [] = some rs := h; simp only [Option.some.injEq] at h; subst h; exact ⟨rfl, fun r hr => by simp at hr⟩
 | o :: l, i, acc, rs, h => by
  have h : (bindO (preOf acc i o.after.toList 0) fun m => forceN m fun m => acc.setK i (some m) fun acc' => forceN (i + 1) fun i' => consO ⟨i, o, m, kindOf o.op⟩ (prepGo l i' acc')) = some rs := h
  obtain ⟨m, hm, h⟩ := bindO_some h
  rw [forceN_eq, T.setK_eq, forceN_eq] at h
  cases hrs : prepGo l (i + 1) (acc.set i (some m)) with
  | none => rw [hrs] at h; simp [consO] at h
  | some rs' =>
   rw [hrs] at h
   simp only [consO, Option.some.injEq] at h
   subst h
   obtain ⟨h1, h2⟩ := prepGo_ops hrs
   refine ⟨by simp [h1], fun r hr => ?_⟩
   rcases List.mem_cons.1 hr with rfl | hr
   ·rfl
   ·exact h2 r hr
noncomputable def noneEff (done : Nat) (rs : List RO) : Bool := match nextEff done rs with | none => true | some _ => false
theorem noneEff_eq {done : Nat} {rs : List RO} (h : noneEff done rs = true) : nextEff done rs = none := by
 unfold noneEff at h
 split at h
 ·assumption
 ·simp at h
theorem nextEff_at {done : Nat} {e : RO} {B : List RO} : ∀ {A : List RO} {m : Nat}, chainA A m = true → isEff e.kind = true → Nat.testBit done e.i = false → nextEff done (A ++ e :: B) = some e
 | [], _, _, he, hb => by
  show (bif isEff e.kind then (bif Nat.testBit done e.i then nextEff done B else some e) else nextEff done B) = some e
  rw [he, hb]; rfl
 | r :: A, m, h, he, hb => by
  obtain ⟨h1, h2, h3⟩ := chainA_cons h
  show (bif isEff r.kind then (bif Nat.testBit done r.i then nextEff done (A ++ e :: B) else some r) else nextEff done (A ++ e :: B)) = some e
  rw [ready_eff h1]; exact nextEff_at h3 he hb
theorem draw_read {all : List Oper} {rs : List RO} (hp : prepGo all 0 .e = some rs) (ho : allOk all rs rs = true) (hc : chainA rs 0 = true) (hn : noneReady (doneOf rs 0) rs = true) (he : noneEff (doneOf rs 0) rs = true)
  (c : Ctx) (s : St) : drawOps F G c all s = seqOps all F G c all s := by
 obtain ⟨h1, h2⟩ := prepGo_ops hp
 have e1 : seqOps all F G c all s = bindO (runA G c all rs ⟨0, s, []⟩) fun d' => some [d'.s] := by
  have := seqOps_runA (G := G) (F := F) (c := c) (all := all) (rest := []) (d := ⟨0, s, []⟩) h2 hc
  rw [h1, List.append_nil] at this
  exact this
 have e2 : drawOps F G c all s = satur G c all rs (stageEnd F G c all rs (stages F G c all rs 99) 0) ⟨0, s, []⟩ := by
  unfold drawOps drawOn
  rw [hp]
  show (bif allOk all rs rs then _ else none) = _
  rw [ho]; rfl
 have e3 := satur_runA (G := G) (c := c) (all := all) (R := []) (k := stageEnd F G c all rs (stages F G c all rs 99) 0) (A := rs) (d := ⟨0, s, []⟩) hc
 rw [List.append_nil] at e3
 rw [e1, e2, e3]
 cases hr : runA G c all rs ⟨0, s, []⟩ with
 | none => rfl
 | some d' =>
  have hd := runA_done hr
  have hg := runA_good h2 hc hr (fun k hk => by simp at hk)
  show stageEnd F G c all rs (stages F G c all rs 99) 0 d' = some [d'.s]
  unfold stageEnd stageOk
  have hd : d'.done = doneOf rs 0 := hd
  rw [hd, hn, cond_true, keptOk_good (fun k hk => .inr (by rw [hg.1]; exact hg.2.1 k hk)), cond_true, noneEff_eq he]
  rfl
theorem draw_eff {all : List Oper} {A B : List RO} {e : RO} (hp : prepGo all 0 .e = some (A ++ e :: B)) (ho : allOk all (A ++ e :: B) (A ++ e :: B) = true) (hc : chainA A 0 = true) (hee : isEff e.kind = true)
  (h1 : Nat.testBit (doneOf A 0) e.i = false) (h2 : noneReady (doneOf A 0) (e :: B) = true) (h3 : noneReady (doneOf A 0) (A ++ e :: B) = true) (h4 : sub e.pre (doneOf A 0) = true)
  (h5 : othersAfter e (doneOf A 0) (A ++ e :: B) = true) (h6 : sealedL e.pre A = true) (h7 : noneReady (Nat.lor (doneOf A 0) (Nat.pow 2 e.i)) (A ++ [e]) = true) (h8 : chainA B (Nat.lor (doneOf A 0) (Nat.pow 2 e.i)) = true)
  (h10 : noneReady (doneOf B (Nat.lor (doneOf A 0) (Nat.pow 2 e.i))) (A ++ e :: B) = true) (h11 : noneEff (doneOf B (Nat.lor (doneOf A 0) (Nat.pow 2 e.i))) (A ++ e :: B) = true)
  (c : Ctx) (s : St) : drawOps F G c all s = seqOps all F G c all s := by
 obtain ⟨q1, q2⟩ := prepGo_ops hp
 have kA : KindsOk A := fun r hr => q2 r (List.mem_append.2 (.inl hr))
 have kB : KindsOk B := fun r hr => q2 r (List.mem_append.2 (.inr (List.mem_cons_of_mem _ hr)))
 have e1 : seqOps all F G c all s = bindO (runA G c all A ⟨0, s, []⟩) fun d' => seqOps (e.o :: B.map (·.o)) F G c all d'.s := by
  have := seqOps_runA (G := G) (F := F) (c := c) (all := all) (rest := e.o :: B.map (·.o)) (d := ⟨0, s, []⟩) kA hc
  rw [← this, ← q1]; simp
 have e2 : drawOps F G c all s = satur G c all (A ++ e :: B) (stageEnd F G c all (A ++ e :: B) (stages F G c all (A ++ e :: B) 99) 0) ⟨0, s, []⟩ := by
  unfold drawOps drawOn
  rw [hp]
  show (bif allOk all (A ++ e :: B) (A ++ e :: B) then _ else none) = _
  rw [ho]; rfl
 rw [e1, e2, satur_runA hc]
 cases hr : runA G c all A ⟨0, s, []⟩ with
 | none => rfl
 | some d =>
  have hd : d.done = doneOf A 0 := runA_done hr
  obtain ⟨g1, g2, g3⟩ := runA_good kA hc hr (fun k hk => by simp at hk)
  show satur G c all (e :: B) (stageEnd F G c all (A ++ e :: B) (stages F G c all (A ++ e :: B) 99) 0) d = seqOps (e.o :: B.map (·.o)) F G c all d.s
  rw [satur_skip (by rw [hd]; exact h2)]
  -- what comes behind the effect
  have tail : ∀ (s' : St), stages F G c all (A ++ e :: B) 99 e.pre ⟨Nat.lor d.done (Nat.pow 2 e.i), s', d.kept⟩ = seqOps (B.map (·.o)) F G c all s' := by
   intro s'
   have t1 := satur_runA (G := G) (c := c) (all := all) (R := []) (k := stageEnd F G c all (A ++ e :: B) (stages F G c all (A ++ e :: B) 98) e.pre) (A := B) (d := ⟨Nat.lor d.done (Nat.pow 2 e.i), s', d.kept⟩) (by rw [hd]; exact h8)
   have t2 := seqOps_runA (G := G) (F := F) (c := c) (all := all) (rest := []) (d := ⟨Nat.lor d.done (Nat.pow 2 e.i), s', d.kept⟩) kB h8
   rw [List.append_nil] at t1 t2
   have t3 : stages F G c all (A ++ e :: B) 99 e.pre ⟨Nat.lor d.done (Nat.pow 2 e.i), s', d.kept⟩ = satur G c all B (stageEnd F G c all (A ++ e :: B) (stages F G c all (A ++ e :: B) 98) e.pre) ⟨Nat.lor d.done (Nat.pow 2 e.i), s', d.kept⟩ := by
    show satur G c all (A ++ e :: B) _ _ = _
    have : ∀ (X : List RO) (d₀ : DS), noneReady d₀.done X = true → ∀ (R : List RO) (k : DK), satur G c all (X ++ R) k d₀ = satur G c all R k d₀ := by
     intro X
     induction X with
     | nil => intro _ _ _ _; rfl
     | cons x X ih =>
      intro d₀ h R k
      have h : (bif ready x d₀.done then false else noneReady d₀.done X) = true := h
      cases hx : ready x d₀.done
      ·rw [hx, cond_false] at h
       show (bif ready x d₀.done then _ else satur G c all (X ++ R) k d₀) = _
       rw [hx, cond_false]; exact ih d₀ h R k
      ·rw [hx] at h; simp at h
    have r := this (A ++ [e]) ⟨Nat.lor d.done (Nat.pow 2 e.i), s', d.kept⟩ (by show noneReady (Nat.lor d.done _) _ = true; rw [hd]; exact h7) B
    rw [List.append_assoc] at r
    exact r _
   rw [t3, t1]
   refine Eq.trans ?_ t2.symm
   cases hb : runA G c all B ⟨Nat.lor d.done (Nat.pow 2 e.i), s', d.kept⟩ with
   | none => rfl
   | some d' =>
    have hd' : d'.done = doneOf B (Nat.lor (doneOf A 0) (Nat.pow 2 e.i)) := by rw [runA_done hb, hd]
    obtain ⟨n1, n2⟩ := runA_new kB h8 hb
    show stageEnd F G c all (A ++ e :: B) (stages F G c all (A ++ e :: B) 98) e.pre d' = some [d'.s]
    unfold stageEnd stageOk
    rw [hd', h10, cond_true, noneEff_eq h11, keptOk_good]
    ·rfl
    ·intro k hk
     rcases n2 k hk with hk | hk
     case inr => exact .inr (by rw [n1]; exact hk)
     refine .inl ?_
     rcases g3 k hk with h | ⟨h, _⟩
     ·simp at h
     ·have : ∀ {A : List RO}, sealedL e.pre A = true → ∀ r ∈ A, Nat.testBit e.pre r.i = true := by
       intro A
       induction A with
       | nil => intro _ r hr; simp at hr
       | cons x A ih =>
        intro h r hr
        have h : (bif Nat.testBit e.pre x.i then sealedL e.pre A else false) = true := h
        cases hx : Nat.testBit e.pre x.i
        ·rw [hx] at h; simp at h
        ·rw [hx] at h
         rcases List.mem_cons.1 hr with rfl | hr
         ·exact hx
         ·exact ih h r hr
      exact this h6 _ h
  unfold stageEnd stageOk
  rw [hd, h3, cond_true, keptOk_good (fun k hk => .inr (by rw [g1]; exact g2 k hk)), cond_true, nextEff_at hc hee h1]
  show (bif sub e.pre d.done then (bif othersAfter e d.done (A ++ e :: B) then effRun F G c all e d (stages F G c all (A ++ e :: B) 99 e.pre) else none) else none) = _
  rw [hd, h4, h5, cond_true, cond_true]
  rw [s_ops_cons]
  unfold effRun runOne
  congr 1
  ·have : runKind (kindOf e.o.op) = runE := by
    rw [← q2 e (List.mem_append.2 (.inr List.mem_cons_self))]
    cases h : e.kind
    all_goals first | rfl | (rw [h] at hee; simp [isEff] at hee)
   rw [this]
   unfold effDo runE
   congr 1; funext p
   congr 1; funext tm
   rw [forceN_eq]; exact tail _
  ·unfold effSkip runSkip
   congr 1; funext tm
   rw [forceN_eq]; exact tail _
noncomputable def spanN (l : List RO) : List RO × List RO := List.rec ([], []) (fun r l ih => bif isEff r.kind then ([], r :: l) else (r :: ih.1, ih.2)) l
theorem spanN_eq (l : List RO) : (spanN l).1 ++ (spanN l).2 = l := by
 induction l with
 | nil => rfl
 | cons r l ih =>
  show (bif isEff r.kind then (([] : List RO), r :: l) else (r :: (spanN l).1, (spanN l).2)).1 ++ (bif isEff r.kind then ([], r :: l) else (r :: (spanN l).1, (spanN l).2)).2 = r :: l
  cases isEff r.kind
  ·simp [ih]
  ·rfl
noncomputable def andL (l : List Bool) : Bool := List.rec true (fun b _ ih => bif b then ih else false) l
theorem andL_ok {l : List Bool} (h : andL l = true) : ∀ b ∈ l, b = true := by
 induction l with
 | nil => intro b hb; simp at hb
 | cons x l ih =>
  intro b hb
  have h : (bif x then andL l else false) = true := h
  cases x
  ·simp at h
  ·rcases List.mem_cons.1 hb with rfl | hb
   ·rfl
   ·exact ih h b hb
noncomputable def plainA (all : List Oper) (rs : List RO) (p : List RO × List RO) : Bool :=
 match p.2 with
 | [] => andL [allOk all rs rs, chainA rs 0, noneReady (doneOf rs 0) rs, noneEff (doneOf rs 0) rs]
 | e :: B => andL [allOk all rs rs, chainA p.1 0, isEff e.kind, bnot (Nat.testBit (doneOf p.1 0) e.i), noneReady (doneOf p.1 0) (e :: B), noneReady (doneOf p.1 0) rs, sub e.pre (doneOf p.1 0), othersAfter e (doneOf p.1 0) rs, sealedL e.pre p.1,
   noneReady (Nat.lor (doneOf p.1 0) (Nat.pow 2 e.i)) (p.1 ++ [e]), chainA B (Nat.lor (doneOf p.1 0) (Nat.pow 2 e.i)), noneReady (doneOf B (Nat.lor (doneOf p.1 0) (Nat.pow 2 e.i))) rs, noneEff (doneOf B (Nat.lor (doneOf p.1 0) (Nat.pow 2 e.i))) rs]
noncomputable def plainDraw (all : List Oper) : Bool := match prepGo all 0 .e with
 | none => false
 | some rs => plainA all rs (spanN rs)
theorem draw_plain {all : List Oper} (h : plainDraw all = true) (c : Ctx) (s : St) : drawOps F G c all s = seqOps all F G c all s := by
 unfold plainDraw at h
 split at h
 ·simp at h
 ·rename_i rs hp
  have hs := spanN_eq rs
  generalize spanN rs = p at h hs
  obtain ⟨A, R⟩ := p
  simp only at hs
  subst hs
  cases R with
  | nil =>
   have h := andL_ok (show andL [allOk all (A ++ []) (A ++ []), chainA (A ++ []) 0, noneReady (doneOf (A ++ []) 0) (A ++ []), noneEff (doneOf (A ++ []) 0) (A ++ [])] = true from h)
   simp only [List.mem_cons, List.not_mem_nil, or_false, forall_eq_or_imp, forall_eq] at h
   exact draw_read hp h.1 h.2.1 h.2.2.1 h.2.2.2 c s
  | cons e B =>
   have h := andL_ok (show andL [allOk all (A ++ e :: B) (A ++ e :: B), chainA A 0, isEff e.kind, bnot (Nat.testBit (doneOf A 0) e.i), noneReady (doneOf A 0) (e :: B), noneReady (doneOf A 0) (A ++ e :: B), sub e.pre (doneOf A 0),
    othersAfter e (doneOf A 0) (A ++ e :: B), sealedL e.pre A, noneReady (Nat.lor (doneOf A 0) (Nat.pow 2 e.i)) (A ++ [e]), chainA B (Nat.lor (doneOf A 0) (Nat.pow 2 e.i)),
    noneReady (doneOf B (Nat.lor (doneOf A 0) (Nat.pow 2 e.i))) (A ++ e :: B), noneEff (doneOf B (Nat.lor (doneOf A 0) (Nat.pow 2 e.i))) (A ++ e :: B)] = true from h)
   simp only [List.mem_cons, List.not_mem_nil, or_false, forall_eq_or_imp, forall_eq] at h
   obtain ⟨a1, a2, a3, a4, a5, a6, a7, a8, a9, a10, a11, a13, a14⟩ := h
   have h1 : Nat.testBit (doneOf A 0) e.i = false := by
    rw [bnot_eq] at a4; simpa using a4
   exact draw_eff hp a1 a2 a3 h1 a5 a6 a7 a8 a9 a10 a11 a13 a14 c s
theorem s_draw {all : List Oper} (i : Nat) (h : plainDraw all = true) (c : Ctx) (s : St) : cRegion i all.toArray true F G c s = normals (seqOps all F G c all s) := by
 show normals (drawOps F G c all s) = _
 rw [draw_plain h]
end
end Go.Sx
namespace Go.Sx
section
variable {P : Program} {G : Tab}
def Then (o : Outs) (Q : Ex → St → Prop) : Prop := ∃ l, o = some l ∧ ∀ p ∈ l, Q p.1 p.2
theorem then_one (e : Ex) (s : St) (Q : Ex → St → Prop) : Then (some [(e, s)]) Q = Q e s := by
 refine propext ⟨fun ⟨l, h, hq⟩ => ?_, fun h => ⟨_, rfl, fun p hp => ?_⟩⟩
 ·simp only [Option.some.injEq] at h; subst h; exact hq _ (List.mem_singleton.2 rfl)
 ·rw [List.mem_singleton.1 hp]; exact h
theorem Gets.runs (TT : TabOk P G) {ov : Ov} (ho : OvOk P G ov) (n : Nat) {c : Ctx} {x : Code} {s : St} {Q : Ex → St → Prop} (h : Then (codeB x (fnsO G ov n) G c s) Q) : Gets P G c x s Q := by
 obtain ⟨l, h1, h2⟩ := h
 exact (Gets.of_runs (codeO_runs TT ho n x) h1).mono fun e s' h => h2 (e, s') h
mutual
theorem env_conc {b a c : Nat → Nat} {r r' : Nat → Obj → Prop} {o o' : World} : ∀ v, conc ⟨b, a, c, r', o'⟩ v = conc ⟨b, a, c, r, o⟩ v
 | .bool _ => rfl
 | .int _ _ => rfl
 | .str _ => rfl
 | .ptr _ _ => rfl
 | .nilptr => rfl
 | .slice _ _ _ _ _ => rfl
 | .nilslice => rfl
 | .odd _ _ _ _ => rfl
 | .map _ => rfl
 | .nilmap => rfl
 | .func _ x y => by simp only [conc, env_concL (r := r) (r' := r') (o := o) (o' := o') x, env_concL (r := r) (r' := r') (o := o) (o' := o') y]
 | .yld _ => rfl
 | .nilFunc => rfl
 | .iface _ v => by simp only [conc, env_conc (r := r) (r' := r') (o := o) (o' := o') v]
 | .nilIface => rfl
 | .agg cs => by simp only [conc, env_concL (r := r) (r' := r') (o := o) (o' := o') cs]
 | .tuple cs => by simp only [conc, env_concL (r := r) (r' := r') (o := o) (o' := o') cs]
theorem env_concL {b a c : Nat → Nat} {r r' : Nat → Obj → Prop} {o o' : World} : ∀ l, concL ⟨b, a, c, r', o'⟩ l = concL ⟨b, a, c, r, o⟩ l
 | [] => rfl
 | v :: l => by simp only [concL, env_conc (r := r) (r' := r') (o := o) (o' := o') v, env_concL (r := r) (r' := r') (o := o) (o' := o') l]
end
mutual
theorem env_ok {b a c : Nat → Nat} {r r' : Nat → Obj → Prop} {o o' : World} {D : Nat → Prop} : ∀ v, okV ⟨b, a, c, r, o⟩ D v → okV ⟨b, a, c, r', o'⟩ D v
 | .bool _, _ => trivial
 | .int _ _, _ => trivial
 | .str _, _ => trivial
 | .ptr _ _, h => h
 | .nilptr, _ => trivial
 | .slice _ _ _ _ _, h => h
 | .nilslice, _ => trivial
 | .odd _ _ _ _, _ => trivial
 | .map _, h => h
 | .nilmap, _ => trivial
 | .func _ x y, h => ⟨h.1, env_okL x h.2.1, env_okL y h.2.2⟩
 | .yld _, h => h
 | .nilFunc, _ => trivial
 | .iface _ v, h => env_ok v h
 | .nilIface, _ => trivial
 | .agg cs, h => env_okL cs h
 | .tuple cs, h => env_okL cs h
theorem env_okL {b a c : Nat → Nat} {r r' : Nat → Obj → Prop} {o o' : World} {D : Nat → Prop} : ∀ l, okL ⟨b, a, c, r, o⟩ D l → okL ⟨b, a, c, r', o'⟩ D l
 | [], _ => trivial
 | v :: l, h => ⟨env_ok v h.1, env_okL l h.2⟩
end
theorem CallTo.closed (TT : TabOk P G) {m : Nat} {f : FuncId} {H0 : Heap} (h : trueO ((fns G m).call f [] H0) = true) (hg : G.nglob ≤ H0.next) (hbig : ∀ b o, H0.blks.get b = some o → StillB (some o) ∧ ltB H0.next o) {H : Heap}
  (hsub : ∀ b o, H0.blks.get b = some o → H.blks.get b = some o) : CallTo P G f [] H [(.bool true, H)] := by
 intro ρ D w kind cs hH ha
 cases ho : (fns G m).call f [] H0 with
 | none => rw [ho] at h; simp [trueO] at h
 | some l =>
  rw [ho] at h
  obtain ⟨bl, ba, ca, re, og⟩ := ρ
  have hR : HRel G ⟨bl, ba, ca, fun i o => w.heap[i]? = some o, w⟩ (fun b => D b ∧ b < H0.next) w H0 := by
   refine ⟨fun b hb => hb.2, fun g hgl => ⟨⟨(hH.glob g hgl).1, Nat.lt_of_lt_of_le hgl hg⟩, (hH.glob g hgl).2⟩, fun b b' o o' hb hb' ho ho' e => hH.inj b b' o o' hb.1 hb'.1 (hsub b o ho) (hsub b' o' ho') e,
    fun b o hb ho => ?_, fun i o hi => ⟨hi, fun b hb _ => ?_⟩, .refl _⟩
   ·have hb1 := hH.blk b o hb.1 (hsub b o ho)
    obtain ⟨s1, s2⟩ := hbig b o ho
    cases o with
    | big e n z =>
     obtain ⟨q1, arr, el, fz, q2, q3, q4⟩ := hb1
     refine ⟨env_okL z (okL_cut z q1 s2), arr, el, fz, q2, q3, fun i v hi hv => ?_⟩
     rw [q4 i v hi hv]; exact congrArg some (env_conc v)
    | _ => exact s1.elim
   ·cases hb2 : H0.blks.get b with
    | none => trivial
    | some o => exact (hbig b o hb2).1
  obtain ⟨h0, p, hp, ρ', D', w', fr, h1, h2, h3, h4, h5, h6, h7, h8, fn, h9, h10⟩ := (fns_sound TT m).call f [] H0 l ho _ _ w kind cs hR ha
  have hp1 : p.1 = .bool true := allTrue_ok h p hp
  have hheap : ∀ (i : Nat) (o : Obj), w.heap[i]? = some o → w'.heap[i]? = some o := fun i o hi => (h1.rest i o (by rw [h2.sub.rest]; exact hi)).1
  have hkin : Kin w w' := by have := h1.kin; rw [h2.sub.orig] at this; exact this
  refine ⟨h0, (.bool true, H), List.mem_singleton.2 rfl, ⟨bl, ba, ca, re, og⟩, D, w', fr, ⟨hH.lt, hH.glob, hH.inj, fun b o hb ho => ?_, fun i o hi => ?_, hH.kin.trans hkin⟩, .refl _ _ _, trivial, h4, h5, h6, h7, h8, fn, h9, ?_⟩
  ·have hb1 := hH.blk b o hb ho
   refine hb1.sub (.refl _ _) hb ?_
   obtain ⟨x, hx⟩ : ∃ x, w.heap[bl b]? = some x := ⟨_, Array.getElem?_eq_getElem hb1.stands⟩
   exact (hheap _ x hx).trans hx.symm
  ·exact ⟨hheap i o (hH.rest i o hi).1, (hH.rest i o hi).2⟩
  ·rw [hp1] at h10; exact h10
end
end Go.Sx
namespace Go.Sx
section
variable {P : Program} {G : Tab} {c : Ctx} {s : St} {Q : Ex → St → Prop}
open Classical in
noncomputable def ptO (ov : Ov) (f : FuncId) (A : List AV) (H : Heap) (outs : List VH) : Ov := fun f' a h => if f' = f ∧ a = A ∧ h = H then some outs else ov f' a h
theorem ptO_ok {ov : Ov} (ho : OvOk P G ov) {f : FuncId} {A : List AV} {H : Heap} {outs : List VH} (h : CallTo P G f A H outs) : OvOk P G (ptO ov f A H outs) := by
 intro f' a h' outs' hh
 unfold ptO at hh
 split at hh
 ·rename_i e
  obtain ⟨rfl, rfl, rfl⟩ := e
  simp only [Option.some.injEq] at hh; subst hh; exact h
 ·exact ho _ _ _ _ hh
theorem s_ptEq (ov : Ov) (f : FuncId) (A : List AV) (H : Heap) (outs : List VH) : ptO ov f A H outs f A H = some outs := by unfold ptO; rw [if_pos ⟨rfl, rfl, rfl⟩]
theorem s_ptNe (ov : Ov) {f f' : FuncId} (h : f' ≠ f) (A A' : List AV) (H H' : Heap) (outs : List VH) : ptO ov f A H outs f' A' H' = ov f' A' H' := by unfold ptO; rw [if_neg fun e => h e.1]
noncomputable def noOv : Ov := fun _ _ _ => none
theorem noOv_ok : OvOk P G noOv := fun _ _ _ _ h => by simp [noOv] at h
theorem Gets.last (TT : TabOk P G) {ov : Ov} (ho : OvOk P G ov) (n : Nat) {x : Code} {s' : St} (h : codeB x (fnsO G ov n) G c s = some [(.normal, s')]) (h' : Q .normal s') : Gets P G c x s Q :=
 Gets.runs TT ho n ⟨_, h, fun p hp => by rw [List.mem_singleton.1 hp]; exact h'⟩
theorem Gets.skip (TT : TabOk P G) (h : Q .normal s) : Gets P G c .skip s Q := Gets.last TT (ov := noOv) noOv_ok 0 rfl h
theorem Gets.ret (TT : TabOk P G) (h : Q .ret s) : Gets P G c .ret s Q := Gets.runs TT (ov := noOv) noOv_ok 0 (by show Then (some [(.ret, s)]) Q; rw [then_one]; exact h)
theorem Gets.exit (TT : TabOk P G) {i : Nat} (h : Q (.exit i) s) : Gets P G c (.exit i) s Q := Gets.runs TT (ov := noOv) noOv_ok 0 (by show Then (some [(.exit i, s)]) Q; rw [then_one]; exact h)
theorem Gets.condT {v : Operand} {x y : Code} (hv : aev G s.tm v = some (.bool true)) (h : Gets P G c x s Q) : Gets P G c (.cond v x y) s Q := Gets.cond hv h
theorem Gets.condF {v : Operand} {x y : Code} (hv : aev G s.tm v = some (.bool false)) (h : Gets P G c y s Q) : Gets P G c (.cond v x y) s Q := Gets.cond hv h
def InBlk (id : Nat) (Q : Ex → St → Prop) : Ex → St → Prop := fun e s' => match e with
 | .exit j => if j = id then Q .normal s' else Q (.exit j) s'
 | e => Q e s'
theorem Gets.blk {id : Nat} {x : Code} (h : Gets P G c x s (InBlk id Q)) : Gets P G c (.block id x) s Q :=
 Gets.block (h.mono fun e s' h => by cases e <;> exact h)
theorem inBlk_normal {id : Nat} (h : Q .normal s) : InBlk id Q .normal s := h
theorem inBlk_ret {id : Nat} (h : Q .ret s) : InBlk id Q .ret s := h
theorem inBlk_exit {id : Nat} (h : Q .normal s) : InBlk id Q (.exit id) s := by show (if id = id then _ else _); rw [if_pos rfl]; exact h
theorem inBlk_other {id j : Nat} (hj : j ≠ id) (h : Q (.exit j) s) : InBlk id Q (.exit j) s := by show (if j = id then _ else _); rw [if_neg hj]; exact h
def InLoop (I : Nat → St → Prop) (m : Nat) (Q : Ex → St → Prop) : Ex → St → Prop := fun e s' => match e with
 | .normal => ∃ m', m' < m ∧ I m' s'
 | e => Q e s'
theorem Gets.forI {id : Nat} {x : Code} (I : Nat → St → Prop) (m : Nat) (h0 : I m s) (h : ∀ m s, I m s → Gets P G c x s (InLoop I m (InBlk id Q))) : Gets P G c (.block id (.loop x)) s Q :=
 Gets.blk (Gets.loop (I := I) (fun m s hI => (h m s hI).mono fun e s' h => by cases e <;> exact h) m s h0)
theorem inLoop_ret {I : Nat → St → Prop} {m : Nat} (h : Q .ret s) : InLoop I m Q .ret s := h
theorem inLoop_exit {I : Nat → St → Prop} {m i : Nat} (h : Q (.exit i) s) : InLoop I m Q (.exit i) s := h
theorem inLoop_next {I : Nat → St → Prop} {m m' : Nat} (hm : m' < m) (h : I m' s) : InLoop I m Q .normal s := ⟨m', hm, h⟩
theorem Gets.mid {x : Code} {I : St → Prop} (h : Gets P G c x s fun e s' => e = .normal ∧ I s') (h' : ∀ s', I s' → Q .normal s') : Gets P G c x s Q :=
 h.mono fun e s' h => by obtain ⟨rfl, h⟩ := h; exact h' s' h
theorem Gets.midA {x : Code} {H : Heap} {I : T AV → Prop} (h : Gets P G c x s fun e s' => e = .normal ∧ ∃ tm, s' = ⟨tm, H, []⟩ ∧ I tm) (h' : ∀ tm, I tm → Q .normal ⟨tm, H, []⟩) : Gets P G c x s Q :=
 h.mono fun e s' h => by obtain ⟨rfl, tm, rfl, h⟩ := h; exact h' tm h
theorem Gets.upto {id : Nat} {x : Code} {H : Heap} (n : Nat) (I : Nat → T AV → Prop) {tm : T AV} (h0 : I 0 tm)
  (h : ∀ i tm, i ≤ n → I i tm → Gets P G c x ⟨tm, H, []⟩ fun e s' => match e with
   | .normal => ∃ tm', s' = ⟨tm', H, []⟩ ∧ i < n ∧ I (i + 1) tm'
   | e => InBlk id Q e s') : Gets P G c (.block id (.loop x)) ⟨tm, H, []⟩ Q :=
 Gets.forI (I := fun m s => ∃ i tm, i ≤ n ∧ m = n - i ∧ s = ⟨tm, H, []⟩ ∧ I i tm) n ⟨0, tm, Nat.zero_le _, rfl, rfl, h0⟩ fun m s ⟨i, tm, hi, hm, hs, hI⟩ => by
  subst hs
  refine (h i tm hi hI).mono fun e s' h => ?_
  cases e with
  | normal =>
   obtain ⟨tm', rfl, hlt, hI'⟩ := h
   exact ⟨n - (i + 1), by omega, i + 1, tm', hlt, rfl, rfl, hI'⟩
  | _ => exact h
theorem Gets.midH {x : Code} {I : T AV → Heap → Prop} (h : Gets P G c x s fun e s' => e = .normal ∧ ∃ tm H, s' = ⟨tm, H, []⟩ ∧ I tm H) (h' : ∀ tm H, I tm H → Q .normal ⟨tm, H, []⟩) : Gets P G c x s Q :=
 h.mono fun e s' h => by obtain ⟨rfl, tm, H, rfl, h⟩ := h; exact h' tm H h
theorem Gets.uptoH {id : Nat} {x : Code} (n : Nat) (I : Nat → T AV → Heap → Prop) {tm : T AV} {H : Heap} (h0 : I 0 tm H)
  (h : ∀ i tm H, i ≤ n → I i tm H → Gets P G c x ⟨tm, H, []⟩ fun e s' => match e with
   | .normal => ∃ tm' H', s' = ⟨tm', H', []⟩ ∧ i < n ∧ I (i + 1) tm' H'
   | e => InBlk id Q e s') : Gets P G c (.block id (.loop x)) ⟨tm, H, []⟩ Q :=
 Gets.forI (I := fun m s => ∃ i tm H, i ≤ n ∧ m = n - i ∧ s = ⟨tm, H, []⟩ ∧ I i tm H) n ⟨0, tm, H, Nat.zero_le _, rfl, rfl, h0⟩ fun m s ⟨i, tm, H, hi, hm, hs, hI⟩ => by
  subst hs
  refine (h i tm H hi hI).mono fun e s' h => ?_
  cases e with
  | normal =>
   obtain ⟨tm', H', rfl, hlt, hI'⟩ := h
   exact ⟨n - (i + 1), by omega, i + 1, tm', H', hlt, rfl, rfl, hI'⟩
  | _ => exact h
theorem store_full {H : Heap} {t : TypeId} {b : Nat} {e : TypeId} {x : Bool} {old l : List AV} (hb : H.blks.get b = some (.cells e x old)) (hz : G.size t = some l.length) (ho : old.length = l.length) (ha : allOne l = true) (hne : l ≠ []) :
  storePtr G H t (.ptr b 0) (.agg l) = some (putBlk H b (some (.cells e x l))) := by
 have h1 : storePtr G H t (.ptr b 0) (.agg l) = bindO (G.size t) fun s => bif Nat.beq (len l) s then storeCellsA H b 0 l else none := rfl
 rw [h1, hz]
 show (bif Nat.beq (len l) l.length then storeCellsA H b 0 l else none) = _
 rw [len_eq, beq_true rfl, cond_true]
 have over : ∀ (l old : List AV), old.length = l.length → overN l old = some l := by
  intro l
  induction l with
  | nil => intro old h; cases old with
   | nil => rfl
   | cons _ _ => simp at h
  | cons a l ih =>
   intro old h
   cases old with
   | nil => simp at h
   | cons o old =>
    show consO a (overN l old) = _
    rw [ih old (by simpa using h)]; rfl
 have hsp : spliceN l old 0 = some l := by
  cases old with
  | nil => cases l with
   | nil => exact absurd rfl hne
   | cons _ _ => simp at ho
  | cons o old => show overN l (o :: old) = _; exact over l _ ho
 cases l with
 | nil => exact absurd rfl hne
 | cons a l =>
  show storeIn H b 0 (a :: l) (H.blks.get b) = _
  rw [hb]
  show (bif allOne (a :: l) then putCells H b e x (spliceN (a :: l) old 0) else none) = _
  rw [ha, hsp, cond_true]
  show forceVs (a :: l) (fun l => putBlkK H b (some (.cells e x l)) some) = _
  rw [forceVs_eq]
  unfold putBlkK putBlk
  rw [T.setK_eq, T.setK_eq]
theorem fin_pure {H : Heap} {s : St} {v : AV} {rs : List ResultVar} (hd : s.df = []) (hr : resultsA G s.tm s.h rs = some [v]) (hg : Grows H s.h) (hn : Neat H) (hv : ltV H.next v) :
  leaves .ret = true ∧ s.df = [] ∧ ∃ vs, resultsA G s.tm s.h rs = some vs ∧ ∃ p ∈ [(v, H)], Cut H p (oneOf vs) s.h :=
 ⟨rfl, hd, [v], hr, (v, H), List.mem_singleton.2 rfl, .pure hg.next hg.get hn hv⟩
theorem fin_pureN {H : Heap} {s : St} {vs : List AV} {rs : List ResultVar} (hd : s.df = []) (hr : resultsA G s.tm s.h rs = some vs) (hg : Grows H s.h) (hn : Neat H) (hv : ltV H.next (oneOf vs)) :
  leaves .ret = true ∧ s.df = [] ∧ ∃ vs, resultsA G s.tm s.h rs = some vs ∧ ∃ p ∈ [(oneOf vs, H)], Cut H p (oneOf vs) s.h :=
 ⟨rfl, hd, vs, hr, (oneOf vs, H), List.mem_singleton.2 rfl, .pure hg.next hg.get hn hv⟩
theorem s_one_int (k : IntKind) (n : Int) : oneCell (.int k n) = true := rfl
theorem s_one_bool (b : Bool) : oneCell (.bool b) = true := rfl
theorem s_one_str (s : List UInt8) : oneCell (.str s) = true := rfl
theorem s_one_ptr (b o : Nat) : oneCell (.ptr b o) = true := rfl
theorem s_one_nilptr : oneCell .nilptr = true := rfl
theorem s_one_slice (b o l : Nat) (q : Bool) (k : Nat) : oneCell (.slice b o l q k) = true := rfl
theorem s_one_nilslice : oneCell .nilslice = true := rfl
theorem s_one_map (b : Nat) : oneCell (.map b) = true := rfl
theorem s_one_nilmap : oneCell .nilmap = true := rfl
theorem s_one_func (f : Fn) (x y : List AV) : oneCell (.func f x y) = true := rfl
theorem s_one_agg (l : List AV) : oneCell (.agg l) = false := rfl
theorem s_one_tuple (l : List AV) : oneCell (.tuple l) = false := rfl
theorem s_push_same2 (H : Heap) (o : ABlk) {b : Nat} (h : Nat.beq b H.next = true) : (H.push o).blks.get b = some o := by cases Nat.eq_of_beq_eq_true h; exact s_push_same H o
theorem s_put_next (H : Heap) (b : Nat) (o : Option ABlk) : (putBlk H b o).next = H.next := Heap.next_put ..
theorem s_put_same (H : Heap) (b : Nat) (o : Option ABlk) : (putBlk H b o).blks.get b = o := by rw [Heap.get_put]; simp
theorem s_put_other (H : Heap) (b : Nat) (o : Option ABlk) {x : Nat} (h : x ≠ b) : (putBlk H b o).blks.get x = H.blks.get x := by rw [Heap.get_put, if_neg h]
theorem s_binInt (op : BinOp) (t : TypeId) (c : Bool) (k k' : IntKind) (a b : Int) : binA G op t c (.int k a) (.int k' b) = intBin op k a k' b := rfl
theorem s_binStr (op : BinOp) (t : TypeId) (c : Bool) (a b : List UInt8) : binA G op t c (.str a) (.str b) = sbin op a b := rfl
theorem s_binAgg (op : BinOp) (t : TypeId) (c : Bool) (x y : List AV) : binA G op t c (.agg x) (.agg y) = bif isNoneO (G.noEq.get t) then eqBin op (eqA G 60 t (.agg x) (.agg y)) else none := rfl
theorem s_andO2 (x y : Bool) : andO (some x) (some y) = some (x && y) := by cases x <;> rfl
theorem s_argsK_nil {β : Type} (tm : T AV) (i : Nat) (k : T AV → β) : argsK [] tm i k = k tm := rfl
theorem s_argsK_cons {β : Type} (v : AV) (l : List AV) (tm : T AV) (i : Nat) (k : T AV → β) : argsK (v :: l) tm i k = argsK l (tm.set i (some v)) (i + 1) k := by
 show forceV v (fun v => tm.setK i (some v) fun tm' => argsK l tm' (i + 1) k) = _
 rw [forceV_eq, T.setK_eq]
theorem s_argsTm (l : List AV) : argsTm l = argsK l .e 0 id := rfl
theorem s_loadC (H : Heap) (b off : Nat) {k : Nat} (h : k ≠ 0) : loadCellsA H b off k = cellsIn (H.blks.get b) off k := by
 rw [s_loadCells, beq_false h]; rfl
theorem s_cast0 : ((0 : Nat) : Int) = 0 := rfl
theorem s_castS (n : Nat) : ((n + 1 : Nat) : Int) = (n : Int) + 1 := rfl
theorem s_castN (n : Nat) : ((no_index (OfNat.ofNat n) : Nat) : Int) = OfNat.ofNat n := rfl
theorem s_cells_agg (l : List AV) : AV.cells (.agg l) = l := rfl
theorem s_cells_one {v : AV} (h : oneCell v = true) : AV.cells v = [v] := by cases v <;> first | rfl | simp [oneCell] at h
end
end Go.Sx
