/-
  The document's checks and texts of the parts are the program's.
-/
import Derived.Test.YthfkhidmeeajfaaGreatDoorNtA
import Derived.Test.YthfkhidmeeajfaaGreatDoorTaA
import Derived.Test.YthfkhidmeeajfaaGreatDoorTaB
set_option linter.unusedSimpArgs false
set_option linter.unusedVariables false
namespace Go.Proofs
open Go.Sx
set_option maxRecDepth 100000
abbrev dig (n : Nat) : z0L := Lib.decDigits n
theorem z5K {n : Nat} (h : n < 10) : dig n = [UInt8.ofNat (48 + n)] := by rw [dig, Lib.decDigits, dif_pos h]
theorem q4Y {n : Nat} (h : ¬ n < 10) : dig n = dig (n / 10) ++ dig (n % 10) := by
 rw [dig, Lib.decDigits, dif_neg h, z5K (Nat.mod_lt _ (by omega))]
theorem z9y {n : Nat} (h : n < 18446744073709551616) : (dig n).length ≤ 20 := by
 have : ∀ k n : Nat, n < 10 ^ k → 0 < k → (dig n).length ≤ k := by
  intro k
  induction k with
  | zero => intro n _ h; omega
  | succ k ih =>
   intro n hn _
   by_cases h : n < 10
   ·rw [z5K h]; simp
   ·rw [q4Y h, List.length_append, z5K (Nat.mod_lt _ (by omega))]
    have hk : 0 < k := by
     rcases Nat.eq_zero_or_pos k with e | e
     ·subst e; simp at hn; omega
     ·exact e
    have := ih (n / 10) (by rw [Nat.pow_succ] at hn; omega) hk
    simp only [List.length_cons, List.length_nil]
    omega
 exact this 20 n (by omega) (by omega)
theorem q0t (n : Nat) : z0o (n : Int) = dig n := Lib.itoa_nonneg n
theorem w4D (n : Nat) (h : n < 10) : z7X pH0 (.str [UInt8.ofNat (48 + n)]) ((fns Tryz.tab 60).call 43 [.int .u64 (n : Int)] pH0) = true := by
 rcases (by omega : n = 0 ∨ n = 1 ∨ n = 2 ∨ n = 3 ∨ n = 4 ∨ n = 5 ∨ n = 6 ∨ n = 7 ∨ n = 8 ∨ n = 9) with rfl | rfl | rfl | rfl | rfl | rfl | rfl | rfl | rfl | rfl <;> kernel_rfl
theorem k8F (n : Nat) (h : n < 10) : z7W Tryz.tab pH0 [.int .u64 (n : Int)] = true := by
 rcases (by omega : n = 0 ∨ n = 1 ∨ n = 2 ∨ n = 3 ∨ n = 4 ∨ n = 5 ∨ n = 6 ∨ n = 7 ∨ n = 8 ∨ n = 9) with rfl | rfl | rfl | rfl | rfl | rfl | rfl | rfl | rfl | rfl <;> kernel_rfl
theorem q8H {k : IntKind} {n : Nat} (hk : z1V k ((n / 10 : Nat) : Int) = ((n / 10 : Nat) : Int)) : quoO k (n : Int) 10 = some (.int k ((n / 10 : Nat) : Int)) := by
 show some (AV.int k (z1V k ((n : Int).tdiv 10))) = _
 rw [show ((n : Int).tdiv 10) = ((n / 10 : Nat) : Int) from rfl, hk]
theorem q8I {k : IntKind} {n : Nat} : remO k (n : Int) 10 = some (.int k ((n % 10 : Nat) : Int)) := rfl
theorem k8G {n : Nat} (h : n < 18446744073709551616) : z1V .u64 (n : Int) = (n : Int) := by
 show Int.ofNat (n % 18446744073709551616) = _
 rw [Nat.mod_eq_of_lt h]; rfl
open Classical in
noncomputable def ovD (k : IntKind) (n : Nat) (K : Heap) (args : List AV) (H : Heap) : Option (List VH) := match args with
 | [.int k' (.ofNat m)] => if k' = k ∧ m < n ∧ H = K then some [(.str (dig m), H)] else none
 | _ => none
theorem q3q {k : IntKind} {n m : Nat} {K : Heap} (h : m < n) : ovD k n K [.int k (m : Int)] K = some [(.str (dig m), K)] := if_pos ⟨rfl, h, rfl⟩
theorem j6C {k : IntKind} {n : Nat} {K : Heap} {f : FuncId} (h : ∀ m, m < n → CallTo Tryz.prog Tryz.tab f [.int k (m : Int)] K [(.str (dig m), K)]) (args : List AV) (H : Heap) (outs : List VH) (e : ovD k n K args H = some outs) : CallTo Tryz.prog Tryz.tab f args H outs := by
 unfold ovD at e
 split at e
 ·split at e
  ·rename_i hh
   obtain ⟨rfl, h1, rfl⟩ := hh
   simp only [Option.some.injEq] at e
   subst e
   exact h _ h1
  ·simp at e
 ·simp at e
theorem k4j (n : Nat) (hn : n < 18446744073709551616) (H : Heap) (hN : Neat H) : CallTo Tryz.prog Tryz.tab 43 [.int .u64 (n : Int)] H [(.str (dig n), H)] := by
 induction n using Nat.strongRecOn with
 | ind n ih =>
  by_cases h : n < 10
  ·rw [z5K h]
   exact z8G Tryz.tabOk (w4D n h) rfl (k8F n h) H fun b o hb => by simp [pH0, T.get_e] at hb
  ·have q : ∀ m, m < n → CallTo Tryz.prog Tryz.tab 43 [.int .u64 (m : Int)] H [(.str (dig m), H)] := fun m hm => ih m hm (by omega)
   have m1 : n / 10 < n := by omega
   have m2 : n % 10 < n := by omega
   have l1 := z9y (n := n / 10) (by omega)
   have l2 := z9y (n := n % 10) (by omega)
   have e1 := q8H (k := .u64) (k8G (n := n / 10) (by omega))
   have e2 := q8I (k := .u64) (n := n)
   have hc : catO (dig (n / 10)) (dig (n % 10)) = some (.str (dig n)) := by rw [q4Y h]; exact z2E (by omega)
   have h9 : ¬ (n : Int) < 10 := by omega
   refine z0A Tryz.tabOk Tryz.func43 rfl rfl ?_
   show Gets Tryz.prog Tryz.tab ⟨none, 16⟩ _ _ _
   repeat refine Gets.seq ?_
   refine g0_ ?_
   refine g1_ h9 ?_
   refine cFs_ ?_
   refine o1_ (ov := z1O noOv 43 (ovD .u64 n H)) (z0I z0c (j6C q)) (y6_ (fun k K => @q3q k _ _ K m1) (fun k K => @q3q k _ _ K m2) e1 e2 @z3w hc) ?_
   refine Gets.ret Tryz.tabOk ?_
   exact z0v rfl (sr_ Tryz.f43.eq_1) (.refl _) hN trivial
end Go.Proofs
namespace Go.Proofs
open Go.Sx
set_option maxRecDepth 100000
theorem k8H {n : Nat} (h : n < 9223372036854775808) : z1V .i64 (n : Int) = (n : Int) := z2C (by omega) (by omega)
theorem w4E (n : Nat) (h : n < 10) : z7X pH0 (.str [UInt8.ofNat (48 + n)]) ((fns Tryz.tab 60).call 87 [.int .i64 (n : Int)] pH0) = true := by
 rcases (by omega : n = 0 ∨ n = 1 ∨ n = 2 ∨ n = 3 ∨ n = 4 ∨ n = 5 ∨ n = 6 ∨ n = 7 ∨ n = 8 ∨ n = 9) with rfl | rfl | rfl | rfl | rfl | rfl | rfl | rfl | rfl | rfl <;> kernel_rfl
theorem k8I (n : Nat) (h : n < 10) : z7W Tryz.tab pH0 [.int .i64 (n : Int)] = true := by
 rcases (by omega : n = 0 ∨ n = 1 ∨ n = 2 ∨ n = 3 ∨ n = 4 ∨ n = 5 ∨ n = 6 ∨ n = 7 ∨ n = 8 ∨ n = 9) with rfl | rfl | rfl | rfl | rfl | rfl | rfl | rfl | rfl | rfl <;> kernel_rfl
theorem j9S (n : Nat) (hn : n < 9223372036854775808) (H : Heap) (hN : Neat H) : CallTo Tryz.prog Tryz.tab 87 [.int .i64 (n : Int)] H [(.str (dig n), H)] := by
 induction n using Nat.strongRecOn with
 | ind n ih =>
  by_cases h : n < 10
  ·rw [z5K h]
   exact z8G Tryz.tabOk (w4E n h) rfl (k8I n h) H fun b o hb => by simp [pH0, T.get_e] at hb
  ·have q : ∀ m, m < n → CallTo Tryz.prog Tryz.tab 87 [.int .i64 (m : Int)] H [(.str (dig m), H)] := fun m hm => ih m hm (by omega)
   have m1 : n / 10 < n := by omega
   have m2 : n % 10 < n := by omega
   have l1 := z9y (n := n / 10) (by omega)
   have l2 := z9y (n := n % 10) (by omega)
   have e1 := q8H (k := .i64) (k8H (n := n / 10) (by omega))
   have e2 := q8I (k := .i64) (n := n)
   have hc : catO (dig (n / 10)) (dig (n % 10)) = some (.str (dig n)) := by rw [q4Y h]; exact z2E (by omega)
   have h9 : ¬ (n : Int) < 10 := by omega
   refine z0A Tryz.tabOk Tryz.func87 rfl rfl ?_
   show Gets Tryz.prog Tryz.tab ⟨none, 17⟩ _ _ _
   repeat refine Gets.seq ?_
   refine g0_ ?_
   refine g1_ h9 ?_
   refine cFs_ ?_
   refine o1_ (ov := z1O noOv 87 (ovD .i64 n H)) (z0I z0c (j6C q)) (y6_ (fun k K => @q3q k _ _ K m1) (fun k K => @q3q k _ _ K m2) e1 e2 @z3w hc) ?_
   refine Gets.ret Tryz.tabOk ?_
   exact z0v rfl (sr_ Tryz.f87.eq_1) (.refl _) hN trivial
open Classical in
noncomputable def z2X (h : Heap) (args : List AV) (H : Heap) : Option (List VH) := match args with
 | [.int .i64 n] => if 0 ≤ n ∧ n ≤ 9223372036854775807 ∧ H = h then some [(.str (z0o n), H)] else none
 | _ => none
theorem z1a {h : Heap} {n : Int} (h0 : 0 ≤ n) (h1 : n ≤ 9223372036854775807) : z2X h [.int .i64 n] h = some [(.str (z0o n), h)] := if_pos ⟨h0, h1, rfl⟩
theorem z1I {h : Heap} (hN : Neat h) (args : List AV) (H : Heap) (outs : List VH) (e : z2X h args H = some outs) : CallTo Tryz.prog Tryz.tab 87 args H outs := by
 unfold z2X at e
 split at e
 ·rename_i n
  split at e
  ·rename_i hh
   simp only [Option.some.injEq] at e
   subst e
   obtain ⟨h0, h1, rfl⟩ := hh
   obtain ⟨m, rfl⟩ := Int.eq_ofNat_of_zero_le h0
   rw [q0t]
   exact j9S m (by omega) H hN
  ·simp at e
 ·simp at e
theorem k8J (n : Nat) (h : n < 10) : z7X pH0 (.str [UInt8.ofNat (48 + n)]) ((fns Tryz.tab 60).call 195 [.int .i64 (n : Int)] pH0) = true := by
 rcases (by omega : n = 0 ∨ n = 1 ∨ n = 2 ∨ n = 3 ∨ n = 4 ∨ n = 5 ∨ n = 6 ∨ n = 7 ∨ n = 8 ∨ n = 9) with rfl | rfl | rfl | rfl | rfl | rfl | rfl | rfl | rfl | rfl <;> kernel_rfl
theorem k4k (n : Nat) (h : n < 10) : z7W Tryz.tab pH0 [.int .i64 (n : Int)] = true := by
 rcases (by omega : n = 0 ∨ n = 1 ∨ n = 2 ∨ n = 3 ∨ n = 4 ∨ n = 5 ∨ n = 6 ∨ n = 7 ∨ n = 8 ∨ n = 9) with rfl | rfl | rfl | rfl | rfl | rfl | rfl | rfl | rfl | rfl <;> kernel_rfl
theorem j6D (n : Nat) (hn : n < 9223372036854775808) (H : Heap) (hN : Neat H) : CallTo Tryz.prog Tryz.tab 195 [.int .i64 (n : Int)] H [(.str (dig n), H)] := by
 induction n using Nat.strongRecOn with
 | ind n ih =>
  by_cases h : n < 10
  ·rw [z5K h]
   exact z8G Tryz.tabOk (k8J n h) rfl (k4k n h) H fun b o hb => by simp [pH0, T.get_e] at hb
  ·have q : ∀ m, m < n → CallTo Tryz.prog Tryz.tab 195 [.int .i64 (m : Int)] H [(.str (dig m), H)] := fun m hm => ih m hm (by omega)
   have m1 : n / 10 < n := by omega
   have m2 : n % 10 < n := by omega
   have l1 := z9y (n := n / 10) (by omega)
   have l2 := z9y (n := n % 10) (by omega)
   have e1 := q8H (k := .i64) (k8H (n := n / 10) (by omega))
   have e2 := q8I (k := .i64) (n := n)
   have hc : catO (dig (n / 10)) (dig (n % 10)) = some (.str (dig n)) := by rw [q4Y h]; exact z2E (by omega)
   have h9 : ¬ (n : Int) < 10 := by omega
   refine z0A Tryz.tabOk Tryz.func195 rfl rfl ?_
   show Gets Tryz.prog Tryz.tab ⟨none, 16⟩ _ _ _
   repeat refine Gets.seq ?_
   refine g0_ ?_
   refine g1_ h9 ?_
   refine cFs_ ?_
   refine o1_ (ov := z1O noOv 195 (ovD .i64 n H)) (z0I z0c (j6C q)) (y6_ (fun k K => @q3q k _ _ K m1) (fun k K => @q3q k _ _ K m2) e1 e2 @z3w hc) ?_
   refine Gets.ret Tryz.tabOk ?_
   exact z0v rfl (sr_ Tryz.f195.eq_1) (.refl _) hN trivial
open Classical in
noncomputable def z7k (h : Heap) (args : List AV) (H : Heap) : Option (List VH) := match args with
 | [.int .i64 n] => if 0 ≤ n ∧ n ≤ 9223372036854775807 ∧ H = h then some [(.str (z0o n), H)] else none
 | _ => none
theorem z6h {h : Heap} {n : Int} (h0 : 0 ≤ n) (h1 : n ≤ 9223372036854775807) : z7k h [.int .i64 n] h = some [(.str (z0o n), h)] := if_pos ⟨h0, h1, rfl⟩
theorem z8d {h : Heap} (hN : Neat h) (args : List AV) (H : Heap) (outs : List VH) (e : z7k h args H = some outs) : CallTo Tryz.prog Tryz.tab 195 args H outs := by
 unfold z7k at e
 split at e
 ·rename_i n
  split at e
  ·rename_i hh
   simp only [Option.some.injEq] at e
   subst e
   obtain ⟨h0, h1, rfl⟩ := hh
   obtain ⟨m, rfl⟩ := Int.eq_ofNat_of_zero_le h0
   rw [q0t]
   exact j6D m (by omega) H hN
  ·simp at e
 ·simp at e
theorem z8T (n : Int) (H : Heap) (hN : Neat H) : CallTo Tryz.prog Tryz.tab 277 [vi n] H [(.bool (z0x n 0 2147483648), H)] := by
 refine z0j (n := 20) Tryz.tabOk z0c (H' := H) ?_ (.refl _) hN trivial
 clear hN
 simp only [z0x, nle, nleN]
 rcases Classical.em (n < 0) with h1 | h1
 rotate_left
 rcases Classical.em (2147483648 < n) with h2 | h2
 rotate_left
 all_goals simp only [*, decide_true, decide_false, not_false_eq_true, Bool.not_true, Bool.not_false, Bool.and_true, Bool.and_false, Bool.true_and, Bool.false_and]
 all_goals exact co_ (y2_ k6d Tryz.f277.eq_1)
theorem j0k (n : Int) (H : Heap) (hN : Neat H) : CallTo Tryz.prog Tryz.tab 278 [vi n] H [(.bool (z0x n 1 64), H)] := by
 refine z0j (n := 20) Tryz.tabOk z0c (H' := H) ?_ (.refl _) hN trivial
 clear hN
 simp only [z0x, nle, nleN]
 rcases Classical.em (n < 1) with h1 | h1
 rotate_left
 rcases Classical.em (64 < n) with h2 | h2
 rotate_left
 all_goals simp only [*, decide_true, decide_false, not_false_eq_true, Bool.not_true, Bool.not_false, Bool.and_true, Bool.and_false, Bool.true_and, Bool.false_and]
 all_goals exact co_ (y2_ k6e Tryz.f278.eq_1)
theorem q4Z (n : Int) (H : Heap) (hN : Neat H) : CallTo Tryz.prog Tryz.tab 280 [vi n] H [(.bool (z0x n 1 9999), H)] := by
 refine z0j (n := 20) Tryz.tabOk z0c (H' := H) ?_ (.refl _) hN trivial
 clear hN
 simp only [z0x, nle, nleN]
 rcases Classical.em (n < 1) with h1 | h1
 rotate_left
 rcases Classical.em (9999 < n) with h2 | h2
 rotate_left
 all_goals simp only [*, decide_true, decide_false, not_false_eq_true, Bool.not_true, Bool.not_false, Bool.and_true, Bool.and_false, Bool.true_and, Bool.false_and]
 all_goals exact co_ (y2_ k6g Tryz.f280.eq_1)
theorem j0l (x : z0L) (h : x.length < 1000000000) (H : Heap) (hN : Neat H) : CallTo Tryz.prog Tryz.tab 279 [.str x] H [(.bool (decide (x.length ≤ 65536)), H)] := by
 have n1 : ∀ h, lenA Tryz.tab h 9 (.str x) = some (.int .i64 (x.length : Int)) := fun k => z0S ud9 k x
 refine z0j (n := 20) Tryz.tabOk z0c (H' := H) ?_ (.refl _) hN trivial
 clear hN
 rw [nleN]
 exact co_ (y3_ k6f Tryz.f279.eq_1 n1)
set_option linter.defProp false
def k0X := y5_ q0x Tryz.f196.eq_1 @z4j @z3S (z0b ia3)
theorem q1Y (x : ItemN) (H : Heap) (hN : Neat H) : CallTo Tryz.prog Tryz.tab 196 [.agg (itL x)] H [(vi (code (z4a x) 2), H)] := by
 have hN1 := hN.push (.cells 33 true (itL x))
 have q := z9w x.e _ hN1
 refine z0j (n := 20) Tryz.tabOk (ov := ptO noOv 193 [.agg [vi x.e.s, vi x.e.t, vi x.e.p]] (H.push (.cells 33 true (itL x))) [(vi (code (effB x.e) 2), H.push (.cells 33 true (itL x)))]) (z0e z0c q)
  (H' := H.push (.cells 33 true (itL x))) ?_ (.push _ _) hN trivial
 clear hN hN1 q
 rcases Classical.em (x.g < 1) with g1 | g1
 ·rw [show z4a x = false by simp [z4a]; omega]
  exact co_ (y4_ q0x Tryz.f196.eq_1 @z3S (z0b ia3))
 rcases Classical.em (x.g < 8) with g2 | g2
 rotate_left
 ·rw [show z4a x = false by simp [z4a]; omega]
  exact co_ (y4_ q0x Tryz.f196.eq_1 @z3S (z0b ia3))
 have hg : (decide (1 ≤ x.g) && decide (x.g ≤ 7)) = true := by simp; omega
 have hB : z4a x = (if x.m = 0 ∧ x.i = false then effB x.e else decide (1 ≤ x.m) && decide (x.m ≤ 64) && decide (x.e = effZ)) := by unfold z4a; rw [hg, Bool.true_and]
 rw [hB]
 clear hB hg
 rcases Classical.em (x.m = 0) with m0 | m0
 ·cases hi : x.i with
  | false =>
   rw [if_pos ⟨m0, rfl⟩]
   exact co_ (y8_ q0x Tryz.f196.eq_1 @z7x @z4j @q2B @z3S (z0b ia3) (y3_ (z0b ia4) (z0f ia26 sz26) @q6F))
  | true =>
   rw [if_neg (by simp), show (decide (1 ≤ x.m) && decide (x.m ≤ 64) && decide (x.e = effZ)) = false by simp; omega]
   exact co_ (y8_ q0x Tryz.f196.eq_1 @z7x @z4j @q2B @z3S (z0b ia3) (z0b ia4))
 rw [if_neg (fun h => m0 h.1)]
 rcases Classical.em (x.m < 1) with m1 | m1
 ·rw [show (decide (1 ≤ x.m) && decide (x.m ≤ 64) && decide (x.e = effZ)) = false by simp; omega]
  exact co_ k0X
 rcases Classical.em (64 < x.m) with m2 | m2
 ·rw [show (decide (1 ≤ x.m) && decide (x.m ≤ 64) && decide (x.e = effZ)) = false by simp; omega]
  exact co_ k0X
 rcases Classical.em (x.e = effZ) with e0 | e0
 ·have hz := j8T x.e.s x.e.t x.e.p
  rw [show (decide (x.e.s = 0) && decide (x.e.t = 0) && decide (x.e.p = 0)) = true by rw [e0]; rfl] at hz
  rw [show (decide (1 ≤ x.m) && decide (x.m ≤ 64) && decide (x.e = effZ)) = true by simp [e0]; omega]
  clear e0
  exact co_ (y8_ q0x Tryz.f196.eq_1 @z7x @z4j @z3S (z0b ia3) (z0f ia26 sz26) (y4_ @q6F @q1T @nq26 @Bool.not_true))
 ·have hz := j8T x.e.s x.e.t x.e.p
  rw [show (decide (x.e.s = 0) && decide (x.e.t = 0) && decide (x.e.p = 0)) = false by
   rw [Bool.eq_false_iff]
   intro hh
   simp only [Bool.and_eq_true, decide_eq_true_eq] at hh
   exact e0 (j5I hh.1.1 hh.1.2 hh.2)] at hz
  rw [show (decide (1 ≤ x.m) && decide (x.m ≤ 64) && decide (x.e = effZ)) = false by simp [e0]]
  clear e0
  exact co_ (y8_ q0x Tryz.f196.eq_1 @z7x @z4j @z3S (z0b ia3) (z0f ia26 sz26) (y4_ @q6F @q1T @nq26 @Bool.not_false))
end Go.Proofs
namespace Go.Proofs
open Go.Sx
set_option maxRecDepth 100000
open Classical in
noncomputable def j9T (h : Heap) (args : List AV) (H : Heap) : Option (List VH) := match args with
 | [.str s] => if s.length < 1000000000 ∧ H = h then some [(.bool (z1S s), H)] else none
 | _ => none
theorem j0m {h : Heap} {s : z0L} (hs : s.length < 1000000000) : j9T h [.str s] h = some [(.bool (z1S s), h)] := if_pos ⟨hs, rfl⟩
theorem j9U {h : Heap} (hN : Neat h) (args : List AV) (H : Heap) (outs : List VH) (e : j9T h args H = some outs) : CallTo Tryz.prog Tryz.tab 276 args H outs := by
 unfold j9T at e
 split at e
 ·rename_i s
  split at e
  ·rename_i hh
   simp only [Option.some.injEq] at e
   subst e
   obtain ⟨h0, rfl⟩ := hh
   exact z8L s h0 H hN
  ·simp at e
 ·simp at e
set_option linter.defProp false
def z8U := y7_ k5R Tryz.f192.eq_1 @z7t @z7u (z0b ia9) @z0N @q4S
theorem z7l (fr to : z0L) (hf : fr.length < 1000000000) (ht : to.length < 1000000000) (H : Heap) (hN : Neat H) : CallTo Tryz.prog Tryz.tab 192 [.agg [.str fr, .str to]] H [(vi (code (z1Y fr to) 2), H)] := by
 refine z0j (n := 20) Tryz.tabOk (ov := z1O noOv 276 (j9T (H.push (.cells 28 true [.str fr, .str to])))) (z0I z0c (j9U (hN.push _))) (H' := H.push (.cells 28 true [.str fr, .str to])) ?_ (.push _ _) hN trivial
 have q1 := j0m (h := H.push (.cells 28 true [.str fr, .str to])) hf
 have q2 := j0m (h := H.push (.cells 28 true [.str fr, .str to])) ht
 clear hN hf ht
 unfold z1Y
 by_cases e1 : fr = []
 ·subst e1
  by_cases e2 : to = []
  ·subst e2
   simp only [decide_true, decide_false, Bool.true_or, Bool.false_or, Bool.true_and, Bool.false_and, Bool.and_true, Bool.and_false]
   exact cob_ z8U
  ·have b2 := z8O e2
   rw [show decide (to = []) = false by simp [e2]]
   cases n2 : z1S to
   ·simp only [decide_true, decide_false, Bool.true_or, Bool.false_or, Bool.true_and, Bool.false_and, Bool.and_true, Bool.and_false]
    exact cob_ z8U
   ·cases n3 : sblt [] to
    ·simp only [decide_true, decide_false, Bool.true_or, Bool.false_or, Bool.true_and, Bool.false_and, Bool.and_true, Bool.and_false]
     exact cob_ z8U
    ·simp only [decide_true, decide_false, Bool.true_or, Bool.false_or, Bool.true_and, Bool.false_and, Bool.and_true, Bool.and_false]
     exact cob_ z8U
 ·have b1 := z8O e1
  rw [show decide (fr = []) = false by simp [e1]]
  cases n1 : z1S fr
  ·simp only [decide_true, decide_false, Bool.true_or, Bool.false_or, Bool.true_and, Bool.false_and, Bool.and_true, Bool.and_false]
   exact cob_ z8U
  ·by_cases e2 : to = []
   ·subst e2
    simp only [decide_true, decide_false, Bool.true_or, Bool.false_or, Bool.true_and, Bool.false_and, Bool.and_true, Bool.and_false]
    exact cob_ z8U
   ·have b2 := z8O e2
    rw [show decide (to = []) = false by simp [e2]]
    cases n2 : z1S to
    ·simp only [decide_true, decide_false, Bool.true_or, Bool.false_or, Bool.true_and, Bool.false_and, Bool.and_true, Bool.and_false]
     exact cob_ z8U
    ·cases n3 : sblt fr to
     ·simp only [decide_true, decide_false, Bool.true_or, Bool.false_or, Bool.true_and, Bool.false_and, Bool.and_true, Bool.and_false]
      exact cob_ z8U
     ·simp only [decide_true, decide_false, Bool.true_or, Bool.false_or, Bool.true_and, Bool.false_and, Bool.and_true, Bool.and_false]
      exact cob_ z8U
theorem q6S (fr to : z0L) (hf : fr.length < 1000000) (ht : to.length < 1000000) (H : Heap) (hN : Neat H) : CallTo Tryz.prog Tryz.tab 84 [.agg [.str fr, .str to]] H [(.tuple [.str (if z1Y fr to then z2v fr to else []), vi (code (z1Y fr to) 2)], H)] := by
 have hN1 := hN.push (.cells 28 true [.str fr, .str to])
 have q := z7l fr to (by omega) (by omega) _ hN1
 have c1 := cat_ [91] fr
 have c2 := cat_ ([91] ++ fr) [44]
 have c3 := cat_ ([91] ++ fr ++ [44]) to
 have c4 : catO ([91] ++ fr ++ [44] ++ to) [41] = some (.str (z2v fr to)) := z2E (by simp; omega)
 refine z0j (n := 20) Tryz.tabOk (ov := ptO noOv 192 [.agg [.str fr, .str to]] (H.push (.cells 28 true [.str fr, .str to])) [(vi (code (z1Y fr to) 2), H.push (.cells 28 true [.str fr, .str to]))]) (z0e z0c q)
  (H' := H.push (.cells 28 true [.str fr, .str to])) ?_ (.push _ _) hN ⟨trivial, trivial, trivial⟩
 clear hN hN1 q hf ht
 cases z1Y fr to with
 | false =>
  rw [if_neg (by simp)]
  exact co_ (y7_ k5n Tryz.f84.eq_1 (z0f ia28 sz28) @t_r2 @z7t @z7u (z0b ia9))
 | true =>
  rw [if_pos rfl]
  exact co_ (y8_ k5n Tryz.f84.eq_1 (z0f ia28 sz28) @t_r2 @z7t @z7u (z0b ia9) @z3w)
theorem q6T (e : EffN) (H : Heap) (hN : Neat H) : CallTo Tryz.prog Tryz.tab 85 [.agg [vi e.s, vi e.t, vi e.p]] H [(.tuple [.str (if effB e then effT e else []), vi (code (effB e) 2)], H)] := by
 refine z0A Tryz.tabOk Tryz.func85 rfl rfl ?_
 show Gets Tryz.prog Tryz.tab ⟨none, 23⟩ _ _ _
 repeat refine Gets.seq ?_
 refine g0_ ?_
 refine Gets.ofH (fun h => h.blks.get H.next = some (.cells 26 true [vi e.s, vi e.t, vi e.p]) ∧ Grows H h ∧ Neat h) ⟨fo_, .push _ _, hN.push _⟩ ?_
 rintro h ⟨a0, ag, aN⟩
 have q := z9w e h aN
 cases he : effB e with
 | false =>
  rw [he] at q
  rw [if_neg (by simp)]
  refine o1_ (z0e z0c q) (y5_ @z0y a0 (z0f ia26 sz26) @t_r3 @z2p) ?_
  refine cT_ ?_
  refine g0_ ?_
  refine Gets.ret Tryz.tabOk ?_
  exact z1e rfl (sf1_ (y2_ Tryz.f85.eq_1 @z2p)) ag hN ⟨trivial, trivial, trivial⟩
 | true =>
  rw [he] at q
  rw [if_pos rfl]
  obtain ⟨h1, h2, h3, h4, h5, h6⟩ := q4Q.1 he
  refine o1_ (z0e z0c q) (y5_ @z0y a0 (z0f ia26 sz26) @t_r3 @z2m) ?_
  refine cFs_ ?_
  have d1 := z1a (h := (h.push (.cells 9 true [.str [102], .str [117], .str [114]]))) (n := e.s) (by omega) (by omega)
  have d2 := z1a (h := (h.push (.cells 9 true [.str [102], .str [117], .str [114]]))) (n := e.t) (by omega) (by omega)
  have l1 := z0r (n := e.s) ⟨by omega, by omega⟩
  have l2 := z0r (n := e.t) ⟨by omega, by omega⟩
  have l3 := q4R e.p
  obtain ⟨k, hk, hw, hf⟩ : ∃ k : Nat, k < 3 ∧ z1V .i64 (e.p - 1) = (k : Int) ∧ ([.str [102], .str [117], .str [114]] : List AV)[k]? = some (.str (furB e.p)) := by
   rcases (by omega : e.p = 1 ∨ e.p = 2 ∨ e.p = 3) with hp | hp | hp
   ·exact ⟨0, by omega, by rw [hp]; rfl, by rw [hp]; rfl⟩
   ·exact ⟨1, by omega, by rw [hp]; rfl, by rw [hp]; rfl⟩
   ·exact ⟨2, by omega, by rw [hp]; rfl, by rw [hp]; rfl⟩
  have hix : z1h Tryz.tab 51 (.slice h.next 0 3 false 3) (.int .i64 (k : Int)) = some (.ptr h.next k) := by
   rw [z2L ud51 sz9, if_pos ⟨by omega, by omega⟩]; simp
  have c1 := cat_ (z0o e.s) [47]
  have c2 := cat_ (z0o e.s ++ [47]) (z0o e.t)
  have c3 := cat_ (z0o e.s ++ [47] ++ z0o e.t) [47]
  have c4 : catO (z0o e.s ++ [47] ++ z0o e.t ++ [47]) (furB e.p) = some (.str (effT e)) := z2E (by simp; omega)
  have ltp := aN _ _ a0
  refine gk_ (ov := z1O noOv 87 (z2X (h.push (.cells 9 true [.str [102], .str [117], .str [114]])))) (z0I z0c (z1I (aN.push _))) [.rd 0, .rd 1, .rd 4, .rd 5, .rd 9, .rd 10, .rd 11, .rd 12, .rd 13, .rd 14, .sm 2, .rd 3, .sm 6, .rd 7, .rd 8, .rd 15, .rd 16, .rd 17] (aN) (y8_ d1 d2 a0 @q8P @q8Q @q8R (z0b ia3) (y8_ (z0b ia9) hw hix hf @j8V @z3w c1 (y3_ c2 c3 c4))) ?_
  refine Gets.ret Tryz.tabOk ?_
  exact z1e rfl (sf1_ (y2_ Tryz.f85.eq_1 @z2m)) (ag.trans (.push _ _)) hN ⟨trivial, trivial, trivial⟩
end Go.Proofs
namespace Go.Proofs
open Go.Sx
set_option maxRecDepth 100000
theorem j2l (x : ItemN) (hx : z4a x = true) (H : Heap) (hN : Neat H) : CallTo Tryz.prog Tryz.tab 89 [.agg (itL x)] H [(.tuple [.str (z6n x), vi 0], H)] := by
 refine z0A Tryz.tabOk Tryz.func89 rfl rfl ?_
 show Gets Tryz.prog Tryz.tab ⟨none, 36⟩ _ _ _
 repeat refine Gets.seq ?_
 obtain ⟨h1, h2, h3⟩ := q1S.1 hx
 refine g0_ ?_
 refine Gets.ofH (fun h => h.blks.get H.next = some (.cells 33 true (itL x)) ∧ Grows H h ∧ Neat h) ⟨fo_, .push _ _, hN.push _⟩ ?_
 rintro h ⟨a0, ag, aN⟩
 have q := q1Y x h aN
 have q2 := q6T x.e h aN
 rw [hx] at q
 refine o1_ (z0e z0c q) (y5_ @z0y a0 (z0f ia33 sz33) @t_r6 @z2m) ?_
 refine cFs_ ?_
 refine o1_ (z0e z0c q2) (y5_ @z0y a0 @z7x (z0f ia26 sz26) @q6F) ?_
 have hm : 0 ≤ x.m ∧ x.m ≤ 64 := by rcases h3 with ⟨a, b, c⟩ | ⟨a, b, c, d⟩ <;> omega
 have l1 := z0r (n := x.m) ⟨by omega, by omega⟩
 have l2 := z0r (n := x.g) ⟨by omega, by omega⟩
 have d1 := z1a (h := h) (n := x.m) (by omega) (by omega)
 have d2 := z1a (h := h) (n := x.g) (by omega) (by omega)
 have tl := z8N hx
 refine g1_ (y3_ a0 @z4j (z0b ia3)) ?_
 refine Gets.midH (I := fun tm h' => h' = h ∧ tm.get 1 = some (.ptr H.next 0) ∧ tm.get 4 = some (.str (if x.m = 0 then effT x.e else [109] ++ z0o x.m ++ wayT x.i))) ?_ ?_
 ·rcases h3 with ⟨a, b, c⟩ | ⟨a, b, c, d⟩
  ·rw [if_pos a]
   refine Gets.condF (sx1_ a) (Gets.skip Tryz.tabOk ?_)
   exact ⟨rfl, _, _, rfl, rfl, sx0_, sx1_ c⟩
  ·have m1 : 0 < x.m := by omega
   have c1 := cat_ [109] (z0o x.m)
   have c2 := cat_ ([109] ++ z0o x.m) [47, 111, 117, 116]
   have c3 := cat_ ([109] ++ z0o x.m) [47, 105, 110]
   rw [if_neg (show ¬ x.m = 0 by omega)]
   refine cT_ (hv := sx1_ m1) ?_
   refine o1_ (ov := z1O noOv 87 (z2X h)) (z0I z0c (z1I aN)) (y7_ d1 a0 @z4j (z0b ia3) @z3w c1 c2) ?_
   refine g1_ (y3_ a0 @q2B (z0b ia4)) ?_
   cases hi : x.i with
   | false =>
    refine Gets.condF (sx1_ hi) (Gets.skip Tryz.tabOk ?_)
    exact ⟨rfl, _, _, rfl, rfl, sx0_, by simp (disch := decide) only [sxL]; rfl⟩
   | true =>
    refine cT_ (hv := sx1_ hi) ?_
    refine o1_ (ov := z1O noOv 87 (z2X h)) (z0I z0c (z1I aN)) (y7_ d1 a0 @z4j (z0b ia3) @z3w c1 c3) ?_
    exact ⟨rfl, _, _, rfl, rfl, sx0_, by simp (disch := decide) only [sxL]; rfl⟩
 rintro tm h' ⟨rfl, i1, i4⟩
 change Gets _ _ _ _ _ _
 repeat refine Gets.seq ?_
 have hT : z6n x = (if x.m = 0 then effT x.e else [109] ++ z0o x.m ++ wayT x.i) ++ [64] ++ z0o x.g := rfl
 rw [hT] at tl ⊢
 generalize (if x.m = 0 then effT x.e else [109] ++ z0o x.m ++ wayT x.i) = w at i4 tl ⊢
 have c3 : catO w [64] = some (.str (w ++ [64])) := z2E (by simp only [List.length_append, List.length_cons, List.length_nil] at tl ⊢; omega)
 have c4 : catO (w ++ [64]) (z0o x.g) = some (.str (w ++ [64] ++ z0o x.g)) := z2E (by simp only [List.length_append, List.length_cons, List.length_nil] at tl ⊢; omega)
 refine o1_ (ov := z1O noOv 87 (z2X h')) (z0I z0c (z1I aN)) (y8_ d2 i1 i4 a0 @z3S (z0b ia3) @z3w (y2_ c3 c4)) ?_
 refine Gets.ret Tryz.tabOk ?_
 exact z1e rfl (sr_ Tryz.f89.eq_1) ag hN ⟨trivial, trivial, trivial⟩
theorem q1Z {n : Int} (h : n < 0) : z0o n = [45] ++ z0o (-n) := by
 obtain ⟨m, hm⟩ : ∃ m : Nat, n = -((m : Int) + 1) := ⟨(-n - 1).toNat, by omega⟩
 subst hm
 have e : -(-((m : Int) + 1)) = ((m + 1 : Nat) : Int) := by omega
 have h9 := Lib.itoa_neg (m + 1) (by omega)
 rw [e, q0t, show -((m : Int) + 1) = -((m + 1 : Nat) : Int) by omega]
 exact h9
theorem j2m (n : Int) (hn : n ≠ 0) (hb : numB n = true) (H : Heap) (hN : Neat H) : CallTo Tryz.prog Tryz.tab 86 [vi n] H [(.str (z7q n), H)] := by
 simp only [numB, Bool.and_eq_true, decide_eq_true_eq] at hb
 refine z0j (n := 20) Tryz.tabOk (ov := z1O noOv 87 (z2X H)) (z0I z0c (z1I hN)) (H' := H) ?_ (.refl _) hN trivial
 clear hN
 unfold z7q
 by_cases h0 : n < 0
 ·have hw : z1V .i64 (0 - n) = -n := by rw [z2C (by omega) (by omega)]; omega
  have d1 := z1a (h := H) (n := -n) (by omega) (by omega)
  have l1 := z0r (n := -n) ⟨by omega, by omega⟩
  have c1 := cat_ [45] (z0o (-n))
  rw [if_neg (by omega), List.nil_append, q1Z h0]
  exact co_ (y3_ k5o Tryz.f86.eq_1 @z3w)
 ·have d1 := z1a (h := H) (n := n) (by omega) (by omega)
  have l1 := z0r (n := n) ⟨by omega, by omega⟩
  have c1 := cat_ [43] (z0o n)
  rw [if_pos (by omega)]
  exact co_ (y3_ k5o Tryz.f86.eq_1 @z3w)
end Go.Proofs
namespace Go.Proofs
open Go.Sx
set_option maxRecDepth 100000
theorem j2n (a b : DefN) (H : Heap) (hN : Neat H) (ha : z1n H a) (hb : z1n H b) (h1 : a.ss.length < 1000000) (h2 : b.ss.length < 1000000) :
  CallTo Tryz.prog Tryz.tab 63 [.agg (dfL a), .agg (dfL b)] H [(.bool (q0e a b), H)] := by
 refine z0A Tryz.tabOk Tryz.func63 rfl rfl ?_
 show Gets Tryz.prog Tryz.tab ⟨none, 52⟩ _ _ _
 repeat refine Gets.seq ?_
 have o1 := ha.one
 have o2 := hb.one
 have n1 : ∀ h, lenA Tryz.tab h 29 a.st = some (.int .i64 (a.ss.length : Int)) := ha.len ud29
 have n2 : ∀ h, lenA Tryz.tab h 29 b.st = some (.int .i64 (b.ss.length : Int)) := hb.len ud29
 refine g1_ (y2_ o1 o2) ?_
 refine Gets.ofH (fun h => h.blks.get H.next = some (.cells 31 true (dfL a)) ∧ h.blks.get (H.next + 1) = some (.cells 31 true (dfL b)) ∧ Grows H h ∧ Neat h) ⟨fo_, fo_, (Grows.push _ _).trans (.push _ _), (hN.push _).push _⟩ ?_
 rintro h ⟨a0, b0, ag, aN⟩
 have hah := ha.grow hN ag
 have hbh := hb.grow hN ag
 have e1 := z3f a.name b.name
 refine Gets.midH (I := fun tm h' => h' = h ∧ tm.get 2 = some (.ptr H.next 0) ∧ tm.get 3 = some (.ptr (H.next + 1) 0) ∧ tm.get 33 = some (.bool (!(decide (a.name = b.name) && decide (a.r = b.r) && decide (a.d = b.d) && decide ((a.ss.length : Int) = (b.ss.length : Int)))))) ?_ ?_
 ·cases x1 : decide (a.name = b.name) with
  | false =>
   rw [x1] at e1
   refine g1b_ (y6_ a0 b0 @z3o (z0b ia9) e1 @z0N) ?_
   exact ⟨rfl, _, _, rfl, rfl, sf1_ @z0i, sf1_ @z0i, sx0_⟩
  | true =>
   rw [x1] at e1
   cases x2 : decide (a.r = b.r) with
   | false =>
    refine g1b_ (y8_ a0 b0 @z3o @z4L (z0b ia9) (z0b ia3) e1 (y2_ x2 @z0N)) ?_
    exact ⟨rfl, _, _, rfl, rfl, sf1_ @z0i, sf1_ @z0i, sx0_⟩
   | true =>
    cases x3 : decide (a.d = b.d) with
    | false =>
     refine g1b_ (y8_ a0 b0 @z3o @z4L @z7w (z0b ia9) (z0b ia3) (y4_ e1 x2 x3 @z0N)) ?_
     exact ⟨rfl, _, _, rfl, rfl, sf1_ @z0i, sf1_ @z0i, sx0_⟩
    | true =>
     refine g1b_ (y8_ a0 b0 @z3o @z4L @z7w @z2G (z0b ia9) (y7_ (z0b ia3) (z0b ia29) e1 x2 x3 n1 n2)) ?_
     exact ⟨rfl, _, _, rfl, rfl, sf1_ @z0i, sf1_ @z0i, sx0_⟩
 rintro tm h' ⟨rfl, i2, i3, i33⟩
 change Gets _ _ _ _ _ _
 repeat refine Gets.seq ?_
 have hdf : ∀ q : Bool, decide (a.ss = b.ss) = q → q0e a b = (decide (a.name = b.name) && decide (a.r = b.r) && decide (a.d = b.d) && q) := fun q e => by unfold q0e; rw [e]
 by_cases hlen : (a.ss.length : Int) = (b.ss.length : Int)
 ·rw [show decide ((a.ss.length : Int) = (b.ss.length : Int)) = true by simp [hlen], Bool.and_true] at i33
  cases hc : (decide (a.name = b.name) && decide (a.r = b.r) && decide (a.d = b.d)) with
  | false =>
   rw [hc] at i33
   rw [hdf _ rfl, hc, Bool.false_and]
   refine cT_ (hv := sx1_ i33) ?_
   refine g0_ ?_
   refine Gets.ret Tryz.tabOk ?_
   exact z0v rfl (sr_ Tryz.f63.eq_1) ag hN trivial
  | true =>
   rw [hc] at i33
   refine cFs_ (hv := sx1_ i33) ?_
   refine g0_ ?_
   refine Gets.upto a.ss.length (fun i tm => tm.get 2 = some (.ptr H.next 0) ∧ tm.get 3 = some (.ptr (H.next + 1) 0) ∧ tm.get 5 = some (vi (i : Int)) ∧ ∀ j, j < i → a.ss[j]? = b.ss[j]?)
    ⟨sx1_ i2, sx1_ i3, sx0_, fun j hj => absurd hj (Nat.not_lt_zero _)⟩ ?_
   clear i2 i3 i33
   clear tm
   rintro i tm hi ⟨i2, i3, i5, heq⟩
   repeat refine Gets.seq ?_
   by_cases hlt : (i : Int) < (a.ss.length : Int)
   ·obtain ⟨x, hx⟩ : ∃ x, a.ss[i]? = some x := ⟨_, List.getElem?_eq_getElem (by omega)⟩
    obtain ⟨y, hy⟩ : ∃ y, b.ss[i]? = some y := ⟨_, List.getElem?_eq_getElem (by omega)⟩
    obtain ⟨b1, hx1, -, hc1⟩ := RowsAt.row hah ud29 sz97 (fun _ => rfl) hx
    obtain ⟨b2, hx2, -, hc2⟩ := RowsAt.row hbh ud29 sz97 (fun _ => rfl) hy
    have hc1 : Sx.cellsIn (h'.blks.get b1) (i * 2) 2 = some [.str x.key, vi x.delta] := hc1 0 2 (by omega)
    have hc2 : Sx.cellsIn (h'.blks.get b2) (i * 2) 2 = some [.str y.key, vi y.delta] := hc2 0 2 (by omega)
    have v5 : z1V .i64 ((i : Int) + 1) = (i : Int) + 1 := z2C (by omega) (by omega)
    have he := k0Q x y
    refine g1_ (y7_ i2 i5 a0 @z2G (z0b ia29) n1 hlt) ?_
    refine cTb_ ?_
    by_cases hxy : x = y
    ·rw [show decide (x = y) = true by simp [hxy]] at he
     refine gke_ (ov := noOv) (z0c) [.rd 0, .rd 1, .rd 2, .rd 3, .rd 4, .rd 5, .rd 6, .rd 7, .rd 8, .rd 9, .rd 10] (aN) (y8_ i2 i3 i5 a0 b0 @z2G (z0b ia29) (y7_ hx1 hx2 hc1 hc2 (z0f ia97 sz97) @nq97 he)) ?_
     refine cFk_ ?_
     refine g1_ (y2_ i5 v5) ?_
     exact ⟨_, rfl, by omega, sx1_ i2, sx1_ i3, sx1_ @z2l, fun j hj => by
      by_cases e : j = i
      ·subst e; rw [hx, hy, hxy]
      ·exact heq j (by omega)⟩
    ·rw [show decide (x = y) = false by simp [hxy]] at he
     have hd : decide (a.ss = b.ss) = false := by
      rw [decide_eq_false_iff_not]
      intro e
      rw [e, hy] at hx
      exact hxy (Option.some.inj hx).symm
     rw [hdf _ hd, Bool.and_false]
     refine gke_ (ov := noOv) (z0c) [.rd 0, .rd 1, .rd 2, .rd 3, .rd 4, .rd 5, .rd 6, .rd 7, .rd 8, .rd 9, .rd 10] (aN) (y8_ i2 i3 i5 a0 b0 @z2G (z0b ia29) (y7_ hx1 hx2 hc1 hc2 (z0f ia97 sz97) @nq97 he)) ?_
     refine cT_ ?_
     refine g0_ ?_
     refine Gets.ret Tryz.tabOk ?_
     exact z0v rfl (sr_ Tryz.f63.eq_1) ag hN trivial
   ·have hd : decide (a.ss = b.ss) = true := by
     rw [decide_eq_true_eq]
     apply List.ext_getElem?
     intro j
     by_cases hj : j < i
     ·exact heq j hj
     ·rw [List.getElem?_eq_none (by omega), List.getElem?_eq_none (by omega)]
    rw [hdf _ hd, hc]
    refine g1_ (y7_ i2 i5 a0 @z2G (z0b ia29) n1 hlt) ?_
    refine cFx_ ?_
    refine g0_ ?_
    refine Gets.ret Tryz.tabOk ?_
    exact z0v rfl (sr_ Tryz.f63.eq_1) ag hN trivial
 ·rw [show decide ((a.ss.length : Int) = (b.ss.length : Int)) = false by simp [hlen], Bool.and_false] at i33
  have hd : decide (a.ss = b.ss) = false := by
   rw [decide_eq_false_iff_not]
   intro e
   exact hlen (by rw [e])
  rw [hdf _ hd, Bool.and_false]
  refine cT_ (hv := sx1_ i33) ?_
  refine g0_ ?_
  refine Gets.ret Tryz.tabOk ?_
  exact z0v rfl (sr_ Tryz.f63.eq_1) ag hN trivial
end Go.Proofs
namespace Go.Proofs
open Go.Sx
set_option maxRecDepth 100000
set_option maxHeartbeats 1000000
def defC (d : DefN) : Bool := z1S d.name && !decide (d.r < 0) && !decide (20 < d.r) && !decide (d.d < 0) && !decide (100000 < d.d) && !decide ((d.ss.length : Int) < 1) && !decide (8 < (d.ss.length : Int))
theorem k8K (d : DefN) : defB d = (defC d && z6R [] d.ss) := by
 unfold defB defC
 rw [show decide (1 ≤ d.ss.length) = !decide ((d.ss.length : Int) < 1) by rw [← decide_not]; exact decide_eq_decide.2 (by omega), show decide (d.ss.length ≤ 8) = !decide (8 < (d.ss.length : Int)) by rw [← decide_not]; exact decide_eq_decide.2 (by omega)]
 simp only [nle, Bool.and_assoc]
def q4C (s : StepN) : Bool := z1S s.key && decide (s.delta ≠ 0) && !decide (s.delta < -1152921504606846976) && !decide (1152921504606846976 < s.delta)
theorem q8J (before : List StepN) (s : StepN) : z9v before s = (!z5I before s.key && q4C s) := by
 unfold z9v q4C numB z5I
 simp only [nle, Bool.and_assoc]
set_option linter.defProp false
def k0Y := y6_ @z0y @z3o @z4L (z0b ia9) (z0b ia3) @z0N
def k0Z := y7_ @z0y @z3o @z4L @z7w (z0b ia9) (z0b ia3) @z0N
def k1a := y8_ @z0y @z3o @z4L @z7w @z2G (z0b ia9) (z0b ia3) (y2_ (z0b ia29) @z0N)
def j6E := y6_ @z0y @z6r @q0v (z0b ia9) (z0b ia2) @z0N
theorem q3r (d : DefN) (H : Heap) (hN : Neat H) (hd : z1n H d) (hnm : d.name.length < 1000000) (hkl : ∀ s ∈ d.ss, s.key.length < 1000000) (hl : d.ss.length < 1000000) :
  CallTo Tryz.prog Tryz.tab 194 [.agg (dfL d)] H [(vi (code (defB d) 15), H)] := by
 refine z0A Tryz.tabOk Tryz.func194 rfl rfl ?_
 show Gets Tryz.prog Tryz.tab ⟨none, 87⟩ _ _ _
 repeat refine Gets.seq ?_
 have k1 := hd.one
 have hln : ∀ h, lenA Tryz.tab h 29 d.st = some (.int .i64 (d.ss.length : Int)) := hd.len ud29
 refine g1_ k1 ?_
 refine Gets.ofH (fun h => h.blks.get H.next = some (.cells 31 true (dfL d)) ∧ Grows H h ∧ Neat h) ⟨fo_, .push _ _, hN.push _⟩ ?_
 rintro h ⟨a0, ag, aN⟩
 have hdh := hd.grow hN ag
 have q1 := z8L d.name (by omega) h aN
 rw [k8K]
 refine Gets.midH (I := fun tm h' => h' = h ∧ tm.get 1 = some (.ptr H.next 0) ∧ tm.get 41 = some (.bool (!defC d))) ?_ ?_
 ·unfold defC
  cases c1 : z1S d.name with
  | false =>
   rw [c1] at q1
   refine o1_ (z0e z0c q1) (y5_ @z0y a0 @z3o (z0b ia9) @z0N) ?_
   exact ⟨rfl, _, _, rfl, rfl, sx0_, sx0_⟩
  | true =>
   rw [c1] at q1
   by_cases c2 : d.r < 0
   ·refine o1_ (z0e z0c q1) (y3_ k0Y a0 c2) ?_
    exact ⟨rfl, _, _, rfl, rfl, sx0_, sx1_ c2⟩
   by_cases c3 : 20 < d.r
   ·refine o1_ (z0e z0c q1) (y4_ k0Y a0 c2 c3) ?_
    exact ⟨rfl, _, _, rfl, rfl, sx0_, sx1_ (y2_ c2 c3)⟩
   by_cases c4 : d.d < 0
   ·refine o1_ (z0e z0c q1) (y5_ k0Z a0 c2 c3 c4) ?_
    exact ⟨rfl, _, _, rfl, rfl, sx0_, sx1_ (y3_ c2 c3 c4)⟩
   by_cases c5 : 100000 < d.d
   ·refine o1_ (z0e z0c q1) (y6_ k0Z a0 c2 c3 c4 c5) ?_
    exact ⟨rfl, _, _, rfl, rfl, sx0_, sx1_ (y4_ c2 c3 c4 c5)⟩
   by_cases c6 : (d.ss.length : Int) < 1
   ·refine o1_ (z0e z0c q1) (y8_ k1a a0 hln c2 c3 c4 c5 c6) ?_
    exact ⟨rfl, _, _, rfl, rfl, sx0_, sx1_ (y5_ c2 c3 c4 c5 c6)⟩
   ·refine o1_ (z0e z0c q1) (y8_ k1a a0 hln c2 c3 c4 c5 c6) ?_
    exact ⟨rfl, _, _, rfl, rfl, sx0_, sx1_ (y5_ c2 c3 c4 c5 c6)⟩
 rintro tm h' ⟨rfl, i1, i41⟩
 change Gets _ _ _ _ _ _
 repeat refine Gets.seq ?_
 cases hb : defC d with
 | false =>
  rw [hb] at i41
  rw [Bool.false_and]
  refine cT_ (hv := sx1_ i41) ?_
  refine g0_ ?_
  refine Gets.ret Tryz.tabOk ?_
  exact z0v rfl (sf1_ (y2_ Tryz.f194.eq_1 @z2p)) ag hN trivial
 | true =>
  rw [hb] at i41
  rw [Bool.true_and]
  refine cFs_ (hv := sx1_ i41) ?_
  refine g0_ ?_
  refine Gets.uptoH d.ss.length (fun i tm k => tm.get 1 = some (.ptr H.next 0) ∧ tm.get 3 = some (vi (i : Int)) ∧ (∀ (j : Nat) (s : StepN), j < i → d.ss[j]? = some s → z9v (d.ss.take j) s = true) ∧ Grows h' k ∧ Neat k)
   ⟨sx1_ i1, sx0_, fun j s hj => absurd hj (Nat.not_lt_zero _), .refl _, aN⟩ ?_
  clear i1 i41
  clear tm
  rintro i tm k hi ⟨i1, i3, hok, kg, kN⟩
  repeat refine Gets.seq ?_
  have a0k : k.blks.get H.next = some (.cells 31 true (dfL d)) := kg.some_ aN a0
  have hdk : z1n k d := hdh.grow aN kg
  by_cases hlt : (i : Int) < (d.ss.length : Int)
  ·obtain ⟨s, hs⟩ : ∃ s, d.ss[i]? = some s := ⟨_, List.getElem?_eq_getElem (by omega)⟩
   obtain ⟨b, hidx, -, hc⟩ := RowsAt.row hdk ud29 sz97 (fun _ => rfl) hs
   have hc2 : Sx.cellsIn (k.blks.get b) (i * 2) 2 = some [.str s.key, vi s.delta] := hc 0 2 (by omega)
   have v5 : z1V .i64 ((i : Int) + 1) = (i : Int) + 1 := z2C (by omega) (by omega)
   have hkey := hkl s (List.mem_of_getElem? hs)
   refine g1_ (y7_ i1 i3 a0k @z2G (z0b ia29) hln hlt) ?_
   refine cTb_ ?_
   refine g1_ (y8_ i1 i3 a0k @z2G (z0b ia29) hidx hc2 (y4_ (z0f ia97 sz97) @j0c @stL @sz97)) ?_
   refine Gets.ofS (fun tm m => tm.get 1 = some (.ptr H.next 0) ∧ tm.get 3 = some (vi (i : Int)) ∧ tm.get 4 = some (.ptr k.next 0) ∧ m.blks.get k.next = some (.cells 97 true [.str s.key, vi s.delta]) ∧ Grows k m ∧ Neat m)
    ⟨sx1_ i1, sx1_ i3, sx0_, fo_, ⟨fl_, fun x hx => fo_⟩, Neat.put (kN.push _) (fl_) _⟩ ?_
   clear i1 i3 hidx hc hc2
   clear tm
   rintro tm m ⟨i1, i3, i4, am, mg, mN⟩
   have a0m : m.blks.get H.next = some (.cells 31 true (dfL d)) := mg.some_ kN a0k
   have hdm : z1n m d := hdk.grow kN mg
   have p2 := z8L s.key (by omega) m mN
   have hg2 := (ag.trans kg).trans mg
   refine Gets.midH (I := fun tm h2 => h2 = m ∧ tm.get 1 = some (.ptr H.next 0) ∧ tm.get 3 = some (vi (i : Int)) ∧ tm.get 4 = some (.ptr k.next 0) ∧ tm.get 72 = some (.bool (!q4C s))) ?_ ?_
   ·unfold q4C
    cases c1 : z1S s.key with
    | false =>
     rw [c1] at p2
     refine o1_ (z0e z0c p2) (y6_ @z0y i4 am @z6r (z0b ia9) @z0N) ?_
     exact ⟨rfl, _, _, rfl, rfl, sx1_ i1, sx1_ i3, sx1_ i4, sx0_⟩
    | true =>
     rw [c1] at p2
     by_cases c2 : s.delta = 0
     ·refine o1_ (z0e z0c p2) (y4_ j6E i4 am c2) ?_
      exact ⟨rfl, _, _, rfl, rfl, sx1_ i1, sx1_ i3, sx1_ i4, by rw [show decide (s.delta ≠ 0) = false by simp [c2]]; simp (disch := decide) only [sxL]⟩
     rw [show decide (s.delta ≠ 0) = true by simp [c2]]
     by_cases c3 : s.delta < -1152921504606846976
     ·refine o1_ (z0e z0c p2) (y5_ j6E i4 am c2 c3) ?_
      exact ⟨rfl, _, _, rfl, rfl, sx1_ i1, sx1_ i3, sx1_ i4, sx1_ c3⟩
     ·refine o1_ (z0e z0c p2) (y5_ j6E i4 am c2 c3) ?_
      exact ⟨rfl, _, _, rfl, rfl, sx1_ i1, sx1_ i3, sx1_ i4, sx1_ c3⟩
   clear i1 i3 i4
   clear tm
   rintro tm h2 ⟨rfl, i1, i3, i4, i72⟩
   change Gets _ _ _ _ _ _
   repeat refine Gets.seq ?_
   have bad : z9v (d.ss.take i) s = false → z6R [] d.ss = false := fun hb => by
    rw [Bool.eq_false_iff]
    intro e
    have := (z3N d.ss []).1 e i s hs
    rw [List.nil_append, hb] at this
    exact Bool.noConfusion this
   cases hC : q4C s with
   | false =>
    rw [hC] at i72
    rw [bad (by rw [q8J, hC, Bool.and_false])]
    refine cT_ (hv := sx1_ i72) ?_
    refine g0_ ?_
    refine Gets.ret Tryz.tabOk ?_
    exact z0v rfl (sf1_ (y2_ Tryz.f194.eq_1 @z2p)) hg2 hN trivial
   | true =>
    rw [hC] at i72
    refine cFs_ (hv := sx1_ i72) ?_
    refine g0_ ?_
    refine Gets.upto i (fun n tm => tm.get 1 = some (.ptr H.next 0) ∧ tm.get 3 = some (vi (i : Int)) ∧ tm.get 4 = some (.ptr k.next 0) ∧ tm.get 5 = some (vi (n : Int)) ∧ ∀ (j : Nat) (y : StepN), j < n → d.ss[j]? = some y → y.key ≠ s.key)
     ⟨sx1_ i1, sx1_ i3, sx1_ i4, sx0_, fun j y hj => absurd hj (Nat.not_lt_zero _)⟩ ?_
    clear i1 i3 i4 i72
    clear tm
    rintro n tm hn ⟨i1, i3, i4, i5, hne⟩
    repeat refine Gets.seq ?_
    by_cases hni : (n : Int) < (i : Int)
    ·obtain ⟨y, hy⟩ : ∃ y, d.ss[n]? = some y := ⟨_, List.getElem?_eq_getElem (by omega)⟩
     obtain ⟨b2, hidx2, hcl, -⟩ := RowsAt.row hdm ud29 sz97 (fun _ => rfl) hy
     have hk0 : z1g (h2.blks.get b2) (n * 2) = some (.str y.key) := hcl 0 (by omega)
     have v6 : z1V .i64 ((n : Int) + 1) = (n : Int) + 1 := z2C (by omega) (by omega)
     have e1 := z3f y.key s.key
     refine g1_ (y3_ i3 i5 hni) ?_
     refine cTb_ ?_
     cases hq : decide (y.key = s.key) with
     | true =>
      rw [hq] at e1
      have hh : z5I (d.ss.take i) s.key = true := by
       unfold z5I
       rw [List.any_eq_true]
       exact ⟨y, List.mem_of_getElem? (i := n) (by rw [List.getElem?_take, if_pos (by omega)]; exact hy), hq⟩
      rw [bad (by rw [q8J, hh]; rfl)]
      refine gkb_ (ov := noOv) (z0c) [.rd 0, .rd 1, .rd 2, .rd 3, .rd 4, .rd 5, .rd 6, .rd 7, .rd 8] (mN) (y8_ i1 i4 i5 a0m am @z2G @z6r (y5_ (z0b ia29) (z0b ia9) hidx2 hk0 e1)) ?_
      refine cT_ ?_
      refine g0_ ?_
      refine Gets.ret Tryz.tabOk ?_
      exact z0v rfl (sf1_ (y2_ Tryz.f194.eq_1 @z2p)) hg2 hN trivial
     | false =>
      rw [hq] at e1
      refine gkb_ (ov := noOv) (z0c) [.rd 0, .rd 1, .rd 2, .rd 3, .rd 4, .rd 5, .rd 6, .rd 7, .rd 8] (mN) (y8_ i1 i4 i5 a0m am @z2G @z6r (y5_ (z0b ia29) (z0b ia9) hidx2 hk0 e1)) ?_
      refine cFk_ ?_
      refine g1_ (y2_ i5 v6) ?_
      exact ⟨_, rfl, by omega, sx1_ i1, sx1_ i3, sx1_ i4, sx1_ @z2l, fun j z hj hz => by
       by_cases e : j = n
       ·subst e
        rw [hy] at hz
        cases hz
        exact of_decide_eq_false hq
       ·exact hne j z (by omega) hz⟩
    ·have hh : z5I (d.ss.take i) s.key = false := by
      unfold z5I
      rw [Bool.eq_false_iff]
      intro e
      obtain ⟨y, hy, hk⟩ := List.any_eq_true.1 e
      obtain ⟨j, hj⟩ := List.getElem?_of_mem hy
      rw [List.getElem?_take] at hj
      split at hj
      ·exact hne j y (by omega) hj (of_decide_eq_true hk)
      ·simp at hj
     refine g1_ (y3_ i3 i5 hni) ?_
     refine cFx_ ?_
     refine g1_ (y2_ i3 v5) ?_
     exact ⟨_, _, rfl, by omega, sx1_ i1, sx1_ @z2l, fun j z hj hz => by
      by_cases e : j = i
      ·subst e
       rw [hs] at hz
       cases hz
       rw [q8J, hh, hC]; rfl
      ·exact hok j z (by omega) hz, kg.trans mg, mN⟩
  ·have hS : z6R [] d.ss = true := (z3N d.ss []).2 fun j s hs => by
    rw [List.nil_append]
    exact hok j s (by have := (List.getElem?_eq_some_iff.1 hs).1; omega) hs
   rw [hS]
   refine g1_ (y7_ i1 i3 a0k @z2G (z0b ia29) hln hlt) ?_
   refine cFx_ ?_
   refine g0_ ?_
   refine Gets.ret Tryz.tabOk ?_
   exact z0v rfl (sf1_ (y2_ Tryz.f194.eq_1 @z2m)) (ag.trans kg) hN trivial
end Go.Proofs
namespace Go.Proofs
open Go.Sx
set_option maxRecDepth 100000
set_option maxHeartbeats 1000000
theorem j6F (x : z0L) (r : List z0L) (s : z0L) : z1P (x :: (r ++ [s])) = z1P (x :: r) ++ ([32] ++ s) := by
 unfold z1P
 rw [Lib.join_cons, Lib.join_cons]
 unfold Lib.joinTail
 rw [List.map_append, List.flatten_append, List.append_assoc]
 simp
theorem j6G {d : DefN} {i : Nat} {s : StepN} (hs : d.ss[i]? = some s) : z1P (defW d (i + 1)) = z1P (defW d i) ++ ([32] ++ z5H s) := by
 have e : defW d (i + 1) = d.name :: ((z0o d.r :: z0o d.d :: (d.ss.take i).map z5H) ++ [z5H s]) := by
  unfold defW
  rw [List.take_add_one, hs]
  simp
 rw [e, j6F]
set_option linter.defProp false
def k1b := y5_ @z6r @q0v (z0b ia9) (z0b ia2) @z3w
theorem j6H (d : DefN) (he : defB d = true) (H : Heap) (hN : Neat H) (hd : z1n H d) (hnm : d.name.length < 1000000) (hkl : ∀ s ∈ d.ss, s.key.length < 1000000) (hl : d.ss.length < 1000000) :
  CallTo Tryz.prog Tryz.tab 88 [.agg (dfL d)] H [(.tuple [.str (defT d), vi 0], H)] := by
 refine z0A Tryz.tabOk Tryz.func88 rfl rfl ?_
 show Gets Tryz.prog Tryz.tab ⟨none, 59⟩ _ _ _
 repeat refine Gets.seq ?_
 obtain ⟨b1, b2, b3, b4, b5, b6⟩ := z7h he
 have he' := he
 simp only [defB, Bool.and_eq_true, decide_eq_true_eq] at he'
 have k1 := hd.one
 have hln : ∀ h, lenA Tryz.tab h 29 d.st = some (.int .i64 (d.ss.length : Int)) := hd.len ud29
 refine g1_ k1 ?_
 refine Gets.ofH (fun h => h.blks.get H.next = some (.cells 31 true (dfL d)) ∧ Grows H h ∧ Neat h) ⟨fo_, .push _ _, hN.push _⟩ ?_
 rintro h ⟨a0, ag, aN⟩
 have hdh := hd.grow hN ag
 have q := q3r d h aN hdh hnm hkl hl
 rw [he] at q
 refine o1_ (z0e z0c q) (y5_ @z0y a0 (z0f ia31 sz31) @t_r4 @z2m) ?_
 refine cFs_ ?_
 have nl := z6S b1
 have l1 := z0r b2
 have l2 := z0r b3
 have d1 := z6h (h := h) (n := d.r) (by omega) (by omega)
 have d2 := z6h (h := h) (n := d.d) (by omega) (by omega)
 have c1 : catO d.name [32] = some (.str (d.name ++ [32])) := z2E (by simp; omega)
 have c2 := cat_ (d.name ++ [32]) (z0o d.r)
 have c3 := cat_ (d.name ++ [32] ++ z0o d.r) [32]
 have c4 : catO (d.name ++ [32] ++ z0o d.r ++ [32]) (z0o d.d) = some (.str (z1P (defW d 0))) := by
  have e : z1P (defW d 0) = d.name ++ [32] ++ z0o d.r ++ [32] ++ z0o d.d := by
   unfold z1P defW
   rw [Lib.join_cons]
   simp [Lib.joinTail]
  rw [e]
  exact z2E (by simp; omega)
 refine gk_ (ov := z1O noOv 195 (z7k h)) (z0I z0c (z8d aN)) [.rd 0, .rd 1, .rd 2, .rd 3, .rd 4, .rd 8, .rd 9, .sm 5, .rd 6, .rd 7, .sm 10, .rd 11, .rd 12] (aN) (y8_ d1 d2 a0 @z3o @z4L @z7w (z0b ia9) (y6_ (z0b ia3) @z3w c1 c2 c3 c4)) ?_
 refine g0_ ?_
 refine Gets.uptoH d.ss.length (fun i tm k => tm.get 1 = some (.ptr H.next 0) ∧ tm.get 4 = some (.str (z1P (defW d i))) ∧ tm.get 5 = some (vi (i : Int)) ∧ Grows h k ∧ Neat k)
  ⟨sx0_, sx0_, sx0_, .refl _, aN⟩ ?_
 rintro i tm k hi ⟨i1, i4, i5, kg, kN⟩
 repeat refine Gets.seq ?_
 have a0k : k.blks.get H.next = some (.cells 31 true (dfL d)) := kg.some_ aN a0
 by_cases hlt : (i : Int) < (d.ss.length : Int)
 ·obtain ⟨s, hs⟩ : ∃ s, d.ss[i]? = some s := ⟨_, List.getElem?_eq_getElem (by omega)⟩
  obtain ⟨b, hidx, -, hc⟩ := RowsAt.row (hdh.grow aN kg) ud29 sz97 (fun _ => rfl) hs
  have hc2 : Sx.cellsIn (k.blks.get b) (i * 2) 2 = some [.str s.key, vi s.delta] := hc 0 2 (by omega)
  have v5 : z1V .i64 ((i : Int) + 1) = (i : Int) + 1 := z2C (by omega) (by omega)
  obtain ⟨s1, s2⟩ := b6 i s hs
  have sl := z6S s1
  have hdel : s.delta ≠ 0 ∧ -1152921504606846976 ≤ s.delta ∧ s.delta ≤ 1152921504606846976 := by
   have := (z3N d.ss []).1 he'.2 i s hs
   simp only [z9v, numB, Bool.and_eq_true, decide_eq_true_eq] at this
   exact ⟨this.1.2, this.2⟩
  have wl := Nat.le_trans (z4J _) (q4T he i (by omega))
  have hW := j6G hs
  refine g1_ (y7_ i1 i5 a0k @z2G (z0b ia29) hln hlt) ?_
  refine cTb_ ?_
  refine g1_ (y8_ i1 i5 a0k @z2G (z0b ia29) hidx hc2 (y4_ (z0f ia97 sz97) @j0c @stL @sz97)) ?_
  refine Gets.ofS (fun tm m => tm.get 1 = some (.ptr H.next 0) ∧ tm.get 4 = some (.str (z1P (defW d i))) ∧ tm.get 5 = some (vi (i : Int)) ∧ tm.get 6 = some (.ptr k.next 0) ∧ m.blks.get k.next = some (.cells 97 true [.str s.key, vi s.delta]) ∧ Grows k m ∧ Neat m)
   ⟨sx1_ i1, sx1_ i4, sx1_ i5, sx0_, fo_, ⟨fl_, fun x hx => fo_⟩, Neat.put (kN.push _) (fl_) _⟩ ?_
  clear i1 i4 i5 hidx hc hc2
  clear tm
  rintro tm m ⟨i1, i4, i5, i6, am, mg, mN⟩
  refine g1_ (y4_ i6 am @q0v (z0b ia2)) ?_
  refine Gets.midH (I := fun tm h2 => h2 = m ∧ tm.get 1 = some (.ptr H.next 0) ∧ tm.get 4 = some (.str (z1P (defW d (i + 1)))) ∧ tm.get 5 = some (vi (i : Int))) ?_ ?_
  ·rw [hW]
   generalize z1P (defW d i) = acc at i4 wl ⊢
   have c1 := cat_ acc [32]
   have c2 : catO (acc ++ [32]) s.key = some (.str (acc ++ [32] ++ s.key)) := z2E (by simp; omega)
   by_cases h0 : 0 < s.delta
   ·have d3 := z6h (h := m) (n := s.delta) (by omega) (by omega)
    have l3 := z0r (n := s.delta) ⟨by omega, by omega⟩
    have c3 := cat_ (acc ++ [32] ++ s.key) [43]
    have c4 : catO (acc ++ [32] ++ s.key ++ [43]) (z0o s.delta) = some (.str (acc ++ ([32] ++ z5H s))) := by
     have e : acc ++ ([32] ++ z5H s) = acc ++ [32] ++ s.key ++ [43] ++ z0o s.delta := by unfold z5H z7q; rw [if_pos h0]; simp
     rw [e]
     exact z2E (by simp; omega)
    refine Gets.condT (sx1_ h0) ?_
    change Gets _ _ _ _ _ _
    refine gk_ (ov := z1O noOv 195 (z7k m)) (z0I z0c (z8d mN)) [.rd 0, .rd 1, .rd 2, .rd 3, .rd 4, .rd 5, .rd 6, .rd 7, .sm 8, .rd 9, .rd 10] (mN) (y8_ d3 i4 i6 am k1b c1 c2 (y2_ c3 c4)) ?_
    exact ⟨rfl, _, _, rfl, rfl, sx1_ i1, sx0_, sx1_ i5⟩
   ·have hw : z1V .i64 (0 - s.delta) = -s.delta := by rw [z2C (by omega) (by omega)]; omega
    have d3 := z6h (h := m) (n := -s.delta) (by omega) (by omega)
    have l3 := z0r (n := -s.delta) ⟨by omega, by omega⟩
    have c3 := cat_ (acc ++ [32] ++ s.key) [45]
    have c4 : catO (acc ++ [32] ++ s.key ++ [45]) (z0o (-s.delta)) = some (.str (acc ++ ([32] ++ z5H s))) := by
     have e : acc ++ ([32] ++ z5H s) = acc ++ [32] ++ s.key ++ [45] ++ z0o (-s.delta) := by unfold z5H z7q; rw [if_neg h0, q1Z (by omega)]; simp
     rw [e]
     exact z2E (by simp; omega)
    refine Gets.condF (sx1_ h0) ?_
    change Gets _ _ _ _ _ _
    refine gk_ (ov := z1O noOv 195 (z7k m)) (z0I z0c (z8d mN)) [.rd 0, .rd 1, .rd 2, .rd 3, .rd 4, .rd 5, .rd 6, .rd 7, .rd 8, .sm 9, .rd 10, .rd 11] (mN) (y8_ d3 hw i4 i6 am k1b c1 (y3_ c2 c3 c4)) ?_
    exact ⟨rfl, _, _, rfl, rfl, sx1_ i1, sx0_, sx1_ i5⟩
  clear i1 i4 i5 i6
  clear tm
  rintro tm h2 ⟨rfl, i1, i4, i5⟩
  change Gets _ _ _ _ _ _
  refine g1_ (y2_ i5 v5) ?_
  exact ⟨_, _, rfl, by omega, sx1_ i1, sx1_ i4, sx1_ @z2l, kg.trans mg, mN⟩
 ·have h9 : i = d.ss.length := by omega
  subst h9
  have e : z1P (defW d d.ss.length) = defT d := by unfold defT defW; rw [List.take_length]
  rw [e] at i4
  refine g1_ (y7_ i1 i5 a0k @z2G (z0b ia29) hln hlt) ?_
  refine cFx_ ?_
  refine g1_ i4 ?_
  refine Gets.ret Tryz.tabOk ?_
  exact z1e rfl (sr_ Tryz.f88.eq_1) (ag.trans kg) hN ⟨trivial, trivial, trivial⟩
end Go.Proofs
