/-
  Facts of the tables; runs with the tactics that prove their side goals.
-/
import Derived.Test.YtdnkpdgncgjilaaGreatDoorNSxI
import Derived.Test.YtdnkpdgncgjilaaGreatDoorNSxTab
import Derived.Test.YtdnkpdgncgjilaaGreatDoorNSxH
set_option linter.unusedSimpArgs false
set_option linter.unusedVariables false
namespace Go.Proofs
open Go.Sx
set_option maxRecDepth 100000
theorem get3 : Tryz.tab.funcs.get 3 = some Tryz.f3 := by kernel_rfl
theorem ia28 : Tryz.tab.isAgg 28 = some true := by kernel_rfl
theorem sz28 : Tryz.tab.size 28 = some 10 := by kernel_rfl
theorem ud48 : Tryz.tab.und 48 = some (.slice 32) := by kernel_rfl
theorem ia32 : Tryz.tab.isAgg 32 = some false := by kernel_rfl
theorem sz32 : Tryz.tab.size 32 = some 1 := by kernel_rfl
theorem j6V (b o : Nat) : z0g Tryz.tab 28 1 (.ptr b o) = some (.ptr b (o + 1)) := by kernel_rfl
theorem ia3 : Tryz.tab.isAgg 3 = some false := by kernel_rfl
theorem sz3 : Tryz.tab.size 3 = some 1 := by kernel_rfl
theorem q3a (b o : Nat) : z0g Tryz.tab 28 3 (.ptr b o) = some (.ptr b (o + 3)) := by kernel_rfl
theorem ia9 : Tryz.tab.isAgg 9 = some false := by kernel_rfl
theorem sz9 : Tryz.tab.size 9 = some 1 := by kernel_rfl
theorem ia57 : Tryz.tab.isAgg 57 = some true := by kernel_rfl
theorem sz57 : Tryz.tab.size 57 = some 5 := by kernel_rfl
theorem ud53 : Tryz.tab.und 53 = some (.slice 88) := by kernel_rfl
theorem ia88 : Tryz.tab.isAgg 88 = some true := by kernel_rfl
theorem sz88 : Tryz.tab.size 88 = some 24 := by kernel_rfl
theorem ud61 : Tryz.tab.und 61 = some (.slice 153) := by kernel_rfl
theorem v3i : Tryz.tab.isAgg 153 = some true := by kernel_rfl
theorem v3j : Tryz.tab.size 153 = some 29 := by kernel_rfl
theorem ud43 : Tryz.tab.und 43 = some (.slice 74) := by kernel_rfl
theorem ia74 : Tryz.tab.isAgg 74 = some true := by kernel_rfl
theorem sz74 : Tryz.tab.size 74 = some 3 := by kernel_rfl
theorem get4 : Tryz.tab.funcs.get 4 = some Tryz.f4 := by kernel_rfl
theorem ud30 : Tryz.tab.und 30 = some (.slice 28) := by kernel_rfl
theorem k3E (b o : Nat) : z0g Tryz.tab 28 5 (.ptr b o) = some (.ptr b (o + 6)) := by kernel_rfl
theorem ia26 : Tryz.tab.isAgg 26 = some true := by kernel_rfl
theorem sz26 : Tryz.tab.size 26 = some 4 := by kernel_rfl
theorem ud9 : Tryz.tab.und 9 = some .string := by kernel_rfl
theorem q6E (b o : Nat) : z0g Tryz.tab 28 4 (.ptr b o) = some (.ptr b (o + 4)) := by kernel_rfl
theorem q9x (b o : Nat) : z0g Tryz.tab 23 0 (.ptr b o) = some (.ptr b (o + 0)) := by kernel_rfl
theorem q9y (b o : Nat) : z0g Tryz.tab 23 1 (.ptr b o) = some (.ptr b (o + 1)) := by kernel_rfl
theorem j6W (b o : Nat) : z0g Tryz.tab 26 0 (.ptr b o) = some (.ptr b (o + 0)) := by kernel_rfl
theorem q6F (b o : Nat) : z0g Tryz.tab 26 3 (.ptr b o) = some (.ptr b (o + 3)) := by kernel_rfl
theorem ia24 : Tryz.tab.isAgg 24 = some false := by kernel_rfl
theorem sz24 : Tryz.tab.size 24 = some 1 := by kernel_rfl
theorem ud24 : Tryz.tab.und 24 = some (.slice 68) := by kernel_rfl
theorem ia68 : Tryz.tab.isAgg 68 = some true := by kernel_rfl
theorem sz68 : Tryz.tab.size 68 = some 2 := by kernel_rfl
theorem k3F (b o : Nat) : z0g Tryz.tab 68 0 (.ptr b o) = some (.ptr b (o + 0)) := by kernel_rfl
theorem get5 : Tryz.tab.funcs.get 5 = some Tryz.f5 := by kernel_rfl
theorem ia36 : Tryz.tab.isAgg 36 = some true := by kernel_rfl
theorem sz36 : Tryz.tab.size 36 = some 4 := by kernel_rfl
theorem get6 : Tryz.tab.funcs.get 6 = some Tryz.f6 := by kernel_rfl
theorem v2t (b o : Nat) : z0g Tryz.tab 82 0 (.ptr b o) = some (.ptr b (o + 0)) := by kernel_rfl
theorem ia49 : Tryz.tab.isAgg 49 = some false := by kernel_rfl
theorem sz49 : Tryz.tab.size 49 = some 1 := by kernel_rfl
theorem get7 : Tryz.tab.funcs.get 7 = some Tryz.f7 := by kernel_rfl
theorem v2u (b o : Nat) : z0g Tryz.tab 47 0 (.ptr b o) = some (.ptr b (o + 0)) := by kernel_rfl
theorem v2v (b o : Nat) : z0g Tryz.tab 36 1 (.ptr b o) = some (.ptr b (o + 1)) := by kernel_rfl
theorem v2w (b o : Nat) : z0g Tryz.tab 47 4 (.ptr b o) = some (.ptr b (o + 7)) := by kernel_rfl
theorem v2x (b o : Nat) : z0g Tryz.tab 45 0 (.ptr b o) = some (.ptr b (o + 0)) := by kernel_rfl
theorem ia40 : Tryz.tab.isAgg 40 = some false := by kernel_rfl
theorem sz40 : Tryz.tab.size 40 = some 1 := by kernel_rfl
theorem ud40 : Tryz.tab.und 40 = some (.slice 53) := by kernel_rfl
theorem ia53 : Tryz.tab.isAgg 53 = some false := by kernel_rfl
theorem sz53 : Tryz.tab.size 53 = some 1 := by kernel_rfl
theorem v2y (b o : Nat) : z0g Tryz.tab 88 9 (.ptr b o) = some (.ptr b (o + 12)) := by kernel_rfl
theorem get8 : Tryz.tab.funcs.get 8 = some Tryz.f8 := by kernel_rfl
theorem v2z (b o : Nat) : z0g Tryz.tab 45 2 (.ptr b o) = some (.ptr b (o + 2)) := by kernel_rfl
theorem ia42 : Tryz.tab.isAgg 42 = some false := by kernel_rfl
theorem sz42 : Tryz.tab.size 42 = some 1 := by kernel_rfl
theorem ud42 : Tryz.tab.und 42 = some (.slice 91) := by kernel_rfl
theorem ia91 : Tryz.tab.isAgg 91 = some false := by kernel_rfl
theorem sz91 : Tryz.tab.size 91 = some 1 := by kernel_rfl
theorem get9 : Tryz.tab.funcs.get 9 = some Tryz.f9 := by kernel_rfl
theorem v2A (b o : Nat) : z0g Tryz.tab 28 0 (.ptr b o) = some (.ptr b (o + 0)) := by kernel_rfl
theorem ud94 : Tryz.tab.und 94 = some (.slice 98) := by kernel_rfl
theorem ia98 : Tryz.tab.isAgg 98 = some true := by kernel_rfl
theorem sz98 : Tryz.tab.size 98 = some 5 := by kernel_rfl
theorem v2B (b o : Nat) : z0g Tryz.tab 26 1 (.ptr b o) = some (.ptr b (o + 1)) := by kernel_rfl
theorem v2C (b o : Nat) : z0g Tryz.tab 26 2 (.ptr b o) = some (.ptr b (o + 2)) := by kernel_rfl
theorem v2D (b o : Nat) : z0g Tryz.tab 28 2 (.ptr b o) = some (.ptr b (o + 2)) := by kernel_rfl
theorem v2E (b o : Nat) : z0g Tryz.tab 98 1 (.ptr b o) = some (.ptr b (o + 1)) := by kernel_rfl
theorem ia4 : Tryz.tab.isAgg 4 = some false := by kernel_rfl
theorem sz4 : Tryz.tab.size 4 = some 1 := by kernel_rfl
theorem v2F (b o : Nat) : z0g Tryz.tab 98 2 (.ptr b o) = some (.ptr b (o + 2)) := by kernel_rfl
theorem ia23 : Tryz.tab.isAgg 23 = some true := by kernel_rfl
theorem sz23 : Tryz.tab.size 23 = some 2 := by kernel_rfl
theorem v2G (b o : Nat) : z0g Tryz.tab 98 3 (.ptr b o) = some (.ptr b (o + 3)) := by kernel_rfl
theorem v2H (b o : Nat) : z0g Tryz.tab 98 4 (.ptr b o) = some (.ptr b (o + 4)) := by kernel_rfl
theorem v2I (b o : Nat) : z0g Tryz.tab 98 0 (.ptr b o) = some (.ptr b (o + 0)) := by kernel_rfl
theorem ia96 : Tryz.tab.isAgg 96 = some false := by kernel_rfl
theorem sz96 : Tryz.tab.size 96 = some 1 := by kernel_rfl
theorem v3k : Tryz.tab.funcs.get 10 = some Tryz.f10 := by kernel_rfl
theorem k3G (b o : Nat) : z0g Tryz.tab 47 3 (.ptr b o) = some (.ptr b (o + 6)) := by kernel_rfl
theorem ia39 : Tryz.tab.isAgg 39 = some false := by kernel_rfl
theorem sz39 : Tryz.tab.size 39 = some 1 := by kernel_rfl
theorem v3l : Tryz.tab.funcs.get 11 = some Tryz.f11 := by kernel_rfl
theorem v2J (b o : Nat) : z0g Tryz.tab 45 3 (.ptr b o) = some (.ptr b (o + 3)) := by kernel_rfl
theorem ia43 : Tryz.tab.isAgg 43 = some false := by kernel_rfl
theorem sz43 : Tryz.tab.size 43 = some 1 := by kernel_rfl
theorem v3m : Tryz.tab.funcs.get 12 = some Tryz.f12 := by kernel_rfl
theorem v2K (b o : Nat) : z0g Tryz.tab 47 2 (.ptr b o) = some (.ptr b (o + 5)) := by kernel_rfl
theorem ia38 : Tryz.tab.isAgg 38 = some false := by kernel_rfl
theorem sz38 : Tryz.tab.size 38 = some 1 := by kernel_rfl
theorem v3n : Tryz.tab.funcs.get 13 = some Tryz.f13 := by kernel_rfl
theorem v2L (b o : Nat) : z0g Tryz.tab 45 1 (.ptr b o) = some (.ptr b (o + 1)) := by kernel_rfl
theorem ia41 : Tryz.tab.isAgg 41 = some false := by kernel_rfl
theorem sz41 : Tryz.tab.size 41 = some 1 := by kernel_rfl
theorem v3o : Tryz.tab.funcs.get 14 = some Tryz.f14 := by kernel_rfl
theorem v2M (b o : Nat) : z0g Tryz.tab 47 1 (.ptr b o) = some (.ptr b (o + 4)) := by kernel_rfl
theorem ia37 : Tryz.tab.isAgg 37 = some false := by kernel_rfl
theorem sz37 : Tryz.tab.size 37 = some 1 := by kernel_rfl
theorem ud37 : Tryz.tab.und 37 = some (.slice 75) := by kernel_rfl
theorem ia75 : Tryz.tab.isAgg 75 = some false := by kernel_rfl
theorem sz75 : Tryz.tab.size 75 = some 1 := by kernel_rfl
theorem ia82 : Tryz.tab.isAgg 82 = some true := by kernel_rfl
theorem sz82 : Tryz.tab.size 82 = some 7 := by kernel_rfl
theorem v2N (b o : Nat) : z0g Tryz.tab 82 6 (.ptr b o) = some (.ptr b (o + 6)) := by kernel_rfl
theorem ia80 : Tryz.tab.isAgg 80 = some false := by kernel_rfl
theorem sz80 : Tryz.tab.size 80 = some 1 := by kernel_rfl
theorem v2O (b o : Nat) : z0g Tryz.tab 82 4 (.ptr b o) = some (.ptr b (o + 4)) := by kernel_rfl
theorem ia78 : Tryz.tab.isAgg 78 = some false := by kernel_rfl
theorem sz78 : Tryz.tab.size 78 = some 1 := by kernel_rfl
theorem v2P (b o : Nat) : z0g Tryz.tab 82 5 (.ptr b o) = some (.ptr b (o + 5)) := by kernel_rfl
theorem ia79 : Tryz.tab.isAgg 79 = some false := by kernel_rfl
theorem sz79 : Tryz.tab.size 79 = some 1 := by kernel_rfl
theorem ud78 : Tryz.tab.und 78 = some (.map 3 4) := by kernel_rfl
theorem ud79 : Tryz.tab.und 79 = some (.map 3 102) := by kernel_rfl
theorem ia45 : Tryz.tab.isAgg 45 = some true := by kernel_rfl
theorem sz45 : Tryz.tab.size 45 = some 4 := by kernel_rfl
theorem v3p : Tryz.tab.funcs.get 16 = some Tryz.f16 := by kernel_rfl
theorem v3q : Tryz.tab.funcs.get 18 = some Tryz.f18 := by kernel_rfl
theorem v3r : Tryz.tab.funcs.get 26 = some Tryz.f26 := by kernel_rfl
theorem v2Q : Tryz.tab.funcs.get 171 = some Tryz.f171 := by kernel_rfl
theorem j8E (b o : Nat) : z0g Tryz.tab 316 0 (.ptr b o) = some (.ptr b (o + 0)) := by kernel_rfl
theorem v2R : Tryz.tab.funcs.get 173 = some Tryz.f173 := by kernel_rfl
theorem q9z (b o : Nat) : z0g Tryz.tab 321 0 (.ptr b o) = some (.ptr b (o + 0)) := by kernel_rfl
theorem k3H : Tryz.tab.isAgg 143 = some false := by kernel_rfl
theorem v3s : Tryz.tab.size 143 = some 1 := by kernel_rfl
theorem v2S : Tryz.tab.funcs.get 266 = some Tryz.f266 := by kernel_rfl
theorem v3t : Tryz.tab.und 143 = some (.map 3 9) := by kernel_rfl
theorem v2T : Tryz.tab.funcs.get 414 = some Tryz.f414 := by kernel_rfl
theorem j8F (b o : Nat) : z0g Tryz.tab 213 3 (.ptr b o) = some (.ptr b (o + 3)) := by kernel_rfl
theorem w8o : Tryz.tab.isAgg 206 = some false := by kernel_rfl
theorem v3u : Tryz.tab.size 206 = some 1 := by kernel_rfl
theorem v3v : Tryz.tab.isAgg 105 = some true := by kernel_rfl
theorem v3w : Tryz.tab.size 105 = some 2 := by kernel_rfl
theorem v3x : Tryz.tab.und 106 = some (.slice 319) := by kernel_rfl
theorem k3I : Tryz.tab.isAgg 319 = some true := by kernel_rfl
theorem q9A : Tryz.tab.size 319 = some 4 := by kernel_rfl
theorem j8G (b o : Nat) : z0g Tryz.tab 213 2 (.ptr b o) = some (.ptr b (o + 2)) := by kernel_rfl
theorem w8p : Tryz.tab.isAgg 205 = some false := by kernel_rfl
theorem v3y : Tryz.tab.size 205 = some 1 := by kernel_rfl
theorem v2U : Tryz.tab.funcs.get 500 = some Tryz.f500 := by kernel_rfl
theorem j8H (b o : Nat) : z0g Tryz.tab 316 2 (.ptr b o) = some (.ptr b (o + 3)) := by kernel_rfl
theorem w8q : Tryz.tab.isAgg 314 = some false := by kernel_rfl
theorem v3z : Tryz.tab.size 314 = some 1 := by kernel_rfl
theorem v3A : Tryz.tab.und 314 = some (.map 3 319) := by kernel_rfl
theorem v2V : Tryz.tab.funcs.get 871 = some Tryz.f871 := by kernel_rfl
theorem w8r (b o : Nat) : z0g Tryz.tab 276 2 (.ptr b o) = some (.ptr b (o + 5)) := by kernel_rfl
theorem v3B : Tryz.tab.isAgg 276 = some true := by kernel_rfl
theorem v3C : Tryz.tab.size 276 = some 10 := by kernel_rfl
theorem w8s (b o : Nat) : z0g Tryz.tab 276 4 (.ptr b o) = some (.ptr b (o + 7)) := by kernel_rfl
theorem v3D : Tryz.tab.isAgg 274 = some true := by kernel_rfl
theorem v3E : Tryz.tab.size 274 = some 2 := by kernel_rfl
theorem w8t (b o : Nat) : z0g Tryz.tab 276 0 (.ptr b o) = some (.ptr b (o + 0)) := by kernel_rfl
theorem w8u (b o : Nat) : z0g Tryz.tab 276 3 (.ptr b o) = some (.ptr b (o + 6)) := by kernel_rfl
theorem v2W : Tryz.tab.funcs.get 872 = some Tryz.f872 := by kernel_rfl
theorem v2X : Tryz.tab.funcs.get 873 = some Tryz.f873 := by kernel_rfl
theorem w8v (b o : Nat) : z0g Tryz.tab 276 5 (.ptr b o) = some (.ptr b (o + 9)) := by kernel_rfl
theorem ia50 : Tryz.tab.isAgg 50 = some false := by kernel_rfl
theorem sz50 : Tryz.tab.size 50 = some 1 := by kernel_rfl
end Go.Proofs
namespace Go.Proofs
open Go.Sx
theorem y2_ {A B : Prop} (a : A) (b : B) : A ∧ B := ⟨a, b⟩
theorem y3_ {A B C : Prop} (a : A) (b : B) (c : C) : A ∧ B ∧ C := ⟨a, y2_ b c⟩
theorem y4_ {A B C D : Prop} (a : A) (b : B) (c : C) (d : D) : A ∧ B ∧ C ∧ D := ⟨a, y3_ b c d⟩
theorem y5_ {A B C D E : Prop} (a : A) (b : B) (c : C) (d : D) (e : E) : A ∧ B ∧ C ∧ D ∧ E := ⟨a, y4_ b c d e⟩
theorem y6_ {A B C D E F : Prop} (a : A) (b : B) (c : C) (d : D) (e : E) (f : F) : A ∧ B ∧ C ∧ D ∧ E ∧ F := ⟨a, y5_ b c d e f⟩
theorem y7_ {A B C D E F G : Prop} (a : A) (b : B) (c : C) (d : D) (e : E) (f : F) (g : G) : A ∧ B ∧ C ∧ D ∧ E ∧ F ∧ G := ⟨a, y6_ b c d e f g⟩
theorem y8_ {A B C D E F G H : Prop} (a : A) (b : B) (c : C) (d : D) (e : E) (f : F) (g : G) (h : H) : A ∧ B ∧ C ∧ D ∧ E ∧ F ∧ G ∧ H := ⟨a, y7_ b c d e f g h⟩
theorem d_ {T : Prop} (h : T := by first | decide | assumption | (try simp only [z1l, z0h]) <;> omega | exact pd_ (by kernel_rfl) | fail) : T := h
theorem fo_ {T : Prop} (h : T := by ((try simp (disch := first | assumption | omega | (try simp only [z1l, z0h]) <;> omega | fail) only [foL]); (try rfl))) : T := h
theorem fl_ {T : Prop} (h : T := by ((try dsimp only); (try simp only [z0x, z0h]); omega)) : T := h
theorem sx0_ {T : Prop} (h : T := by simp (disch := decide) only [sxL]) : T := h
theorem sx1_ {T E : Prop} (e : E) (h : E → T := by (intro e; simp (disch := decide) only [sxL, e])) : T := h e
theorem sr_ {T E : Prop} (e : E) (h : E → T := by (intro e; simp (disch := decide) only [sxL, e, resultA])) : T := h e
theorem sf0_ {T : Prop} (h : T := by simp -implicitDefEqProofs (disch := first | decide | assumption | (try simp only [z1l, z0h]) <;> omega | exact pd_ (by kernel_rfl) | fail) only [sxM, Nat.reduceAdd, reduceCtorEq, Int.reduceToNat, Nat.reduceEqDiff, Int.reduceEq, Int.reduceLT]) : T := h
theorem sf1_ {T E : Prop} (e : E) (h : E → T := by (intro e; simp -implicitDefEqProofs (disch := first | decide | assumption | (try simp only [z1l, z0h]) <;> omega | exact pd_ (by kernel_rfl) | fail) only [sxM, Nat.reduceAdd, reduceCtorEq, Int.reduceToNat, Nat.reduceEqDiff, Int.reduceEq, Int.reduceLT, e])) : T := h e
theorem sq0_ {T E : Prop} (e : E) (h : E → T := by (intro e; simp -implicitDefEqProofs (disch := first | decide | assumption | (try simp only [z1l, z0h]) <;> omega | exact pd_ (by kernel_rfl) | fail) only [sxM, Nat.reduceAdd, reduceCtorEq, Int.reduceToNat, Nat.reduceEqDiff, Int.reduceEq, Int.reduceLT, e] <;> rfl)) : T := h e
theorem sq1_ {T E : Prop} (e : E) (h : E → T := by (intro e; simp -implicitDefEqProofs (disch := first | decide | assumption | (try simp only [z1l, z0h]) <;> omega | exact pd_ (by kernel_rfl) | fail) only [sxM, Nat.reduceAdd, reduceCtorEq, Int.reduceToNat, Nat.reduceEqDiff, Int.reduceEq, Int.reduceLT, z8P, e] <;> rfl)) : T := h e
theorem co_ {T E : Prop} (e : E) (h : E → T := by (intro e; (rw [q2B]; simp -implicitDefEqProofs (disch := first | decide | assumption | (try simp only [z1l, z0h]) <;> omega | exact pd_ (by kernel_rfl) | fail) only [sxM, Nat.reduceAdd, reduceCtorEq, Int.reduceToNat, Nat.reduceEqDiff, Int.reduceEq, Int.reduceLT, *, q2C, z1I, q4f, code_t, code_f, e]); (try rfl))) : T := h e
theorem cob_ {T E : Prop} (e : E) (h : E → T := by (intro e; (rw [q2B]; simp -implicitDefEqProofs (disch := first | decide | assumption | (try simp only [z1l, z0h]) <;> omega | exact pd_ (by kernel_rfl) | fail) only [sxM, Nat.reduceAdd, reduceCtorEq, Int.reduceToNat, Nat.reduceEqDiff, Int.reduceEq, Int.reduceLT, *, q2C, z1I, q4f, code_t, code_f, sbin, boolO, e]); (try rfl))) : T := h e
theorem coe_ {T E : Prop} (e : E) (h : E → T := by (intro e; (rw [q2B]; simp -implicitDefEqProofs (disch := first | decide | assumption | (try simp only [z1l, z0h]) <;> omega | exact pd_ (by kernel_rfl) | fail) only [sxM, Nat.reduceAdd, reduceCtorEq, Int.reduceToNat, Nat.reduceEqDiff, Int.reduceEq, Int.reduceLT, *, q2C, z1I, q4f, code_t, code_f, q3i, notO, yesO, sbin, boolO, e]); (try rfl))) : T := h e
theorem g0_ {c : Ctx} {x : Code} {s s' : St} {Q : Ex → St → Prop} {K : Prop} (k : K) (h : z0u x (fnsO Tryz.tab noOv 8) Tryz.tab c s = some [(.normal, s')] := by (simp -implicitDefEqProofs (disch := first | decide | assumption | (try simp only [z1l, z0h]) <;> omega | exact pd_ (by kernel_rfl) | fail) only [sxM, Nat.reduceAdd, reduceCtorEq, Int.reduceToNat, Nat.reduceEqDiff, Int.reduceEq, Int.reduceLT, z3J] <;> rfl)) (w : K → Q .normal s' := by (intro k; (try (change Gets _ _ _ _ _ _; repeat refine Gets.seq ?_)); exact k)) : Gets Tryz.prog Tryz.tab c x s Q := Gets.l0 Tryz.tabOk h (w k)
theorem o0_ {ov : Ov} {c : Ctx} {x : Code} {s s' : St} {Q : Ex → St → Prop} {K : Prop} (o : OvOk Tryz.prog Tryz.tab ov) (k : K) (h : z0u x (fnsO Tryz.tab ov 8) Tryz.tab c s = some [(.normal, s')] := by (simp -implicitDefEqProofs (disch := first | decide | assumption | (try simp only [z1l, z0h]) <;> omega | exact pd_ (by kernel_rfl) | fail) only [sxM, Nat.reduceAdd, reduceCtorEq, Int.reduceToNat, Nat.reduceEqDiff, Int.reduceEq, Int.reduceLT, z3J] <;> rfl)) (w : K → Q .normal s' := by (intro k; (try (change Gets _ _ _ _ _ _; repeat refine Gets.seq ?_)); exact k)) : Gets Tryz.prog Tryz.tab c x s Q := Gets.last Tryz.tabOk o 8 h (w k)
theorem g1_ {c : Ctx} {x : Code} {s s' : St} {Q : Ex → St → Prop} {K E : Prop} (e : E) (k : K) (h : E → z0u x (fnsO Tryz.tab noOv 8) Tryz.tab c s = some [(.normal, s')] := by (intro e; simp -implicitDefEqProofs (disch := first | decide | assumption | (try simp only [z1l, z0h]) <;> omega | exact pd_ (by kernel_rfl) | fail) only [sxM, Nat.reduceAdd, reduceCtorEq, Int.reduceToNat, Nat.reduceEqDiff, Int.reduceEq, Int.reduceLT, z3J, e] <;> rfl)) (w : K → Q .normal s' := by (intro k; (try (change Gets _ _ _ _ _ _; repeat refine Gets.seq ?_)); exact k)) : Gets Tryz.prog Tryz.tab c x s Q := Gets.l0 Tryz.tabOk (h e) (w k)
theorem o1_ {ov : Ov} {c : Ctx} {x : Code} {s s' : St} {Q : Ex → St → Prop} {K E : Prop} (o : OvOk Tryz.prog Tryz.tab ov) (e : E) (k : K) (h : E → z0u x (fnsO Tryz.tab ov 8) Tryz.tab c s = some [(.normal, s')] := by (intro e; simp -implicitDefEqProofs (disch := first | decide | assumption | (try simp only [z1l, z0h]) <;> omega | exact pd_ (by kernel_rfl) | fail) only [sxM, Nat.reduceAdd, reduceCtorEq, Int.reduceToNat, Nat.reduceEqDiff, Int.reduceEq, Int.reduceLT, z3J, e] <;> rfl)) (w : K → Q .normal s' := by (intro k; (try (change Gets _ _ _ _ _ _; repeat refine Gets.seq ?_)); exact k)) : Gets Tryz.prog Tryz.tab c x s Q := Gets.last Tryz.tabOk o 8 (h e) (w k)
theorem g1b_ {c : Ctx} {x : Code} {s s' : St} {Q : Ex → St → Prop} {K E : Prop} (e : E) (k : K) (h : E → z0u x (fnsO Tryz.tab noOv 8) Tryz.tab c s = some [(.normal, s')] := by (intro e; simp -implicitDefEqProofs (disch := first | decide | assumption | (try simp only [z1l, z0h]) <;> omega | exact pd_ (by kernel_rfl) | fail) only [sxM, Nat.reduceAdd, reduceCtorEq, Int.reduceToNat, Nat.reduceEqDiff, Int.reduceEq, Int.reduceLT, z3J, sbin, boolO, e] <;> rfl)) (w : K → Q .normal s' := by (intro k; (try (change Gets _ _ _ _ _ _; repeat refine Gets.seq ?_)); exact k)) : Gets Tryz.prog Tryz.tab c x s Q := Gets.l0 Tryz.tabOk (h e) (w k)
theorem o1b_ {ov : Ov} {c : Ctx} {x : Code} {s s' : St} {Q : Ex → St → Prop} {K E : Prop} (o : OvOk Tryz.prog Tryz.tab ov) (e : E) (k : K) (h : E → z0u x (fnsO Tryz.tab ov 8) Tryz.tab c s = some [(.normal, s')] := by (intro e; simp -implicitDefEqProofs (disch := first | decide | assumption | (try simp only [z1l, z0h]) <;> omega | exact pd_ (by kernel_rfl) | fail) only [sxM, Nat.reduceAdd, reduceCtorEq, Int.reduceToNat, Nat.reduceEqDiff, Int.reduceEq, Int.reduceLT, z3J, sbin, boolO, e] <;> rfl)) (w : K → Q .normal s' := by (intro k; (try (change Gets _ _ _ _ _ _; repeat refine Gets.seq ?_)); exact k)) : Gets Tryz.prog Tryz.tab c x s Q := Gets.last Tryz.tabOk o 8 (h e) (w k)
theorem gk_ {ov : Ov} {c : Ctx} {s s' : St} {Q : Ex → St → Prop} {K E : Prop} {i : Nat} {all : List Oper} (o : OvOk Tryz.prog Tryz.tab ov) (p : List PStep) (hN : Neat s.h) (e : E) (k : K) (hp : z7U all p = true := by kernel_rfl) (h : E → runK (fnsO Tryz.tab ov 8) Tryz.tab c all p s [] = some [s'] := by (intro e; simp -implicitDefEqProofs (maxSteps := 10000000) (disch := first | decide | assumption | (try simp only [z1l, z0h]) <;> omega | exact pd_ (by kernel_rfl) | fail) only [sxM, Nat.reduceAdd, reduceCtorEq, Int.reduceToNat, Nat.reduceEqDiff, Int.reduceEq, Int.reduceLT, k2w, k_rd, k_sm, k_lk, k2x, j2S, j2T, j2U, k2y, j2V, j2W, j2X, k2z, j2Y, j2Z, j3a, k2A, j3b, k_sk, k2B, k2C, j3c, k2E, j3d, k2D, q6o, q6p, q6q, j3m, q6r, q6s, j3n, k_la, k2F, j3e, j3f, j3g, k2G, j3h, q6m, q2J, q2K, q6n, z9H, q2L, k_ln, k2H, j3i, j3j, j3k, k2I, j3l, and_self, and_true, true_and, e] <;> rfl)) (w : K → Q .normal s' := by (intro k; (try (change Gets _ _ _ _ _ _; repeat refine Gets.seq ?_)); exact k)) : Gets Tryz.prog Tryz.tab c (.region i all.toArray true) s Q := Gets.drawK Tryz.tabOk o 8 p hp hN (h e) (w k)
theorem gkb_ {ov : Ov} {c : Ctx} {s s' : St} {Q : Ex → St → Prop} {K E : Prop} {i : Nat} {all : List Oper} (o : OvOk Tryz.prog Tryz.tab ov) (p : List PStep) (hN : Neat s.h) (e : E) (k : K) (hp : z7U all p = true := by kernel_rfl) (h : E → runK (fnsO Tryz.tab ov 8) Tryz.tab c all p s [] = some [s'] := by (intro e; simp -implicitDefEqProofs (maxSteps := 10000000) (disch := first | decide | assumption | (try simp only [z1l, z0h]) <;> omega | exact pd_ (by kernel_rfl) | fail) only [sxM, Nat.reduceAdd, reduceCtorEq, Int.reduceToNat, Nat.reduceEqDiff, Int.reduceEq, Int.reduceLT, k2w, k_rd, k_sm, k_lk, k2x, j2S, j2T, j2U, k2y, j2V, j2W, j2X, k2z, j2Y, j2Z, j3a, k2A, j3b, k_sk, k2B, k2C, j3c, k2E, j3d, k2D, q6o, q6p, q6q, j3m, q6r, q6s, j3n, k_la, k2F, j3e, j3f, j3g, k2G, j3h, q6m, q2J, q2K, q6n, z9H, q2L, k_ln, k2H, j3i, j3j, j3k, k2I, j3l, and_self, and_true, true_and, sbin, boolO, e] <;> rfl)) (w : K → Q .normal s' := by (intro k; (try (change Gets _ _ _ _ _ _; repeat refine Gets.seq ?_)); exact k)) : Gets Tryz.prog Tryz.tab c (.region i all.toArray true) s Q := Gets.drawK Tryz.tabOk o 8 p hp hN (h e) (w k)
theorem gke_ {ov : Ov} {c : Ctx} {s s' : St} {Q : Ex → St → Prop} {K E : Prop} {i : Nat} {all : List Oper} (o : OvOk Tryz.prog Tryz.tab ov) (p : List PStep) (hN : Neat s.h) (e : E) (k : K) (hp : z7U all p = true := by kernel_rfl) (h : E → runK (fnsO Tryz.tab ov 8) Tryz.tab c all p s [] = some [s'] := by (intro e; simp -implicitDefEqProofs (maxSteps := 10000000) (disch := first | decide | assumption | (try simp only [z1l, z0h]) <;> omega | exact pd_ (by kernel_rfl) | fail) only [sxM, Nat.reduceAdd, reduceCtorEq, Int.reduceToNat, Nat.reduceEqDiff, Int.reduceEq, Int.reduceLT, k2w, k_rd, k_sm, k_lk, k2x, j2S, j2T, j2U, k2y, j2V, j2W, j2X, k2z, j2Y, j2Z, j3a, k2A, j3b, k_sk, k2B, k2C, j3c, k2E, j3d, k2D, q6o, q6p, q6q, j3m, q6r, q6s, j3n, k_la, k2F, j3e, j3f, j3g, k2G, j3h, q6m, q2J, q2K, q6n, z9H, q2L, k_ln, k2H, j3i, j3j, j3k, k2I, j3l, and_self, and_true, true_and, q3i, notO, yesO, sbin, boolO, e] <;> rfl)) (w : K → Q .normal s' := by (intro k; (try (change Gets _ _ _ _ _ _; repeat refine Gets.seq ?_)); exact k)) : Gets Tryz.prog Tryz.tab c (.region i all.toArray true) s Q := Gets.drawK Tryz.tabOk o 8 p hp hN (h e) (w k)
theorem g0x_ {c : Ctx} {x : Code} {s s' : St} {Q : Ex → St → Prop} {K : Prop} (k : K) (h : z0u x (fnsO Tryz.tab noOv 8) Tryz.tab c s = some [(.normal, s')] := by (simp -implicitDefEqProofs (disch := first | decide | assumption | (try simp only [z1l, z0h]) <;> omega | exact pd_ (by kernel_rfl) | fail) only [sxM, Nat.reduceAdd, reduceCtorEq, Int.reduceToNat, Nat.reduceEqDiff, Int.reduceEq, Int.reduceLT, z3J] <;> rfl)) (w : K → Q .normal s' := by (intro k; (try (change GetsE _ _ _ _ _ _; repeat refine GetsE.seq ?_)); exact k)) : GetsE Tryz.prog Tryz.tab c x s Q := GetsE.l0 Tryz.tabOk h (w k)
theorem o0x_ {ov : Ov} {c : Ctx} {x : Code} {s s' : St} {Q : Ex → St → Prop} {K : Prop} (o : OvOk Tryz.prog Tryz.tab ov) (k : K) (h : z0u x (fnsO Tryz.tab ov 8) Tryz.tab c s = some [(.normal, s')] := by (simp -implicitDefEqProofs (disch := first | decide | assumption | (try simp only [z1l, z0h]) <;> omega | exact pd_ (by kernel_rfl) | fail) only [sxM, Nat.reduceAdd, reduceCtorEq, Int.reduceToNat, Nat.reduceEqDiff, Int.reduceEq, Int.reduceLT, z3J] <;> rfl)) (w : K → Q .normal s' := by (intro k; (try (change GetsE _ _ _ _ _ _; repeat refine GetsE.seq ?_)); exact k)) : GetsE Tryz.prog Tryz.tab c x s Q := GetsE.last Tryz.tabOk o 8 h (w k)
theorem g1x_ {c : Ctx} {x : Code} {s s' : St} {Q : Ex → St → Prop} {K E : Prop} (e : E) (k : K) (h : E → z0u x (fnsO Tryz.tab noOv 8) Tryz.tab c s = some [(.normal, s')] := by (intro e; simp -implicitDefEqProofs (disch := first | decide | assumption | (try simp only [z1l, z0h]) <;> omega | exact pd_ (by kernel_rfl) | fail) only [sxM, Nat.reduceAdd, reduceCtorEq, Int.reduceToNat, Nat.reduceEqDiff, Int.reduceEq, Int.reduceLT, z3J, e] <;> rfl)) (w : K → Q .normal s' := by (intro k; (try (change GetsE _ _ _ _ _ _; repeat refine GetsE.seq ?_)); exact k)) : GetsE Tryz.prog Tryz.tab c x s Q := GetsE.l0 Tryz.tabOk (h e) (w k)
theorem o1x_ {ov : Ov} {c : Ctx} {x : Code} {s s' : St} {Q : Ex → St → Prop} {K E : Prop} (o : OvOk Tryz.prog Tryz.tab ov) (e : E) (k : K) (h : E → z0u x (fnsO Tryz.tab ov 8) Tryz.tab c s = some [(.normal, s')] := by (intro e; simp -implicitDefEqProofs (disch := first | decide | assumption | (try simp only [z1l, z0h]) <;> omega | exact pd_ (by kernel_rfl) | fail) only [sxM, Nat.reduceAdd, reduceCtorEq, Int.reduceToNat, Nat.reduceEqDiff, Int.reduceEq, Int.reduceLT, z3J, e] <;> rfl)) (w : K → Q .normal s' := by (intro k; (try (change GetsE _ _ _ _ _ _; repeat refine GetsE.seq ?_)); exact k)) : GetsE Tryz.prog Tryz.tab c x s Q := GetsE.last Tryz.tabOk o 8 (h e) (w k)
theorem v3F {c : Ctx} {x : Code} {s s' : St} {Q : Ex → St → Prop} {K E : Prop} (e : E) (k : K) (h : E → z0u x (fnsO Tryz.tab noOv 8) Tryz.tab c s = some [(.normal, s')] := by (intro e; simp -implicitDefEqProofs (disch := first | decide | assumption | (try simp only [z1l, z0h]) <;> omega | exact pd_ (by kernel_rfl) | fail) only [sxM, Nat.reduceAdd, reduceCtorEq, Int.reduceToNat, Nat.reduceEqDiff, Int.reduceEq, Int.reduceLT, z3J, sbin, boolO, e] <;> rfl)) (w : K → Q .normal s' := by (intro k; (try (change GetsE _ _ _ _ _ _; repeat refine GetsE.seq ?_)); exact k)) : GetsE Tryz.prog Tryz.tab c x s Q := GetsE.l0 Tryz.tabOk (h e) (w k)
theorem v3G {ov : Ov} {c : Ctx} {x : Code} {s s' : St} {Q : Ex → St → Prop} {K E : Prop} (o : OvOk Tryz.prog Tryz.tab ov) (e : E) (k : K) (h : E → z0u x (fnsO Tryz.tab ov 8) Tryz.tab c s = some [(.normal, s')] := by (intro e; simp -implicitDefEqProofs (disch := first | decide | assumption | (try simp only [z1l, z0h]) <;> omega | exact pd_ (by kernel_rfl) | fail) only [sxM, Nat.reduceAdd, reduceCtorEq, Int.reduceToNat, Nat.reduceEqDiff, Int.reduceEq, Int.reduceLT, z3J, sbin, boolO, e] <;> rfl)) (w : K → Q .normal s' := by (intro k; (try (change GetsE _ _ _ _ _ _; repeat refine GetsE.seq ?_)); exact k)) : GetsE Tryz.prog Tryz.tab c x s Q := GetsE.last Tryz.tabOk o 8 (h e) (w k)
theorem cT_ {c : Ctx} {v : Operand} {x : Code} {y : Code} {s : St} {Q : Ex → St → Prop} {K : Prop} (k : K) (hv : aev Tryz.tab s.tm v = some (.bool true) := by simp (disch := decide) only [sxL]) (w : K → Gets Tryz.prog Tryz.tab c x s Q := by (intro k; (try (change Gets _ _ _ _ _ _; repeat refine Gets.seq ?_)); exact k)) : Gets Tryz.prog Tryz.tab c (.cond v x y) s Q := Gets.condT hv (w k)
theorem cF_ {c : Ctx} {v : Operand} {x : Code} {y : Code} {s : St} {Q : Ex → St → Prop} {K : Prop} (k : K) (hv : aev Tryz.tab s.tm v = some (.bool false) := by simp (disch := decide) only [sxL]) (w : K → Gets Tryz.prog Tryz.tab c y s Q := by (intro k; (try (change Gets _ _ _ _ _ _; repeat refine Gets.seq ?_)); exact k)) : Gets Tryz.prog Tryz.tab c (.cond v x y) s Q := Gets.condF hv (w k)
theorem cFs_ {c : Ctx} {v : Operand} {x : Code} {s : St} {Q : Ex → St → Prop} {K : Prop} (k : K) (hv : aev Tryz.tab s.tm v = some (.bool false) := by simp (disch := decide) only [sxL]) (w : K → Q .normal s := by (intro k; (try (change Gets _ _ _ _ _ _; repeat refine Gets.seq ?_)); exact k)) : Gets Tryz.prog Tryz.tab c (.cond v x .skip) s Q := Gets.condF hv (Gets.skip Tryz.tabOk (w k))
theorem cFk_ {c : Ctx} {v : Operand} {x : Code} {s : St} {Q : Ex → St → Prop} {K : Prop} (k : K) (hv : aev Tryz.tab s.tm v = some (.bool false) := by simp (disch := decide) only [sxL]) (w : K → Q .normal s := by (intro k; change Gets _ _ _ _ _ _; exact k)) : Gets Tryz.prog Tryz.tab c (.cond v x .skip) s Q := Gets.condF hv (Gets.skip Tryz.tabOk (w k))
theorem cTb_ {c : Ctx} {v : Operand} {y : Code} {s : St} {Q : Ex → St → Prop} {K : Prop} (k : K) (hv : aev Tryz.tab s.tm v = some (.bool true) := by simp (disch := decide) only [sxL]) (w : K → Q .normal s := by (intro k; change Gets _ _ _ _ _ _; refine Gets.seq (Gets.blk ?_); (repeat refine Gets.seq ?_); exact k)) : Gets Tryz.prog Tryz.tab c (.cond v .skip y) s Q := Gets.condT hv (Gets.skip Tryz.tabOk (w k))
theorem cFx_ {c : Ctx} {v : Operand} {x : Code} {i : Nat} {s : St} {Q : Ex → St → Prop} {K : Prop} (k : K) (hv : aev Tryz.tab s.tm v = some (.bool false) := by simp (disch := decide) only [sxL]) (w : K → Q (.exit i) s := by (intro k; refine z3v ?_; (try (change Gets _ _ _ _ _ _; repeat refine Gets.seq ?_)); exact k)) : Gets Tryz.prog Tryz.tab c (.cond v x (.exit i)) s Q := Gets.condF hv (Gets.exit Tryz.tabOk (w k))
end Go.Proofs
