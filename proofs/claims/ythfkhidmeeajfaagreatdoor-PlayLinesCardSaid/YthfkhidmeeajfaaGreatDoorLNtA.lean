/-
  Facts of the tables; the library's contracts laid at this program; runs with the tactics that prove their side goals.
-/
import Derived.Test.YthfkhidmeeajfaaGreatDoorLSxI
import Derived.Test.YthfkhidmeeajfaaGreatDoorLSxTab
import Derived.Shelf.LaysM
import Derived.Shelf.Strconv.Itoa4
import Derived.Shelf.Strings.OnBuilder
import Derived.Test.YthfkhidmeeajfaaGreatDoorProg
import Derived.Test.YthfkhidmeeajfaaGreatDoorLSxH
set_option linter.unusedSimpArgs false
set_option linter.unusedVariables false
namespace Go.Proofs
open Go.Sx
set_option maxRecDepth 100000
theorem get3 : Tryz.tab.funcs.get 3 = some Tryz.f3 := by kernel_rfl
theorem ud22 : Tryz.tab.und 22 = some (.slice 40) := by kernel_rfl
theorem ia40 : Tryz.tab.isAgg 40 = some true := by kernel_rfl
theorem sz40 : Tryz.tab.size 40 = some 29 := by kernel_rfl
theorem q7L (b o : Nat) : z0h Tryz.tab 40 2 (.ptr b o) = some (.ptr b (o + 2)) := by kernel_rfl
theorem ia36 : Tryz.tab.isAgg 36 = some true := by kernel_rfl
theorem sz36 : Tryz.tab.size 36 = some 24 := by kernel_rfl
theorem q7M (b o : Nat) : z0h Tryz.tab 40 3 (.ptr b o) = some (.ptr b (o + 26)) := by kernel_rfl
theorem q7N (b o : Nat) : z0h Tryz.tab 38 2 (.ptr b o) = some (.ptr b (o + 2)) := by kernel_rfl
theorem ia9 : Tryz.tab.isAgg 9 = some false := by kernel_rfl
theorem sz9 : Tryz.tab.size 9 = some 1 := by kernel_rfl
theorem ud9 : Tryz.tab.und 9 = some .string := by kernel_rfl
theorem get4 : Tryz.tab.funcs.get 4 = some Tryz.f4 := by kernel_rfl
theorem get5 : Tryz.tab.funcs.get 5 = some Tryz.f5 := by kernel_rfl
theorem get6 : Tryz.tab.funcs.get 6 = some Tryz.f6 := by kernel_rfl
theorem q2u (b o : Nat) : z0h Tryz.tab 36 12 (.ptr b o) = some (.ptr b (o + 23)) := by kernel_rfl
theorem q7O (b o : Nat) : z0h Tryz.tab 36 4 (.ptr b o) = some (.ptr b (o + 6)) := by kernel_rfl
theorem q1B (b o : Nat) : z0h Tryz.tab 36 7 (.ptr b o) = some (.ptr b (o + 9)) := by kernel_rfl
theorem z9x (b o : Nat) : z0h Tryz.tab 28 0 (.ptr b o) = some (.ptr b (o + 0)) := by kernel_rfl
theorem z9y (b o : Nat) : z0h Tryz.tab 28 1 (.ptr b o) = some (.ptr b (o + 1)) := by kernel_rfl
theorem q4e (b o : Nat) : z0h Tryz.tab 36 9 (.ptr b o) = some (.ptr b (o + 12)) := by kernel_rfl
theorem ia31 : Tryz.tab.isAgg 31 = some true := by kernel_rfl
theorem sz31 : Tryz.tab.size 31 = some 4 := by kernel_rfl
theorem get7 : Tryz.tab.funcs.get 7 = some Tryz.f7 := by kernel_rfl
theorem q1C (b o : Nat) : z0h Tryz.tab 40 0 (.ptr b o) = some (.ptr b (o + 0)) := by kernel_rfl
theorem ia3 : Tryz.tab.isAgg 3 = some false := by kernel_rfl
theorem sz3 : Tryz.tab.size 3 = some 1 := by kernel_rfl
theorem q7P (b o : Nat) : z0h Tryz.tab 40 1 (.ptr b o) = some (.ptr b (o + 1)) := by kernel_rfl
theorem ia4 : Tryz.tab.isAgg 4 = some false := by kernel_rfl
theorem sz4 : Tryz.tab.size 4 = some 1 := by kernel_rfl
theorem ia38 : Tryz.tab.isAgg 38 = some true := by kernel_rfl
theorem sz38 : Tryz.tab.size 38 = some 3 := by kernel_rfl
theorem j1u (b o : Nat) : z0h Tryz.tab 38 0 (.ptr b o) = some (.ptr b (o + 0)) := by kernel_rfl
theorem ia34 : Tryz.tab.isAgg 34 = some false := by kernel_rfl
theorem sz34 : Tryz.tab.size 34 = some 1 := by kernel_rfl
theorem j1v (b o : Nat) : z0h Tryz.tab 38 1 (.ptr b o) = some (.ptr b (o + 1)) := by kernel_rfl
theorem ia2 : Tryz.tab.isAgg 2 = some false := by kernel_rfl
theorem sz2 : Tryz.tab.size 2 = some 1 := by kernel_rfl
theorem ud51 : Tryz.tab.und 51 = some (.slice 9) := by kernel_rfl
theorem get8 : Tryz.tab.funcs.get 8 = some Tryz.f8 := by kernel_rfl
theorem w4s : Tryz.tab.funcs.get 16 = some Tryz.f16 := by kernel_rfl
theorem ud47 : Tryz.tab.und 47 = some (.slice 46) := by kernel_rfl
theorem ia46 : Tryz.tab.isAgg 46 = some true := by kernel_rfl
theorem sz46 : Tryz.tab.size 46 = some 10 := by kernel_rfl
theorem w4t : Tryz.tab.funcs.get 17 = some Tryz.f17 := by kernel_rfl
theorem z7t (b o : Nat) : z0h Tryz.tab 31 3 (.ptr b o) = some (.ptr b (o + 3)) := by kernel_rfl
theorem ia29 : Tryz.tab.isAgg 29 = some false := by kernel_rfl
theorem sz29 : Tryz.tab.size 29 = some 1 := by kernel_rfl
theorem ud29 : Tryz.tab.und 29 = some (.slice 97) := by kernel_rfl
theorem ia97 : Tryz.tab.isAgg 97 = some true := by kernel_rfl
theorem sz97 : Tryz.tab.size 97 = some 2 := by kernel_rfl
theorem z6P (b o : Nat) : z0h Tryz.tab 31 0 (.ptr b o) = some (.ptr b (o + 0)) := by kernel_rfl
theorem q1D (b o : Nat) : z0h Tryz.tab 97 0 (.ptr b o) = some (.ptr b (o + 0)) := by kernel_rfl
theorem k8T : Tryz.tab.funcs.get 18 = some Tryz.f18 := by kernel_rfl
theorem k8U : Tryz.tab.funcs.get 19 = some Tryz.f19 := by kernel_rfl
theorem q7Q (b o : Nat) : z0h Tryz.tab 71 1 (.ptr b o) = some (.ptr b (o + 1)) := by kernel_rfl
theorem ia69 : Tryz.tab.isAgg 69 = some false := by kernel_rfl
theorem sz69 : Tryz.tab.size 69 = some 1 := by kernel_rfl
theorem ud69 : Tryz.tab.und 69 = some (.slice 5) := by kernel_rfl
theorem ia5 : Tryz.tab.isAgg 5 = some false := by kernel_rfl
theorem sz5 : Tryz.tab.size 5 = some 1 := by kernel_rfl
theorem w4u : Tryz.tab.funcs.get 20 = some Tryz.f20 := by kernel_rfl
theorem w4v : Tryz.tab.funcs.get 21 = some Tryz.f21 := by kernel_rfl
theorem w4w : Tryz.tab.funcs.get 22 = some Tryz.f22 := by kernel_rfl
theorem q7R (b o : Nat) : z0h Tryz.tab 36 0 (.ptr b o) = some (.ptr b (o + 0)) := by kernel_rfl
theorem k0H : Tryz.tab.und 100 = some (.slice 109) := by kernel_rfl
theorem z6J : Tryz.tab.isAgg 109 = some true := by kernel_rfl
theorem z4c : Tryz.tab.size 109 = some 5 := by kernel_rfl
theorem k0I (b o : Nat) : z0h Tryz.tab 109 3 (.ptr b o) = some (.ptr b (o + 3)) := by kernel_rfl
theorem k8V : Tryz.tab.isAgg 106 = some false := by kernel_rfl
theorem w4x : Tryz.tab.size 106 = some 1 := by kernel_rfl
theorem k8W : Tryz.tab.funcs.get 23 = some Tryz.f23 := by kernel_rfl
theorem w4y : Tryz.tab.funcs.get 24 = some Tryz.f24 := by kernel_rfl
theorem w4z : Tryz.tab.funcs.get 25 = some Tryz.f25 := by kernel_rfl
theorem k8X : Tryz.tab.funcs.get 26 = some Tryz.f26 := by kernel_rfl
theorem w4A : Tryz.tab.funcs.get 27 = some Tryz.f27 := by kernel_rfl
theorem w4B : Tryz.tab.funcs.get 34 = some Tryz.f34 := by kernel_rfl
theorem w2U (b o : Nat) : z0h Tryz.tab 46 0 (.ptr b o) = some (.ptr b (o + 0)) := by kernel_rfl
theorem w2V (b o : Nat) : z0h Tryz.tab 46 1 (.ptr b o) = some (.ptr b (o + 1)) := by kernel_rfl
theorem w2W (b o : Nat) : z0h Tryz.tab 46 2 (.ptr b o) = some (.ptr b (o + 2)) := by kernel_rfl
theorem w2X (b o : Nat) : z0h Tryz.tab 46 3 (.ptr b o) = some (.ptr b (o + 3)) := by kernel_rfl
theorem w2Y (b o : Nat) : z0h Tryz.tab 46 4 (.ptr b o) = some (.ptr b (o + 4)) := by kernel_rfl
theorem ia28 : Tryz.tab.isAgg 28 = some true := by kernel_rfl
theorem sz28 : Tryz.tab.size 28 = some 2 := by kernel_rfl
theorem w2Z (b o : Nat) : z0h Tryz.tab 46 5 (.ptr b o) = some (.ptr b (o + 6)) := by kernel_rfl
theorem k8Y : Tryz.tab.funcs.get 35 = some Tryz.f35 := by kernel_rfl
theorem w4C : Tryz.tab.funcs.get 38 = some Tryz.f38 := by kernel_rfl
theorem k0J (b o : Nat) : z0h Tryz.tab 109 0 (.ptr b o) = some (.ptr b (o + 0)) := by kernel_rfl
theorem k8Z : Tryz.tab.isAgg 103 = some false := by kernel_rfl
theorem w4D : Tryz.tab.size 103 = some 1 := by kernel_rfl
theorem j1w (b o : Nat) : z0h Tryz.tab 109 4 (.ptr b o) = some (.ptr b (o + 4)) := by kernel_rfl
theorem k3M : Tryz.tab.isAgg 107 = some false := by kernel_rfl
theorem w4E : Tryz.tab.size 107 = some 1 := by kernel_rfl
theorem k3N : Tryz.tab.funcs.get 39 = some Tryz.f39 := by kernel_rfl
theorem k3O : Tryz.tab.funcs.get 40 = some Tryz.f40 := by kernel_rfl
theorem j8Z (b o : Nat) : z0h Tryz.tab 71 0 (.ptr b o) = some (.ptr b (o + 0)) := by kernel_rfl
theorem ia68 : Tryz.tab.isAgg 68 = some false := by kernel_rfl
theorem sz68 : Tryz.tab.size 68 = some 1 := by kernel_rfl
theorem k9a : Tryz.tab.funcs.get 42 = some Tryz.f42 := by kernel_rfl
theorem w4F : Tryz.tab.funcs.get 43 = some Tryz.f43 := by kernel_rfl
theorem w4G : Tryz.tab.funcs.get 44 = some Tryz.f44 := by kernel_rfl
theorem q7S (b o : Nat) : z0h Tryz.tab 36 3 (.ptr b o) = some (.ptr b (o + 3)) := by kernel_rfl
theorem ia26 : Tryz.tab.isAgg 26 = some true := by kernel_rfl
theorem sz26 : Tryz.tab.size 26 = some 3 := by kernel_rfl
theorem q4f (b o : Nat) : z0h Tryz.tab 36 5 (.ptr b o) = some (.ptr b (o + 7)) := by kernel_rfl
theorem j9a (b o : Nat) : z0h Tryz.tab 36 1 (.ptr b o) = some (.ptr b (o + 1)) := by kernel_rfl
theorem j9b (b o : Nat) : z0h Tryz.tab 36 6 (.ptr b o) = some (.ptr b (o + 8)) := by kernel_rfl
theorem j9c (b o : Nat) : z0h Tryz.tab 36 2 (.ptr b o) = some (.ptr b (o + 2)) := by kernel_rfl
theorem j9d (b o : Nat) : z0h Tryz.tab 36 8 (.ptr b o) = some (.ptr b (o + 11)) := by kernel_rfl
theorem q2v (b o : Nat) : z0h Tryz.tab 36 10 (.ptr b o) = some (.ptr b (o + 16)) := by kernel_rfl
theorem ia33 : Tryz.tab.isAgg 33 = some true := by kernel_rfl
theorem sz33 : Tryz.tab.size 33 = some 6 := by kernel_rfl
theorem q2w (b o : Nat) : z0h Tryz.tab 36 11 (.ptr b o) = some (.ptr b (o + 22)) := by kernel_rfl
theorem w4H : Tryz.tab.funcs.get 63 = some Tryz.f63 := by kernel_rfl
theorem z9z (b o : Nat) : z0h Tryz.tab 31 1 (.ptr b o) = some (.ptr b (o + 1)) := by kernel_rfl
theorem q4g (b o : Nat) : z0h Tryz.tab 31 2 (.ptr b o) = some (.ptr b (o + 2)) := by kernel_rfl
theorem k9b : Tryz.tab.funcs.get 68 = some Tryz.f68 := by kernel_rfl
theorem w4I : Tryz.tab.funcs.get 69 = some Tryz.f69 := by kernel_rfl
theorem w4J : Tryz.tab.funcs.get 70 = some Tryz.f70 := by kernel_rfl
theorem w4K : Tryz.tab.funcs.get 71 = some Tryz.f71 := by kernel_rfl
theorem w4L : Tryz.tab.funcs.get 72 = some Tryz.f72 := by kernel_rfl
theorem w4M : Tryz.tab.funcs.get 73 = some Tryz.f73 := by kernel_rfl
theorem w4N : Tryz.tab.funcs.get 74 = some Tryz.f74 := by kernel_rfl
theorem w4O : Tryz.tab.funcs.get 75 = some Tryz.f75 := by kernel_rfl
theorem w4P : Tryz.tab.funcs.get 76 = some Tryz.f76 := by kernel_rfl
theorem w4Q : Tryz.tab.funcs.get 77 = some Tryz.f77 := by kernel_rfl
theorem w4R : Tryz.tab.funcs.get 78 = some Tryz.f78 := by kernel_rfl
theorem w4S : Tryz.tab.funcs.get 79 = some Tryz.f79 := by kernel_rfl
theorem w4T : Tryz.tab.funcs.get 80 = some Tryz.f80 := by kernel_rfl
theorem w4U : Tryz.tab.funcs.get 81 = some Tryz.f81 := by kernel_rfl
theorem w4V : Tryz.tab.funcs.get 83 = some Tryz.f83 := by kernel_rfl
theorem w4W : Tryz.tab.funcs.get 84 = some Tryz.f84 := by kernel_rfl
theorem w4X : Tryz.tab.funcs.get 85 = some Tryz.f85 := by kernel_rfl
theorem j1x (b o : Nat) : z0h Tryz.tab 26 0 (.ptr b o) = some (.ptr b (o + 0)) := by kernel_rfl
theorem j1y (b o : Nat) : z0h Tryz.tab 26 1 (.ptr b o) = some (.ptr b (o + 1)) := by kernel_rfl
theorem j1z (b o : Nat) : z0h Tryz.tab 26 2 (.ptr b o) = some (.ptr b (o + 2)) := by kernel_rfl
theorem w4Y : Tryz.tab.funcs.get 86 = some Tryz.f86 := by kernel_rfl
theorem w4Z : Tryz.tab.funcs.get 87 = some Tryz.f87 := by kernel_rfl
theorem w5a : Tryz.tab.funcs.get 88 = some Tryz.f88 := by kernel_rfl
theorem q7T (b o : Nat) : z0h Tryz.tab 97 1 (.ptr b o) = some (.ptr b (o + 1)) := by kernel_rfl
theorem w5b : Tryz.tab.funcs.get 89 = some Tryz.f89 := by kernel_rfl
theorem q4h (b o : Nat) : z0h Tryz.tab 33 0 (.ptr b o) = some (.ptr b (o + 0)) := by kernel_rfl
theorem z8E (b o : Nat) : z0h Tryz.tab 33 1 (.ptr b o) = some (.ptr b (o + 3)) := by kernel_rfl
theorem j1A (b o : Nat) : z0h Tryz.tab 33 2 (.ptr b o) = some (.ptr b (o + 4)) := by kernel_rfl
theorem z7u (b o : Nat) : z0h Tryz.tab 33 3 (.ptr b o) = some (.ptr b (o + 5)) := by kernel_rfl
theorem w5c : Tryz.tab.funcs.get 90 = some Tryz.f90 := by kernel_rfl
theorem w3a (b o : Nat) : z0h Tryz.tab 54 0 (.ptr b o) = some (.ptr b (o + 0)) := by kernel_rfl
theorem w3b (b o : Nat) : z0h Tryz.tab 54 1 (.ptr b o) = some (.ptr b (o + 1)) := by kernel_rfl
theorem w3c (b o : Nat) : z0h Tryz.tab 54 2 (.ptr b o) = some (.ptr b (o + 2)) := by kernel_rfl
theorem ia51 : Tryz.tab.isAgg 51 = some false := by kernel_rfl
theorem sz51 : Tryz.tab.size 51 = some 1 := by kernel_rfl
theorem w5d : Tryz.tab.und 272 = some (.map 9 4) := by kernel_rfl
theorem w3d (b o : Nat) : z0h Tryz.tab 54 3 (.ptr b o) = some (.ptr b (o + 3)) := by kernel_rfl
theorem ia52 : Tryz.tab.isAgg 52 = some false := by kernel_rfl
theorem sz52 : Tryz.tab.size 52 = some 1 := by kernel_rfl
theorem ud52 : Tryz.tab.und 52 = some (.slice 87) := by kernel_rfl
theorem ia87 : Tryz.tab.isAgg 87 = some true := by kernel_rfl
theorem sz87 : Tryz.tab.size 87 = some 5 := by kernel_rfl
theorem q7U : Tryz.tab.funcs.get 127 = some Tryz.f127 := by kernel_rfl
theorem k3P : Tryz.tab.funcs.get 128 = some Tryz.f128 := by kernel_rfl
theorem k3Q : Tryz.tab.funcs.get 129 = some Tryz.f129 := by kernel_rfl
theorem w3e : Tryz.tab.funcs.get 130 = some Tryz.f130 := by kernel_rfl
theorem w3f : Tryz.tab.funcs.get 132 = some Tryz.f132 := by kernel_rfl
theorem k3R : Tryz.tab.funcs.get 134 = some Tryz.f134 := by kernel_rfl
theorem w3g : Tryz.tab.funcs.get 135 = some Tryz.f135 := by kernel_rfl
theorem k3S : Tryz.tab.funcs.get 136 = some Tryz.f136 := by kernel_rfl
theorem w3h : Tryz.tab.funcs.get 137 = some Tryz.f137 := by kernel_rfl
theorem k3T : Tryz.tab.funcs.get 138 = some Tryz.f138 := by kernel_rfl
theorem w3i : Tryz.tab.funcs.get 139 = some Tryz.f139 := by kernel_rfl
theorem k3U : Tryz.tab.funcs.get 140 = some Tryz.f140 := by kernel_rfl
theorem j9e : Tryz.tab.funcs.get 141 = some Tryz.f141 := by kernel_rfl
theorem w3j : Tryz.tab.funcs.get 142 = some Tryz.f142 := by kernel_rfl
theorem w3k : Tryz.tab.funcs.get 144 = some Tryz.f144 := by kernel_rfl
theorem k3V : Tryz.tab.funcs.get 146 = some Tryz.f146 := by kernel_rfl
theorem k3W : Tryz.tab.funcs.get 147 = some Tryz.f147 := by kernel_rfl
theorem w3l : Tryz.tab.funcs.get 148 = some Tryz.f148 := by kernel_rfl
theorem k3X : Tryz.tab.funcs.get 149 = some Tryz.f149 := by kernel_rfl
theorem k3Y : Tryz.tab.funcs.get 150 = some Tryz.f150 := by kernel_rfl
theorem k3Z : Tryz.tab.funcs.get 151 = some Tryz.f151 := by kernel_rfl
theorem w3m : Tryz.tab.funcs.get 152 = some Tryz.f152 := by kernel_rfl
theorem w3n : Tryz.tab.funcs.get 153 = some Tryz.f153 := by kernel_rfl
theorem w3o : Tryz.tab.funcs.get 155 = some Tryz.f155 := by kernel_rfl
theorem k4a : Tryz.tab.funcs.get 157 = some Tryz.f157 := by kernel_rfl
theorem k4b : Tryz.tab.funcs.get 158 = some Tryz.f158 := by kernel_rfl
theorem k4c : Tryz.tab.funcs.get 159 = some Tryz.f159 := by kernel_rfl
theorem k4d : Tryz.tab.funcs.get 160 = some Tryz.f160 := by kernel_rfl
theorem j9f : Tryz.tab.funcs.get 161 = some Tryz.f161 := by kernel_rfl
theorem k4e : Tryz.tab.funcs.get 162 = some Tryz.f162 := by kernel_rfl
theorem k4f : Tryz.tab.funcs.get 163 = some Tryz.f163 := by kernel_rfl
theorem k4g : Tryz.tab.funcs.get 164 = some Tryz.f164 := by kernel_rfl
theorem w3p : Tryz.tab.funcs.get 165 = some Tryz.f165 := by kernel_rfl
theorem w3q : Tryz.tab.funcs.get 166 = some Tryz.f166 := by kernel_rfl
theorem w3r : Tryz.tab.funcs.get 168 = some Tryz.f168 := by kernel_rfl
theorem k4h : Tryz.tab.funcs.get 171 = some Tryz.f171 := by kernel_rfl
theorem w3s : Tryz.tab.funcs.get 172 = some Tryz.f172 := by kernel_rfl
theorem k4i : Tryz.tab.funcs.get 173 = some Tryz.f173 := by kernel_rfl
theorem k4j : Tryz.tab.funcs.get 174 = some Tryz.f174 := by kernel_rfl
theorem k4k : Tryz.tab.funcs.get 175 = some Tryz.f175 := by kernel_rfl
theorem z9A : Tryz.tab.funcs.get 176 = some Tryz.f176 := by kernel_rfl
theorem w3t : Tryz.tab.funcs.get 177 = some Tryz.f177 := by kernel_rfl
theorem w3u : Tryz.tab.funcs.get 179 = some Tryz.f179 := by kernel_rfl
theorem k4l : Tryz.tab.funcs.get 181 = some Tryz.f181 := by kernel_rfl
theorem w3v : Tryz.tab.funcs.get 182 = some Tryz.f182 := by kernel_rfl
theorem k4m : Tryz.tab.funcs.get 183 = some Tryz.f183 := by kernel_rfl
theorem k4n : Tryz.tab.funcs.get 184 = some Tryz.f184 := by kernel_rfl
theorem w3w : Tryz.tab.funcs.get 185 = some Tryz.f185 := by kernel_rfl
theorem w3x : Tryz.tab.funcs.get 186 = some Tryz.f186 := by kernel_rfl
theorem k4o : Tryz.tab.funcs.get 187 = some Tryz.f187 := by kernel_rfl
theorem k4p : Tryz.tab.funcs.get 188 = some Tryz.f188 := by kernel_rfl
theorem w3y : Tryz.tab.funcs.get 190 = some Tryz.f190 := by kernel_rfl
theorem w3z : Tryz.tab.funcs.get 191 = some Tryz.f191 := by kernel_rfl
theorem w3A : Tryz.tab.funcs.get 192 = some Tryz.f192 := by kernel_rfl
theorem k4q : Tryz.tab.funcs.get 193 = some Tryz.f193 := by kernel_rfl
theorem w3B : Tryz.tab.funcs.get 194 = some Tryz.f194 := by kernel_rfl
theorem w3C : Tryz.tab.funcs.get 195 = some Tryz.f195 := by kernel_rfl
theorem w3D : Tryz.tab.funcs.get 196 = some Tryz.f196 := by kernel_rfl
theorem w3E : Tryz.tab.funcs.get 197 = some Tryz.f197 := by kernel_rfl
theorem w3F : Tryz.tab.funcs.get 198 = some Tryz.f198 := by kernel_rfl
theorem w3G : Tryz.tab.funcs.get 199 = some Tryz.f199 := by kernel_rfl
theorem w3H (b o : Nat) : z0h Tryz.tab 87 1 (.ptr b o) = some (.ptr b (o + 1)) := by kernel_rfl
theorem w3I (b o : Nat) : z0h Tryz.tab 87 2 (.ptr b o) = some (.ptr b (o + 2)) := by kernel_rfl
theorem w3J : Tryz.tab.funcs.get 200 = some Tryz.f200 := by kernel_rfl
theorem w3K (b o : Nat) : z0h Tryz.tab 87 0 (.ptr b o) = some (.ptr b (o + 0)) := by kernel_rfl
theorem w3L (b o : Nat) : z0h Tryz.tab 87 3 (.ptr b o) = some (.ptr b (o + 3)) := by kernel_rfl
theorem w3M (b o : Nat) : z0h Tryz.tab 87 4 (.ptr b o) = some (.ptr b (o + 4)) := by kernel_rfl
theorem w3N : Tryz.tab.funcs.get 201 = some Tryz.f201 := by kernel_rfl
theorem w3O : Tryz.tab.funcs.get 244 = some Tryz.f244 := by kernel_rfl
theorem w3P : Tryz.tab.funcs.get 247 = some Tryz.f247 := by kernel_rfl
theorem k4r : Tryz.tab.isAgg 249 = some false := by kernel_rfl
theorem w5e : Tryz.tab.size 249 = some 1 := by kernel_rfl
theorem j6v : Tryz.tab.isAgg 248 = some false := by kernel_rfl
theorem w5f : Tryz.tab.size 248 = some 1 := by kernel_rfl
theorem w3Q : Tryz.tab.funcs.get 248 = some Tryz.f248 := by kernel_rfl
theorem w3R : Tryz.tab.funcs.get 249 = some Tryz.f249 := by kernel_rfl
theorem w3S : Tryz.tab.funcs.get 250 = some Tryz.f250 := by kernel_rfl
theorem k4s : Tryz.tab.isAgg 250 = some false := by kernel_rfl
theorem w5g : Tryz.tab.size 250 = some 1 := by kernel_rfl
theorem k4t : Tryz.tab.funcs.get 251 = some Tryz.f251 := by kernel_rfl
theorem w3T : Tryz.tab.funcs.get 252 = some Tryz.f252 := by kernel_rfl
theorem w5h : Tryz.tab.isAgg 437 = some true := by kernel_rfl
theorem k9c : Tryz.tab.size 437 = some 256 := by kernel_rfl
theorem k4u : Tryz.tab.funcs.get 253 = some Tryz.f253 := by kernel_rfl
theorem k4v : Tryz.tab.funcs.get 254 = some Tryz.f254 := by kernel_rfl
theorem w3U : Tryz.tab.funcs.get 260 = some Tryz.f260 := by kernel_rfl
theorem j6w : Tryz.tab.isAgg 255 = some false := by kernel_rfl
theorem w5i : Tryz.tab.size 255 = some 1 := by kernel_rfl
theorem k4w : Tryz.tab.funcs.get 261 = some Tryz.f261 := by kernel_rfl
theorem w3V : Tryz.tab.funcs.get 262 = some Tryz.f262 := by kernel_rfl
theorem w3W : Tryz.tab.funcs.get 263 = some Tryz.f263 := by kernel_rfl
theorem w3X : Tryz.tab.funcs.get 264 = some Tryz.f264 := by kernel_rfl
theorem k4x : Tryz.tab.funcs.get 265 = some Tryz.f265 := by kernel_rfl
theorem k4y : Tryz.tab.funcs.get 268 = some Tryz.f268 := by kernel_rfl
theorem j9g : Tryz.tab.funcs.get 269 = some Tryz.f269 := by kernel_rfl
theorem k4z : Tryz.tab.funcs.get 270 = some Tryz.f270 := by kernel_rfl
theorem k4A : Tryz.tab.funcs.get 275 = some Tryz.f275 := by kernel_rfl
theorem w3Y : Tryz.tab.funcs.get 276 = some Tryz.f276 := by kernel_rfl
theorem w3Z : Tryz.tab.funcs.get 277 = some Tryz.f277 := by kernel_rfl
theorem w4a : Tryz.tab.funcs.get 278 = some Tryz.f278 := by kernel_rfl
theorem w4b : Tryz.tab.funcs.get 279 = some Tryz.f279 := by kernel_rfl
theorem w4c : Tryz.tab.funcs.get 280 = some Tryz.f280 := by kernel_rfl
theorem w4d : Tryz.tab.funcs.get 281 = some Tryz.f281 := by kernel_rfl
theorem w4e : Tryz.tab.funcs.get 282 = some Tryz.f282 := by kernel_rfl
theorem w4f : Tryz.tab.funcs.get 328 = some Tryz.f328 := by kernel_rfl
theorem w4g : Tryz.tab.funcs.get 329 = some Tryz.f329 := by kernel_rfl
theorem w4h : Tryz.tab.funcs.get 330 = some Tryz.f330 := by kernel_rfl
theorem k4B : Tryz.tab.funcs.get 333 = some Tryz.f333 := by kernel_rfl
theorem w4i : Tryz.tab.funcs.get 334 = some Tryz.f334 := by kernel_rfl
theorem k4C : Tryz.tab.funcs.get 394 = some Tryz.f394 := by kernel_rfl
theorem w4j : Tryz.tab.funcs.get 398 = some Tryz.f398 := by kernel_rfl
end Go.Proofs
namespace Go.Proofs
open Go.Shelf
def Tryz.lays156_ren : Go.Shelf.Ren := ⟨fun | 156 => 24 | 165 => 41 | 166 => 23 | 169 => 25 | 240 => 40 | 241 => 82 | 276 => 81 | 277 => 189 | n => n, fun | 31 => 51 | 9 => 9 | 3 => 3 | 4 => 4 | 0 => 0 | 20 => 20 | 72 => 71 | 76 => 79 | 70 => 68 | 37 => 69 | 75 => 78 | 127 => 112 | 164 => 161 | 5 => 5 | 80 => 82 | n => n, fun | n => n⟩
theorem Tryz.lays156 : Go.Proofs.Lays.n156 Tryz.prog Tryz.lays156_ren := {
 mixed := by kernel_rfl
 f156 := Tryz.func24.trans (congrArg some (by kernel_rfl))
 f165 := Tryz.func41.trans (congrArg some (by kernel_rfl))
 f166 := Tryz.func23.trans (congrArg some (by kernel_rfl))
 f169 := Tryz.func25.trans (congrArg some (by kernel_rfl))
 f240 := Tryz.func40.trans (congrArg some (by kernel_rfl))
 f241 := Tryz.func82.trans (congrArg some (by kernel_rfl))
 f276 := Tryz.func81.trans (congrArg some (by kernel_rfl))
 f277 := Tryz.func189.trans (congrArg some (by kernel_rfl))
 t0 := Tryz.underlying0
 a0 := Tryz.isAgg0
 z0 := Tryz.sizeOf0
 v0 := Tryz.zeroValue0
 t3 := Tryz.underlying3
 a3 := Tryz.isAgg3
 z3 := Tryz.sizeOf3
 v3 := Tryz.zeroValue3
 t4 := Tryz.underlying4
 a4 := Tryz.isAgg4
 z4 := Tryz.sizeOf4
 v4 := Tryz.zeroValue4
 t9 := Tryz.underlying9
 a9 := Tryz.isAgg9
 z9 := Tryz.sizeOf9
 v9 := Tryz.zeroValue9
 t20 := Tryz.underlying20
 a20 := Tryz.isAgg20
 z20 := Tryz.sizeOf20
 v20 := Tryz.zeroValue20
 t31 := Tryz.underlying51
 a31 := Tryz.isAgg51
 z31 := Tryz.sizeOf51
 v31 := Tryz.zeroValue51
 t37 := Tryz.underlying69
 a37 := Tryz.isAgg69
 z37 := Tryz.sizeOf69
 v37 := Tryz.zeroValue69
 t70 := Tryz.underlying68
 a70 := Tryz.isAgg68
 z70 := Tryz.sizeOf68
 v70 := Tryz.zeroValue68
 t72 := Tryz.underlying71
 a72 := Tryz.isAgg71
 z72 := Tryz.sizeOf71
 v72 := Tryz.zeroValue71
 t75 := Tryz.underlying78
 a75 := Tryz.isAgg78
 z75 := Tryz.sizeOf78
 v75 := Tryz.zeroValue78
 t76 := Tryz.underlying79
 a76 := Tryz.isAgg79
 z76 := Tryz.sizeOf79
 v76 := Tryz.zeroValue79
 t127 := Tryz.underlying112
 a127 := Tryz.isAgg112
 z127 := Tryz.sizeOf112
 v127 := Tryz.zeroValue112
 t164 := Tryz.underlying161
 a164 := Tryz.isAgg161
 z164 := Tryz.sizeOf161
 v164 := Tryz.zeroValue161 }
theorem Tryz.Builder_Extra_156 : Builder.Extra Tryz.prog Tryz.lays156_ren := {
 sizeBuilder := by kernel_rfl
 liesBuilder := by kernel_rfl
 t5 := Tryz.underlying5
 a5 := Tryz.isAgg5
 z5 := Tryz.sizeOf5
 v5 := Tryz.zeroValue5
 infoByte := by kernel_rfl
 cellsByte := by kernel_rfl
 sizeByte := by kernel_rfl
 neB5 := by decide }
open Go.RowKit in
theorem Tryz.strings_Join_none (a : Option Addr) (c : Nat) (sep : ByteArray) (w : World) :
  Calls Tryz.prog 24 #[.slice a 0 c, .string sep] w fun e w' => e = .returned (.string ⟨#[]⟩) ∧ w' = w := Any.strings_Join_none Tryz.lays156 Tryz.Builder_Extra_156 a c sep w
open Go.RowKit in
theorem Tryz.strings_Join (bk o c : Nat) (xs : List ByteArray) (sep : ByteArray) (w : World) (hcells : ∀ (j : Nat) x, xs[j]? = some x → w.cell? ⟨bk, o + j, none⟩ = some (.string x)) (hbk : bk < w.heap.size) (hN : xs.length ≤ 140737488355328) (hcap : xs.length ≤ c) (hlen : (Lib.join (xs.map (·.data.toList)) sep.data.toList).length ≤ 140737488355328) :
  Calls Tryz.prog 24 #[.slice (some ⟨bk, o, none⟩) xs.length c, .string sep] w fun e w' => e = .returned (.string ⟨(Lib.join (xs.map (·.data.toList)) sep.data.toList).toArray⟩) ∧ Below w.heap.size w w' := Any.strings_Join Tryz.lays156 Tryz.Builder_Extra_156 bk o c xs sep w hcells hbk hN hcap hlen
def Tryz.laysM171_ren : Go.Shelf.Ren := ⟨fun | 171 => 20 | 243 => 36 | 246 => 37 | 283 => 64 | 284 => 65 | 285 => 66 | 286 => 67 | 129 => 123 | 317 => 122 | 318 => 124 | 319 => 125 | 320 => 126 | 337 => 242 | 338 => 243 | n => n, fun | 3 => 3 | 9 => 9 | 2 => 2 | 4 => 4 | 171 => 154 | 0 => 0 | 53 => 114 | 37 => 69 | 5 => 5 | 173 => 157 | 212 => 235 | 51 => 236 | 20 => 20 | 213 => 237 | 46 => 239 | 232 => 431 | 233 => 432 | n => n, fun | 17 => 0 | 18 => 2 | 19 => 3 | n => n⟩
theorem Tryz.laysM171 : Go.Proofs.LaysM.n171 Tryz.prog Tryz.laysM171_ren := {
 mixed := by kernel_rfl
 f129 := Tryz.func123.trans (congrArg some (by kernel_rfl))
 f171 := Tryz.func20.trans (congrArg some (by kernel_rfl))
 f243 := Tryz.func36.trans (congrArg some (by kernel_rfl))
 f246 := Tryz.func37.trans (congrArg some (by kernel_rfl))
 f283 := Tryz.func64.trans (congrArg some (by kernel_rfl))
 f284 := Tryz.func65.trans (congrArg some (by kernel_rfl))
 f285 := Tryz.func66.trans (congrArg some (by kernel_rfl))
 f286 := Tryz.func67.trans (congrArg some (by kernel_rfl))
 f317 := Tryz.func122.trans (congrArg some (by kernel_rfl))
 f318 := Tryz.func124.trans (congrArg some (by kernel_rfl))
 f319 := Tryz.func125.trans (congrArg some (by kernel_rfl))
 f320 := Tryz.func126.trans (congrArg some (by kernel_rfl))
 f337 := Tryz.func242.trans (congrArg some (by kernel_rfl))
 f338 := Tryz.func243.trans (congrArg some (by kernel_rfl))
 t0 := Tryz.underlying0
 a0 := Tryz.isAgg0
 z0 := Tryz.sizeOf0
 v0 := Tryz.zeroValue0
 t2 := Tryz.underlying2
 a2 := Tryz.isAgg2
 z2 := Tryz.sizeOf2
 v2 := Tryz.zeroValue2
 t3 := Tryz.underlying3
 a3 := Tryz.isAgg3
 z3 := Tryz.sizeOf3
 v3 := Tryz.zeroValue3
 t4 := Tryz.underlying4
 a4 := Tryz.isAgg4
 z4 := Tryz.sizeOf4
 v4 := Tryz.zeroValue4
 t5 := Tryz.underlying5
 a5 := Tryz.isAgg5
 z5 := Tryz.sizeOf5
 v5 := Tryz.zeroValue5
 t9 := Tryz.underlying9
 a9 := Tryz.isAgg9
 z9 := Tryz.sizeOf9
 v9 := Tryz.zeroValue9
 t20 := Tryz.underlying20
 a20 := Tryz.isAgg20
 z20 := Tryz.sizeOf20
 v20 := Tryz.zeroValue20
 t37 := Tryz.underlying69
 a37 := Tryz.isAgg69
 z37 := Tryz.sizeOf69
 v37 := Tryz.zeroValue69
 t46 := Tryz.underlying239
 a46 := Tryz.isAgg239
 z46 := Tryz.sizeOf239
 v46 := Tryz.zeroValue239
 t51 := Tryz.underlying236
 a51 := Tryz.isAgg236
 z51 := Tryz.sizeOf236
 v51 := Tryz.zeroValue236
 t53 := Tryz.underlying114
 a53 := Tryz.isAgg114
 z53 := Tryz.sizeOf114
 v53 := Tryz.zeroValue114
 t171 := Tryz.underlying154
 a171 := Tryz.isAgg154
 z171 := Tryz.sizeOf154
 v171 := Tryz.zeroValue154
 t173 := Tryz.underlying157
 a173 := Tryz.isAgg157
 z173 := Tryz.sizeOf157
 v173 := Tryz.zeroValue157
 t212 := Tryz.underlying235
 a212 := Tryz.isAgg235
 z212 := Tryz.sizeOf235
 v212 := Tryz.zeroValue235
 t213 := Tryz.underlying237
 a213 := Tryz.isAgg237
 z213 := Tryz.sizeOf237
 t232 := Tryz.underlying431
 a232 := Tryz.isAgg431
 z232 := Tryz.sizeOf431
 v232 := Tryz.zeroValue431
 t233 := Tryz.underlying432
 a233 := Tryz.isAgg432
 z233 := Tryz.sizeOf432
 v233 := Tryz.zeroValue432
 g17 := by kernel_rfl
 g18 := by kernel_rfl
 g19 := by kernel_rfl
 i0 := by kernel_rfl
 i2 := by kernel_rfl
 i3 := by kernel_rfl
 i4 := by kernel_rfl
 i5 := by kernel_rfl
 i9 := by kernel_rfl
 i20 := by kernel_rfl
 i37 := by kernel_rfl
 i46 := by kernel_rfl
 i51 := by kernel_rfl
 i53 := by kernel_rfl
 i171 := by kernel_rfl
 i173 := by kernel_rfl
 i212 := by kernel_rfl
 i232 := by kernel_rfl
 i233 := by kernel_rfl
 m17 := by kernel_rfl
 m18 := by kernel_rfl
 m19 := by kernel_rfl }
open Go.RowKit Go.Sort Go.Lib in
theorem Tryz.strconv_Itoa (n : Int) (h0 : -9223372036854775808 ≤ n) (h1 : n ≤ 9223372036854775807) (w : World) (htab : Lib.TabIs Tryz.prog w "internal/strconv.uint64pow10" .u64 Lib.pow10Tab) :
  Calls Tryz.prog 20 #[.int .i64 n] w fun e w' => e = .returned (.string ⟨(Lib.itoa n).toArray⟩) ∧ ∃ k os, w' = grow (w.drewN k) os := Any.strconv_Itoa Tryz.laysM171 n h0 h1 w htab
def Tryz.laysM173_ren : Go.Shelf.Ren := ⟨fun | 173 => 21 | 246 => 37 | 283 => 64 | 284 => 65 | 285 => 66 | 286 => 67 | 129 => 123 | 317 => 122 | 318 => 124 | 319 => 125 | 320 => 126 | 337 => 242 | 338 => 243 | n => n, fun | 2 => 2 | 3 => 3 | 9 => 9 | 4 => 4 | 171 => 154 | 0 => 0 | 53 => 114 | 37 => 69 | 5 => 5 | 173 => 157 | 212 => 235 | 51 => 236 | 20 => 20 | 213 => 237 | 46 => 239 | 232 => 431 | 233 => 432 | n => n, fun | 17 => 0 | 18 => 2 | 19 => 3 | n => n⟩
theorem Tryz.laysM173 : Go.Proofs.LaysM.n173 Tryz.prog Tryz.laysM173_ren := {
 mixed := by kernel_rfl
 f129 := Tryz.func123.trans (congrArg some (by kernel_rfl))
 f173 := Tryz.func21.trans (congrArg some (by kernel_rfl))
 f246 := Tryz.func37.trans (congrArg some (by kernel_rfl))
 f283 := Tryz.func64.trans (congrArg some (by kernel_rfl))
 f284 := Tryz.func65.trans (congrArg some (by kernel_rfl))
 f285 := Tryz.func66.trans (congrArg some (by kernel_rfl))
 f286 := Tryz.func67.trans (congrArg some (by kernel_rfl))
 f317 := Tryz.func122.trans (congrArg some (by kernel_rfl))
 f318 := Tryz.func124.trans (congrArg some (by kernel_rfl))
 f319 := Tryz.func125.trans (congrArg some (by kernel_rfl))
 f320 := Tryz.func126.trans (congrArg some (by kernel_rfl))
 f337 := Tryz.func242.trans (congrArg some (by kernel_rfl))
 f338 := Tryz.func243.trans (congrArg some (by kernel_rfl))
 t0 := Tryz.underlying0
 a0 := Tryz.isAgg0
 z0 := Tryz.sizeOf0
 v0 := Tryz.zeroValue0
 t2 := Tryz.underlying2
 a2 := Tryz.isAgg2
 z2 := Tryz.sizeOf2
 v2 := Tryz.zeroValue2
 t3 := Tryz.underlying3
 a3 := Tryz.isAgg3
 z3 := Tryz.sizeOf3
 v3 := Tryz.zeroValue3
 t4 := Tryz.underlying4
 a4 := Tryz.isAgg4
 z4 := Tryz.sizeOf4
 v4 := Tryz.zeroValue4
 t5 := Tryz.underlying5
 a5 := Tryz.isAgg5
 z5 := Tryz.sizeOf5
 v5 := Tryz.zeroValue5
 t9 := Tryz.underlying9
 a9 := Tryz.isAgg9
 z9 := Tryz.sizeOf9
 v9 := Tryz.zeroValue9
 t20 := Tryz.underlying20
 a20 := Tryz.isAgg20
 z20 := Tryz.sizeOf20
 v20 := Tryz.zeroValue20
 t37 := Tryz.underlying69
 a37 := Tryz.isAgg69
 z37 := Tryz.sizeOf69
 v37 := Tryz.zeroValue69
 t46 := Tryz.underlying239
 a46 := Tryz.isAgg239
 z46 := Tryz.sizeOf239
 v46 := Tryz.zeroValue239
 t51 := Tryz.underlying236
 a51 := Tryz.isAgg236
 z51 := Tryz.sizeOf236
 v51 := Tryz.zeroValue236
 t53 := Tryz.underlying114
 a53 := Tryz.isAgg114
 z53 := Tryz.sizeOf114
 v53 := Tryz.zeroValue114
 t171 := Tryz.underlying154
 a171 := Tryz.isAgg154
 z171 := Tryz.sizeOf154
 v171 := Tryz.zeroValue154
 t173 := Tryz.underlying157
 a173 := Tryz.isAgg157
 z173 := Tryz.sizeOf157
 v173 := Tryz.zeroValue157
 t212 := Tryz.underlying235
 a212 := Tryz.isAgg235
 z212 := Tryz.sizeOf235
 v212 := Tryz.zeroValue235
 t213 := Tryz.underlying237
 a213 := Tryz.isAgg237
 z213 := Tryz.sizeOf237
 t232 := Tryz.underlying431
 a232 := Tryz.isAgg431
 z232 := Tryz.sizeOf431
 v232 := Tryz.zeroValue431
 t233 := Tryz.underlying432
 a233 := Tryz.isAgg432
 z233 := Tryz.sizeOf432
 v233 := Tryz.zeroValue432
 g17 := by kernel_rfl
 g18 := by kernel_rfl
 g19 := by kernel_rfl
 i0 := by kernel_rfl
 i2 := by kernel_rfl
 i3 := by kernel_rfl
 i4 := by kernel_rfl
 i5 := by kernel_rfl
 i9 := by kernel_rfl
 i20 := by kernel_rfl
 i37 := by kernel_rfl
 i46 := by kernel_rfl
 i51 := by kernel_rfl
 i53 := by kernel_rfl
 i171 := by kernel_rfl
 i173 := by kernel_rfl
 i212 := by kernel_rfl
 i232 := by kernel_rfl
 i233 := by kernel_rfl
 m17 := by kernel_rfl
 m18 := by kernel_rfl
 m19 := by kernel_rfl }
open Go.RowKit Go.Sort Go.Lib in
theorem Tryz.strconv_FormatInt_10 (n : Int) (h0 : -9223372036854775808 ≤ n) (h1 : n ≤ 9223372036854775807) (w : World) (htab : Lib.TabIs Tryz.prog w "internal/strconv.uint64pow10" .u64 Lib.pow10Tab) :
  Calls Tryz.prog 21 #[.int .i64 n, .int .i64 10] w fun e w' => e = .returned (.string ⟨(Lib.itoa n).toArray⟩) ∧ ∃ k os, w' = grow (w.drewN k) os := Any.strconv_FormatInt_10 Tryz.laysM173 n h0 h1 w htab
end Go.Proofs
namespace Go.Proofs
open Go.Sx
theorem y2_ {A B : Prop} (a : A) (b : B) : A ∧ B := ⟨a, b⟩
theorem y3_ {A B C : Prop} (a : A) (b : B) (c : C) : A ∧ B ∧ C := ⟨a, y2_ b c⟩
theorem y4_ {A B C D : Prop} (a : A) (b : B) (c : C) (d : D) : A ∧ B ∧ C ∧ D := ⟨a, y3_ b c d⟩
theorem y5_ {A B C D E : Prop} (a : A) (b : B) (c : C) (d : D) (e : E) : A ∧ B ∧ C ∧ D ∧ E := ⟨a, y4_ b c d e⟩
theorem y6_ {A B C D E F : Prop} (a : A) (b : B) (c : C) (d : D) (e : E) (f : F) : A ∧ B ∧ C ∧ D ∧ E ∧ F := ⟨a, y5_ b c d e f⟩
theorem y7_ {A B C D E F G : Prop} (a : A) (b : B) (c : C) (d : D) (e : E) (f : F) (g : G) : A ∧ B ∧ C ∧ D ∧ E ∧ F ∧ G := ⟨a, y6_ b c d e f g⟩
theorem y8_ {A B C D E F G H : Prop} (a : A) (b : B) (c : C) (d : D) (e : E) (f : F) (g : G) (h : H) : A ∧ B ∧ C ∧ D ∧ E ∧ F ∧ G ∧ H := ⟨a, y7_ b c d e f g h⟩
theorem d_ {T : Prop} (h : T := by first | decide | assumption | (try simp only [z1Y, z0f]) <;> omega | exact pd_ (by kernel_rfl) | fail) : T := h
theorem fo_ {T : Prop} (h : T := by ((try simp (disch := first | assumption | omega | (try simp only [z1Y, z0f]) <;> omega | fail) only [foL]); (try rfl))) : T := h
theorem fl_ {T : Prop} (h : T := by ((try dsimp only); (try simp only [z0n, z0f]); omega)) : T := h
theorem sx0_ {T : Prop} (h : T := by simp (disch := decide) only [sxL]) : T := h
theorem sx1_ {T E : Prop} (e : E) (h : E → T := by (intro e; simp (disch := decide) only [sxL, e])) : T := h e
theorem sr_ {T E : Prop} (e : E) (h : E → T := by (intro e; simp (disch := decide) only [sxL, e, resultA])) : T := h e
theorem sf0_ {T : Prop} (h : T := by simp -implicitDefEqProofs (disch := first | decide | assumption | (try simp only [z1Y, z0f]) <;> omega | exact pd_ (by kernel_rfl) | fail) only [sxM, Nat.reduceAdd, reduceCtorEq, Int.reduceToNat, Nat.reduceEqDiff, Int.reduceEq, Int.reduceLT]) : T := h
theorem sf1_ {T E : Prop} (e : E) (h : E → T := by (intro e; simp -implicitDefEqProofs (disch := first | decide | assumption | (try simp only [z1Y, z0f]) <;> omega | exact pd_ (by kernel_rfl) | fail) only [sxM, Nat.reduceAdd, reduceCtorEq, Int.reduceToNat, Nat.reduceEqDiff, Int.reduceEq, Int.reduceLT, e])) : T := h e
theorem sq0_ {T E : Prop} (e : E) (h : E → T := by (intro e; simp -implicitDefEqProofs (disch := first | decide | assumption | (try simp only [z1Y, z0f]) <;> omega | exact pd_ (by kernel_rfl) | fail) only [sxM, Nat.reduceAdd, reduceCtorEq, Int.reduceToNat, Nat.reduceEqDiff, Int.reduceEq, Int.reduceLT, e] <;> rfl)) : T := h e
theorem sq1_ {T E : Prop} (e : E) (h : E → T := by (intro e; simp -implicitDefEqProofs (disch := first | decide | assumption | (try simp only [z1Y, z0f]) <;> omega | exact pd_ (by kernel_rfl) | fail) only [sxM, Nat.reduceAdd, reduceCtorEq, Int.reduceToNat, Nat.reduceEqDiff, Int.reduceEq, Int.reduceLT, q6l, e] <;> rfl)) : T := h e
theorem co_ {T E : Prop} (e : E) (h : E → T := by (intro e; (rw [z4N]; simp -implicitDefEqProofs (disch := first | decide | assumption | (try simp only [z1Y, z0f]) <;> omega | exact pd_ (by kernel_rfl) | fail) only [sxM, Nat.reduceAdd, reduceCtorEq, Int.reduceToNat, Nat.reduceEqDiff, Int.reduceEq, Int.reduceLT, *, z4O, z0B, z3P, z4r, z4B, e]); (try rfl))) : T := h e
theorem cob_ {T E : Prop} (e : E) (h : E → T := by (intro e; (rw [z4N]; simp -implicitDefEqProofs (disch := first | decide | assumption | (try simp only [z1Y, z0f]) <;> omega | exact pd_ (by kernel_rfl) | fail) only [sxM, Nat.reduceAdd, reduceCtorEq, Int.reduceToNat, Nat.reduceEqDiff, Int.reduceEq, Int.reduceLT, *, z4O, z0B, z3P, z4r, z4B, sbin, boolO, e]); (try rfl))) : T := h e
theorem coe_ {T E : Prop} (e : E) (h : E → T := by (intro e; (rw [z4N]; simp -implicitDefEqProofs (disch := first | decide | assumption | (try simp only [z1Y, z0f]) <;> omega | exact pd_ (by kernel_rfl) | fail) only [sxM, Nat.reduceAdd, reduceCtorEq, Int.reduceToNat, Nat.reduceEqDiff, Int.reduceEq, Int.reduceLT, *, z4O, z0B, z3P, z4r, z4B, z9a, notO, yesO, sbin, boolO, e]); (try rfl))) : T := h e
theorem g0_ {c : Ctx} {x : Code} {s s' : St} {Q : Ex → St → Prop} {K : Prop} (k : K) (h : z1v x (fnsO Tryz.tab noOv 8) Tryz.tab c s = some [(.normal, s')] := by (simp -implicitDefEqProofs (disch := first | decide | assumption | (try simp only [z1Y, z0f]) <;> omega | exact pd_ (by kernel_rfl) | fail) only [sxM, Nat.reduceAdd, reduceCtorEq, Int.reduceToNat, Nat.reduceEqDiff, Int.reduceEq, Int.reduceLT, z3O] <;> rfl)) (w : K → Q .normal s' := by (intro k; (try (change Gets _ _ _ _ _ _; repeat refine Gets.seq ?_)); exact k)) : Gets Tryz.prog Tryz.tab c x s Q := Gets.l0 Tryz.tabOk h (w k)
theorem o0_ {ov : Ov} {c : Ctx} {x : Code} {s s' : St} {Q : Ex → St → Prop} {K : Prop} (o : OvOk Tryz.prog Tryz.tab ov) (k : K) (h : z1v x (fnsO Tryz.tab ov 8) Tryz.tab c s = some [(.normal, s')] := by (simp -implicitDefEqProofs (disch := first | decide | assumption | (try simp only [z1Y, z0f]) <;> omega | exact pd_ (by kernel_rfl) | fail) only [sxM, Nat.reduceAdd, reduceCtorEq, Int.reduceToNat, Nat.reduceEqDiff, Int.reduceEq, Int.reduceLT, z3O] <;> rfl)) (w : K → Q .normal s' := by (intro k; (try (change Gets _ _ _ _ _ _; repeat refine Gets.seq ?_)); exact k)) : Gets Tryz.prog Tryz.tab c x s Q := Gets.last Tryz.tabOk o 8 h (w k)
theorem g1_ {c : Ctx} {x : Code} {s s' : St} {Q : Ex → St → Prop} {K E : Prop} (e : E) (k : K) (h : E → z1v x (fnsO Tryz.tab noOv 8) Tryz.tab c s = some [(.normal, s')] := by (intro e; simp -implicitDefEqProofs (disch := first | decide | assumption | (try simp only [z1Y, z0f]) <;> omega | exact pd_ (by kernel_rfl) | fail) only [sxM, Nat.reduceAdd, reduceCtorEq, Int.reduceToNat, Nat.reduceEqDiff, Int.reduceEq, Int.reduceLT, z3O, e] <;> rfl)) (w : K → Q .normal s' := by (intro k; (try (change Gets _ _ _ _ _ _; repeat refine Gets.seq ?_)); exact k)) : Gets Tryz.prog Tryz.tab c x s Q := Gets.l0 Tryz.tabOk (h e) (w k)
theorem o1_ {ov : Ov} {c : Ctx} {x : Code} {s s' : St} {Q : Ex → St → Prop} {K E : Prop} (o : OvOk Tryz.prog Tryz.tab ov) (e : E) (k : K) (h : E → z1v x (fnsO Tryz.tab ov 8) Tryz.tab c s = some [(.normal, s')] := by (intro e; simp -implicitDefEqProofs (disch := first | decide | assumption | (try simp only [z1Y, z0f]) <;> omega | exact pd_ (by kernel_rfl) | fail) only [sxM, Nat.reduceAdd, reduceCtorEq, Int.reduceToNat, Nat.reduceEqDiff, Int.reduceEq, Int.reduceLT, z3O, e] <;> rfl)) (w : K → Q .normal s' := by (intro k; (try (change Gets _ _ _ _ _ _; repeat refine Gets.seq ?_)); exact k)) : Gets Tryz.prog Tryz.tab c x s Q := Gets.last Tryz.tabOk o 8 (h e) (w k)
theorem g1b_ {c : Ctx} {x : Code} {s s' : St} {Q : Ex → St → Prop} {K E : Prop} (e : E) (k : K) (h : E → z1v x (fnsO Tryz.tab noOv 8) Tryz.tab c s = some [(.normal, s')] := by (intro e; simp -implicitDefEqProofs (disch := first | decide | assumption | (try simp only [z1Y, z0f]) <;> omega | exact pd_ (by kernel_rfl) | fail) only [sxM, Nat.reduceAdd, reduceCtorEq, Int.reduceToNat, Nat.reduceEqDiff, Int.reduceEq, Int.reduceLT, z3O, sbin, boolO, e] <;> rfl)) (w : K → Q .normal s' := by (intro k; (try (change Gets _ _ _ _ _ _; repeat refine Gets.seq ?_)); exact k)) : Gets Tryz.prog Tryz.tab c x s Q := Gets.l0 Tryz.tabOk (h e) (w k)
theorem o1b_ {ov : Ov} {c : Ctx} {x : Code} {s s' : St} {Q : Ex → St → Prop} {K E : Prop} (o : OvOk Tryz.prog Tryz.tab ov) (e : E) (k : K) (h : E → z1v x (fnsO Tryz.tab ov 8) Tryz.tab c s = some [(.normal, s')] := by (intro e; simp -implicitDefEqProofs (disch := first | decide | assumption | (try simp only [z1Y, z0f]) <;> omega | exact pd_ (by kernel_rfl) | fail) only [sxM, Nat.reduceAdd, reduceCtorEq, Int.reduceToNat, Nat.reduceEqDiff, Int.reduceEq, Int.reduceLT, z3O, sbin, boolO, e] <;> rfl)) (w : K → Q .normal s' := by (intro k; (try (change Gets _ _ _ _ _ _; repeat refine Gets.seq ?_)); exact k)) : Gets Tryz.prog Tryz.tab c x s Q := Gets.last Tryz.tabOk o 8 (h e) (w k)
theorem gk_ {ov : Ov} {c : Ctx} {s s' : St} {Q : Ex → St → Prop} {K E : Prop} {i : Nat} {all : List Oper} (o : OvOk Tryz.prog Tryz.tab ov) (p : List PStep) (hN : Neat s.h) (e : E) (k : K) (hp : q0J all p = true := by kernel_rfl) (h : E → runK (fnsO Tryz.tab ov 8) Tryz.tab c all p s [] = some [s'] := by (intro e; simp -implicitDefEqProofs (maxSteps := 10000000) (disch := first | decide | assumption | (try simp only [z1Y, z0f]) <;> omega | exact pd_ (by kernel_rfl) | fail) only [sxM, Nat.reduceAdd, reduceCtorEq, Int.reduceToNat, Nat.reduceEqDiff, Int.reduceEq, Int.reduceLT, k2b, k_rd, k_sm, k_lk, k2c, j3Y, j3Z, j4a, k2d, j4b, j4c, j4d, k2e, j4e, j4f, j4g, k2f, j4h, k_sk, k2g, k2h, j4i, k2j, j4j, k2i, q7s, q7t, q7u, j4s, q7v, q7w, j4t, k_la, k2k, j4k, j4l, j4m, k2l, j4n, q7q, q3E, q3F, q7r, q0K, q3G, k_ln, k2m, j4o, j4p, j4q, k2n, j4r, and_self, and_true, true_and, e] <;> rfl)) (w : K → Q .normal s' := by (intro k; (try (change Gets _ _ _ _ _ _; repeat refine Gets.seq ?_)); exact k)) : Gets Tryz.prog Tryz.tab c (.region i all.toArray true) s Q := Gets.drawK Tryz.tabOk o 8 p hp hN (h e) (w k)
theorem gkb_ {ov : Ov} {c : Ctx} {s s' : St} {Q : Ex → St → Prop} {K E : Prop} {i : Nat} {all : List Oper} (o : OvOk Tryz.prog Tryz.tab ov) (p : List PStep) (hN : Neat s.h) (e : E) (k : K) (hp : q0J all p = true := by kernel_rfl) (h : E → runK (fnsO Tryz.tab ov 8) Tryz.tab c all p s [] = some [s'] := by (intro e; simp -implicitDefEqProofs (maxSteps := 10000000) (disch := first | decide | assumption | (try simp only [z1Y, z0f]) <;> omega | exact pd_ (by kernel_rfl) | fail) only [sxM, Nat.reduceAdd, reduceCtorEq, Int.reduceToNat, Nat.reduceEqDiff, Int.reduceEq, Int.reduceLT, k2b, k_rd, k_sm, k_lk, k2c, j3Y, j3Z, j4a, k2d, j4b, j4c, j4d, k2e, j4e, j4f, j4g, k2f, j4h, k_sk, k2g, k2h, j4i, k2j, j4j, k2i, q7s, q7t, q7u, j4s, q7v, q7w, j4t, k_la, k2k, j4k, j4l, j4m, k2l, j4n, q7q, q3E, q3F, q7r, q0K, q3G, k_ln, k2m, j4o, j4p, j4q, k2n, j4r, and_self, and_true, true_and, sbin, boolO, e] <;> rfl)) (w : K → Q .normal s' := by (intro k; (try (change Gets _ _ _ _ _ _; repeat refine Gets.seq ?_)); exact k)) : Gets Tryz.prog Tryz.tab c (.region i all.toArray true) s Q := Gets.drawK Tryz.tabOk o 8 p hp hN (h e) (w k)
theorem gke_ {ov : Ov} {c : Ctx} {s s' : St} {Q : Ex → St → Prop} {K E : Prop} {i : Nat} {all : List Oper} (o : OvOk Tryz.prog Tryz.tab ov) (p : List PStep) (hN : Neat s.h) (e : E) (k : K) (hp : q0J all p = true := by kernel_rfl) (h : E → runK (fnsO Tryz.tab ov 8) Tryz.tab c all p s [] = some [s'] := by (intro e; simp -implicitDefEqProofs (maxSteps := 10000000) (disch := first | decide | assumption | (try simp only [z1Y, z0f]) <;> omega | exact pd_ (by kernel_rfl) | fail) only [sxM, Nat.reduceAdd, reduceCtorEq, Int.reduceToNat, Nat.reduceEqDiff, Int.reduceEq, Int.reduceLT, k2b, k_rd, k_sm, k_lk, k2c, j3Y, j3Z, j4a, k2d, j4b, j4c, j4d, k2e, j4e, j4f, j4g, k2f, j4h, k_sk, k2g, k2h, j4i, k2j, j4j, k2i, q7s, q7t, q7u, j4s, q7v, q7w, j4t, k_la, k2k, j4k, j4l, j4m, k2l, j4n, q7q, q3E, q3F, q7r, q0K, q3G, k_ln, k2m, j4o, j4p, j4q, k2n, j4r, and_self, and_true, true_and, z9a, notO, yesO, sbin, boolO, e] <;> rfl)) (w : K → Q .normal s' := by (intro k; (try (change Gets _ _ _ _ _ _; repeat refine Gets.seq ?_)); exact k)) : Gets Tryz.prog Tryz.tab c (.region i all.toArray true) s Q := Gets.drawK Tryz.tabOk o 8 p hp hN (h e) (w k)
theorem g0x_ {c : Ctx} {x : Code} {s s' : St} {Q : Ex → St → Prop} {K : Prop} (k : K) (h : z1v x (fnsO Tryz.tab noOv 8) Tryz.tab c s = some [(.normal, s')] := by (simp -implicitDefEqProofs (disch := first | decide | assumption | (try simp only [z1Y, z0f]) <;> omega | exact pd_ (by kernel_rfl) | fail) only [sxM, Nat.reduceAdd, reduceCtorEq, Int.reduceToNat, Nat.reduceEqDiff, Int.reduceEq, Int.reduceLT, z3O] <;> rfl)) (w : K → Q .normal s' := by (intro k; (try (change GetsE _ _ _ _ _ _; repeat refine GetsE.seq ?_)); exact k)) : GetsE Tryz.prog Tryz.tab c x s Q := GetsE.l0 Tryz.tabOk h (w k)
theorem o0x_ {ov : Ov} {c : Ctx} {x : Code} {s s' : St} {Q : Ex → St → Prop} {K : Prop} (o : OvOk Tryz.prog Tryz.tab ov) (k : K) (h : z1v x (fnsO Tryz.tab ov 8) Tryz.tab c s = some [(.normal, s')] := by (simp -implicitDefEqProofs (disch := first | decide | assumption | (try simp only [z1Y, z0f]) <;> omega | exact pd_ (by kernel_rfl) | fail) only [sxM, Nat.reduceAdd, reduceCtorEq, Int.reduceToNat, Nat.reduceEqDiff, Int.reduceEq, Int.reduceLT, z3O] <;> rfl)) (w : K → Q .normal s' := by (intro k; (try (change GetsE _ _ _ _ _ _; repeat refine GetsE.seq ?_)); exact k)) : GetsE Tryz.prog Tryz.tab c x s Q := GetsE.last Tryz.tabOk o 8 h (w k)
theorem g1x_ {c : Ctx} {x : Code} {s s' : St} {Q : Ex → St → Prop} {K E : Prop} (e : E) (k : K) (h : E → z1v x (fnsO Tryz.tab noOv 8) Tryz.tab c s = some [(.normal, s')] := by (intro e; simp -implicitDefEqProofs (disch := first | decide | assumption | (try simp only [z1Y, z0f]) <;> omega | exact pd_ (by kernel_rfl) | fail) only [sxM, Nat.reduceAdd, reduceCtorEq, Int.reduceToNat, Nat.reduceEqDiff, Int.reduceEq, Int.reduceLT, z3O, e] <;> rfl)) (w : K → Q .normal s' := by (intro k; (try (change GetsE _ _ _ _ _ _; repeat refine GetsE.seq ?_)); exact k)) : GetsE Tryz.prog Tryz.tab c x s Q := GetsE.l0 Tryz.tabOk (h e) (w k)
theorem o1x_ {ov : Ov} {c : Ctx} {x : Code} {s s' : St} {Q : Ex → St → Prop} {K E : Prop} (o : OvOk Tryz.prog Tryz.tab ov) (e : E) (k : K) (h : E → z1v x (fnsO Tryz.tab ov 8) Tryz.tab c s = some [(.normal, s')] := by (intro e; simp -implicitDefEqProofs (disch := first | decide | assumption | (try simp only [z1Y, z0f]) <;> omega | exact pd_ (by kernel_rfl) | fail) only [sxM, Nat.reduceAdd, reduceCtorEq, Int.reduceToNat, Nat.reduceEqDiff, Int.reduceEq, Int.reduceLT, z3O, e] <;> rfl)) (w : K → Q .normal s' := by (intro k; (try (change GetsE _ _ _ _ _ _; repeat refine GetsE.seq ?_)); exact k)) : GetsE Tryz.prog Tryz.tab c x s Q := GetsE.last Tryz.tabOk o 8 (h e) (w k)
theorem w5j {c : Ctx} {x : Code} {s s' : St} {Q : Ex → St → Prop} {K E : Prop} (e : E) (k : K) (h : E → z1v x (fnsO Tryz.tab noOv 8) Tryz.tab c s = some [(.normal, s')] := by (intro e; simp -implicitDefEqProofs (disch := first | decide | assumption | (try simp only [z1Y, z0f]) <;> omega | exact pd_ (by kernel_rfl) | fail) only [sxM, Nat.reduceAdd, reduceCtorEq, Int.reduceToNat, Nat.reduceEqDiff, Int.reduceEq, Int.reduceLT, z3O, sbin, boolO, e] <;> rfl)) (w : K → Q .normal s' := by (intro k; (try (change GetsE _ _ _ _ _ _; repeat refine GetsE.seq ?_)); exact k)) : GetsE Tryz.prog Tryz.tab c x s Q := GetsE.l0 Tryz.tabOk (h e) (w k)
theorem w5k {ov : Ov} {c : Ctx} {x : Code} {s s' : St} {Q : Ex → St → Prop} {K E : Prop} (o : OvOk Tryz.prog Tryz.tab ov) (e : E) (k : K) (h : E → z1v x (fnsO Tryz.tab ov 8) Tryz.tab c s = some [(.normal, s')] := by (intro e; simp -implicitDefEqProofs (disch := first | decide | assumption | (try simp only [z1Y, z0f]) <;> omega | exact pd_ (by kernel_rfl) | fail) only [sxM, Nat.reduceAdd, reduceCtorEq, Int.reduceToNat, Nat.reduceEqDiff, Int.reduceEq, Int.reduceLT, z3O, sbin, boolO, e] <;> rfl)) (w : K → Q .normal s' := by (intro k; (try (change GetsE _ _ _ _ _ _; repeat refine GetsE.seq ?_)); exact k)) : GetsE Tryz.prog Tryz.tab c x s Q := GetsE.last Tryz.tabOk o 8 (h e) (w k)
theorem cT_ {c : Ctx} {v : Operand} {x : Code} {y : Code} {s : St} {Q : Ex → St → Prop} {K : Prop} (k : K) (hv : aev Tryz.tab s.tm v = some (.bool true) := by simp (disch := decide) only [sxL]) (w : K → Gets Tryz.prog Tryz.tab c x s Q := by (intro k; (try (change Gets _ _ _ _ _ _; repeat refine Gets.seq ?_)); exact k)) : Gets Tryz.prog Tryz.tab c (.cond v x y) s Q := Gets.condT hv (w k)
theorem cF_ {c : Ctx} {v : Operand} {x : Code} {y : Code} {s : St} {Q : Ex → St → Prop} {K : Prop} (k : K) (hv : aev Tryz.tab s.tm v = some (.bool false) := by simp (disch := decide) only [sxL]) (w : K → Gets Tryz.prog Tryz.tab c y s Q := by (intro k; (try (change Gets _ _ _ _ _ _; repeat refine Gets.seq ?_)); exact k)) : Gets Tryz.prog Tryz.tab c (.cond v x y) s Q := Gets.condF hv (w k)
theorem cFs_ {c : Ctx} {v : Operand} {x : Code} {s : St} {Q : Ex → St → Prop} {K : Prop} (k : K) (hv : aev Tryz.tab s.tm v = some (.bool false) := by simp (disch := decide) only [sxL]) (w : K → Q .normal s := by (intro k; (try (change Gets _ _ _ _ _ _; repeat refine Gets.seq ?_)); exact k)) : Gets Tryz.prog Tryz.tab c (.cond v x .skip) s Q := Gets.condF hv (Gets.skip Tryz.tabOk (w k))
theorem cFk_ {c : Ctx} {v : Operand} {x : Code} {s : St} {Q : Ex → St → Prop} {K : Prop} (k : K) (hv : aev Tryz.tab s.tm v = some (.bool false) := by simp (disch := decide) only [sxL]) (w : K → Q .normal s := by (intro k; change Gets _ _ _ _ _ _; exact k)) : Gets Tryz.prog Tryz.tab c (.cond v x .skip) s Q := Gets.condF hv (Gets.skip Tryz.tabOk (w k))
theorem cTb_ {c : Ctx} {v : Operand} {y : Code} {s : St} {Q : Ex → St → Prop} {K : Prop} (k : K) (hv : aev Tryz.tab s.tm v = some (.bool true) := by simp (disch := decide) only [sxL]) (w : K → Q .normal s := by (intro k; change Gets _ _ _ _ _ _; refine Gets.seq (Gets.blk ?_); (repeat refine Gets.seq ?_); exact k)) : Gets Tryz.prog Tryz.tab c (.cond v .skip y) s Q := Gets.condT hv (Gets.skip Tryz.tabOk (w k))
theorem cFx_ {c : Ctx} {v : Operand} {x : Code} {i : Nat} {s : St} {Q : Ex → St → Prop} {K : Prop} (k : K) (hv : aev Tryz.tab s.tm v = some (.bool false) := by simp (disch := decide) only [sxL]) (w : K → Q (.exit i) s := by (intro k; refine z2v ?_; (try (change Gets _ _ _ _ _ _; repeat refine Gets.seq ?_)); exact k)) : Gets Tryz.prog Tryz.tab c (.cond v x (.exit i)) s Q := Gets.condF hv (Gets.exit Tryz.tabOk (w k))
end Go.Proofs
