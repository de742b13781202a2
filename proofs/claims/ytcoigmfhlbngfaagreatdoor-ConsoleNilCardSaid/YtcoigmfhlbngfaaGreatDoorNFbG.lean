/-
  Closed facts of the row: what the functions name.
-/
import Derived.Test.YtcoigmfhlbngfaaGreatDoorNFbE
import Derived.Test.YtcoigmfhlbngfaaGreatDoorRows
import Derived.JoinedOf
set_option linter.unusedSimpArgs false
set_option linter.unusedVariables false
namespace Go.Proofs.YtcoigmfhlbngfaaGreatDoor
open Go
set_option maxRecDepth 100000
noncomputable def ipF (g : Nat) : Option String := (Tryz.prog.funcs[g]?).bind fun fn => if fn.ours || fn.body.isNone || fn.name == "runtime.NumGoroutine" then some fn.name else none
theorem z1l (l : List Nat) (f : Nat → Option String) (a k : Nat) {r s : List String} (h1 : ((l.drop a).take k).filterMap f = r) (h2 : (l.drop (a + k)).filterMap f = s) : (l.drop a).filterMap f = r ++ s := by
 rw [← h1, ← h2, ← List.drop_drop, ← List.filterMap_append, List.take_append_drop]
theorem ipC0 : ((cloA.drop 0).take 100).filterMap ipF = ["internal/bytealg.IndexByteString", "internal/bytealg.IndexString", "internal/bytealg.CountString"] := by kernel_rfl
theorem ipC1 : ((cloA.drop 100).take 100).filterMap ipF = ["internal/abi.NoEscape", "internal/bytealg.MakeNoZero"] := by kernel_rfl
theorem ipC2 : ((cloA.drop 200).take 100).filterMap ipF = [] := by kernel_rfl
theorem ipC3 : ((cloA.drop 300).take 100).filterMap ipF = ["maps.clone"] := by kernel_rfl
theorem ipC4 : ((cloA.drop 400).take 100).filterMap ipF = [] := by kernel_rfl
theorem ipC5 : ((cloA.drop 500).take 100).filterMap ipF = ["slices.overlaps[skald/dedup.entry]"] := by kernel_rfl
theorem ipC6 : ((cloA.drop 600).take 100).filterMap ipF = [] := by kernel_rfl
theorem ipC7 : ((cloA.drop 700).take 100).filterMap ipF = [] := by kernel_rfl
theorem ipC8 : ((cloA.drop 800).take 100).filterMap ipF = [] := by kernel_rfl
theorem ipC9 : ((cloA.drop 900).take 100).filterMap ipF = ["math/bits.Add64"] := by kernel_rfl
theorem ipE : (cloA.drop 1000).filterMap ipF = [] := by kernel_rfl
theorem ipA : (cloA.drop 0).filterMap ipF = ["internal/bytealg.IndexByteString", "internal/bytealg.IndexString", "internal/bytealg.CountString", "internal/abi.NoEscape", "internal/bytealg.MakeNoZero", "maps.clone", "slices.overlaps[skald/dedup.entry]", "math/bits.Add64"] :=
 z1l cloA ipF 0 100 ipC0 (z1l cloA ipF 100 100 ipC1 (z1l cloA ipF 200 100 ipC2 (z1l cloA ipF 300 100 ipC3 (z1l cloA ipF 400 100 ipC4 (z1l cloA ipF 500 100 ipC5 (z1l cloA ipF 600 100 ipC6 (z1l cloA ipF 700 100 ipC7 (z1l cloA ipF 800 100 ipC8 (z1l cloA ipF 900 100 ipC9 (ipE))))))))))
theorem ipX : (Rows.consoleNilRow.inPlace == ["internal/bytealg.IndexByteString", "internal/bytealg.IndexString", "internal/bytealg.CountString", "internal/abi.NoEscape", "internal/bytealg.MakeNoZero", "maps.clone", "slices.overlaps[skald/dedup.entry]", "math/bits.Add64"]) = true := by kernel_rfl
theorem ipY : Tryz.prog.inPlace 3 = ["internal/bytealg.IndexByteString", "internal/bytealg.IndexString", "internal/bytealg.CountString", "internal/abi.NoEscape", "internal/bytealg.MakeNoZero", "maps.clone", "slices.overlaps[skald/dedup.entry]", "math/bits.Add64"] := by
 unfold Program.inPlace
 rw [clo]
 exact ipA
theorem k2k : (Rows.consoleNilRow.inPlace == Tryz.prog.inPlace 3) = true := by
 rw [ipY]
 exact ipX
theorem k2l : (Rows.consoleNilRow.unfollowed == Tryz.prog.unfollowed 3) = true := by
 unfold Program.unfollowed
 rw [clo]
 kernel_rfl
theorem k2m : (Rows.consoleNilRow.recurses == Tryz.prog.recurses 3) = true := by
 unfold Program.recurses Program.unfollowed
 rw [clo]
 kernel_rfl
end Go.Proofs.YtcoigmfhlbngfaaGreatDoor
namespace Go.Proofs.YtcoigmfhlbngfaaGreatDoor
open Go
set_option maxRecDepth 100000
noncomputable def vnF (g : Nat) : List Nat := ((Tryz.prog.funcs[g]?).bind (·.body)).elim [] Code.globalsNamed
noncomputable def vnH (g : Nat) : Option String := (Tryz.prog.funcs[g]?).bind fun fn => if fn.body.isNone then entryReads.lookup fn.name else none
theorem z3K (l : List Nat) (f : Nat → List Nat) (a k : Nat) {r s : List Nat} (h1 : ((l.drop a).take k).flatMap f = r) (h2 : (l.drop (a + k)).flatMap f = s) : (l.drop a).flatMap f = r ++ s := by
 rw [← h1, ← h2, ← List.drop_drop, ← List.flatMap_append, List.take_append_drop]
theorem vnC0 : ((cloA.drop 0).take 100).flatMap vnF = [0, 3, 4, 2, 2, 2, 5, 6, 7, 8] := by kernel_rfl
theorem vhC0 : ((cloA.drop 0).take 100).filterMap vnH = ["internal/bytealg.MaxLen"] := by kernel_rfl
theorem vnC1 : ((cloA.drop 100).take 100).flatMap vnF = [] := by kernel_rfl
theorem vhC1 : ((cloA.drop 100).take 100).filterMap vnH = [] := by kernel_rfl
theorem vnC2 : ((cloA.drop 200).take 100).flatMap vnF = [1] := by kernel_rfl
theorem vhC2 : ((cloA.drop 200).take 100).filterMap vnH = [] := by kernel_rfl
theorem vnC3 : ((cloA.drop 300).take 100).flatMap vnF = [11, 11] := by kernel_rfl
theorem vhC3 : ((cloA.drop 300).take 100).filterMap vnH = [] := by kernel_rfl
theorem vnC4 : ((cloA.drop 400).take 100).flatMap vnF = [] := by kernel_rfl
theorem vhC4 : ((cloA.drop 400).take 100).filterMap vnH = [] := by kernel_rfl
theorem vnC5 : ((cloA.drop 500).take 100).flatMap vnF = [12, 13] := by kernel_rfl
theorem vhC5 : ((cloA.drop 500).take 100).filterMap vnH = [] := by kernel_rfl
theorem vnC6 : ((cloA.drop 600).take 100).flatMap vnF = [] := by kernel_rfl
theorem vhC6 : ((cloA.drop 600).take 100).filterMap vnH = [] := by kernel_rfl
theorem vnC7 : ((cloA.drop 700).take 100).flatMap vnF = [] := by kernel_rfl
theorem vhC7 : ((cloA.drop 700).take 100).filterMap vnH = [] := by kernel_rfl
theorem vnC8 : ((cloA.drop 800).take 100).flatMap vnF = [1] := by kernel_rfl
theorem vhC8 : ((cloA.drop 800).take 100).filterMap vnH = [] := by kernel_rfl
theorem vnC9 : ((cloA.drop 900).take 100).flatMap vnF = [9, 10] := by kernel_rfl
theorem vhC9 : ((cloA.drop 900).take 100).filterMap vnH = [] := by kernel_rfl
theorem vnE : (cloA.drop 1000).flatMap vnF = [] := by kernel_rfl
theorem vhE : (cloA.drop 1000).filterMap vnH = [] := by kernel_rfl
theorem vnA : cloA.flatMap vnF = [0, 3, 4, 2, 2, 2, 5, 6, 7, 8, 1, 11, 11, 12, 13, 1, 9, 10] :=
 z3K cloA vnF 0 100 vnC0 (z3K cloA vnF 100 100 vnC1 (z3K cloA vnF 200 100 vnC2 (z3K cloA vnF 300 100 vnC3 (z3K cloA vnF 400 100 vnC4 (z3K cloA vnF 500 100 vnC5 (z3K cloA vnF 600 100 vnC6 (z3K cloA vnF 700 100 vnC7 (z3K cloA vnF 800 100 vnC8 (z3K cloA vnF 900 100 vnC9 (vnE))))))))))
theorem vhA : cloA.filterMap vnH = ["internal/bytealg.MaxLen"] :=
 z1l cloA vnH 0 100 vhC0 (z1l cloA vnH 100 100 vhC1 (z1l cloA vnH 200 100 vhC2 (z1l cloA vnH 300 100 vhC3 (z1l cloA vnH 400 100 vhC4 (z1l cloA vnH 500 100 vhC5 (z1l cloA vnH 600 100 vhC6 (z1l cloA vnH 700 100 vhC7 (z1l cloA vnH 800 100 vhC8 (z1l cloA vnH 900 100 vhC9 (vhE))))))))))
theorem vnX : (Rows.consoleNilRow.named == (((([0, 3, 4, 2, 2, 2, 5, 6, 7, 8, 1, 11, 11, 12, 13, 1, 9, 10] : List Nat).eraseDups).filterMap fun g => (Tryz.prog.globals[g]?).map (·.name)) ++ ["internal/bytealg.MaxLen"]).eraseDups) = true := by kernel_rfl
theorem vnY : Tryz.prog.varsNamed 3 = (((([0, 3, 4, 2, 2, 2, 5, 6, 7, 8, 1, 11, 11, 12, 13, 1, 9, 10] : List Nat).eraseDups).filterMap fun g => (Tryz.prog.globals[g]?).map (·.name)) ++ ["internal/bytealg.MaxLen"]).eraseDups := by
 unfold Program.varsNamed
 rw [clo]
 show ((((cloA.flatMap vnF).eraseDups).filterMap fun g => (Tryz.prog.globals[g]?).map (·.name)) ++ cloA.filterMap vnH).eraseDups = _
 rw [vnA, vhA]
theorem k2n : (Rows.consoleNilRow.named == Tryz.prog.varsNamed 3) = true := by
 rw [vnY]
 exact vnX
end Go.Proofs.YtcoigmfhlbngfaaGreatDoor
