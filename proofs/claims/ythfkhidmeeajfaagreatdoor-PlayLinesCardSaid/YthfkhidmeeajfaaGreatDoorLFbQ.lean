/-
  Closed facts of the tie: what the door leaves.
-/
import Derived.Test.YthfkhidmeeajfaaGreatDoorRows
import Derived.LaidByTextLater
import Derived.SevenTiedAt
import Derived.LaidSub
import Derived.LaidOnce
import Derived.KernelRfl
import Derived.Test.YthfkhidmeeajfaaGreatDoorLFbF
set_option linter.unusedSimpArgs false
set_option linter.unusedVariables false
namespace Go.Proofs.YthfkhidmeeajfaaGreatDoor
open Go
set_option maxRecDepth 100000
theorem fbT5 : (Tryz.prog.funcNamed "gosem.cut.vars").isSome = true := by
 rw [j1q]
 rfl
theorem fbT6 : varsNamedLaterB Tryz.prog (varsId Tryz.prog) [("math/bits.deBruijn32tab", Rows.laid_math_bits_deBruijn32tab), ("math/bits.deBruijn64tab", Rows.laid_math_bits_deBruijn64tab), ("internal/strconv.uint64pow10", Rows.laid_internal_strconv_uint64pow10), ("unicode/utf8.acceptRanges", Rows.laid_unicode_utf8_acceptRanges), ("skald/crc.fours", Rows.laid_skald_crc_fours), ("skald/msg.kinds", Rows.laid_skald_msg_kinds), ("skald/saga.phases", Rows.laid_skald_saga_phases), ("skald/saga.follow", Rows.laid_skald_saga_follow)] = true := by
 rw [k3H]
 kernel_rfl
end Go.Proofs.YthfkhidmeeajfaaGreatDoor
namespace Go.Proofs.YthfkhidmeeajfaaGreatDoor
open Go
set_option maxRecDepth 100000
abbrev fbL : List (String × DataW Unit) := [("math/bits.deBruijn32tab", Rows.laid_math_bits_deBruijn32tab), ("math/bits.deBruijn64tab", Rows.laid_math_bits_deBruijn64tab), ("internal/strconv.uint64pow10", Rows.laid_internal_strconv_uint64pow10), ("unicode/utf8.acceptRanges", Rows.laid_unicode_utf8_acceptRanges), ("skald/crc.fours", Rows.laid_skald_crc_fours), ("skald/msg.kinds", Rows.laid_skald_msg_kinds), ("skald/saga.phases", Rows.laid_skald_saga_phases), ("skald/saga.follow", Rows.laid_skald_saga_follow)]
theorem k8H (os : Os) (tape : Tape) : z7s Tryz.prog 65 os tape 930 (q2s Tryz.prog 8 65 fbL) = some (fbL.filter fun x => x.2.handleName?.isNone) := by kernel_rfl
theorem k8I (os : Os) (tape : Tape) (enc : TypeId × Value → List UInt8) : z7s Tryz.prog 65 os tape 930 (z9w enc Tryz.prog 8 fbL) = some [DataW.agg [.nil, .held (enc (801, .func (.func 907) #[] #[])), .held (enc (801, .func (.func 908) #[] #[])), .held (enc (801, .func (.func 909) #[] #[]))]] := by kernel_rfl
theorem k8J : (some [DataW.agg [.nil, .held (funcToken Tryz.prog (801, .func (.func 907) #[] #[])), .held (funcToken Tryz.prog (801, .func (.func 908) #[] #[])), .held (funcToken Tryz.prog (801, .func (.func 909) #[] #[]))]] : Option (List (DataW (List UInt8)))) = some ((funcsListed fbL).map (·.2.funcsOut)) := by
 rw [q4b, q4c, q4d]
 kernel_rfl
theorem fbT7 (os : Os) (tape : Tape) : doorLeaves Tryz.prog 65 8 65 fbL os tape = some (fbL.filter fun x => x.2.handleName?.isNone, (funcsListed fbL).map (·.2.funcsOut)) :=
 q2t (laid := fbL) k3H (k8H os tape) (Eq.trans (k8I os tape (funcToken Tryz.prog)) k8J)
end Go.Proofs.YthfkhidmeeajfaaGreatDoor
