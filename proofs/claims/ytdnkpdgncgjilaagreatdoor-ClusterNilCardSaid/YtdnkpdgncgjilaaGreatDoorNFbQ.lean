/-
  Closed facts of the tie: what the door leaves.
-/
import Derived.Test.YtdnkpdgncgjilaaGreatDoorRows
import Derived.LaidByTextLater
import Derived.SevenTiedAt
import Derived.LaidSub
import Derived.LaidOnce
import Derived.KernelRfl
import Derived.Test.YtdnkpdgncgjilaaGreatDoorNFbF
set_option linter.unusedSimpArgs false
set_option linter.unusedVariables false
namespace Go.Proofs.YtdnkpdgncgjilaaGreatDoor
open Go
set_option maxRecDepth 100000
theorem fbT5 : (Tryz.prog.funcNamed "gosem.cut.vars").isSome = true := by
 rw [q9q]
 rfl
theorem fbT6 : varsNamedLaterB Tryz.prog (varsId Tryz.prog) [("math/bits.deBruijn32tab", Rows.laid_math_bits_deBruijn32tab), ("math/bits.deBruijn64tab", Rows.laid_math_bits_deBruijn64tab), ("internal/strconv.uint64pow10", Rows.laid_internal_strconv_uint64pow10), ("unicode/utf8.acceptRanges", Rows.laid_unicode_utf8_acceptRanges), ("skald/crc.fours", Rows.laid_skald_crc_fours), ("skald/msg.kinds", Rows.laid_skald_msg_kinds), ("skald/saga.phases", Rows.laid_skald_saga_phases), ("skald/saga.follow", Rows.laid_skald_saga_follow)] = true := by
 rw [k3A]
 kernel_rfl
end Go.Proofs.YtdnkpdgncgjilaaGreatDoor
namespace Go.Proofs.YtdnkpdgncgjilaaGreatDoor
open Go
set_option maxRecDepth 100000
abbrev fbL : List (String × DataW Unit) := [("math/bits.deBruijn32tab", Rows.laid_math_bits_deBruijn32tab), ("math/bits.deBruijn64tab", Rows.laid_math_bits_deBruijn64tab), ("internal/strconv.uint64pow10", Rows.laid_internal_strconv_uint64pow10), ("unicode/utf8.acceptRanges", Rows.laid_unicode_utf8_acceptRanges), ("skald/crc.fours", Rows.laid_skald_crc_fours), ("skald/msg.kinds", Rows.laid_skald_msg_kinds), ("skald/saga.phases", Rows.laid_skald_saga_phases), ("skald/saga.follow", Rows.laid_skald_saga_follow)]
theorem w8c (os : Os) (tape : Tape) : z6p Tryz.prog 65 os tape 894 (q1d Tryz.prog 8 65 fbL) = some (fbL.filter fun x => x.2.handleName?.isNone) := by kernel_rfl
theorem w8d (os : Os) (tape : Tape) (enc : TypeId × Value → List UInt8) : z6p Tryz.prog 65 os tape 894 (z8q enc Tryz.prog 8 fbL) = some [DataW.agg [.nil, .held (enc (778, .func (.func 871) #[] #[])), .held (enc (778, .func (.func 872) #[] #[])), .held (enc (778, .func (.func 873) #[] #[]))]] := by kernel_rfl
theorem w8e : (some [DataW.agg [.nil, .held (funcToken Tryz.prog (778, .func (.func 871) #[] #[])), .held (funcToken Tryz.prog (778, .func (.func 872) #[] #[])), .held (funcToken Tryz.prog (778, .func (.func 873) #[] #[]))]] : Option (List (DataW (List UInt8)))) = some ((funcsListed fbL).map (·.2.funcsOut)) := by
 rw [q2X, q2Y, q2Z]
 kernel_rfl
theorem fbT7 (os : Os) (tape : Tape) : doorLeaves Tryz.prog 65 8 65 fbL os tape = some (fbL.filter fun x => x.2.handleName?.isNone, (funcsListed fbL).map (·.2.funcsOut)) :=
 q1e (laid := fbL) k3A (w8c os tape) (Eq.trans (w8d os tape (funcToken Tryz.prog)) w8e)
end Go.Proofs.YtdnkpdgncgjilaaGreatDoor
