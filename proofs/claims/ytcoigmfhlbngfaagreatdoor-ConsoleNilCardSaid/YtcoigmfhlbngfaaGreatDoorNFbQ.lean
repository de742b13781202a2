/-
  Closed facts of the tie: what the door leaves.
-/
import Derived.Test.YtcoigmfhlbngfaaGreatDoorRows
import Derived.LaidByTextLater
import Derived.SevenTiedAt
import Derived.LaidSub
import Derived.LaidOnce
import Derived.KernelRfl
import Derived.Test.YtcoigmfhlbngfaaGreatDoorNFbF
set_option linter.unusedSimpArgs false
set_option linter.unusedVariables false
namespace Go.Proofs.YtcoigmfhlbngfaaGreatDoor
open Go
set_option maxRecDepth 100000
theorem fbT5 : (Tryz.prog.funcNamed "gosem.cut.vars").isSome = true := by
 rw [q4k]
 rfl
theorem fbT6 : varsNamedLaterB Tryz.prog (varsId Tryz.prog) [("math/bits.deBruijn32tab", Rows.laid_math_bits_deBruijn32tab), ("math/bits.deBruijn64tab", Rows.laid_math_bits_deBruijn64tab), ("internal/strconv.uint64pow10", Rows.laid_internal_strconv_uint64pow10), ("unicode/utf8.acceptRanges", Rows.laid_unicode_utf8_acceptRanges), ("strconv.ErrRange", Rows.laid_strconv_ErrRange), ("strconv.ErrSyntax", Rows.laid_strconv_ErrSyntax), ("skald/crc.fours", Rows.laid_skald_crc_fours), ("skald/effects.adds", Rows.laid_skald_effects_adds), ("skald/msg.kinds", Rows.laid_skald_msg_kinds), ("skald/saga.phases", Rows.laid_skald_saga_phases), ("skald/saga.follow", Rows.laid_skald_saga_follow), ("skald/history.kinds", Rows.laid_skald_history_kinds)] = true := by
 rw [j9f]
 kernel_rfl
end Go.Proofs.YtcoigmfhlbngfaaGreatDoor
namespace Go.Proofs.YtcoigmfhlbngfaaGreatDoor
open Go
set_option maxRecDepth 100000
abbrev fbL : List (String × DataW Unit) := [("math/bits.deBruijn32tab", Rows.laid_math_bits_deBruijn32tab), ("math/bits.deBruijn64tab", Rows.laid_math_bits_deBruijn64tab), ("internal/strconv.uint64pow10", Rows.laid_internal_strconv_uint64pow10), ("unicode/utf8.acceptRanges", Rows.laid_unicode_utf8_acceptRanges), ("strconv.ErrRange", Rows.laid_strconv_ErrRange), ("strconv.ErrSyntax", Rows.laid_strconv_ErrSyntax), ("skald/crc.fours", Rows.laid_skald_crc_fours), ("skald/effects.adds", Rows.laid_skald_effects_adds), ("skald/msg.kinds", Rows.laid_skald_msg_kinds), ("skald/saga.phases", Rows.laid_skald_saga_phases), ("skald/saga.follow", Rows.laid_skald_saga_follow), ("skald/history.kinds", Rows.laid_skald_history_kinds)]
theorem k2S (os : Os) (tape : Tape) : z6j Tryz.prog 113 os tape 1094 (q0X Tryz.prog 8 65 fbL) = some (fbL.filter fun x => x.2.handleName?.isNone) := by kernel_rfl
theorem k2T (os : Os) (tape : Tape) (enc : TypeId × Value → List UInt8) : z6j Tryz.prog 113 os tape 1094 (z8o enc Tryz.prog 8 fbL) = some [DataW.agg [.nil, .held (enc (994, .func (.func 1066) #[] #[])), .held (enc (994, .func (.func 1067) #[] #[])), .held (enc (994, .func (.func 1068) #[] #[]))]] := by kernel_rfl
theorem k2U : (some [DataW.agg [.nil, .held (funcToken Tryz.prog (994, .func (.func 1066) #[] #[])), .held (funcToken Tryz.prog (994, .func (.func 1067) #[] #[])), .held (funcToken Tryz.prog (994, .func (.func 1068) #[] #[]))]] : Option (List (DataW (List UInt8)))) = some ((funcsListed fbL).map (·.2.funcsOut)) := by
 rw [q2x, q2y, q2z]
 kernel_rfl
theorem fbT7 (os : Os) (tape : Tape) : doorLeaves Tryz.prog 113 8 65 fbL os tape = some (fbL.filter fun x => x.2.handleName?.isNone, (funcsListed fbL).map (·.2.funcsOut)) :=
 q0Y (laid := fbL) j9f (k2S os tape) (Eq.trans (k2T os tape (funcToken Tryz.prog)) k2U)
end Go.Proofs.YtcoigmfhlbngfaaGreatDoor
