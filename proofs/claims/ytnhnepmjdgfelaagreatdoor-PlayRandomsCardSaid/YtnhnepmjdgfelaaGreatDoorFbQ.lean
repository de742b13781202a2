/-
  Closed facts of the tie: what the door leaves.
-/
import Derived.Test.YtnhnepmjdgfelaaGreatDoorRows
import Derived.LaidByTextLater
import Derived.SevenTiedAt
import Derived.LaidSub
import Derived.LaidOnce
import Derived.KernelRfl
import Derived.Test.YtnhnepmjdgfelaaGreatDoorFbF
set_option linter.unusedSimpArgs false
set_option linter.unusedVariables false
namespace Go.Proofs.YtnhnepmjdgfelaaGreatDoor
open Go
set_option maxRecDepth 100000
theorem fbT5 : (Tryz.prog.funcNamed "gosem.cut.vars").isSome = true := by
 rw [fbNVars]
 rfl
theorem fbT6 : varsNamedLaterB Tryz.prog (varsId Tryz.prog) [("math/bits.deBruijn32tab", Rows.laid_math_bits_deBruijn32tab), ("math/bits.deBruijn64tab", Rows.laid_math_bits_deBruijn64tab), ("internal/strconv.uint64pow10", Rows.laid_internal_strconv_uint64pow10), ("unicode/utf8.acceptRanges", Rows.laid_unicode_utf8_acceptRanges), ("skald/crc.fours", Rows.laid_skald_crc_fours), ("skald/msg.kinds", Rows.laid_skald_msg_kinds), ("skald/saga.phases", Rows.laid_skald_saga_phases), ("skald/saga.follow", Rows.laid_skald_saga_follow)] = true := by
 rw [fbVar]
 kernel_rfl
end Go.Proofs.YtnhnepmjdgfelaaGreatDoor
namespace Go.Proofs.YtnhnepmjdgfelaaGreatDoor
open Go
set_option maxRecDepth 100000
abbrev fbL : List (String × DataW Unit) := [("math/bits.deBruijn32tab", Rows.laid_math_bits_deBruijn32tab), ("math/bits.deBruijn64tab", Rows.laid_math_bits_deBruijn64tab), ("internal/strconv.uint64pow10", Rows.laid_internal_strconv_uint64pow10), ("unicode/utf8.acceptRanges", Rows.laid_unicode_utf8_acceptRanges), ("skald/crc.fours", Rows.laid_skald_crc_fours), ("skald/msg.kinds", Rows.laid_skald_msg_kinds), ("skald/saga.phases", Rows.laid_skald_saga_phases), ("skald/saga.follow", Rows.laid_skald_saga_follow)]
theorem fbT7a (os : Os) (tape : Tape) : doorThen Tryz.prog 65 os tape 924 (doorData Tryz.prog 8 65 fbL) = some (fbL.filter fun x => x.2.handleName?.isNone) := by kernel_rfl
theorem fbT7b (os : Os) (tape : Tape) (enc : TypeId × Value → List UInt8) : doorThen Tryz.prog 65 os tape 924 (doorFuncs enc Tryz.prog 8 fbL) = some [DataW.agg [.nil, .held (enc (816, .func (.func 901) #[] #[])), .held (enc (816, .func (.func 902) #[] #[])), .held (enc (816, .func (.func 903) #[] #[]))]] := by kernel_rfl
theorem fbT7d : (some [DataW.agg [.nil, .held (funcToken Tryz.prog (816, .func (.func 901) #[] #[])), .held (funcToken Tryz.prog (816, .func (.func 902) #[] #[])), .held (funcToken Tryz.prog (816, .func (.func 903) #[] #[]))]] : Option (List (DataW (List UInt8)))) = some ((funcsListed fbL).map (·.2.funcsOut)) := by
 rw [fbTokForw, fbTokFree, fbTokUndo]
 kernel_rfl
theorem fbT7 (os : Os) (tape : Tape) : doorLeaves Tryz.prog 65 8 65 fbL os tape = some (fbL.filter fun x => x.2.handleName?.isNone, (funcsListed fbL).map (·.2.funcsOut)) :=
 doorLeaves_mk (laid := fbL) fbVar (fbT7a os tape) (Eq.trans (fbT7b os tape (funcToken Tryz.prog)) fbT7d)
end Go.Proofs.YtnhnepmjdgfelaaGreatDoor
