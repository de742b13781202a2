/-
  The listed variables are tied to the program's text.
-/
import Derived.Test.YtcoigmfhlbngfaaGreatDoorNFbL
import Derived.Test.YtcoigmfhlbngfaaGreatDoorNFbM
import Derived.Test.YtcoigmfhlbngfaaGreatDoorNFbN
import Derived.Test.YtcoigmfhlbngfaaGreatDoorNFbO
import Derived.Test.YtcoigmfhlbngfaaGreatDoorNFbQ
import Derived.Test.YtcoigmfhlbngfaaGreatDoorNFbP
set_option linter.unusedSimpArgs false
set_option linter.unusedVariables false
namespace Go.Proofs.YtcoigmfhlbngfaaGreatDoor
open Go
set_option maxRecDepth 100000
theorem k2V : Tryz.prog.laidByTextLater [("math/bits.deBruijn32tab", Rows.laid_math_bits_deBruijn32tab), ("math/bits.deBruijn64tab", Rows.laid_math_bits_deBruijn64tab), ("internal/strconv.uint64pow10", Rows.laid_internal_strconv_uint64pow10), ("unicode/utf8.acceptRanges", Rows.laid_unicode_utf8_acceptRanges), ("strconv.ErrRange", Rows.laid_strconv_ErrRange), ("strconv.ErrSyntax", Rows.laid_strconv_ErrSyntax), ("skald/crc.fours", Rows.laid_skald_crc_fours), ("skald/effects.adds", Rows.laid_skald_effects_adds), ("skald/msg.kinds", Rows.laid_skald_msg_kinds), ("skald/saga.phases", Rows.laid_skald_saga_phases), ("skald/saga.follow", Rows.laid_skald_saga_follow), ("skald/history.kinds", Rows.laid_skald_history_kinds)] [.data, .data, .data, .data, .sentinel, .sentinel, .data, .data, .data, .data, .funcs, .widerDeep] true :=
 Program.laidByTextLater_by_one 113 8 65 fbT1 fbT2 fbT3 fbT4 fbT5 fbT6 (fun os tape => fbT7 os tape)
theorem q7f : Rows.consoleNilRow.laidByTextAt .later Tryz.pinned [.data, .data, .data, .data, .sentinel, .sentinel, .data, .data, .data, .data, .funcs, .widerDeep, .pinned] true :=
 OpenClaim.laidByTextAt_pinned rfl rfl k2V rfl rfl rfl rfl (fun y hy _e => by
  simp only [Rows.consoleNilRow, List.zip_cons_cons, List.zip_nil_right, List.mem_cons, List.mem_nil_iff, or_false] at hy
  rcases hy with rfl | rfl | rfl | rfl | rfl | rfl | rfl | rfl | rfl | rfl | rfl | rfl | rfl
  ·cases _e
  ·cases _e
  ·cases _e
  ·cases _e
  ·cases _e
  ·cases _e
  ·cases _e
  ·cases _e
  ·cases _e
  ·cases _e
  ·cases _e
  ·cases _e
  ·exact ⟨fbT8, by kernel_rfl⟩) k2O
end Go.Proofs.YtcoigmfhlbngfaaGreatDoor
