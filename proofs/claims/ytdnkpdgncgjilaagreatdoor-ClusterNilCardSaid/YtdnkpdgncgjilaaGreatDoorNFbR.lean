/-
  The listed variables are tied to the program's text.
-/
import Derived.Test.YtdnkpdgncgjilaaGreatDoorNFbL
import Derived.Test.YtdnkpdgncgjilaaGreatDoorNFbM
import Derived.Test.YtdnkpdgncgjilaaGreatDoorNFbN
import Derived.Test.YtdnkpdgncgjilaaGreatDoorNFbO
import Derived.Test.YtdnkpdgncgjilaaGreatDoorNFbQ
import Derived.Test.YtdnkpdgncgjilaaGreatDoorNFbP
set_option linter.unusedSimpArgs false
set_option linter.unusedVariables false
namespace Go.Proofs.YtdnkpdgncgjilaaGreatDoor
open Go
set_option maxRecDepth 100000
theorem w8f : Tryz.prog.laidByTextLater [("math/bits.deBruijn32tab", Rows.laid_math_bits_deBruijn32tab), ("math/bits.deBruijn64tab", Rows.laid_math_bits_deBruijn64tab), ("internal/strconv.uint64pow10", Rows.laid_internal_strconv_uint64pow10), ("unicode/utf8.acceptRanges", Rows.laid_unicode_utf8_acceptRanges), ("skald/crc.fours", Rows.laid_skald_crc_fours), ("skald/msg.kinds", Rows.laid_skald_msg_kinds), ("skald/saga.phases", Rows.laid_skald_saga_phases), ("skald/saga.follow", Rows.laid_skald_saga_follow)] [.data, .data, .data, .data, .data, .data, .data, .funcs] true :=
 Program.laidByTextLater_by_one 65 8 65 fbT1 fbT2 fbT3 fbT4 fbT5 fbT6 (fun os tape => fbT7 os tape)
theorem q7J : Rows.clusterNilRow.laidByTextAt .later Tryz.pinned [.data, .data, .data, .data, .data, .data, .data, .funcs, .pinned] true :=
 OpenClaim.laidByTextAt_pinned rfl rfl w8f rfl rfl rfl rfl (fun y hy _e => by
  simp only [Rows.clusterNilRow, List.zip_cons_cons, List.zip_nil_right, List.mem_cons, List.mem_nil_iff, or_false] at hy
  rcases hy with rfl | rfl | rfl | rfl | rfl | rfl | rfl | rfl | rfl
  ·cases _e
  ·cases _e
  ·cases _e
  ·cases _e
  ·cases _e
  ·cases _e
  ·cases _e
  ·cases _e
  ·exact ⟨fbT8, by kernel_rfl⟩) w8a
end Go.Proofs.YtdnkpdgncgjilaaGreatDoor
