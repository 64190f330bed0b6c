/- MyTie: the tie of the listed variables, fact by fact (in one theorem it takes more memory than a text may have). -/
import Derived.Test.YtijnnpbfgmmngaaGreatDoorRows
import Derived.LaidByTextLater
import Derived.SevenTiedAt
import Derived.LaidSub
import Derived.LaidOnce
namespace Go.Proofs.YtijnnpbfgmmngaaGreatDoor.talkNone
open Go
set_option maxRecDepth 100000
abbrev lst : List (String × DataW Unit) := [("unicode/utf8.acceptRanges", Rows.laid_unicode_utf8_acceptRanges), ("strconv.ErrSyntax", Rows.laid_strconv_ErrSyntax), ("strconv.ErrRange", Rows.laid_strconv_ErrRange), ("internal/strconv.uint64pow10", Rows.laid_internal_strconv_uint64pow10), ("math/bits.deBruijn32tab", Rows.laid_math_bits_deBruijn32tab), ("math/bits.deBruijn64tab", Rows.laid_math_bits_deBruijn64tab)]
theorem tW : Tryz.prog.worded (varsWordLater true) = true := by kernel_rfl
theorem tW' : Tryz.prog.worded (varsWordLater !true) = false := by kernel_rfl
theorem tR : Tryz.prog.worded rootWordLater = true := by kernel_rfl
theorem tK : lst.map (fun x => Tryz.prog.kindOfLater x.1) = ([LaidKind.data, .sentinel, .sentinel, .data, .data, .data]).map some := by kernel_rfl
theorem tG : (Tryz.prog.funcNamed "gosem.cut.vars").isSome = true := by kernel_rfl
theorem tN : varsNamedLaterB Tryz.prog (varsId Tryz.prog) lst = true := by kernel_rfl
end Go.Proofs.YtijnnpbfgmmngaaGreatDoor.talkNone
