/- The listed variables hold what the program's text lays: what is listed. No conditions. -/
import Derived.Test.YtmpgicplgjmjkaaGreatDoorRows
import Derived.LaidOnce
import Derived.KernelRfl
set_option linter.all false
section
namespace Go.Proofs.YtmpgicplgjmjkaaGreatDoor
open Go
def aaI:List (String×DataW Unit):=[("unicode/utf8.acceptRanges",Rows.laid_unicode_utf8_acceptRanges),("strconv.ErrSyntax",Rows.laid_strconv_ErrSyntax),("strconv.ErrRange",Rows.laid_strconv_ErrRange),("internal/strconv.uint64pow10",Rows.laid_internal_strconv_uint64pow10),("math/bits.deBruijn32tab",Rows.laid_math_bits_deBruijn32tab),("math/bits.deBruijn64tab",Rows.laid_math_bits_deBruijn64tab),("strings.asciiSpace",Rows.laid_strings_asciiSpace),("unicode.White_Space",Rows.laid_unicode_White_Space),("lapwing/modes.table",Rows.laid_lapwing_modes_table),("lapwing/charset.graphics",Rows.laid_lapwing_charset_graphics),("lapwing/pen.switched",Rows.laid_lapwing_pen_switched),("lapwing/pen.unswitched",Rows.laid_lapwing_pen_unswitched)]
def aoc:List LaidKind:=[.data,.sentinel,.sentinel,.data,.data,.data,.data,.listed,.data,.data,.data,.data]
theorem tkK:aaI.map (λx=>Tryz.prog.kindOfLater x.1)=aoc.map some:=by kernel_rfl
end Go.Proofs.YtmpgicplgjmjkaaGreatDoor
end
section
namespace Go.Proofs.YtmpgicplgjmjkaaGreatDoor
open Go
theorem tkW:Tryz.prog.worded (varsWordLater true)=true:=by kernel_rfl
theorem tkV:Tryz.prog.worded (varsWordLater !true)=false:=by kernel_rfl
end Go.Proofs.YtmpgicplgjmjkaaGreatDoor
end
section
namespace Go.Proofs.YtmpgicplgjmjkaaGreatDoor
open Go
theorem tkR:Tryz.prog.worded rootWordLater=true:=by kernel_rfl
theorem tkG:(Tryz.prog.funcNamed "gosem.cut.vars").isSome=true:=by kernel_rfl
end Go.Proofs.YtmpgicplgjmjkaaGreatDoor
end
section
namespace Go.Proofs.YtmpgicplgjmjkaaGreatDoor
open Go
theorem tkN:varsNamedLaterB Tryz.prog (varsId Tryz.prog) aaI=true:=by kernel_rfl
end Go.Proofs.YtmpgicplgjmjkaaGreatDoor
end
