/- The listed variables hold what the program's text lays: all of it. No conditions. -/
import Derived.Test.YtmpgicplgjmjkaaGreatDoorTk4
import Derived.LaidByTextLater
import Derived.SevenTiedAt
set_option linter.all false
namespace Go.Proofs.YtmpgicplgjmjkaaGreatDoor
open Go
theorem pin_laid_unicode_utf8_first:Tryz.pinned.checked.prog.pinnedFits "unicode/utf8.first" = true:=by kernel_rfl
theorem noOwnUnsafe:Tryz.pinned.checked.prog.headLifts.contains "ownunsafe" = false:=by kernel_rfl
theorem fits1:Tryz.pinned.checked.prog.listedFits [("unicode/utf8.first",Rows.laid_unicode_utf8_first),("unicode/utf8.acceptRanges",Rows.laid_unicode_utf8_acceptRanges),("strconv.ErrSyntax",Rows.laid_strconv_ErrSyntax),("strconv.ErrRange",Rows.laid_strconv_ErrRange),("internal/strconv.uint64pow10",Rows.laid_internal_strconv_uint64pow10),("math/bits.deBruijn32tab",Rows.laid_math_bits_deBruijn32tab),("math/bits.deBruijn64tab",Rows.laid_math_bits_deBruijn64tab),("strings.asciiSpace",Rows.laid_strings_asciiSpace),("unicode.White_Space",Rows.laid_unicode_White_Space),("lapwing/modes.table",Rows.laid_lapwing_modes_table),("lapwing/charset.graphics",Rows.laid_lapwing_charset_graphics),("lapwing/pen.switched",Rows.laid_lapwing_pen_switched),("lapwing/pen.unswitched",Rows.laid_lapwing_pen_unswitched)]=true:=by
 unfold Program.listedFits;rw[noOwnUnsafe]
 kernel_rfl
theorem tie:Tryz.prog.laidByTextLater aaI aoc true:=Program.laidByTextLater_by_one 400 8 1000 tkW tkV tkR tkK tkG tkN tkX
theorem termCuts_row_tie:Rows.termCutsRow.laidByTextAt .later Tryz.pinned [.pinned,.data,.sentinel,.sentinel,.data,.data,.data,.data,.listed,.data,.data,.data,.data] true :=
 OpenClaim.laidByTextAt_pinned rfl rfl tie rfl rfl rfl rfl (λy hy _e=>by
  simp only[Rows.termCutsRow,List.zip_cons_cons,List.zip_nil_right,List.mem_cons,List.mem_nil_iff,or_false] at hy;rcases hy with rfl|rfl|rfl|rfl|rfl|rfl|rfl|rfl|rfl|rfl|rfl|rfl|rfl
  . exact⟨pin_laid_unicode_utf8_first,by kernel_rfl⟩
  . cases _e
  . cases _e
  . cases _e
  . cases _e
  . cases _e
  . cases _e
  . cases _e
  . cases _e
  . cases _e
  . cases _e
  . cases _e
  cases _e) fits1
theorem termReset_row_tie:Rows.termResetRow.laidByTextAt .later Tryz.pinned [.pinned,.data,.sentinel,.sentinel,.data,.data,.data,.data,.listed,.data,.data,.data,.data] true :=
 OpenClaim.laidByTextAt_pinned rfl rfl tie rfl rfl rfl rfl (λy hy _e=>by
  simp only[Rows.termResetRow,List.zip_cons_cons,List.zip_nil_right,List.mem_cons,List.mem_nil_iff,or_false] at hy;rcases hy with rfl|rfl|rfl|rfl|rfl|rfl|rfl|rfl|rfl|rfl|rfl|rfl|rfl
  . exact⟨pin_laid_unicode_utf8_first,by kernel_rfl⟩
  . cases _e
  . cases _e
  . cases _e
  . cases _e
  . cases _e
  . cases _e
  . cases _e
  . cases _e
  . cases _e
  . cases _e
  . cases _e
  cases _e) fits1
theorem termLooks_row_tie:Rows.termLooksRow.laidByTextAt .later Tryz.pinned [.pinned,.data,.sentinel,.sentinel,.data,.data,.data,.data,.listed,.data,.data,.data,.data] true :=
 OpenClaim.laidByTextAt_pinned rfl rfl tie rfl rfl rfl rfl (λy hy _e=>by
  simp only[Rows.termLooksRow,List.zip_cons_cons,List.zip_nil_right,List.mem_cons,List.mem_nil_iff,or_false] at hy;rcases hy with rfl|rfl|rfl|rfl|rfl|rfl|rfl|rfl|rfl|rfl|rfl|rfl|rfl
  . exact⟨pin_laid_unicode_utf8_first,by kernel_rfl⟩
  . cases _e
  . cases _e
  . cases _e
  . cases _e
  . cases _e
  . cases _e
  . cases _e
  . cases _e
  . cases _e
  . cases _e
  . cases _e
  cases _e) fits1
end Go.Proofs.YtmpgicplgjmjkaaGreatDoor
