/- ItemLatest, one part of the proof. -/
import Derived.LaidByTextLater
import Derived.SevenTiedAt
import Derived.Test.YtdioggbficfibaaGreatDoorCards
import Derived.Test.YtdioggbficfibaaGreatDoorRows
import Derived.Test.YtdioggbficfibaaGreatDoorP00
set_option linter.all false
set_option maxRecDepth 100000
set_option maxHeartbeats 16000000
namespace Go.Proofs.YtdioggbficfibaaGreatDoor
open Go Go.Proofs.Tryz
theorem aGO:Tryz.pinned.checked.prog.pinnedFits "unicode/utf8.first" =true:=by kernel_rfl
theorem aGN:Tryz.pinned.checked.prog.pinnedFits "unicode.CaseRanges" =true:=by kernel_rfl
theorem aFh:Tryz.pinned.checked.prog.headLifts.contains "ownunsafe" =false:=by kernel_rfl
theorem azd:Tryz.pinned.checked.prog.listedFits [("internal/strconv.uint64pow10",Rows.laid_internal_strconv_uint64pow10),("math/bits.deBruijn32tab",Rows.laid_math_bits_deBruijn32tab),("math/bits.deBruijn64tab",Rows.laid_math_bits_deBruijn64tab),("unicode/utf8.first",Rows.laid_unicode_utf8_first),("unicode/utf8.acceptRanges",Rows.laid_unicode_utf8_acceptRanges),("strconv.ErrSyntax",Rows.laid_strconv_ErrSyntax),("strconv.ErrRange",Rows.laid_strconv_ErrRange),("concord/date.lengths",Rows.laid_concord_date_lengths),("concord/decimal.tens",Rows.laid_concord_decimal_tens),("unicode.CaseRanges",Rows.laid_unicode_CaseRanges)]=true:=by
 unfold Program.listedFits;rw[aFh];kernel_rfl
abbrev KN:List (String×DataW Unit):=[("internal/strconv.uint64pow10",Rows.laid_internal_strconv_uint64pow10),("math/bits.deBruijn32tab",Rows.laid_math_bits_deBruijn32tab),("math/bits.deBruijn64tab",Rows.laid_math_bits_deBruijn64tab),("unicode/utf8.acceptRanges",Rows.laid_unicode_utf8_acceptRanges),("strconv.ErrSyntax",Rows.laid_strconv_ErrSyntax),("strconv.ErrRange",Rows.laid_strconv_ErrRange),("concord/date.lengths",Rows.laid_concord_date_lengths),("concord/decimal.tens",Rows.laid_concord_decimal_tens)]
theorem aJT:prog.worded (varsWordLater true)=true:=by kernel_rfl
theorem aJU:prog.worded (varsWordLater !true)=false:=by kernel_rfl
theorem aJS:prog.worded rootWordLater=true:=by kernel_rfl
theorem aJQ:KN.map (fun x=>prog.kindOfLater x.1)=([.data,.data,.data,.data,.sentinel,.sentinel,.data,.data]:List LaidKind).map some:=by kernel_rfl
theorem aJP:(prog.funcNamed "gosem.cut.vars").isSome=true:=by kernel_rfl
theorem aJR:varsNamedLaterB prog (varsId prog) KN=true:=by kernel_rfl
theorem aJO(os:Os)(tape:Tape):varsDone prog 400 (varsId prog) os tape=true:=by kernel_rfl
theorem aJM(os:Os)(tape:Tape):(DataW.laidRun prog (varsWorld prog 400 (varsId prog) os tape).memory 8 (KN.map (·.1))).map (·.1)=some KN:=by kernel_rfl
theorem aJN(os:Os)(tape:Tape):(DataW.laidRun prog (varsWorld prog 400 (varsId prog) os tape).memory 8 (KN.map (·.1))).map (fun x=>decide x.2.Nodup&&laidRowsB prog (varsWorld prog 400 (varsId prog) os tape).memory x.2)=some true:=by kernel_rfl
theorem aKm:prog.laidByTextLater KN [.data,.data,.data,.data,.sentinel,.sentinel,.data,.data] true:=
 Program.laidByTextLater_by_run 400 8 aJT aJU aJS aJQ aJP aJR aJO aJM aJN
theorem aC4:Rows.itemLatestRow.laidByTextAt .later Tryz.pinned [.data,.data,.data,.pinned,.data,.sentinel,.sentinel,.data,.data,.pinned] true:=
 OpenClaim.laidByTextAt_pinned rfl rfl aKm rfl rfl rfl rfl (fun y b a=>by
  simp only[Rows.itemLatestRow,as_,List.zip_nil_right,gl,Rp,x2]at b
  rcases b with rfl|rfl|rfl|rfl|rfl|rfl|rfl|rfl|rfl|rfl
  ·cases a
  ·cases a
  ·cases a
  ·exact⟨aGO,by kernel_rfl⟩
  ·cases a
  ·cases a
  ·cases a
  ·cases a
  ·cases a
  ·exact⟨aGN,by kernel_rfl⟩) azd
end Go.Proofs.YtdioggbficfibaaGreatDoor
