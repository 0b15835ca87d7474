/- ItemInForce, one part of the proof. -/
import Derived.LaidByTextLater
import Derived.SevenTiedAt
import Derived.Test.YtdhifebhlocikaaGreatDoorCards
import Derived.Test.YtdhifebhlocikaaGreatDoorRows
import Derived.Test.YtdhifebhlocikaaGreatDoorP00
set_option linter.all false
set_option maxRecDepth 100000
set_option maxHeartbeats 16000000
namespace Go.Proofs.YtdhifebhlocikaaGreatDoor
open Go Go.Proofs.Tryz
def aHf:Tryz.pinned.checked.prog.pinnedFits "unicode/utf8.first" =true:=by kernel_rfl
def aHe:Tryz.pinned.checked.prog.pinnedFits "unicode.CaseRanges" =true:=by kernel_rfl
def aFK:Tryz.pinned.checked.prog.headLifts.contains "ownunsafe" =false:=by kernel_rfl
def azC:Tryz.pinned.checked.prog.listedFits [("internal/strconv.uint64pow10",Rows.laid_internal_strconv_uint64pow10),("math/bits.deBruijn32tab",Rows.laid_math_bits_deBruijn32tab),("math/bits.deBruijn64tab",Rows.laid_math_bits_deBruijn64tab),("unicode/utf8.first",Rows.laid_unicode_utf8_first),("unicode/utf8.acceptRanges",Rows.laid_unicode_utf8_acceptRanges),("strconv.ErrSyntax",Rows.laid_strconv_ErrSyntax),("strconv.ErrRange",Rows.laid_strconv_ErrRange),("concord/date.lengths",Rows.laid_concord_date_lengths),("concord/decimal.tens",Rows.laid_concord_decimal_tens),("unicode.CaseRanges",Rows.laid_unicode_CaseRanges)]=true:=by unfold Program.listedFits;rw[aFK];kernel_rfl
abbrev J_:List (String×DataW Unit):=[("internal/strconv.uint64pow10",Rows.laid_internal_strconv_uint64pow10),("math/bits.deBruijn32tab",Rows.laid_math_bits_deBruijn32tab),("math/bits.deBruijn64tab",Rows.laid_math_bits_deBruijn64tab),("unicode/utf8.acceptRanges",Rows.laid_unicode_utf8_acceptRanges),("strconv.ErrSyntax",Rows.laid_strconv_ErrSyntax),("strconv.ErrRange",Rows.laid_strconv_ErrRange),("concord/date.lengths",Rows.laid_concord_date_lengths),("concord/decimal.tens",Rows.laid_concord_decimal_tens)]
def aKo:prog.worded (varsWordLater true)=true:=by kernel_rfl
def aKp:prog.worded (varsWordLater !true)=false:=by kernel_rfl
def aKn:prog.worded rootWordLater=true:=by kernel_rfl
def aKl:J_.map (λx=>prog.kindOfLater x.1)=([.data,.data,.data,.data,.sentinel,.sentinel,.data,.data]:List LaidKind).map some:=by kernel_rfl
def aKk:(prog.funcNamed "gosem.cut.vars").isSome=true:=by kernel_rfl
def aKm:varsNamedLaterB prog (varsId prog) J_=true:=by kernel_rfl
def aKj(os:Os)(tape:Tape):varsDone prog 400 (varsId prog) os tape=true:=by kernel_rfl
def aKh(os:Os)(tape:Tape):(DataW.laidRun prog (varsWorld prog 400 (varsId prog) os tape).memory 8 (J_.map (·.1))).map (·.1)=some J_:=by kernel_rfl
def aKi(os:Os)(tape:Tape):(DataW.laidRun prog (varsWorld prog 400 (varsId prog) os tape).memory 8 (J_.map (·.1))).map (λx=>decide x.2.Nodup&&laidRowsB prog (varsWorld prog 400 (varsId prog) os tape).memory x.2)=some true:=by kernel_rfl
def aKU:prog.laidByTextLater J_ [.data,.data,.data,.data,.sentinel,.sentinel,.data,.data] true:=
 Program.laidByTextLater_by_run 400 8 aKo aKp aKn aKl aKk aKm aKj aKh aKi
def aDA:Rows.itemInForceRow.laidByTextAt .later Tryz.pinned [.data,.data,.data,.pinned,.data,.sentinel,.sentinel,.data,.data,.pinned] true:=
 OpenClaim.laidByTextAt_pinned rfl rfl aKU rfl rfl rfl rfl (λy b a=>by
  simp only[Rows.itemInForceRow,atC,List.zip_nil_right,gJ,Rm,xO]at b
  rcases b with rfl|rfl|rfl|rfl|rfl|rfl|rfl|rfl|rfl|rfl
  .cases a
  .cases a
  .cases a
  .exact⟨aHf,by kernel_rfl⟩
  .cases a
  .cases a
  .cases a
  .cases a
  .cases a
  .exact⟨aHe,by kernel_rfl⟩) azC
end Go.Proofs.YtdhifebhlocikaaGreatDoor
