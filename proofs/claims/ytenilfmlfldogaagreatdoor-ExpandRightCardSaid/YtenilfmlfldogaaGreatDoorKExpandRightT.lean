/- What the law 'ExpandRight' uses. No condition. -/
import Derived.LaidMore
import Derived.Lay
import Derived.Stop.Joined
import Derived.Test.YtenilfmlfldogaaGreatDoorRows
import Derived.Test.YtenilfmlfldogaaGreatDoorKExpandRightF
namespace Go.Proofs.YtenilfmlfldogaaGreatDoor
set_option linter.unusedVariables false
set_option maxRecDepth 100000
abbrev lJ:List (String×DataW Unit):=[("math/bits.deBruijn32tab",Rows.laid_math_bits_deBruijn32tab),("math/bits.deBruijn64tab",Rows.laid_math_bits_deBruijn64tab),("internal/strconv.uint64pow10",Rows.laid_internal_strconv_uint64pow10),("unicode/utf8.acceptRanges",Rows.laid_unicode_utf8_acceptRanges),("strconv.ErrRange",Rows.laid_strconv_ErrRange),("strconv.ErrSyntax",Rows.laid_strconv_ErrSyntax),("unicode/utf8.first",Rows.laid_unicode_utf8_first)]
theorem BR:(laidMetH Tryz.prog lJ:World->Prop)=laidMet Tryz.prog lJ:=by
 funext W
 exact MakeChecks.laidMetH_plain _ _ _ (by kernel_rfl)
theorem BQ(os:Os)(a:Array Value):laidMetH Tryz.prog lJ ((World.laidAll Tryz.prog os lJ).forCall (λ_ _=>0) ⟨#[],a,[]⟩).memory:=by
 rw[BR]
 exact laidMet_laidAll _ (by kernel_rfl) (by kernel_rfl)
theorem Qn{W:World}(_h:laidMetH Tryz.prog lJ W):True:=trivial
end Go.Proofs.YtenilfmlfldogaaGreatDoor
