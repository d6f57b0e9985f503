/- Texts as rows of numbers: plain facts. No condition. -/
import Derived.Test.YtjameiglfecagaaBase
import Derived.Laws.BytesArg
namespace Go.Proofs.Ytjameiglfecagaa.Base
open Go.RowKit Go.Proofs.YtjameiglfecagaaW.PrintWords Go.Proofs.YtjameiglfecagaaW.PrintLast Go.Proofs.YtjameiglfecagaaW.PrintMore
set_option linter.unusedVariables false
set_option linter.unusedSimpArgs false

theorem son_size (a : List Int) : (strOfNums a).size = a.length := by simp [strOfNums, ByteArray.size]
end Go.Proofs.Ytjameiglfecagaa.Base
