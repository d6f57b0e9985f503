/- Texts as rows of numbers: plain facts. No condition. -/
import Derived.Test.YtonjfggfcnpgbaaBase
import Derived.Laws.BytesArg
namespace Go.Proofs.Ytonjfggfcnpgbaa.Base
open Go.RowKit Go.Proofs.YtonjfggfcnpgbaaW.PrintWords Go.Proofs.YtonjfggfcnpgbaaW.PrintLast Go.Proofs.YtonjfggfcnpgbaaW.PrintMore
set_option linter.unusedVariables false
set_option linter.unusedSimpArgs false

theorem son_append (a b : List Int) : strOfNums a ++ strOfNums b = strOfNums (a ++ b) := by
  unfold strOfNums
  rw [List.map_append]
  apply ByteArray.ext
  simp [ByteArray.data_append]
theorem son_size (a : List Int) : (strOfNums a).size = a.length := by simp [strOfNums, ByteArray.size]
end Go.Proofs.Ytonjfggfcnpgbaa.Base
