/- ScanNil: the condition that its parameter keeps (its walk is told in the text behind it). -/
import Derived.Test.YtonjfggfcnpgbaaMScanNilx0
import Derived.Test.YtonjfggfcnpgbaaMScanNilx2
import Derived.Test.YtonjfggfcnpgbaaMScanNilx3
import Derived.Test.YtonjfggfcnpgbaaMScanNilx4
import Derived.Test.YtonjfggfcnpgbaaMScanNilx5
import Derived.Test.YtonjfggfcnpgbaaMScanNilx6
namespace Go.Proofs.Ytonjfggfcnpgbaa.MScanNil
open Go.RowKit Go.Proofs.YtonjfggfcnpgbaaW.PrintWords Go.Proofs.YtonjfggfcnpgbaaW.PrintLast Go.Proofs.YtonjfggfcnpgbaaW.PrintMore
def ok35 (x : S35) : Prop := ((Lit.int .i64 x.f0).wf = true) ∧ ((Lit.int .u8 x.f1).wf = true) ∧ (x.f2.size ≤ 9223372036854775807) ∧ ((x.f3.length ≤ 9223372036854775807 ∧ ∀ y_ ∈ x.f3, y_.size ≤ 9223372036854775807)) ∧ ((Lit.int .i64 x.f4).wf = true) ∧ ((Lit.int .i64 x.f5).wf = true)
end Go.Proofs.Ytonjfggfcnpgbaa.MScanNil
