-- This text was written by a program of this session (a changed scratch copy of a tool of the kit; NOTES.md tells the changes).
import Derived.Test.YtonjfggfcnpgbaaMScanNilx0
import Derived.Test.YtonjfggfcnpgbaaMScanNilx1
import Derived.Test.YtonjfggfcnpgbaaMScanNilx2
import Derived.Test.YtonjfggfcnpgbaaMScanNilx3
import Derived.Test.YtonjfggfcnpgbaaMScanNilx4
import Derived.Test.YtonjfggfcnpgbaaMScanNilx5
import Derived.Test.YtonjfggfcnpgbaaMScanNilx6
import Derived.Test.YtonjfggfcnpgbaaMScanNilx7
namespace Go.Proofs.Ytonjfggfcnpgbaa.MScanNil
open Go.RowKit Go.Proofs.YtonjfggfcnpgbaaW.PrintWords Go.Proofs.YtonjfggfcnpgbaaW.PrintLast Go.Proofs.YtonjfggfcnpgbaaW.PrintMore
attribute [local go_sem] max2_int min2_int max_two min_two max_three min_three max_four min_four   -- for this text's walks alone
set_option linter.unusedVariables false
set_option linter.unusedSimpArgs false

end Go.Proofs.Ytonjfggfcnpgbaa.MScanNil
