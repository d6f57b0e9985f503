-- This text was written by a program of this session (a changed scratch copy of a tool of the kit; NOTES.md tells the changes).
import Derived.Test.YtonjfggfcnpgbaaMScanPlaysx0
import Derived.Test.YtonjfggfcnpgbaaMScanPlaysx1
import Derived.Test.YtonjfggfcnpgbaaMScanPlaysx2
import Derived.Test.YtonjfggfcnpgbaaMScanPlaysx3
import Derived.Test.YtonjfggfcnpgbaaMScanPlaysx5
import Derived.Test.YtonjfggfcnpgbaaMScanPlaysx6
import Derived.Test.YtonjfggfcnpgbaaMScanPlaysx7
import Derived.Test.YtonjfggfcnpgbaaMScanPlaysx8
import Derived.Test.YtonjfggfcnpgbaaMScanPlaysx9
import Derived.Test.YtonjfggfcnpgbaaMScanPlaysx10
import Derived.Test.YtonjfggfcnpgbaaMScanPlaysx11
import Derived.Test.YtonjfggfcnpgbaaMScanPlaysx12
import Derived.Test.YtonjfggfcnpgbaaMScanPlaysx13
import Derived.Test.YtonjfggfcnpgbaaMScanPlaysx15
import Derived.Test.YtonjfggfcnpgbaaMScanPlaysx16
import Derived.Test.YtonjfggfcnpgbaaMScanPlaysx19
namespace Go.Proofs.Ytonjfggfcnpgbaa.MScanPlays
open Go.RowKit Go.Proofs.YtonjfggfcnpgbaaW.PrintWords Go.Proofs.YtonjfggfcnpgbaaW.PrintLast Go.Proofs.YtonjfggfcnpgbaaW.PrintMore
attribute [local go_sem] max2_int min2_int max_two min_two max_three min_three max_four min_four   -- for this text's walks alone
set_option linter.unusedVariables false
set_option linter.unusedSimpArgs false

end Go.Proofs.Ytonjfggfcnpgbaa.MScanPlays
