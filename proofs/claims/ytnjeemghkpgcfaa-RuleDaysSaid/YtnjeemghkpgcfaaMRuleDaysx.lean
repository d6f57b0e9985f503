-- This text was written by a program of this session (a changed scratch copy of a tool of the kit; NOTES.md tells the changes).
import Derived.Test.YtnjeemghkpgcfaaMRuleDaysx0
import Derived.Test.YtnjeemghkpgcfaaMRuleDaysx1
import Derived.Test.YtnjeemghkpgcfaaMRuleDaysx2
import Derived.Test.YtnjeemghkpgcfaaMRuleDaysx3
import Derived.Test.YtnjeemghkpgcfaaMRuleDaysx4
import Derived.Test.YtnjeemghkpgcfaaMRuleDaysx5
import Derived.Test.YtnjeemghkpgcfaaMRuleDaysx6
import Derived.Test.YtnjeemghkpgcfaaMRuleDaysx7
import Derived.Test.YtnjeemghkpgcfaaMRuleDaysx8
import Derived.Test.YtnjeemghkpgcfaaMRuleDaysx9
namespace Go.Proofs.Ytnjeemghkpgcfaa.MRuleDays
open Go.RowKit Go.Proofs.YtnjeemghkpgcfaaW.PrintWords Go.Proofs.YtnjeemghkpgcfaaW.PrintLast Go.Proofs.YtnjeemghkpgcfaaW.PrintMore
attribute [local go_sem] max2_int min2_int max_two min_two max_three min_three max_four min_four   -- for this text's walks alone
set_option linter.unusedVariables false
set_option linter.unusedSimpArgs false

end Go.Proofs.Ytnjeemghkpgcfaa.MRuleDays
