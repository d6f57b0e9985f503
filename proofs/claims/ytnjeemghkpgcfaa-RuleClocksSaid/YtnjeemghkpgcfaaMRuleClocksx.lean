-- This text was written by a program of this session (a changed scratch copy of a tool of the kit; NOTES.md tells the changes).
import Derived.Test.YtnjeemghkpgcfaaMRuleClocksx0
import Derived.Test.YtnjeemghkpgcfaaMRuleClocksx1
import Derived.Test.YtnjeemghkpgcfaaMRuleClocksx2
import Derived.Test.YtnjeemghkpgcfaaMRuleClocksx3
import Derived.Test.YtnjeemghkpgcfaaMRuleClocksx4
import Derived.Test.YtnjeemghkpgcfaaMRuleClocksx5
import Derived.Test.YtnjeemghkpgcfaaMRuleClocksx6
import Derived.Test.YtnjeemghkpgcfaaMRuleClocksx7
import Derived.Test.YtnjeemghkpgcfaaMRuleClocksx8
import Derived.Test.YtnjeemghkpgcfaaMRuleClocksx9
namespace Go.Proofs.Ytnjeemghkpgcfaa.MRuleClocks
open Go.RowKit Go.Proofs.YtnjeemghkpgcfaaW.PrintWords Go.Proofs.YtnjeemghkpgcfaaW.PrintLast Go.Proofs.YtnjeemghkpgcfaaW.PrintMore
attribute [local go_sem] max2_int min2_int max_two min_two max_three min_three max_four min_four   -- for this text's walks alone
set_option linter.unusedVariables false
set_option linter.unusedSimpArgs false

end Go.Proofs.Ytnjeemghkpgcfaa.MRuleClocks
