-- This text was written by a program of this session (a changed scratch copy of a tool of the kit; NOTES.md tells the changes).
import Derived.Test.YtnjeemghkpgcfaaMRuleTextsx0
import Derived.Test.YtnjeemghkpgcfaaMRuleTextsx1
import Derived.Test.YtnjeemghkpgcfaaMRuleTextsx2
import Derived.Test.YtnjeemghkpgcfaaMRuleTextsx3
import Derived.Test.YtnjeemghkpgcfaaMRuleTextsx4
import Derived.Test.YtnjeemghkpgcfaaMRuleTextsx5
import Derived.Test.YtnjeemghkpgcfaaMRuleTextsx6
import Derived.Test.YtnjeemghkpgcfaaMRuleTextsx7
import Derived.Test.YtnjeemghkpgcfaaMRuleTextsx8
import Derived.Test.YtnjeemghkpgcfaaMRuleTextsx9
import Derived.Test.YtnjeemghkpgcfaaMRuleTextsx10
import Derived.Test.YtnjeemghkpgcfaaMRuleTextsx11
import Derived.Test.YtnjeemghkpgcfaaMRuleTextsx12
import Derived.Test.YtnjeemghkpgcfaaMRuleTextsx13
import Derived.Test.YtnjeemghkpgcfaaMRuleTextsx14
namespace Go.Proofs.Ytnjeemghkpgcfaa.MRuleTexts
open Go.RowKit Go.Proofs.YtnjeemghkpgcfaaW.PrintWords Go.Proofs.YtnjeemghkpgcfaaW.PrintLast Go.Proofs.YtnjeemghkpgcfaaW.PrintMore
attribute [local go_sem] max2_int min2_int max_two min_two max_three min_three max_four min_four   -- for this text's walks alone
set_option linter.unusedVariables false
set_option linter.unusedSimpArgs false

end Go.Proofs.Ytnjeemghkpgcfaa.MRuleTexts
