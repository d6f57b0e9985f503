-- This text was written by a program of this session (a changed scratch copy of a tool of the kit; NOTES.md tells the changes).
import Derived.Test.YtnjeemghkpgcfaaMRuleBackx0
import Derived.Test.YtnjeemghkpgcfaaMRuleBackx1
import Derived.Test.YtnjeemghkpgcfaaMRuleBackx2
import Derived.Test.YtnjeemghkpgcfaaMRuleBackx3
import Derived.Test.YtnjeemghkpgcfaaMRuleBackx4
import Derived.Test.YtnjeemghkpgcfaaMRuleBackx5
import Derived.Test.YtnjeemghkpgcfaaMRuleBackx6
import Derived.Test.YtnjeemghkpgcfaaMRuleBackx7
import Derived.Test.YtnjeemghkpgcfaaMRuleBackx8
namespace Go.Proofs.Ytnjeemghkpgcfaa.MRuleBack
open Go.RowKit Go.Proofs.YtnjeemghkpgcfaaW.PrintWords Go.Proofs.YtnjeemghkpgcfaaW.PrintLast Go.Proofs.YtnjeemghkpgcfaaW.PrintMore
attribute [local go_sem] max2_int min2_int max_two min_two max_three min_three max_four min_four   -- for this text's walks alone
set_option linter.unusedVariables false
set_option linter.unusedSimpArgs false

end Go.Proofs.Ytnjeemghkpgcfaa.MRuleBack
