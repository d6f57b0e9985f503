-- This text was written by a program of this session (a changed scratch copy of a tool of the kit; NOTES.md tells the changes).
import Derived.Test.YtpjognepdelocaaMSteadySplitsx0
import Derived.Test.YtpjognepdelocaaMSteadySplitsx1
import Derived.Test.YtpjognepdelocaaMSteadySplitsx2
import Derived.Test.YtpjognepdelocaaMSteadySplitsx3
namespace Go.Proofs.Ytpjognepdelocaa.MSteadySplits
open Go.RowKit Go.Proofs.YtpjognepdelocaaW.PrintWords Go.Proofs.YtpjognepdelocaaW.PrintLast Go.Proofs.YtpjognepdelocaaW.PrintMore
attribute [local go_sem] max2_int min2_int max_two min_two max_three min_three max_four min_four   -- for this text's walks alone
set_option linter.unusedVariables false
set_option linter.unusedSimpArgs false

end Go.Proofs.Ytpjognepdelocaa.MSteadySplits
