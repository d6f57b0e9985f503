-- This text was written by a program of this session (a changed scratch copy of a tool of the kit; NOTES.md tells the changes).
import Derived.Test.YtcgcodmknoiljaaMNumDivsx0
import Derived.Test.YtcgcodmknoiljaaMNumDivsx1
import Derived.Test.YtcgcodmknoiljaaMNumDivsx2
import Derived.Test.YtcgcodmknoiljaaMNumDivsx3
import Derived.Test.YtcgcodmknoiljaaMNumDivsx4
import Derived.Test.YtcgcodmknoiljaaMNumDivsx5
import Derived.Test.YtcgcodmknoiljaaMNumDivsx6
namespace Go.Proofs.Ytcgcodmknoiljaa.MNumDivs
open Go.RowKit Go.Proofs.YtcgcodmknoiljaaW.PrintWords Go.Proofs.YtcgcodmknoiljaaW.PrintLast Go.Proofs.YtcgcodmknoiljaaW.PrintMore
attribute [local go_sem] max2_int min2_int max_two min_two max_three min_three max_four min_four   -- for this text's walks alone
set_option linter.unusedVariables false
set_option linter.unusedSimpArgs false

end Go.Proofs.Ytcgcodmknoiljaa.MNumDivs
