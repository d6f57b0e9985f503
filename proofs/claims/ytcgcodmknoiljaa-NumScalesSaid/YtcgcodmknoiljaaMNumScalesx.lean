-- This text was written by a program of this session (a changed scratch copy of a tool of the kit; NOTES.md tells the changes).
import Derived.Test.YtcgcodmknoiljaaMNumScalesx0
import Derived.Test.YtcgcodmknoiljaaMNumScalesx1
import Derived.Test.YtcgcodmknoiljaaMNumScalesx2
import Derived.Test.YtcgcodmknoiljaaMNumScalesx3
import Derived.Test.YtcgcodmknoiljaaMNumScalesx4
import Derived.Test.YtcgcodmknoiljaaMNumScalesx5
import Derived.Test.YtcgcodmknoiljaaMNumScalesx6
namespace Go.Proofs.Ytcgcodmknoiljaa.MNumScales
open Go.RowKit Go.Proofs.YtcgcodmknoiljaaW.PrintWords Go.Proofs.YtcgcodmknoiljaaW.PrintLast Go.Proofs.YtcgcodmknoiljaaW.PrintMore
attribute [local go_sem] max2_int min2_int max_two min_two max_three min_three max_four min_four   -- for this text's walks alone
set_option linter.unusedVariables false
set_option linter.unusedSimpArgs false

end Go.Proofs.Ytcgcodmknoiljaa.MNumScales
