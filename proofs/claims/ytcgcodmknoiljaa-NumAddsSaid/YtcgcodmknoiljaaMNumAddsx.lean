-- This text was written by a program of this session (a changed scratch copy of a tool of the kit; NOTES.md tells the changes).
import Derived.Test.YtcgcodmknoiljaaMNumAddsx0
import Derived.Test.YtcgcodmknoiljaaMNumAddsx1
import Derived.Test.YtcgcodmknoiljaaMNumAddsx2
import Derived.Test.YtcgcodmknoiljaaMNumAddsx3
import Derived.Test.YtcgcodmknoiljaaMNumAddsx4
import Derived.Test.YtcgcodmknoiljaaMNumAddsx5
namespace Go.Proofs.Ytcgcodmknoiljaa.MNumAdds
open Go.RowKit Go.Proofs.YtcgcodmknoiljaaW.PrintWords Go.Proofs.YtcgcodmknoiljaaW.PrintLast Go.Proofs.YtcgcodmknoiljaaW.PrintMore
attribute [local go_sem] max2_int min2_int max_two min_two max_three min_three max_four min_four   -- for this text's walks alone
set_option linter.unusedVariables false
set_option linter.unusedSimpArgs false

end Go.Proofs.Ytcgcodmknoiljaa.MNumAdds
