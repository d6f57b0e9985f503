-- This text was written by a program of this session (a changed scratch copy of a tool of the kit; NOTES.md tells the changes).
import Derived.Test.YtnlcegcnaamnoaaMExtWalksx0
import Derived.Test.YtnlcegcnaamnoaaMExtWalksx1
import Derived.Test.YtnlcegcnaamnoaaMExtWalksx2
import Derived.Test.YtnlcegcnaamnoaaMExtWalksx3
import Derived.Test.YtnlcegcnaamnoaaMExtWalksx4
import Derived.Test.YtnlcegcnaamnoaaMExtWalksx5
namespace Go.Proofs.Ytnlcegcnaamnoaa.MExtWalks
open Go.RowKit Go.Proofs.YtnlcegcnaamnoaaW.PrintWords Go.Proofs.YtnlcegcnaamnoaaW.PrintLast Go.Proofs.YtnlcegcnaamnoaaW.PrintMore
attribute [local go_sem] max2_int min2_int max_two min_two max_three min_three max_four min_four   -- for this text's walks alone
set_option linter.unusedVariables false
set_option linter.unusedSimpArgs false

end Go.Proofs.Ytnlcegcnaamnoaa.MExtWalks
