-- This text was written by a program of this session (a changed scratch copy of a tool of the kit; NOTES.md tells the changes).
import Derived.Test.YtnlcegcnaamnoaaMExtPutsx0
import Derived.Test.YtnlcegcnaamnoaaMExtPutsx1
import Derived.Test.YtnlcegcnaamnoaaMExtPutsx2
import Derived.Test.YtnlcegcnaamnoaaMExtPutsx3
import Derived.Test.YtnlcegcnaamnoaaMExtPutsx4
import Derived.Test.YtnlcegcnaamnoaaMExtPutsx5
import Derived.Test.YtnlcegcnaamnoaaMExtPutsx6
import Derived.Test.YtnlcegcnaamnoaaMExtPutsx7
import Derived.Test.YtnlcegcnaamnoaaMExtPutsx8
namespace Go.Proofs.Ytnlcegcnaamnoaa.MExtPuts
open Go.RowKit Go.Proofs.YtnlcegcnaamnoaaW.PrintWords Go.Proofs.YtnlcegcnaamnoaaW.PrintLast Go.Proofs.YtnlcegcnaamnoaaW.PrintMore
attribute [local go_sem] max2_int min2_int max_two min_two max_three min_three max_four min_four   -- for this text's walks alone
set_option linter.unusedVariables false
set_option linter.unusedSimpArgs false

end Go.Proofs.Ytnlcegcnaamnoaa.MExtPuts
