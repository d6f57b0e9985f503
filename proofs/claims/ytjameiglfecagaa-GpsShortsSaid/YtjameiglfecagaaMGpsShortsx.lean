-- This text was written by a program of this session (a changed scratch copy of a tool of the kit; NOTES.md tells the changes).
import Derived.Test.YtjameiglfecagaaMGpsShortsx0
import Derived.Test.YtjameiglfecagaaMGpsShortsx1
import Derived.Test.YtjameiglfecagaaMGpsShortsx2
import Derived.Test.YtjameiglfecagaaMGpsShortsx3
import Derived.Test.YtjameiglfecagaaMGpsShortsx4
import Derived.Test.YtjameiglfecagaaMGpsShortsx5
import Derived.Test.YtjameiglfecagaaMGpsShortsx6
import Derived.Test.YtjameiglfecagaaMGpsShortsx7
import Derived.Test.YtjameiglfecagaaMGpsShortsx8
import Derived.Test.YtjameiglfecagaaMGpsShortsx9
namespace Go.Proofs.Ytjameiglfecagaa.MGpsShorts
open Go.RowKit Go.Proofs.YtjameiglfecagaaW.PrintWords Go.Proofs.YtjameiglfecagaaW.PrintLast Go.Proofs.YtjameiglfecagaaW.PrintMore
attribute [local go_sem] max2_int min2_int max_two min_two max_three min_three max_four min_four   -- for this text's walks alone
set_option linter.unusedVariables false
set_option linter.unusedSimpArgs false

end Go.Proofs.Ytjameiglfecagaa.MGpsShorts
