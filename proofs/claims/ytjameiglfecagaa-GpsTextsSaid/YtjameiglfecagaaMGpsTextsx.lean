-- This text was written by a program of this session (a changed scratch copy of a tool of the kit; NOTES.md tells the changes).
import Derived.Test.YtjameiglfecagaaMGpsTextsx0
import Derived.Test.YtjameiglfecagaaMGpsTextsx1
import Derived.Test.YtjameiglfecagaaMGpsTextsx2
import Derived.Test.YtjameiglfecagaaMGpsTextsx3
import Derived.Test.YtjameiglfecagaaMGpsTextsx4
import Derived.Test.YtjameiglfecagaaMGpsTextsx5
import Derived.Test.YtjameiglfecagaaMGpsTextsx6
import Derived.Test.YtjameiglfecagaaMGpsTextsx7
import Derived.Test.YtjameiglfecagaaMGpsTextsx8
import Derived.Test.YtjameiglfecagaaMGpsTextsx9
import Derived.Test.YtjameiglfecagaaMGpsTextsx10
import Derived.Test.YtjameiglfecagaaMGpsTextsx11
namespace Go.Proofs.Ytjameiglfecagaa.MGpsTexts
open Go.RowKit Go.Proofs.YtjameiglfecagaaW.PrintWords Go.Proofs.YtjameiglfecagaaW.PrintLast Go.Proofs.YtjameiglfecagaaW.PrintMore
attribute [local go_sem] max2_int min2_int max_two min_two max_three min_three max_four min_four   -- for this text's walks alone
set_option linter.unusedVariables false
set_option linter.unusedSimpArgs false

end Go.Proofs.Ytjameiglfecagaa.MGpsTexts
