-- This text was written by a program of this session (a changed scratch copy of a tool of the kit; NOTES.md tells the changes).
import Derived.Test.YtjameiglfecagaaMGpsBackx0
import Derived.Test.YtjameiglfecagaaMGpsBackx1
import Derived.Test.YtjameiglfecagaaMGpsBackx2
import Derived.Test.YtjameiglfecagaaMGpsBackx3
import Derived.Test.YtjameiglfecagaaMGpsBackx4
import Derived.Test.YtjameiglfecagaaMGpsBackx5
import Derived.Test.YtjameiglfecagaaMGpsBackx6
namespace Go.Proofs.Ytjameiglfecagaa.MGpsBack
open Go.RowKit Go.Proofs.YtjameiglfecagaaW.PrintWords Go.Proofs.YtjameiglfecagaaW.PrintLast Go.Proofs.YtjameiglfecagaaW.PrintMore
attribute [local go_sem] max2_int min2_int max_two min_two max_three min_three max_four min_four   -- for this text's walks alone
set_option linter.unusedVariables false
set_option linter.unusedSimpArgs false

end Go.Proofs.Ytjameiglfecagaa.MGpsBack
