-- This text was written by a program of this session (a changed scratch copy of a tool of the kit; NOTES.md tells the changes).
import Derived.Test.YtlaaofbmnaekoaaMWholeClientx0
import Derived.Test.YtlaaofbmnaekoaaMWholeClientx1
import Derived.Test.YtlaaofbmnaekoaaMWholeClientx2
import Derived.Test.YtlaaofbmnaekoaaMWholeClientx3
import Derived.Test.YtlaaofbmnaekoaaMWholeClientx4
import Derived.Test.YtlaaofbmnaekoaaMWholeClientx5
import Derived.Test.YtlaaofbmnaekoaaMWholeClientx6
import Derived.Test.YtlaaofbmnaekoaaMWholeClientx7
namespace Go.Proofs.Ytlaaofbmnaekoaa.MWholeClient
open Go.RowKit Go.Proofs.YtlaaofbmnaekoaaW.PrintWords Go.Proofs.YtlaaofbmnaekoaaW.PrintLast Go.Proofs.YtlaaofbmnaekoaaW.PrintMore
attribute [local go_sem] max2_int min2_int max_two min_two max_three min_three max_four min_four   -- for this text's walks alone
set_option linter.unusedVariables false
set_option linter.unusedSimpArgs false

end Go.Proofs.Ytlaaofbmnaekoaa.MWholeClient
