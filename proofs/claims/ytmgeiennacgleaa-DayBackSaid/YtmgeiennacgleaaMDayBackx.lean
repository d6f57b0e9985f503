-- This text was written by a program of this session (a changed scratch copy of a tool of the kit; NOTES.md tells the changes).
import Derived.Test.YtmgeiennacgleaaMDayBackx0
import Derived.Test.YtmgeiennacgleaaMDayBackx1
import Derived.Test.YtmgeiennacgleaaMDayBackx2
import Derived.Test.YtmgeiennacgleaaMDayBackx3
namespace Go.Proofs.Ytmgeiennacgleaa.MDayBack
open Go.RowKit Go.Proofs.YtmgeiennacgleaaW.PrintWords Go.Proofs.YtmgeiennacgleaaW.PrintLast Go.Proofs.YtmgeiennacgleaaW.PrintMore
attribute [local go_sem] max2_int min2_int max_two min_two max_three min_three max_four min_four   -- for this text's walks alone
set_option linter.unusedVariables false
set_option linter.unusedSimpArgs false

end Go.Proofs.Ytmgeiennacgleaa.MDayBack
