-- This text was written by a program of this session (a changed scratch copy of a tool of the kit; NOTES.md tells the changes).
import Derived.Test.YtecbahciplnhfaaMScriptBackx0
import Derived.Test.YtecbahciplnhfaaMScriptBackx1
import Derived.Test.YtecbahciplnhfaaMScriptBackx2
import Derived.Test.YtecbahciplnhfaaMScriptBackx3
import Derived.Test.YtecbahciplnhfaaMScriptBackx4
import Derived.Test.YtecbahciplnhfaaMScriptBackx5
namespace Go.Proofs.Ytecbahciplnhfaa.MScriptBack
open Go.RowKit Go.Proofs.YtecbahciplnhfaaW.PrintWords Go.Proofs.YtecbahciplnhfaaW.PrintLast Go.Proofs.YtecbahciplnhfaaW.PrintMore
attribute [local go_sem] max2_int min2_int max_two min_two max_three min_three max_four min_four   -- for this text's walks alone
set_option linter.unusedVariables false
set_option linter.unusedSimpArgs false

end Go.Proofs.Ytecbahciplnhfaa.MScriptBack
