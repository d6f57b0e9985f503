-- This text was written by a program of this session (a changed scratch copy of a tool of the kit; NOTES.md tells the changes).
import Derived.Test.YtecbahciplnhfaaMScriptDecodesx0
import Derived.Test.YtecbahciplnhfaaMScriptDecodesx1
import Derived.Test.YtecbahciplnhfaaMScriptDecodesx2
import Derived.Test.YtecbahciplnhfaaMScriptDecodesx3
import Derived.Test.YtecbahciplnhfaaMScriptDecodesx4
import Derived.Test.YtecbahciplnhfaaMScriptDecodesx5
import Derived.Test.YtecbahciplnhfaaMScriptDecodesx6
import Derived.Test.YtecbahciplnhfaaMScriptDecodesx7
namespace Go.Proofs.Ytecbahciplnhfaa.MScriptDecodes
open Go.RowKit Go.Proofs.YtecbahciplnhfaaW.PrintWords Go.Proofs.YtecbahciplnhfaaW.PrintLast Go.Proofs.YtecbahciplnhfaaW.PrintMore
attribute [local go_sem] max2_int min2_int max_two min_two max_three min_three max_four min_four   -- for this text's walks alone
set_option linter.unusedVariables false
set_option linter.unusedSimpArgs false

end Go.Proofs.Ytecbahciplnhfaa.MScriptDecodes
