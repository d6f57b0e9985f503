-- This text was written by a program of this session (a changed scratch copy of a tool of the kit; NOTES.md tells the changes).
import Derived.Test.YtecbahciplnhfaaMScriptBytesx0
import Derived.Test.YtecbahciplnhfaaMScriptBytesx1
import Derived.Test.YtecbahciplnhfaaMScriptBytesx2
import Derived.Test.YtecbahciplnhfaaMScriptBytesx3
import Derived.Test.YtecbahciplnhfaaMScriptBytesx4
import Derived.Test.YtecbahciplnhfaaMScriptBytesx5
import Derived.Test.YtecbahciplnhfaaMScriptBytesx6
import Derived.Test.YtecbahciplnhfaaMScriptBytesx7
import Derived.Test.YtecbahciplnhfaaMScriptBytesx8
namespace Go.Proofs.Ytecbahciplnhfaa.MScriptBytes
open Go.RowKit Go.Proofs.YtecbahciplnhfaaW.PrintWords Go.Proofs.YtecbahciplnhfaaW.PrintLast Go.Proofs.YtecbahciplnhfaaW.PrintMore
attribute [local go_sem] max2_int min2_int max_two min_two max_three min_three max_four min_four   -- for this text's walks alone
set_option linter.unusedVariables false
set_option linter.unusedSimpArgs false

end Go.Proofs.Ytecbahciplnhfaa.MScriptBytes
