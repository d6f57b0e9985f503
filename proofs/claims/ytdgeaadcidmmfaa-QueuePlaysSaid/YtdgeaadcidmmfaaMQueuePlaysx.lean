-- This text was written by a program of this session (a changed scratch copy of a tool of the kit; NOTES.md tells the changes).
import Derived.Test.YtdgeaadcidmmfaaMQueuePlaysx0
import Derived.Test.YtdgeaadcidmmfaaMQueuePlaysx1
import Derived.Test.YtdgeaadcidmmfaaMQueuePlaysx2
namespace Go.Proofs.Ytdgeaadcidmmfaa.MQueuePlays
open Go.RowKit Go.Proofs.YtdgeaadcidmmfaaW.PrintWords Go.Proofs.YtdgeaadcidmmfaaW.PrintLast Go.Proofs.YtdgeaadcidmmfaaW.PrintMore
attribute [local go_sem] max2_int min2_int max_two min_two max_three min_three max_four min_four   -- for this text's walks alone
set_option linter.unusedVariables false
set_option linter.unusedSimpArgs false

end Go.Proofs.Ytdgeaadcidmmfaa.MQueuePlays
