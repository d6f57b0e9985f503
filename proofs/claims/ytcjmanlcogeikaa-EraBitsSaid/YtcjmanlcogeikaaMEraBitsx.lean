-- This text was written by a program of this session (a changed scratch copy of a tool of the kit; NOTES.md tells the changes).
import Derived.Test.YtcjmanlcogeikaaMEraBitsx0
import Derived.Test.YtcjmanlcogeikaaMEraBitsx1
import Derived.Test.YtcjmanlcogeikaaMEraBitsx2
import Derived.Test.YtcjmanlcogeikaaMEraBitsx3
import Derived.Test.YtcjmanlcogeikaaMEraBitsx4
import Derived.Test.YtcjmanlcogeikaaMEraBitsx5
import Derived.Test.YtcjmanlcogeikaaMEraBitsx6
namespace Go.Proofs.Ytcjmanlcogeikaa.MEraBits
open Go.RowKit Go.Proofs.YtcjmanlcogeikaaW.PrintWords Go.Proofs.YtcjmanlcogeikaaW.PrintLast Go.Proofs.YtcjmanlcogeikaaW.PrintMore
attribute [local go_sem] max2_int min2_int max_two min_two max_three min_three max_four min_four   -- for this text's walks alone
set_option linter.unusedVariables false
set_option linter.unusedSimpArgs false

end Go.Proofs.Ytcjmanlcogeikaa.MEraBits
