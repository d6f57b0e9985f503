-- This text was written by a program of this session (a changed scratch copy of a tool of the kit; NOTES.md tells the changes).
import Derived.Test.YtjffbdgidddbjaaMSha1Sumsx0
import Derived.Test.YtjffbdgidddbjaaMSha1Sumsx1
import Derived.Test.YtjffbdgidddbjaaMSha1Sumsx2
import Derived.Test.YtjffbdgidddbjaaMSha1Sumsx3
import Derived.Test.YtjffbdgidddbjaaMSha1Sumsx4
import Derived.Test.YtjffbdgidddbjaaMSha1Sumsx5
namespace Go.Proofs.Ytjffbdgidddbjaa.MSha1Sums
open Go.RowKit Go.Proofs.YtjffbdgidddbjaaW.PrintWords Go.Proofs.YtjffbdgidddbjaaW.PrintLast Go.Proofs.YtjffbdgidddbjaaW.PrintMore
attribute [local go_sem] max2_int min2_int max_two min_two max_three min_three max_four min_four   -- for this text's walks alone
set_option linter.unusedVariables false
set_option linter.unusedSimpArgs false

end Go.Proofs.Ytjffbdgidddbjaa.MSha1Sums
