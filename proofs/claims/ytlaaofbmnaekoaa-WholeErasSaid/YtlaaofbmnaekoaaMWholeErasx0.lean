-- This text was written by a program of this session (a changed scratch copy of a tool of the kit; NOTES.md tells the changes).
import Derived.Test.YtlaaofbmnaekoaaProg
import Derived.Below
import Derived.Deep.Draws
import Derived.Deep.AppendLies
import Derived.Maps.AppendAt
import Derived.OwnWalk
import Derived.Laws.BytesArg
import Derived.Laws.MakeOwn
import Derived.Laws.OwnMore
import Derived.Deep.OwnRows
import Derived.Tactics
import Derived.Lib.ConvBytes
import Derived.Laws.Slices
import Derived.WalkKit
import Derived.KernelRfl
import Derived.RowKit3
import Derived.Deep.LoopGhost
import Derived.Deep.QuietTactic
import Derived.BigQuiet
import Derived.WideLaws
import Derived.Deep.DeepCutAuto
import Derived.Deep.CutBlock
import Derived.Deep.RegionHeld3
import Derived.Laws.Rows
import Derived.Lib.AppendStr
import Derived.ArgAppend
import Derived.Laws.IdiomCopy
import Derived.OrdersHeld
import Derived.Laws.BitsLemmas
import Derived.RowKit
import Derived.Test.YtlaaofbmnaekoaaWWords
import Derived.Test.YtlaaofbmnaekoaaWLast
import Derived.Test.YtlaaofbmnaekoaaWTab
import Derived.Test.YtlaaofbmnaekoaaWFour
import Derived.Test.YtlaaofbmnaekoaaWQPut
import Derived.Test.YtlaaofbmnaekoaaWApart
import Derived.Test.YtlaaofbmnaekoaaWArr
import Derived.Test.YtlaaofbmnaekoaaWZeros
import Derived.Test.YtlaaofbmnaekoaaWFoot
import Derived.Test.YtlaaofbmnaekoaaWKept
import Derived.Test.YtlaaofbmnaekoaaWShare
import Derived.Test.YtlaaofbmnaekoaaWN
import Derived.Test.YtlaaofbmnaekoaaWFootNe
import Derived.Test.YtlaaofbmnaekoaaWAt
import Derived.Test.YtlaaofbmnaekoaaWEqStruct
import Derived.Test.YtlaaofbmnaekoaaWRepsOne
import Derived.Test.YtlaaofbmnaekoaaWInv
import Derived.Test.YtlaaofbmnaekoaaWInvWords
import Derived.Test.YtlaaofbmnaekoaaWGuard
import Derived.Test.YtlaaofbmnaekoaaWNEv
import Derived.Test.YtlaaofbmnaekoaaWMore
namespace Go.Proofs.Ytlaaofbmnaekoaa.MWholeEras
open Go.RowKit Go.Proofs.YtlaaofbmnaekoaaW.PrintWords Go.Proofs.YtlaaofbmnaekoaaW.PrintLast Go.Proofs.YtlaaofbmnaekoaaW.PrintMore
attribute [local go_sem] max2_int min2_int max_two min_two max_three min_three max_four min_four   -- for this text's walks alone
set_option linter.unusedVariables false
set_option linter.unusedSimpArgs false



def errW : Option Int → Value
  | none => .nilIface
  | some c => .iface 64 (.int .i64 c)
theorem errW_none : errW none = .nilIface := rfl
theorem errW_some (c : Int) : errW (some c) = .iface 64 (.int .i64 c) := rfl

-- the values' own types

end Go.Proofs.Ytlaaofbmnaekoaa.MWholeEras
