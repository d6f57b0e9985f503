-- This text was written by a program of this session (a changed scratch copy of a tool of the kit; NOTES.md tells the changes).
import Derived.Test.YtlhjgkfhjmjcgaaProg
import Derived.Below
import Derived.Deep.Draws
import Derived.Deep.AppendLies
import Derived.Maps.AppendAt
import Derived.OwnWalk
import Derived.Laws.BytesArg
import Derived.Laws.MakeOwn
import Derived.Laws.OwnMore
import Derived.Deep.OwnRows
import Derived.Tactics
import Derived.Lib.ConvBytes
import Derived.Laws.Slices
import Derived.WalkKit
import Derived.KernelRfl
import Derived.RowKit3
import Derived.Deep.LoopGhost
import Derived.Deep.QuietTactic
import Derived.BigQuiet
import Derived.WideLaws
import Derived.Deep.DeepCutAuto
import Derived.Deep.CutBlock
import Derived.Deep.RegionHeld3
import Derived.Laws.Rows
import Derived.Lib.AppendStr
import Derived.ArgAppend
import Derived.Laws.IdiomCopy
import Derived.OrdersHeld
import Derived.Laws.BitsLemmas
import Derived.RowKit
import Derived.Test.YtlhjgkfhjmjcgaaWWords
import Derived.Test.YtlhjgkfhjmjcgaaWLast
import Derived.Test.YtlhjgkfhjmjcgaaWTab
import Derived.Test.YtlhjgkfhjmjcgaaWFour
import Derived.Test.YtlhjgkfhjmjcgaaWQPut
import Derived.Test.YtlhjgkfhjmjcgaaWApart
import Derived.Test.YtlhjgkfhjmjcgaaWArr
import Derived.Test.YtlhjgkfhjmjcgaaWZeros
import Derived.Test.YtlhjgkfhjmjcgaaWFoot
import Derived.Test.YtlhjgkfhjmjcgaaWKept
import Derived.Test.YtlhjgkfhjmjcgaaWShare
import Derived.Test.YtlhjgkfhjmjcgaaWN
import Derived.Test.YtlhjgkfhjmjcgaaWFootNe
import Derived.Test.YtlhjgkfhjmjcgaaWAt
import Derived.Test.YtlhjgkfhjmjcgaaWEqStruct
import Derived.Test.YtlhjgkfhjmjcgaaWRepsOne
import Derived.Test.YtlhjgkfhjmjcgaaWInv
import Derived.Test.YtlhjgkfhjmjcgaaWInvWords
import Derived.Test.YtlhjgkfhjmjcgaaWGuard
import Derived.Test.YtlhjgkfhjmjcgaaWNEv
import Derived.Test.YtlhjgkfhjmjcgaaWMore
namespace Go.Proofs.Ytlhjgkfhjmjcgaa.MMjdDays
open Go.RowKit Go.Proofs.YtlhjgkfhjmjcgaaW.PrintWords Go.Proofs.YtlhjgkfhjmjcgaaW.PrintLast Go.Proofs.YtlhjgkfhjmjcgaaW.PrintMore
attribute [local go_sem] max2_int min2_int max_two min_two max_three min_three max_four min_four   -- for this text's walks alone
set_option linter.unusedVariables false
set_option linter.unusedSimpArgs false



def errW : Option Int → Value
  | none => .nilIface
  | some c => .iface 42 (.int .i64 c)
theorem errW_none : errW none = .nilIface := rfl
theorem errW_some (c : Int) : errW (some c) = .iface 42 (.int .i64 c) := rfl

theorem info3 : (Try.prog.info? 3).map (fun i => (i.zero, i.size, i.bytes)) = some (some (.int .i64 0), 1, 8) := by kernel_rfl
theorem info64 : (Try.prog.info? 64).map (fun i => (i.zero, i.size, i.bytes)) = some (some (.int .u64 0), 1, 8) := by kernel_rfl
-- the values' own types

end Go.Proofs.Ytlhjgkfhjmjcgaa.MMjdDays
