-- This text was written by a program of this session (a changed scratch copy of a tool of the kit; NOTES.md tells the changes).
import Derived.Test.YtjffbdgidddbjaaProg
import Derived.Below
import Derived.Deep.Draws
import Derived.Deep.AppendLies
import Derived.Maps.AppendAt
import Derived.OwnWalk
import Derived.Laws.BytesArg
import Derived.Laws.MakeOwn
import Derived.Laws.OwnMore
import Derived.Deep.OwnRows
import Derived.Tactics
import Derived.Lib.ConvBytes
import Derived.Laws.Slices
import Derived.WalkKit
import Derived.KernelRfl
import Derived.RowKit3
import Derived.Deep.LoopGhost
import Derived.Deep.QuietTactic
import Derived.BigQuiet
import Derived.WideLaws
import Derived.Deep.DeepCutAuto
import Derived.Deep.CutBlock
import Derived.Deep.RegionHeld3
import Derived.Laws.Rows
import Derived.Lib.AppendStr
import Derived.ArgAppend
import Derived.Laws.IdiomCopy
import Derived.OrdersHeld
import Derived.Laws.BitsLemmas
import Derived.RowKit
import Derived.Laws.Externs
import Derived.Lib.Strings
import Derived.Lib.Walk
import Derived.Lib.BufferWrite
import Derived.Lib.UnsafeStr
import Derived.Lib.Hide
import Derived.Lib.SliceRun
import Derived.RangeFuncNested
import Derived.RangeFuncBound
import Derived.RangeFuncCalls
import Derived.RangeFuncLeaves
import Derived.OwnWalkIn
import Derived.TacticsInMore
import Derived.LoopNIn
import Derived.LoopIn
import Derived.Maps.AppendAt
import Derived.Test.YtjffbdgidddbjaaWWords
import Derived.Test.YtjffbdgidddbjaaWLast
import Derived.Test.YtjffbdgidddbjaaWTab
import Derived.Test.YtjffbdgidddbjaaWFour
import Derived.Test.YtjffbdgidddbjaaWQPut
import Derived.Test.YtjffbdgidddbjaaWApart
import Derived.Test.YtjffbdgidddbjaaWArr
import Derived.Test.YtjffbdgidddbjaaWZeros
import Derived.Test.YtjffbdgidddbjaaWFoot
import Derived.Test.YtjffbdgidddbjaaWKept
import Derived.Test.YtjffbdgidddbjaaWShare
import Derived.Test.YtjffbdgidddbjaaWN
import Derived.Test.YtjffbdgidddbjaaWFootNe
import Derived.Test.YtjffbdgidddbjaaWAt
import Derived.Test.YtjffbdgidddbjaaWEqStruct
import Derived.Test.YtjffbdgidddbjaaWRepsOne
import Derived.Test.YtjffbdgidddbjaaWInv
import Derived.Test.YtjffbdgidddbjaaWInvWords
import Derived.Test.YtjffbdgidddbjaaWGuard
import Derived.Test.YtjffbdgidddbjaaWNEv
import Derived.Test.YtjffbdgidddbjaaWMore
namespace Go.Proofs.Ytjffbdgidddbjaa.MSha1Sums
open Go.RowKit Go.Proofs.YtjffbdgidddbjaaW.PrintWords Go.Proofs.YtjffbdgidddbjaaW.PrintLast Go.Proofs.YtjffbdgidddbjaaW.PrintMore
attribute [local go_sem] max2_int min2_int max_two min_two max_three min_three max_four min_four   -- for this text's walks alone
set_option linter.unusedVariables false
set_option linter.unusedSimpArgs false



def errW : Option Int → Value
  | none => .nilIface
  | some c => .iface 71 (.int .i64 c)
theorem errW_none : errW none = .nilIface := rfl
theorem errW_some (c : Int) : errW (some c) = .iface 71 (.int .i64 c) := rfl


theorem info5 : (Try.prog.info? 5).map (fun i => (i.zero, i.size, i.bytes)) = some (some (.int .u8 0), 1, 1) := by kernel_rfl
theorem info27 : (Try.prog.info? 27).map (fun i => (i.zero, i.size, i.bytes)) = some (some (.int .u32 0), 1, 4) := by kernel_rfl
-- the values' own types

end Go.Proofs.Ytjffbdgidddbjaa.MSha1Sums
