-- This text was written by a program of this session (a changed scratch copy of a tool of the kit; NOTES.md tells the changes).
import Derived.Test.YtcjmanlcogeikaaProg
import Derived.Below
import Derived.Deep.Draws
import Derived.Deep.AppendLies
import Derived.Maps.AppendAt
import Derived.OwnWalk
import Derived.Laws.BytesArg
import Derived.Laws.MakeOwn
import Derived.Laws.OwnMore
import Derived.Deep.OwnRows
import Derived.Tactics
import Derived.Lib.ConvBytes
import Derived.Laws.Slices
import Derived.WalkKit
import Derived.KernelRfl
import Derived.RowKit3
import Derived.Deep.LoopGhost
import Derived.Deep.QuietTactic
import Derived.BigQuiet
import Derived.WideLaws
import Derived.Deep.DeepCutAuto
import Derived.Deep.CutBlock
import Derived.Deep.RegionHeld3
import Derived.Laws.Rows
import Derived.Lib.AppendStr
import Derived.ArgAppend
import Derived.Laws.IdiomCopy
import Derived.OrdersHeld
import Derived.Laws.BitsLemmas
import Derived.RowKit
import Derived.Laws.Externs
import Derived.Lib.Strings
import Derived.Lib.Walk
import Derived.Lib.BufferWrite
import Derived.Lib.UnsafeStr
import Derived.Lib.Hide
import Derived.Test.YtcjmanlcogeikaaWWords
import Derived.Test.YtcjmanlcogeikaaWLast
import Derived.Test.YtcjmanlcogeikaaWTab
import Derived.Test.YtcjmanlcogeikaaWFour
import Derived.Test.YtcjmanlcogeikaaWQPut
import Derived.Test.YtcjmanlcogeikaaWApart
import Derived.Test.YtcjmanlcogeikaaWArr
import Derived.Test.YtcjmanlcogeikaaWZeros
import Derived.Test.YtcjmanlcogeikaaWFoot
import Derived.Test.YtcjmanlcogeikaaWKept
import Derived.Test.YtcjmanlcogeikaaWShare
import Derived.Test.YtcjmanlcogeikaaWN
import Derived.Test.YtcjmanlcogeikaaWFootNe
import Derived.Test.YtcjmanlcogeikaaWAt
import Derived.Test.YtcjmanlcogeikaaWEqStruct
import Derived.Test.YtcjmanlcogeikaaWRepsOne
import Derived.Test.YtcjmanlcogeikaaWInv
import Derived.Test.YtcjmanlcogeikaaWInvWords
import Derived.Test.YtcjmanlcogeikaaWGuard
import Derived.Test.YtcjmanlcogeikaaWNEv
import Derived.Test.YtcjmanlcogeikaaWMore
namespace Go.Proofs.Ytcjmanlcogeikaa.MEraBits
open Go.RowKit Go.Proofs.YtcjmanlcogeikaaW.PrintWords Go.Proofs.YtcjmanlcogeikaaW.PrintLast Go.Proofs.YtcjmanlcogeikaaW.PrintMore
attribute [local go_sem] max2_int min2_int max_two min_two max_three min_three max_four min_four   -- for this text's walks alone
set_option linter.unusedVariables false
set_option linter.unusedSimpArgs false



def errW : Option Int → Value
  | none => .nilIface
  | some c => .iface 47 (.int .i64 c)
theorem errW_none : errW none = .nilIface := rfl
theorem errW_some (c : Int) : errW (some c) = .iface 47 (.int .i64 c) := rfl


theorem info37 : (Try.prog.info? 37).map (fun i => (i.zero, i.size, i.bytes)) = some (some (.int .u64 0), 1, 8) := by kernel_rfl
-- the values' own types

end Go.Proofs.Ytcjmanlcogeikaa.MEraBits
