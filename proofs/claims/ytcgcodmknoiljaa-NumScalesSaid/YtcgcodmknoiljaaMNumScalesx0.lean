-- This text was written by a program of this session (a changed scratch copy of a tool of the kit; NOTES.md tells the changes).
import Derived.Test.YtcgcodmknoiljaaProg
import Derived.Below
import Derived.Deep.Draws
import Derived.Deep.AppendLies
import Derived.Maps.AppendAt
import Derived.OwnWalk
import Derived.Laws.BytesArg
import Derived.Laws.MakeOwn
import Derived.Laws.OwnMore
import Derived.Deep.OwnRows
import Derived.Tactics
import Derived.Lib.ConvBytes
import Derived.Laws.Slices
import Derived.WalkKit
import Derived.KernelRfl
import Derived.RowKit3
import Derived.Deep.LoopGhost
import Derived.Deep.QuietTactic
import Derived.BigQuiet
import Derived.WideLaws
import Derived.Deep.DeepCutAuto
import Derived.Deep.CutBlock
import Derived.Deep.RegionHeld3
import Derived.Laws.Rows
import Derived.Lib.AppendStr
import Derived.ArgAppend
import Derived.Laws.IdiomCopy
import Derived.OrdersHeld
import Derived.Laws.BitsLemmas
import Derived.RowKit
import Derived.Laws.Externs
import Derived.Lib.Strings
import Derived.Lib.Walk
import Derived.Lib.BufferWrite
import Derived.Lib.UnsafeStr
import Derived.Lib.Hide
import Derived.Test.YtcgcodmknoiljaaWWords
import Derived.Test.YtcgcodmknoiljaaWLast
import Derived.Test.YtcgcodmknoiljaaWTab
import Derived.Test.YtcgcodmknoiljaaWFour
import Derived.Test.YtcgcodmknoiljaaWQPut
import Derived.Test.YtcgcodmknoiljaaWApart
import Derived.Test.YtcgcodmknoiljaaWArr
import Derived.Test.YtcgcodmknoiljaaWZeros
import Derived.Test.YtcgcodmknoiljaaWFoot
import Derived.Test.YtcgcodmknoiljaaWKept
import Derived.Test.YtcgcodmknoiljaaWShare
import Derived.Test.YtcgcodmknoiljaaWN
import Derived.Test.YtcgcodmknoiljaaWFootNe
import Derived.Test.YtcgcodmknoiljaaWAt
import Derived.Test.YtcgcodmknoiljaaWEqStruct
import Derived.Test.YtcgcodmknoiljaaWRepsOne
import Derived.Test.YtcgcodmknoiljaaWInv
import Derived.Test.YtcgcodmknoiljaaWInvWords
import Derived.Test.YtcgcodmknoiljaaWGuard
import Derived.Test.YtcgcodmknoiljaaWNEv
import Derived.Test.YtcgcodmknoiljaaWMore
namespace Go.Proofs.Ytcgcodmknoiljaa.MNumScales
open Go.RowKit Go.Proofs.YtcgcodmknoiljaaW.PrintWords Go.Proofs.YtcgcodmknoiljaaW.PrintLast Go.Proofs.YtcgcodmknoiljaaW.PrintMore
attribute [local go_sem] max2_int min2_int max_two min_two max_three min_three max_four min_four   -- for this text's walks alone
set_option linter.unusedVariables false
set_option linter.unusedSimpArgs false



def errW : Option Int → Value
  | none => .nilIface
  | some c => .iface 30 (.int .i64 c)
theorem errW_none : errW none = .nilIface := rfl
theorem errW_some (c : Int) : errW (some c) = .iface 30 (.int .i64 c) := rfl


theorem info51 : (Try.prog.info? 51).map (fun i => (i.zero, i.size, i.bytes)) = some (some (.int .u64 0), 1, 8) := by kernel_rfl
-- the values' own types

end Go.Proofs.Ytcgcodmknoiljaa.MNumScales
