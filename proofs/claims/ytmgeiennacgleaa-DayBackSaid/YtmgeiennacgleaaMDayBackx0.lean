-- This text was written by a program of this session (a changed scratch copy of a tool of the kit; NOTES.md tells the changes).
import Derived.Test.YtmgeiennacgleaaProg
import Derived.Below
import Derived.Deep.Draws
import Derived.Deep.AppendLies
import Derived.Maps.AppendAt
import Derived.OwnWalk
import Derived.Laws.BytesArg
import Derived.Laws.MakeOwn
import Derived.Laws.OwnMore
import Derived.Deep.OwnRows
import Derived.Tactics
import Derived.Lib.ConvBytes
import Derived.Laws.Slices
import Derived.WalkKit
import Derived.KernelRfl
import Derived.RowKit3
import Derived.Deep.LoopGhost
import Derived.Deep.QuietTactic
import Derived.BigQuiet
import Derived.WideLaws
import Derived.Deep.DeepCutAuto
import Derived.Deep.CutBlock
import Derived.Deep.RegionHeld3
import Derived.Laws.Rows
import Derived.Lib.AppendStr
import Derived.ArgAppend
import Derived.Laws.IdiomCopy
import Derived.OrdersHeld
import Derived.Laws.BitsLemmas
import Derived.RowKit
import Derived.Laws.Externs
import Derived.Lib.Strings
import Derived.Lib.Walk
import Derived.Lib.BufferWrite
import Derived.Lib.UnsafeStr
import Derived.Lib.Hide
import Derived.Test.YtmgeiennacgleaaWWords
import Derived.Test.YtmgeiennacgleaaWLast
import Derived.Test.YtmgeiennacgleaaWTab
import Derived.Test.YtmgeiennacgleaaWFour
import Derived.Test.YtmgeiennacgleaaWQPut
import Derived.Test.YtmgeiennacgleaaWApart
import Derived.Test.YtmgeiennacgleaaWArr
import Derived.Test.YtmgeiennacgleaaWZeros
import Derived.Test.YtmgeiennacgleaaWFoot
import Derived.Test.YtmgeiennacgleaaWKept
import Derived.Test.YtmgeiennacgleaaWShare
import Derived.Test.YtmgeiennacgleaaWN
import Derived.Test.YtmgeiennacgleaaWFootNe
import Derived.Test.YtmgeiennacgleaaWAt
import Derived.Test.YtmgeiennacgleaaWEqStruct
import Derived.Test.YtmgeiennacgleaaWRepsOne
import Derived.Test.YtmgeiennacgleaaWInv
import Derived.Test.YtmgeiennacgleaaWInvWords
import Derived.Test.YtmgeiennacgleaaWGuard
import Derived.Test.YtmgeiennacgleaaWNEv
import Derived.Test.YtmgeiennacgleaaWMore
namespace Go.Proofs.Ytmgeiennacgleaa.MDayBack
open Go.RowKit Go.Proofs.YtmgeiennacgleaaW.PrintWords Go.Proofs.YtmgeiennacgleaaW.PrintLast Go.Proofs.YtmgeiennacgleaaW.PrintMore
attribute [local go_sem] max2_int min2_int max_two min_two max_three min_three max_four min_four   -- for this text's walks alone
set_option linter.unusedVariables false
set_option linter.unusedSimpArgs false



def errW : Option Int → Value
  | none => .nilIface
  | some c => .iface 38 (.int .i64 c)
theorem errW_none : errW none = .nilIface := rfl
theorem errW_some (c : Int) : errW (some c) = .iface 38 (.int .i64 c) := rfl


-- the values' own types

end Go.Proofs.Ytmgeiennacgleaa.MDayBack
