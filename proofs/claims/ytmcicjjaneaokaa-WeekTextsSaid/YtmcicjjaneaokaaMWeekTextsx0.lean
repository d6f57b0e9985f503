-- This text was written by a program of this session (a changed scratch copy of a tool of the kit; NOTES.md tells the changes).
import Derived.Test.YtmcicjjaneaokaaProg
import Derived.Below
import Derived.Deep.Draws
import Derived.Deep.AppendLies
import Derived.Maps.AppendAt
import Derived.OwnWalk
import Derived.Laws.BytesArg
import Derived.Laws.MakeOwn
import Derived.Laws.OwnMore
import Derived.Deep.OwnRows
import Derived.Tactics
import Derived.Lib.ConvBytes
import Derived.Laws.Slices
import Derived.WalkKit
import Derived.KernelRfl
import Derived.RowKit3
import Derived.Deep.LoopGhost
import Derived.Deep.QuietTactic
import Derived.BigQuiet
import Derived.WideLaws
import Derived.Deep.DeepCutAuto
import Derived.Deep.CutBlock
import Derived.Deep.RegionHeld3
import Derived.Laws.Rows
import Derived.Lib.AppendStr
import Derived.ArgAppend
import Derived.Laws.IdiomCopy
import Derived.OrdersHeld
import Derived.Laws.BitsLemmas
import Derived.RowKit
import Derived.Laws.Externs
import Derived.Lib.Strings
import Derived.Lib.Walk
import Derived.Lib.BufferWrite
import Derived.Lib.UnsafeStr
import Derived.Lib.Hide
import Derived.Test.YtmcicjjaneaokaaWWords
import Derived.Test.YtmcicjjaneaokaaWLast
import Derived.Test.YtmcicjjaneaokaaWTab
import Derived.Test.YtmcicjjaneaokaaWFour
import Derived.Test.YtmcicjjaneaokaaWQPut
import Derived.Test.YtmcicjjaneaokaaWApart
import Derived.Test.YtmcicjjaneaokaaWArr
import Derived.Test.YtmcicjjaneaokaaWZeros
import Derived.Test.YtmcicjjaneaokaaWFoot
import Derived.Test.YtmcicjjaneaokaaWKept
import Derived.Test.YtmcicjjaneaokaaWShare
import Derived.Test.YtmcicjjaneaokaaWN
import Derived.Test.YtmcicjjaneaokaaWFootNe
import Derived.Test.YtmcicjjaneaokaaWAt
import Derived.Test.YtmcicjjaneaokaaWEqStruct
import Derived.Test.YtmcicjjaneaokaaWRepsOne
import Derived.Test.YtmcicjjaneaokaaWInv
import Derived.Test.YtmcicjjaneaokaaWInvWords
import Derived.Test.YtmcicjjaneaokaaWGuard
import Derived.Test.YtmcicjjaneaokaaWNEv
import Derived.Test.YtmcicjjaneaokaaWMore
namespace Go.Proofs.Ytmcicjjaneaokaa.MWeekTexts
open Go.RowKit Go.Proofs.YtmcicjjaneaokaaW.PrintWords Go.Proofs.YtmcicjjaneaokaaW.PrintLast Go.Proofs.YtmcicjjaneaokaaW.PrintMore
attribute [local go_sem] max2_int min2_int max_two min_two max_three min_three max_four min_four   -- for this text's walks alone
set_option linter.unusedVariables false
set_option linter.unusedSimpArgs false



def errW : Option Int → Value
  | none => .nilIface
  | some c => .iface 31 (.int .i64 c)
theorem errW_none : errW none = .nilIface := rfl
theorem errW_some (c : Int) : errW (some c) = .iface 31 (.int .i64 c) := rfl

theorem arr50_run (f0 f1 f2 x : Int) (w : World) (h0 : 0 ≤ x) (h1 : x < 3) : (Instr.index 50 (.agg #[.int .i64 f0, .int .i64 f1, .int .i64 f2]) (.int .i64 x)).run Try.prog w = .ok (.int .i64 (rd [f0, f1, f2] x)) w := by
  have hx : x = 0 ∨ x = 1 ∨ x = 2 := by omega
  rcases hx with rfl | rfl | rfl <;> simp [Instr.index, run_underlying Try.underlying50, asIntOf, go_sem, rd]
attribute [go_sem] arr50_run

theorem info5 : (Try.prog.info? 5).map (fun i => (i.zero, i.size, i.bytes)) = some (some (.int .u8 0), 1, 1) := by kernel_rfl
theorem info83 : (Try.prog.info? 83).map (fun i => (i.zero, i.size, i.bytes)) = some (some (.int .u64 0), 1, 8) := by kernel_rfl
-- the values' own types

end Go.Proofs.Ytmcicjjaneaokaa.MWeekTexts
