-- This text was written by a program of this session (a changed scratch copy of a tool of the kit; NOTES.md tells the changes).
import Derived.Test.YtpjognepdelocaaProg
import Derived.Below
import Derived.Deep.Draws
import Derived.Deep.AppendLies
import Derived.Maps.AppendAt
import Derived.OwnWalk
import Derived.Laws.BytesArg
import Derived.Laws.MakeOwn
import Derived.Laws.OwnMore
import Derived.Deep.OwnRows
import Derived.Tactics
import Derived.Lib.ConvBytes
import Derived.Laws.Slices
import Derived.WalkKit
import Derived.KernelRfl
import Derived.RowKit3
import Derived.Deep.LoopGhost
import Derived.Deep.QuietTactic
import Derived.BigQuiet
import Derived.WideLaws
import Derived.Deep.DeepCutAuto
import Derived.Deep.CutBlock
import Derived.Deep.RegionHeld3
import Derived.Laws.Rows
import Derived.Lib.AppendStr
import Derived.ArgAppend
import Derived.Laws.IdiomCopy
import Derived.OrdersHeld
import Derived.Laws.BitsLemmas
import Derived.RowKit
import Derived.Laws.Externs
import Derived.Test.YtpjognepdelocaaWWords
import Derived.Test.YtpjognepdelocaaWLast
import Derived.Test.YtpjognepdelocaaWTab
import Derived.Test.YtpjognepdelocaaWFour
import Derived.Test.YtpjognepdelocaaWQPut
import Derived.Test.YtpjognepdelocaaWApart
import Derived.Test.YtpjognepdelocaaWArr
import Derived.Test.YtpjognepdelocaaWZeros
import Derived.Test.YtpjognepdelocaaWFoot
import Derived.Test.YtpjognepdelocaaWKept
import Derived.Test.YtpjognepdelocaaWShare
import Derived.Test.YtpjognepdelocaaWN
import Derived.Test.YtpjognepdelocaaWFootNe
import Derived.Test.YtpjognepdelocaaWAt
import Derived.Test.YtpjognepdelocaaWEqStruct
import Derived.Test.YtpjognepdelocaaWRepsOne
import Derived.Test.YtpjognepdelocaaWInv
import Derived.Test.YtpjognepdelocaaWInvWords
import Derived.Test.YtpjognepdelocaaWGuard
import Derived.Test.YtpjognepdelocaaWNEv
import Derived.Test.YtpjognepdelocaaWMore
namespace Go.Proofs.Ytpjognepdelocaa.MSteadySplits
open Go.RowKit Go.Proofs.YtpjognepdelocaaW.PrintWords Go.Proofs.YtpjognepdelocaaW.PrintLast Go.Proofs.YtpjognepdelocaaW.PrintMore
attribute [local go_sem] max2_int min2_int max_two min_two max_three min_three max_four min_four   -- for this text's walks alone
set_option linter.unusedVariables false
set_option linter.unusedSimpArgs false



def errW : Option Int → Value
  | none => .nilIface
  | some c => .iface 39 (.int .i64 c)
theorem errW_none : errW none = .nilIface := rfl
theorem errW_some (c : Int) : errW (some c) = .iface 39 (.int .i64 c) := rfl

def add64s (x y : Int) : Int := (((x.toNat + y.toNat) % 18446744073709551616 : Nat) : Int)
def add64c (x y : Int) : Int := (((x.toNat + y.toNat) / 18446744073709551616 : Nat) : Int)
theorem add64_run (x y : Int) (w : World) : (callFunc 24 #[.int .u64 x, .int .u64 y, .int .u64 0]).run Try.prog w = .ok (.value (.tuple #[.int .u64 (add64s x y), .int .u64 (add64c x y)])) w := by
  rw [run_callFunc_extern Try.func24 (by kernel_rfl) (by kernel_rfl) (by kernel_rfl) (e := add64Entry) (by kernel_rfl)]
  rfl
attribute [go_sem] add64_run

-- the values' own types

end Go.Proofs.Ytpjognepdelocaa.MSteadySplits
