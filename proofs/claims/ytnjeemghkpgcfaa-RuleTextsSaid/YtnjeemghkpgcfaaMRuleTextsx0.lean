-- This text was written by a program of this session (a changed scratch copy of a tool of the kit; NOTES.md tells the changes).
import Derived.Test.YtnjeemghkpgcfaaProg
import Derived.Below
import Derived.Deep.Draws
import Derived.Deep.AppendLies
import Derived.Maps.AppendAt
import Derived.OwnWalk
import Derived.Laws.BytesArg
import Derived.Laws.MakeOwn
import Derived.Laws.OwnMore
import Derived.Deep.OwnRows
import Derived.Tactics
import Derived.Lib.ConvBytes
import Derived.Laws.Slices
import Derived.WalkKit
import Derived.KernelRfl
import Derived.RowKit3
import Derived.Deep.LoopGhost
import Derived.Deep.QuietTactic
import Derived.BigQuiet
import Derived.WideLaws
import Derived.Deep.DeepCutAuto
import Derived.Deep.CutBlock
import Derived.Deep.RegionHeld3
import Derived.Laws.Rows
import Derived.Lib.AppendStr
import Derived.ArgAppend
import Derived.Laws.IdiomCopy
import Derived.OrdersHeld
import Derived.Laws.BitsLemmas
import Derived.RowKit
import Derived.Laws.Externs
import Derived.Lib.Strings
import Derived.Lib.Walk
import Derived.Lib.BufferWrite
import Derived.Lib.UnsafeStr
import Derived.Lib.Hide
import Derived.Test.YtnjeemghkpgcfaaWWords
import Derived.Test.YtnjeemghkpgcfaaWLast
import Derived.Test.YtnjeemghkpgcfaaWTab
import Derived.Test.YtnjeemghkpgcfaaWFour
import Derived.Test.YtnjeemghkpgcfaaWQPut
import Derived.Test.YtnjeemghkpgcfaaWApart
import Derived.Test.YtnjeemghkpgcfaaWArr
import Derived.Test.YtnjeemghkpgcfaaWZeros
import Derived.Test.YtnjeemghkpgcfaaWFoot
import Derived.Test.YtnjeemghkpgcfaaWKept
import Derived.Test.YtnjeemghkpgcfaaWShare
import Derived.Test.YtnjeemghkpgcfaaWN
import Derived.Test.YtnjeemghkpgcfaaWFootNe
import Derived.Test.YtnjeemghkpgcfaaWAt
import Derived.Test.YtnjeemghkpgcfaaWEqStruct
import Derived.Test.YtnjeemghkpgcfaaWRepsOne
import Derived.Test.YtnjeemghkpgcfaaWInv
import Derived.Test.YtnjeemghkpgcfaaWInvWords
import Derived.Test.YtnjeemghkpgcfaaWGuard
import Derived.Test.YtnjeemghkpgcfaaWNEv
import Derived.Test.YtnjeemghkpgcfaaWMore
namespace Go.Proofs.Ytnjeemghkpgcfaa.MRuleTexts
open Go.RowKit Go.Proofs.YtnjeemghkpgcfaaW.PrintWords Go.Proofs.YtnjeemghkpgcfaaW.PrintLast Go.Proofs.YtnjeemghkpgcfaaW.PrintMore
attribute [local go_sem] max2_int min2_int max_two min_two max_three min_three max_four min_four   -- for this text's walks alone
set_option linter.unusedVariables false
set_option linter.unusedSimpArgs false



def errW : Option Int → Value
  | none => .nilIface
  | some c => .iface 49 (.int .i64 c)
theorem errW_none : errW none = .nilIface := rfl
theorem errW_some (c : Int) : errW (some c) = .iface 49 (.int .i64 c) := rfl

def idxb (s : ByteArray) (c : Int) : Int := firstIdx s c.toNat.toUInt8
theorem idxb_run (s : ByteArray) (c : Int) (w : World) : (callFunc 86 #[.string s, .int .u8 c]).run Try.prog w = .ok (.value (.int .i64 (idxb s c))) w := by
  rw [run_callFunc_extern Try.func86 (by kernel_rfl) (by kernel_rfl) (by kernel_rfl) (e := Extern.BytealgIndexByte.indexByte) (by kernel_rfl), run_indexByte_string]
  rfl
attribute [go_sem] idxb_run

theorem info5 : (Try.prog.info? 5).map (fun i => (i.zero, i.size, i.bytes)) = some (some (.int .u8 0), 1, 1) := by kernel_rfl
theorem info9 : (Try.prog.info? 9).map (fun i => (i.zero, i.size, i.bytes)) = some (some (.string ⟨#[]⟩), 1, 16) := by kernel_rfl
-- the values' own types

end Go.Proofs.Ytnjeemghkpgcfaa.MRuleTexts
