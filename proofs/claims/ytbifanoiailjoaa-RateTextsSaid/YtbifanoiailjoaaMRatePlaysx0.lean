-- This text was written by a program of this session (a changed scratch copy of a tool of the kit; NOTES.md tells the changes).
import Derived.Test.YtbifanoiailjoaaProg
import Derived.Below
import Derived.Deep.Draws
import Derived.Deep.AppendLies
import Derived.Maps.AppendAt
import Derived.OwnWalk
import Derived.Laws.BytesArg
import Derived.Laws.MakeOwn
import Derived.Laws.OwnMore
import Derived.Deep.OwnRows
import Derived.Tactics
import Derived.Lib.ConvBytes
import Derived.Laws.Slices
import Derived.WalkKit
import Derived.KernelRfl
import Derived.RowKit3
import Derived.Deep.LoopGhost
import Derived.Deep.QuietTactic
import Derived.BigQuiet
import Derived.WideLaws
import Derived.Deep.DeepCutAuto
import Derived.Deep.CutBlock
import Derived.Deep.RegionHeld3
import Derived.Laws.Rows
import Derived.Lib.AppendStr
import Derived.ArgAppend
import Derived.Laws.IdiomCopy
import Derived.OrdersHeld
import Derived.Laws.BitsLemmas
import Derived.RowKit
import Derived.Laws.Externs
import Derived.Lib.Strings
import Derived.Lib.Walk
import Derived.Lib.BufferWrite
import Derived.Lib.UnsafeStr
import Derived.Lib.Hide
import Derived.Lib.SliceRun
import Derived.Test.YtbifanoiailjoaaWWords
import Derived.Test.YtbifanoiailjoaaWLast
import Derived.Test.YtbifanoiailjoaaWTab
import Derived.Test.YtbifanoiailjoaaWFour
import Derived.Test.YtbifanoiailjoaaWQPut
import Derived.Test.YtbifanoiailjoaaWApart
import Derived.Test.YtbifanoiailjoaaWArr
import Derived.Test.YtbifanoiailjoaaWZeros
import Derived.Test.YtbifanoiailjoaaWFoot
import Derived.Test.YtbifanoiailjoaaWKept
import Derived.Test.YtbifanoiailjoaaWShare
import Derived.Test.YtbifanoiailjoaaWN
import Derived.Test.YtbifanoiailjoaaWFootNe
import Derived.Test.YtbifanoiailjoaaWAt
import Derived.Test.YtbifanoiailjoaaWEqStruct
import Derived.Test.YtbifanoiailjoaaWRepsOne
import Derived.Test.YtbifanoiailjoaaWInv
import Derived.Test.YtbifanoiailjoaaWInvWords
import Derived.Test.YtbifanoiailjoaaWGuard
import Derived.Test.YtbifanoiailjoaaWNEv
import Derived.Test.YtbifanoiailjoaaWMore
namespace Go.Proofs.Ytbifanoiailjoaa.MRatePlays
open Go.RowKit Go.Proofs.YtbifanoiailjoaaW.PrintWords Go.Proofs.YtbifanoiailjoaaW.PrintLast Go.Proofs.YtbifanoiailjoaaW.PrintMore
attribute [local go_sem] max2_int min2_int max_two min_two max_three min_three max_four min_four   -- for this text's walks alone
set_option linter.unusedVariables false
set_option linter.unusedSimpArgs false



def errW : Option Int → Value
  | none => .nilIface
  | some c => .iface 49 (.int .i64 c)
theorem errW_none : errW none = .nilIface := rfl
theorem errW_some (c : Int) : errW (some c) = .iface 49 (.int .i64 c) := rfl


-- the values' own types
/-! #### struct type 60 -/
structure S60 where
  f0 : ByteArray
  f1 : Int
  f2 : Bool
def z60 : S60 := ⟨(⟨#[]⟩ : ByteArray), (0 : Int), false⟩
def rd_T60 (xs : List S60) (i : Int) : S60 := xs.getD i.toNat z60
/-! #### struct type 94 -/
structure S94 where
  f0 : Int
  f1 : Int
  f2 : Bool
/-! #### struct type 37 -/
structure S37 where
  f0 : Int
  f1 : Int
  f2 : Bool
def z37 : S37 := ⟨(0 : Int), (0 : Int), false⟩
def rd_T37 (xs : List S37) (i : Int) : S37 := xs.getD i.toNat z37
end Go.Proofs.Ytbifanoiailjoaa.MRatePlays
