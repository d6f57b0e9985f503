/-
  No cell of these rows narrows 'for every input' (looked for: loops, veiled, ifaces, maps, wideKeys, modest, calm, conditions, laid).
  DERIVED. THE GIVEN ROWS OF THIS SEAT. 4 by the template 'for every input the law returns true; each argument reads behind the call as it read before'; 0 by the template 'total and deterministic' (their statements: YtlhjgkfhjmjcgaaTotals.lean).
  GIVEN WITH THE SEED: the statements are not yours to turn. If you find one false, say at which input.
  Laid BY PROGRAM, IN A SANDBOX (cutbox-rows.mjs): the forced cells as the released guide's own fill.sh prints them over the translation 4fae78d31a21903d… (all of the seat's roots in one cut). By AI agents, Wed Nov 11 2026. No macro, syntax, notation, axiom, sorry.
-/
import Derived.Test.YtlhjgkfhjmjcgaaChecked
import GoSem.Claim
import GoSem.ClaimJoined
import GoSem.ClaimMapViews
import Derived.JoinedTies
import Derived.KernelRfl
namespace Go.Proofs.Ytlhjgkfhjmjcgaa
/- THE CELL 'sum', in the pinned program and in every row, IS THE sha256 OF THE DUMP (.gsa) THAT YtlhjgkfhjmjcgaaProg.lean LOADS. Nothing in Lean hashes anything: it is a label: what it is worth is what the hold of that sum in a sandbox is worth. -/
noncomputable def Try.pinned : Pinned := { name := "ytlhjgkfhjmjcgaa", sum := "4fae78d31a21903d9bd82c66aade45b79eef9598c3a1d24e3525fb0447bda4d1", checked := Try.checked }
namespace Rows
def none {H : Type} : Left H := { results := [], args := [] }

/-- 'horologelaw07.MjdCounts': WHATEVER THE INPUT: true; the input reads as it did. -/
def mjdCountsSpec : ChangeSpec := { name := "mjdCounts", fn := fun _ => fun
  | [d1, d2] => { results := [.lit (.bool true)], args := [d1, d2] }
  | _ => none }
def mjdCountsRow : OpenClaim := { program := "ytlhjgkfhjmjcgaa", sum := "4fae78d31a21903d9bd82c66aade45b79eef9598c3a1d24e3525fb0447bda4d1", func := "horologe/horologelaw07.MjdCounts", spec := "mjdCounts", apart := false }
def MjdCountsSaid : Prop := mjdCountsRow.holds Try.pinned (OpenSpec.ofChange mjdCountsSpec)

/-- ITS FALSE NEIGHBOUR: 'it returns false'. Refute it at one input. -/
def mjdCountsWrong : ChangeSpec := { name := "mjdCounts", fn := fun _ => fun
  | [d1, d2] => { results := [.lit (.bool false)], args := [d1, d2] }
  | _ => none }
def MjdCountsWrongFalsely : Prop := mjdCountsRow.holds Try.pinned (OpenSpec.ofChange mjdCountsWrong)

/-- 'horologelaw07.MjdFives': WHATEVER THE INPUT: true; the input reads as it did. -/
def mjdFivesSpec : ChangeSpec := { name := "mjdFives", fn := fun _ => fun
  | [d1, d2] => { results := [.lit (.bool true)], args := [d1, d2] }
  | _ => none }
def mjdFivesRow : OpenClaim := { program := "ytlhjgkfhjmjcgaa", sum := "4fae78d31a21903d9bd82c66aade45b79eef9598c3a1d24e3525fb0447bda4d1", func := "horologe/horologelaw07.MjdFives", spec := "mjdFives", apart := false }
def MjdFivesSaid : Prop := mjdFivesRow.holds Try.pinned (OpenSpec.ofChange mjdFivesSpec)

/-- ITS FALSE NEIGHBOUR: 'it returns false'. Refute it at one input. -/
def mjdFivesWrong : ChangeSpec := { name := "mjdFives", fn := fun _ => fun
  | [d1, d2] => { results := [.lit (.bool false)], args := [d1, d2] }
  | _ => none }
def MjdFivesWrongFalsely : Prop := mjdFivesRow.holds Try.pinned (OpenSpec.ofChange mjdFivesWrong)

/-- 'horologelaw07.MjdBack': WHATEVER THE INPUT: true; the input reads as it did. -/
def mjdBackSpec : ChangeSpec := { name := "mjdBack", fn := fun _ => fun
  | [d1, d2, d3] => { results := [.lit (.bool true)], args := [d1, d2, d3] }
  | _ => none }
def mjdBackRow : OpenClaim := { program := "ytlhjgkfhjmjcgaa", sum := "4fae78d31a21903d9bd82c66aade45b79eef9598c3a1d24e3525fb0447bda4d1", func := "horologe/horologelaw07.MjdBack", spec := "mjdBack", apart := false }
def MjdBackSaid : Prop := mjdBackRow.holds Try.pinned (OpenSpec.ofChange mjdBackSpec)

/-- ITS FALSE NEIGHBOUR: 'it returns false'. Refute it at one input. -/
def mjdBackWrong : ChangeSpec := { name := "mjdBack", fn := fun _ => fun
  | [d1, d2, d3] => { results := [.lit (.bool false)], args := [d1, d2, d3] }
  | _ => none }
def MjdBackWrongFalsely : Prop := mjdBackRow.holds Try.pinned (OpenSpec.ofChange mjdBackWrong)

/-- 'horologelaw07.MjdDays': WHATEVER THE INPUT: true; the input reads as it did. -/
def mjdDaysSpec : ChangeSpec := { name := "mjdDays", fn := fun _ => fun
  | [d1, d2, d3] => { results := [.lit (.bool true)], args := [d1, d2, d3] }
  | _ => none }
def mjdDaysRow : OpenClaim := { program := "ytlhjgkfhjmjcgaa", sum := "4fae78d31a21903d9bd82c66aade45b79eef9598c3a1d24e3525fb0447bda4d1", func := "horologe/horologelaw07.MjdDays", spec := "mjdDays", apart := false }
def MjdDaysSaid : Prop := mjdDaysRow.holds Try.pinned (OpenSpec.ofChange mjdDaysSpec)

/-- ITS FALSE NEIGHBOUR: 'it returns false'. Refute it at one input. -/
def mjdDaysWrong : ChangeSpec := { name := "mjdDays", fn := fun _ => fun
  | [d1, d2, d3] => { results := [.lit (.bool false)], args := [d1, d2, d3] }
  | _ => none }
def MjdDaysWrongFalsely : Prop := mjdDaysRow.holds Try.pinned (OpenSpec.ofChange mjdDaysWrong)

/- THE SECOND FORM. 'bulk': how many values and letters a reading holds, each counted each time it is reached (what is shared counts as often as it is met; a slice's spare places count too). A statement '..UptoSaid' is the law's where the arguments, and the package variables that the reading takes, are together of bulk at most 1048576: NARROWER than '..Said'. Prove '..Said' where nothing that the law and all that it calls make is longer than what came in: it says more and counts as full. Else prove '..UptoSaid'. A law counts once. -/
mutual
def uptoBulk {H : Type} : DataW H → Nat
  | .lit (.string bytes) => bytes.length + 1
  | .lit _ => 1
  | .nil => 1
  | .ptr d => uptoBulk d + 1
  | .slice elems spare => uptoBulkAll elems + uptoBulkAll spare + 1
  | .agg parts => uptoBulkAll parts + 1
  | .iface _ d => uptoBulk d + 1
  | .map entries => uptoBulkEntries entries + 1
  | .held _ => 1
def uptoBulkAll {H : Type} : List (DataW H) → Nat
  | [] => 0
  | d :: r => uptoBulk d + uptoBulkAll r
def uptoBulkEntries {H : Type} : List (Lit × DataW H) → Nat
  | [] => 0
  | x :: r => uptoBulkEntry x + uptoBulkEntries r
def uptoBulkEntry {H : Type} : Lit × DataW H → Nat
  | (.string bytes, d) => bytes.length + uptoBulk d + 1
  | (_, d) => uptoBulk d + 1
 end
def uptoSmall : (H : Type) → List (DataW H) → Bool := fun _ ds => decide (uptoBulkAll ds ≤ 1048576)
def OpenSpec.upto (s : _root_.Go.ChangeSpec) : _root_.Go.OpenSpec := { _root_.Go.OpenSpec.ofChange s with cond := some uptoSmall }

/-- 'horologelaw07.MjdCounts', WHERE WHAT IT READS IS OF BULK AT MOST 1048576: true; the input reads as it did. -/
def mjdCountsUptoRow : OpenClaim := { program := "ytlhjgkfhjmjcgaa", sum := "4fae78d31a21903d9bd82c66aade45b79eef9598c3a1d24e3525fb0447bda4d1", func := "horologe/horologelaw07.MjdCounts", spec := "mjdCounts", apart := false, narrowed := true }
def MjdCountsUptoSaid : Prop := mjdCountsUptoRow.holds Try.pinned (OpenSpec.upto mjdCountsSpec)

/-- 'horologelaw07.MjdFives', WHERE WHAT IT READS IS OF BULK AT MOST 1048576: true; the input reads as it did. -/
def mjdFivesUptoRow : OpenClaim := { program := "ytlhjgkfhjmjcgaa", sum := "4fae78d31a21903d9bd82c66aade45b79eef9598c3a1d24e3525fb0447bda4d1", func := "horologe/horologelaw07.MjdFives", spec := "mjdFives", apart := false, narrowed := true }
def MjdFivesUptoSaid : Prop := mjdFivesUptoRow.holds Try.pinned (OpenSpec.upto mjdFivesSpec)

/-- 'horologelaw07.MjdBack', WHERE WHAT IT READS IS OF BULK AT MOST 1048576: true; the input reads as it did. -/
def mjdBackUptoRow : OpenClaim := { program := "ytlhjgkfhjmjcgaa", sum := "4fae78d31a21903d9bd82c66aade45b79eef9598c3a1d24e3525fb0447bda4d1", func := "horologe/horologelaw07.MjdBack", spec := "mjdBack", apart := false, narrowed := true }
def MjdBackUptoSaid : Prop := mjdBackUptoRow.holds Try.pinned (OpenSpec.upto mjdBackSpec)

/-- 'horologelaw07.MjdDays', WHERE WHAT IT READS IS OF BULK AT MOST 1048576: true; the input reads as it did. -/
def mjdDaysUptoRow : OpenClaim := { program := "ytlhjgkfhjmjcgaa", sum := "4fae78d31a21903d9bd82c66aade45b79eef9598c3a1d24e3525fb0447bda4d1", func := "horologe/horologelaw07.MjdDays", spec := "mjdDays", apart := false, narrowed := true }
def MjdDaysUptoSaid : Prop := mjdDaysUptoRow.holds Try.pinned (OpenSpec.upto mjdDaysSpec)

end Rows
end Go.Proofs.Ytlhjgkfhjmjcgaa
