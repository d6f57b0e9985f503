/-
  No cell of these rows narrows 'for every input' (looked for: loops, veiled, ifaces, maps, wideKeys, modest, calm, conditions, laid).
  DERIVED. THE GIVEN ROWS OF THIS SEAT. 5 by the template 'for every input the law returns true; each argument reads behind the call as it read before'; 0 by the template 'total and deterministic' (their statements: YtmgeiennacgleaaTotals.lean).
  GIVEN WITH THE SEED: the statements are not yours to turn. If you find one false, say at which input.
  Laid BY PROGRAM, IN A SANDBOX (cutbox-rows.mjs): the forced cells as the released guide's own fill.sh prints them over the translation d0c41063fa8f23db… (all of the seat's roots in one cut). By AI agents, Wed Nov 11 2026. No macro, syntax, notation, axiom, sorry.
-/
import Derived.Test.YtmgeiennacgleaaChecked
import GoSem.Claim
import GoSem.ClaimJoined
import GoSem.ClaimMapViews
import Derived.JoinedTies
import Derived.KernelRfl
namespace Go.Proofs.Ytmgeiennacgleaa
/- THE CELL 'sum', in the pinned program and in every row, IS THE sha256 OF THE DUMP (.gsa) THAT YtmgeiennacgleaaProg.lean LOADS. Nothing in Lean hashes anything: it is a label: what it is worth is what the hold of that sum in a sandbox is worth. -/
noncomputable def Try.pinned : Pinned := { name := "ytmgeiennacgleaa", sum := "d0c41063fa8f23db40f910e6d61033102cd2c64a9e798e4986a7e99e3c4a6e6c", checked := Try.checked }
namespace Rows
def none {H : Type} : Left H := { results := [], args := [] }

/-- 'horologelaw05.DayWeeks': WHATEVER THE INPUT: true; the input reads as it did. -/
def dayWeeksSpec : ChangeSpec := { name := "dayWeeks", fn := fun _ => fun
  | [d1, d2] => { results := [.lit (.bool true)], args := [d1, d2] }
  | _ => none }
def dayWeeksRow : OpenClaim := { program := "ytmgeiennacgleaa", sum := "d0c41063fa8f23db40f910e6d61033102cd2c64a9e798e4986a7e99e3c4a6e6c", func := "horologe/horologelaw05.DayWeeks", spec := "dayWeeks", apart := false }
def DayWeeksSaid : Prop := dayWeeksRow.holds Try.pinned (OpenSpec.ofChange dayWeeksSpec)

/-- ITS FALSE NEIGHBOUR: 'it returns false'. Refute it at one input. -/
def dayWeeksWrong : ChangeSpec := { name := "dayWeeks", fn := fun _ => fun
  | [d1, d2] => { results := [.lit (.bool false)], args := [d1, d2] }
  | _ => none }
def DayWeeksWrongFalsely : Prop := dayWeeksRow.holds Try.pinned (OpenSpec.ofChange dayWeeksWrong)

/-- 'horologelaw05.DayDates': WHATEVER THE INPUT: true; the input reads as it did. -/
def dayDatesSpec : ChangeSpec := { name := "dayDates", fn := fun _ => fun
  | [d1, d2, d3] => { results := [.lit (.bool true)], args := [d1, d2, d3] }
  | _ => none }
def dayDatesRow : OpenClaim := { program := "ytmgeiennacgleaa", sum := "d0c41063fa8f23db40f910e6d61033102cd2c64a9e798e4986a7e99e3c4a6e6c", func := "horologe/horologelaw05.DayDates", spec := "dayDates", apart := false }
def DayDatesSaid : Prop := dayDatesRow.holds Try.pinned (OpenSpec.ofChange dayDatesSpec)

/-- ITS FALSE NEIGHBOUR: 'it returns false'. Refute it at one input. -/
def dayDatesWrong : ChangeSpec := { name := "dayDates", fn := fun _ => fun
  | [d1, d2, d3] => { results := [.lit (.bool false)], args := [d1, d2, d3] }
  | _ => none }
def DayDatesWrongFalsely : Prop := dayDatesRow.holds Try.pinned (OpenSpec.ofChange dayDatesWrong)

/-- 'horologelaw05.DayNumbers': WHATEVER THE INPUT: true; the input reads as it did. -/
def dayNumbersSpec : ChangeSpec := { name := "dayNumbers", fn := fun _ => fun
  | [d] => { results := [.lit (.bool true)], args := [d] }
  | _ => none }
def dayNumbersRow : OpenClaim := { program := "ytmgeiennacgleaa", sum := "d0c41063fa8f23db40f910e6d61033102cd2c64a9e798e4986a7e99e3c4a6e6c", func := "horologe/horologelaw05.DayNumbers", spec := "dayNumbers", apart := false }
def DayNumbersSaid : Prop := dayNumbersRow.holds Try.pinned (OpenSpec.ofChange dayNumbersSpec)

/-- ITS FALSE NEIGHBOUR: 'it returns false'. Refute it at one input. -/
def dayNumbersWrong : ChangeSpec := { name := "dayNumbers", fn := fun _ => fun
  | [d] => { results := [.lit (.bool false)], args := [d] }
  | _ => none }
def DayNumbersWrongFalsely : Prop := dayNumbersRow.holds Try.pinned (OpenSpec.ofChange dayNumbersWrong)

/-- 'horologelaw05.DayBack': WHATEVER THE INPUT: true; the input reads as it did. -/
def dayBackSpec : ChangeSpec := { name := "dayBack", fn := fun _ => fun
  | [d1, d2] => { results := [.lit (.bool true)], args := [d1, d2] }
  | _ => none }
def dayBackRow : OpenClaim := { program := "ytmgeiennacgleaa", sum := "d0c41063fa8f23db40f910e6d61033102cd2c64a9e798e4986a7e99e3c4a6e6c", func := "horologe/horologelaw05.DayBack", spec := "dayBack", apart := false }
def DayBackSaid : Prop := dayBackRow.holds Try.pinned (OpenSpec.ofChange dayBackSpec)

/-- ITS FALSE NEIGHBOUR: 'it returns false'. Refute it at one input. -/
def dayBackWrong : ChangeSpec := { name := "dayBack", fn := fun _ => fun
  | [d1, d2] => { results := [.lit (.bool false)], args := [d1, d2] }
  | _ => none }
def DayBackWrongFalsely : Prop := dayBackRow.holds Try.pinned (OpenSpec.ofChange dayBackWrong)

/-- 'horologelaw05.DayYears': WHATEVER THE INPUT: true; the input reads as it did. -/
def dayYearsSpec : ChangeSpec := { name := "dayYears", fn := fun _ => fun
  | [d1, d2] => { results := [.lit (.bool true)], args := [d1, d2] }
  | _ => none }
def dayYearsRow : OpenClaim := { program := "ytmgeiennacgleaa", sum := "d0c41063fa8f23db40f910e6d61033102cd2c64a9e798e4986a7e99e3c4a6e6c", func := "horologe/horologelaw05.DayYears", spec := "dayYears", apart := false }
def DayYearsSaid : Prop := dayYearsRow.holds Try.pinned (OpenSpec.ofChange dayYearsSpec)

/-- ITS FALSE NEIGHBOUR: 'it returns false'. Refute it at one input. -/
def dayYearsWrong : ChangeSpec := { name := "dayYears", fn := fun _ => fun
  | [d1, d2] => { results := [.lit (.bool false)], args := [d1, d2] }
  | _ => none }
def DayYearsWrongFalsely : Prop := dayYearsRow.holds Try.pinned (OpenSpec.ofChange dayYearsWrong)

/- THE SECOND FORM. 'bulk': how many values and letters a reading holds, each counted each time it is reached (what is shared counts as often as it is met; a slice's spare places count too). A statement '..UptoSaid' is the law's where the arguments, and the package variables that the reading takes, are together of bulk at most 1048576: NARROWER than '..Said'. Prove '..Said' where nothing that the law and all that it calls make is longer than what came in: it says more and counts as full. Else prove '..UptoSaid'. A law counts once. -/
mutual
def uptoBulk {H : Type} : DataW H → Nat
  | .lit (.string bytes) => bytes.length + 1
  | .lit _ => 1
  | .nil => 1
  | .ptr d => uptoBulk d + 1
  | .slice elems spare => uptoBulkAll elems + uptoBulkAll spare + 1
  | .agg parts => uptoBulkAll parts + 1
  | .iface _ d => uptoBulk d + 1
  | .map entries => uptoBulkEntries entries + 1
  | .held _ => 1
def uptoBulkAll {H : Type} : List (DataW H) → Nat
  | [] => 0
  | d :: r => uptoBulk d + uptoBulkAll r
def uptoBulkEntries {H : Type} : List (Lit × DataW H) → Nat
  | [] => 0
  | x :: r => uptoBulkEntry x + uptoBulkEntries r
def uptoBulkEntry {H : Type} : Lit × DataW H → Nat
  | (.string bytes, d) => bytes.length + uptoBulk d + 1
  | (_, d) => uptoBulk d + 1
 end
def uptoSmall : (H : Type) → List (DataW H) → Bool := fun _ ds => decide (uptoBulkAll ds ≤ 1048576)
def OpenSpec.upto (s : _root_.Go.ChangeSpec) : _root_.Go.OpenSpec := { _root_.Go.OpenSpec.ofChange s with cond := some uptoSmall }

/-- 'horologelaw05.DayWeeks', WHERE WHAT IT READS IS OF BULK AT MOST 1048576: true; the input reads as it did. -/
def dayWeeksUptoRow : OpenClaim := { program := "ytmgeiennacgleaa", sum := "d0c41063fa8f23db40f910e6d61033102cd2c64a9e798e4986a7e99e3c4a6e6c", func := "horologe/horologelaw05.DayWeeks", spec := "dayWeeks", apart := false, narrowed := true }
def DayWeeksUptoSaid : Prop := dayWeeksUptoRow.holds Try.pinned (OpenSpec.upto dayWeeksSpec)

/-- 'horologelaw05.DayDates', WHERE WHAT IT READS IS OF BULK AT MOST 1048576: true; the input reads as it did. -/
def dayDatesUptoRow : OpenClaim := { program := "ytmgeiennacgleaa", sum := "d0c41063fa8f23db40f910e6d61033102cd2c64a9e798e4986a7e99e3c4a6e6c", func := "horologe/horologelaw05.DayDates", spec := "dayDates", apart := false, narrowed := true }
def DayDatesUptoSaid : Prop := dayDatesUptoRow.holds Try.pinned (OpenSpec.upto dayDatesSpec)

/-- 'horologelaw05.DayNumbers', WHERE WHAT IT READS IS OF BULK AT MOST 1048576: true; the input reads as it did. -/
def dayNumbersUptoRow : OpenClaim := { program := "ytmgeiennacgleaa", sum := "d0c41063fa8f23db40f910e6d61033102cd2c64a9e798e4986a7e99e3c4a6e6c", func := "horologe/horologelaw05.DayNumbers", spec := "dayNumbers", apart := false, narrowed := true }
def DayNumbersUptoSaid : Prop := dayNumbersUptoRow.holds Try.pinned (OpenSpec.upto dayNumbersSpec)

/-- 'horologelaw05.DayBack', WHERE WHAT IT READS IS OF BULK AT MOST 1048576: true; the input reads as it did. -/
def dayBackUptoRow : OpenClaim := { program := "ytmgeiennacgleaa", sum := "d0c41063fa8f23db40f910e6d61033102cd2c64a9e798e4986a7e99e3c4a6e6c", func := "horologe/horologelaw05.DayBack", spec := "dayBack", apart := false, narrowed := true }
def DayBackUptoSaid : Prop := dayBackUptoRow.holds Try.pinned (OpenSpec.upto dayBackSpec)

/-- 'horologelaw05.DayYears', WHERE WHAT IT READS IS OF BULK AT MOST 1048576: true; the input reads as it did. -/
def dayYearsUptoRow : OpenClaim := { program := "ytmgeiennacgleaa", sum := "d0c41063fa8f23db40f910e6d61033102cd2c64a9e798e4986a7e99e3c4a6e6c", func := "horologe/horologelaw05.DayYears", spec := "dayYears", apart := false, narrowed := true }
def DayYearsUptoSaid : Prop := dayYearsUptoRow.holds Try.pinned (OpenSpec.upto dayYearsSpec)

end Rows
end Go.Proofs.Ytmgeiennacgleaa
