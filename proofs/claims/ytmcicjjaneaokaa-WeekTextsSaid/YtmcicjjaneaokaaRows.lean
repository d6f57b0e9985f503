/-
  No cell of these rows narrows 'for every input' (looked for: loops, veiled, ifaces, maps, wideKeys, modest, calm, conditions, laid).
  DERIVED. THE GIVEN ROWS OF THIS SEAT. 4 by the template 'for every input the law returns true; each argument reads behind the call as it read before'; 0 by the template 'total and deterministic' (their statements: YtmcicjjaneaokaaTotals.lean).
  GIVEN WITH THE SEED: the statements are not yours to turn. If you find one false, say at which input.
  Laid BY PROGRAM, IN A SANDBOX (cutbox-rows.mjs): the forced cells as the released guide's own fill.sh prints them over the translation 320719fecf970e98… (all of the seat's roots in one cut). By AI agents, Wed Nov 11 2026. No macro, syntax, notation, axiom, sorry.
-/
import Derived.Test.YtmcicjjaneaokaaChecked
import GoSem.Claim
import GoSem.ClaimJoined
import GoSem.ClaimMapViews
import Derived.JoinedTies
import Derived.KernelRfl
namespace Go.Proofs.Ytmcicjjaneaokaa
/- THE CELL 'sum', in the pinned program and in every row, IS THE sha256 OF THE DUMP (.gsa) THAT YtmcicjjaneaokaaProg.lean LOADS. Nothing in Lean hashes anything: it is a label: what it is worth is what the hold of that sum in a sandbox is worth. -/
noncomputable def Try.pinned : Pinned := { name := "ytmcicjjaneaokaa", sum := "320719fecf970e98db650e10fec2c8ef3acd34666fe71d62c3c5f9d05bfe4be1", checked := Try.checked }
namespace Rows
def none {H : Type} : Left H := { results := [], args := [] }

/-- 'horologelaw06.WeekDays': WHATEVER THE INPUT: true; the input reads as it did. -/
def weekDaysSpec : ChangeSpec := { name := "weekDays", fn := fun _ => fun
  | [d] => { results := [.lit (.bool true)], args := [d] }
  | _ => none }
def weekDaysRow : OpenClaim := { program := "ytmcicjjaneaokaa", sum := "320719fecf970e98db650e10fec2c8ef3acd34666fe71d62c3c5f9d05bfe4be1", func := "horologe/horologelaw06.WeekDays", spec := "weekDays", apart := false }
def WeekDaysSaid : Prop := weekDaysRow.holds Try.pinned (OpenSpec.ofChange weekDaysSpec)

/-- ITS FALSE NEIGHBOUR: 'it returns false'. Refute it at one input. -/
def weekDaysWrong : ChangeSpec := { name := "weekDays", fn := fun _ => fun
  | [d] => { results := [.lit (.bool false)], args := [d] }
  | _ => none }
def WeekDaysWrongFalsely : Prop := weekDaysRow.holds Try.pinned (OpenSpec.ofChange weekDaysWrong)

/-- 'horologelaw06.WeekYears': WHATEVER THE INPUT: true; the input reads as it did. -/
def weekYearsSpec : ChangeSpec := { name := "weekYears", fn := fun _ => fun
  | [d1, d2, d3] => { results := [.lit (.bool true)], args := [d1, d2, d3] }
  | _ => none }
def weekYearsRow : OpenClaim := { program := "ytmcicjjaneaokaa", sum := "320719fecf970e98db650e10fec2c8ef3acd34666fe71d62c3c5f9d05bfe4be1", func := "horologe/horologelaw06.WeekYears", spec := "weekYears", apart := false }
def WeekYearsSaid : Prop := weekYearsRow.holds Try.pinned (OpenSpec.ofChange weekYearsSpec)

/-- ITS FALSE NEIGHBOUR: 'it returns false'. Refute it at one input. -/
def weekYearsWrong : ChangeSpec := { name := "weekYears", fn := fun _ => fun
  | [d1, d2, d3] => { results := [.lit (.bool false)], args := [d1, d2, d3] }
  | _ => none }
def WeekYearsWrongFalsely : Prop := weekYearsRow.holds Try.pinned (OpenSpec.ofChange weekYearsWrong)

/-- 'horologelaw06.WeekTexts': WHATEVER THE INPUT: true; the input reads as it did. -/
def weekTextsSpec : ChangeSpec := { name := "weekTexts", fn := fun _ => fun
  | [d] => { results := [.lit (.bool true)], args := [d] }
  | _ => none }
def weekTextsRow : OpenClaim := { program := "ytmcicjjaneaokaa", sum := "320719fecf970e98db650e10fec2c8ef3acd34666fe71d62c3c5f9d05bfe4be1", func := "horologe/horologelaw06.WeekTexts", spec := "weekTexts", apart := false }
def WeekTextsSaid : Prop := weekTextsRow.holds Try.pinned (OpenSpec.ofChange weekTextsSpec)

/-- ITS FALSE NEIGHBOUR: 'it returns false'. Refute it at one input. -/
def weekTextsWrong : ChangeSpec := { name := "weekTexts", fn := fun _ => fun
  | [d] => { results := [.lit (.bool false)], args := [d] }
  | _ => none }
def WeekTextsWrongFalsely : Prop := weekTextsRow.holds Try.pinned (OpenSpec.ofChange weekTextsWrong)

/-- 'horologelaw06.WeekBack': WHATEVER THE INPUT: true; the input reads as it did. -/
def weekBackSpec : ChangeSpec := { name := "weekBack", fn := fun _ => fun
  | [d1, d2] => { results := [.lit (.bool true)], args := [d1, d2] }
  | _ => none }
def weekBackRow : OpenClaim := { program := "ytmcicjjaneaokaa", sum := "320719fecf970e98db650e10fec2c8ef3acd34666fe71d62c3c5f9d05bfe4be1", func := "horologe/horologelaw06.WeekBack", spec := "weekBack", apart := false }
def WeekBackSaid : Prop := weekBackRow.holds Try.pinned (OpenSpec.ofChange weekBackSpec)

/-- ITS FALSE NEIGHBOUR: 'it returns false'. Refute it at one input. -/
def weekBackWrong : ChangeSpec := { name := "weekBack", fn := fun _ => fun
  | [d1, d2] => { results := [.lit (.bool false)], args := [d1, d2] }
  | _ => none }
def WeekBackWrongFalsely : Prop := weekBackRow.holds Try.pinned (OpenSpec.ofChange weekBackWrong)

/- THE SECOND FORM. 'bulk': how many values and letters a reading holds, each counted each time it is reached (what is shared counts as often as it is met; a slice's spare places count too). A statement '..UptoSaid' is the law's where the arguments, and the package variables that the reading takes, are together of bulk at most 1048576: NARROWER than '..Said'. Prove '..Said' where nothing that the law and all that it calls make is longer than what came in: it says more and counts as full. Else prove '..UptoSaid'. A law counts once. -/
mutual
def uptoBulk {H : Type} : DataW H → Nat
  | .lit (.string bytes) => bytes.length + 1
  | .lit _ => 1
  | .nil => 1
  | .ptr d => uptoBulk d + 1
  | .slice elems spare => uptoBulkAll elems + uptoBulkAll spare + 1
  | .agg parts => uptoBulkAll parts + 1
  | .iface _ d => uptoBulk d + 1
  | .map entries => uptoBulkEntries entries + 1
  | .held _ => 1
def uptoBulkAll {H : Type} : List (DataW H) → Nat
  | [] => 0
  | d :: r => uptoBulk d + uptoBulkAll r
def uptoBulkEntries {H : Type} : List (Lit × DataW H) → Nat
  | [] => 0
  | x :: r => uptoBulkEntry x + uptoBulkEntries r
def uptoBulkEntry {H : Type} : Lit × DataW H → Nat
  | (.string bytes, d) => bytes.length + uptoBulk d + 1
  | (_, d) => uptoBulk d + 1
 end
def uptoSmall : (H : Type) → List (DataW H) → Bool := fun _ ds => decide (uptoBulkAll ds ≤ 1048576)
def OpenSpec.upto (s : _root_.Go.ChangeSpec) : _root_.Go.OpenSpec := { _root_.Go.OpenSpec.ofChange s with cond := some uptoSmall }

/-- 'horologelaw06.WeekDays', WHERE WHAT IT READS IS OF BULK AT MOST 1048576: true; the input reads as it did. -/
def weekDaysUptoRow : OpenClaim := { program := "ytmcicjjaneaokaa", sum := "320719fecf970e98db650e10fec2c8ef3acd34666fe71d62c3c5f9d05bfe4be1", func := "horologe/horologelaw06.WeekDays", spec := "weekDays", apart := false, narrowed := true }
def WeekDaysUptoSaid : Prop := weekDaysUptoRow.holds Try.pinned (OpenSpec.upto weekDaysSpec)

/-- 'horologelaw06.WeekYears', WHERE WHAT IT READS IS OF BULK AT MOST 1048576: true; the input reads as it did. -/
def weekYearsUptoRow : OpenClaim := { program := "ytmcicjjaneaokaa", sum := "320719fecf970e98db650e10fec2c8ef3acd34666fe71d62c3c5f9d05bfe4be1", func := "horologe/horologelaw06.WeekYears", spec := "weekYears", apart := false, narrowed := true }
def WeekYearsUptoSaid : Prop := weekYearsUptoRow.holds Try.pinned (OpenSpec.upto weekYearsSpec)

/-- 'horologelaw06.WeekTexts', WHERE WHAT IT READS IS OF BULK AT MOST 1048576: true; the input reads as it did. -/
def weekTextsUptoRow : OpenClaim := { program := "ytmcicjjaneaokaa", sum := "320719fecf970e98db650e10fec2c8ef3acd34666fe71d62c3c5f9d05bfe4be1", func := "horologe/horologelaw06.WeekTexts", spec := "weekTexts", apart := false, narrowed := true }
def WeekTextsUptoSaid : Prop := weekTextsUptoRow.holds Try.pinned (OpenSpec.upto weekTextsSpec)

/-- 'horologelaw06.WeekBack', WHERE WHAT IT READS IS OF BULK AT MOST 1048576: true; the input reads as it did. -/
def weekBackUptoRow : OpenClaim := { program := "ytmcicjjaneaokaa", sum := "320719fecf970e98db650e10fec2c8ef3acd34666fe71d62c3c5f9d05bfe4be1", func := "horologe/horologelaw06.WeekBack", spec := "weekBack", apart := false, narrowed := true }
def WeekBackUptoSaid : Prop := weekBackUptoRow.holds Try.pinned (OpenSpec.upto weekBackSpec)

end Rows
end Go.Proofs.Ytmcicjjaneaokaa
