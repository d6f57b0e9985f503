/-
  No cell of these rows narrows 'for every input' (looked for: loops, veiled, ifaces, maps, wideKeys, modest, calm, conditions, laid).
  DERIVED. THE GIVEN ROWS OF THIS SEAT. 5 by the template 'for every input the law returns true; each argument reads behind the call as it read before'; 0 by the template 'total and deterministic' (their statements: YtnjeemghkpgcfaaTotals.lean).
  GIVEN WITH THE SEED: the statements are not yours to turn. If you find one false, say at which input.
  Laid BY PROGRAM, IN A SANDBOX (cutbox-rows.mjs): the forced cells as the released guide's own fill.sh prints them over the translation 7ce45a4dc5a5447b… (all of the seat's roots in one cut). By AI agents, Wed Nov 11 2026. No macro, syntax, notation, axiom, sorry.
-/
import Derived.Test.YtnjeemghkpgcfaaChecked
import GoSem.Claim
import GoSem.ClaimJoined
import GoSem.ClaimMapViews
import Derived.JoinedTies
import Derived.KernelRfl
namespace Go.Proofs.Ytnjeemghkpgcfaa
/- THE CELL 'sum', in the pinned program and in every row, IS THE sha256 OF THE DUMP (.gsa) THAT YtnjeemghkpgcfaaProg.lean LOADS. Nothing in Lean hashes anything: it is a label: what it is worth is what the hold of that sum in a sandbox is worth. -/
noncomputable def Try.pinned : Pinned := { name := "ytnjeemghkpgcfaa", sum := "7ce45a4dc5a5447b1db4132eebb2ed0b224b24c084b14c863970c4b10e1ba526", checked := Try.checked }
namespace Rows
def none {H : Type} : Left H := { results := [], args := [] }

/-- 'horologelaw16.RuleDays': WHATEVER THE INPUT: true; the input reads as it did. -/
def ruleDaysSpec : ChangeSpec := { name := "ruleDays", fn := fun _ => fun
  | [d1, d2] => { results := [.lit (.bool true)], args := [d1, d2] }
  | _ => none }
def ruleDaysRow : OpenClaim := { program := "ytnjeemghkpgcfaa", sum := "7ce45a4dc5a5447b1db4132eebb2ed0b224b24c084b14c863970c4b10e1ba526", func := "horologe/horologelaw16.RuleDays", spec := "ruleDays", inPlace := ["internal/bytealg.IndexByteString", "internal/bytealg.IndexString"], named := ["internal/bytealg.MaxLen"], apart := false }
def RuleDaysSaid : Prop := ruleDaysRow.holds Try.pinned (OpenSpec.ofChange ruleDaysSpec)

/-- ITS FALSE NEIGHBOUR: 'it returns false'. Refute it at one input. -/
def ruleDaysWrong : ChangeSpec := { name := "ruleDays", fn := fun _ => fun
  | [d1, d2] => { results := [.lit (.bool false)], args := [d1, d2] }
  | _ => none }
def RuleDaysWrongFalsely : Prop := ruleDaysRow.holds Try.pinned (OpenSpec.ofChange ruleDaysWrong)

/-- 'horologelaw16.RuleWeeks': WHATEVER THE INPUT: true; the input reads as it did. -/
def ruleWeeksSpec : ChangeSpec := { name := "ruleWeeks", fn := fun _ => fun
  | [d1, d2] => { results := [.lit (.bool true)], args := [d1, d2] }
  | _ => none }
def ruleWeeksRow : OpenClaim := { program := "ytnjeemghkpgcfaa", sum := "7ce45a4dc5a5447b1db4132eebb2ed0b224b24c084b14c863970c4b10e1ba526", func := "horologe/horologelaw16.RuleWeeks", spec := "ruleWeeks", inPlace := ["internal/bytealg.IndexByteString", "internal/bytealg.IndexString"], named := ["internal/bytealg.MaxLen"], apart := false }
def RuleWeeksSaid : Prop := ruleWeeksRow.holds Try.pinned (OpenSpec.ofChange ruleWeeksSpec)

/-- ITS FALSE NEIGHBOUR: 'it returns false'. Refute it at one input. -/
def ruleWeeksWrong : ChangeSpec := { name := "ruleWeeks", fn := fun _ => fun
  | [d1, d2] => { results := [.lit (.bool false)], args := [d1, d2] }
  | _ => none }
def RuleWeeksWrongFalsely : Prop := ruleWeeksRow.holds Try.pinned (OpenSpec.ofChange ruleWeeksWrong)

/-- 'horologelaw16.RuleClocks': WHATEVER THE INPUT: true; the input reads as it did. -/
def ruleClocksSpec : ChangeSpec := { name := "ruleClocks", fn := fun _ => fun
  | [d1, d2, d3] => { results := [.lit (.bool true)], args := [d1, d2, d3] }
  | _ => none }
def ruleClocksRow : OpenClaim := { program := "ytnjeemghkpgcfaa", sum := "7ce45a4dc5a5447b1db4132eebb2ed0b224b24c084b14c863970c4b10e1ba526", func := "horologe/horologelaw16.RuleClocks", spec := "ruleClocks", inPlace := ["internal/bytealg.IndexByteString", "internal/bytealg.IndexString"], named := ["internal/bytealg.MaxLen"], apart := false }
def RuleClocksSaid : Prop := ruleClocksRow.holds Try.pinned (OpenSpec.ofChange ruleClocksSpec)

/-- ITS FALSE NEIGHBOUR: 'it returns false'. Refute it at one input. -/
def ruleClocksWrong : ChangeSpec := { name := "ruleClocks", fn := fun _ => fun
  | [d1, d2, d3] => { results := [.lit (.bool false)], args := [d1, d2, d3] }
  | _ => none }
def RuleClocksWrongFalsely : Prop := ruleClocksRow.holds Try.pinned (OpenSpec.ofChange ruleClocksWrong)

/-- 'horologelaw16.RuleTexts': WHATEVER THE INPUT: true; the input reads as it did. -/
def ruleTextsSpec : ChangeSpec := { name := "ruleTexts", fn := fun _ => fun
  | [d1, d2] => { results := [.lit (.bool true)], args := [d1, d2] }
  | _ => none }
def ruleTextsRow : OpenClaim := { program := "ytnjeemghkpgcfaa", sum := "7ce45a4dc5a5447b1db4132eebb2ed0b224b24c084b14c863970c4b10e1ba526", func := "horologe/horologelaw16.RuleTexts", spec := "ruleTexts", inPlace := ["internal/bytealg.IndexByteString", "internal/bytealg.IndexString"], named := ["internal/bytealg.MaxLen"], apart := false }
def RuleTextsSaid : Prop := ruleTextsRow.holds Try.pinned (OpenSpec.ofChange ruleTextsSpec)

/-- ITS FALSE NEIGHBOUR: 'it returns false'. Refute it at one input. -/
def ruleTextsWrong : ChangeSpec := { name := "ruleTexts", fn := fun _ => fun
  | [d1, d2] => { results := [.lit (.bool false)], args := [d1, d2] }
  | _ => none }
def RuleTextsWrongFalsely : Prop := ruleTextsRow.holds Try.pinned (OpenSpec.ofChange ruleTextsWrong)

/-- 'horologelaw16.RuleBack': WHATEVER THE INPUT: true; the input reads as it did. -/
def ruleBackSpec : ChangeSpec := { name := "ruleBack", fn := fun _ => fun
  | [d1, d2] => { results := [.lit (.bool true)], args := [d1, d2] }
  | _ => none }
def ruleBackRow : OpenClaim := { program := "ytnjeemghkpgcfaa", sum := "7ce45a4dc5a5447b1db4132eebb2ed0b224b24c084b14c863970c4b10e1ba526", func := "horologe/horologelaw16.RuleBack", spec := "ruleBack", inPlace := ["internal/bytealg.IndexByteString", "internal/bytealg.IndexString"], named := ["internal/bytealg.MaxLen"], apart := false }
def RuleBackSaid : Prop := ruleBackRow.holds Try.pinned (OpenSpec.ofChange ruleBackSpec)

/-- ITS FALSE NEIGHBOUR: 'it returns false'. Refute it at one input. -/
def ruleBackWrong : ChangeSpec := { name := "ruleBack", fn := fun _ => fun
  | [d1, d2] => { results := [.lit (.bool false)], args := [d1, d2] }
  | _ => none }
def RuleBackWrongFalsely : Prop := ruleBackRow.holds Try.pinned (OpenSpec.ofChange ruleBackWrong)

/- THE SECOND FORM. 'bulk': how many values and letters a reading holds, each counted each time it is reached (what is shared counts as often as it is met; a slice's spare places count too). A statement '..UptoSaid' is the law's where the arguments, and the package variables that the reading takes, are together of bulk at most 1048576: NARROWER than '..Said'. Prove '..Said' where nothing that the law and all that it calls make is longer than what came in: it says more and counts as full. Else prove '..UptoSaid'. A law counts once. -/
mutual
def uptoBulk {H : Type} : DataW H → Nat
  | .lit (.string bytes) => bytes.length + 1
  | .lit _ => 1
  | .nil => 1
  | .ptr d => uptoBulk d + 1
  | .slice elems spare => uptoBulkAll elems + uptoBulkAll spare + 1
  | .agg parts => uptoBulkAll parts + 1
  | .iface _ d => uptoBulk d + 1
  | .map entries => uptoBulkEntries entries + 1
  | .held _ => 1
def uptoBulkAll {H : Type} : List (DataW H) → Nat
  | [] => 0
  | d :: r => uptoBulk d + uptoBulkAll r
def uptoBulkEntries {H : Type} : List (Lit × DataW H) → Nat
  | [] => 0
  | x :: r => uptoBulkEntry x + uptoBulkEntries r
def uptoBulkEntry {H : Type} : Lit × DataW H → Nat
  | (.string bytes, d) => bytes.length + uptoBulk d + 1
  | (_, d) => uptoBulk d + 1
 end
def uptoSmall : (H : Type) → List (DataW H) → Bool := fun _ ds => decide (uptoBulkAll ds ≤ 1048576)
def OpenSpec.upto (s : _root_.Go.ChangeSpec) : _root_.Go.OpenSpec := { _root_.Go.OpenSpec.ofChange s with cond := some uptoSmall }

/-- 'horologelaw16.RuleDays', WHERE WHAT IT READS IS OF BULK AT MOST 1048576: true; the input reads as it did. -/
def ruleDaysUptoRow : OpenClaim := { program := "ytnjeemghkpgcfaa", sum := "7ce45a4dc5a5447b1db4132eebb2ed0b224b24c084b14c863970c4b10e1ba526", func := "horologe/horologelaw16.RuleDays", spec := "ruleDays", inPlace := ["internal/bytealg.IndexByteString", "internal/bytealg.IndexString"], named := ["internal/bytealg.MaxLen"], apart := false, narrowed := true }
def RuleDaysUptoSaid : Prop := ruleDaysUptoRow.holds Try.pinned (OpenSpec.upto ruleDaysSpec)

/-- 'horologelaw16.RuleWeeks', WHERE WHAT IT READS IS OF BULK AT MOST 1048576: true; the input reads as it did. -/
def ruleWeeksUptoRow : OpenClaim := { program := "ytnjeemghkpgcfaa", sum := "7ce45a4dc5a5447b1db4132eebb2ed0b224b24c084b14c863970c4b10e1ba526", func := "horologe/horologelaw16.RuleWeeks", spec := "ruleWeeks", inPlace := ["internal/bytealg.IndexByteString", "internal/bytealg.IndexString"], named := ["internal/bytealg.MaxLen"], apart := false, narrowed := true }
def RuleWeeksUptoSaid : Prop := ruleWeeksUptoRow.holds Try.pinned (OpenSpec.upto ruleWeeksSpec)

/-- 'horologelaw16.RuleClocks', WHERE WHAT IT READS IS OF BULK AT MOST 1048576: true; the input reads as it did. -/
def ruleClocksUptoRow : OpenClaim := { program := "ytnjeemghkpgcfaa", sum := "7ce45a4dc5a5447b1db4132eebb2ed0b224b24c084b14c863970c4b10e1ba526", func := "horologe/horologelaw16.RuleClocks", spec := "ruleClocks", inPlace := ["internal/bytealg.IndexByteString", "internal/bytealg.IndexString"], named := ["internal/bytealg.MaxLen"], apart := false, narrowed := true }
def RuleClocksUptoSaid : Prop := ruleClocksUptoRow.holds Try.pinned (OpenSpec.upto ruleClocksSpec)

/-- 'horologelaw16.RuleTexts', WHERE WHAT IT READS IS OF BULK AT MOST 1048576: true; the input reads as it did. -/
def ruleTextsUptoRow : OpenClaim := { program := "ytnjeemghkpgcfaa", sum := "7ce45a4dc5a5447b1db4132eebb2ed0b224b24c084b14c863970c4b10e1ba526", func := "horologe/horologelaw16.RuleTexts", spec := "ruleTexts", inPlace := ["internal/bytealg.IndexByteString", "internal/bytealg.IndexString"], named := ["internal/bytealg.MaxLen"], apart := false, narrowed := true }
def RuleTextsUptoSaid : Prop := ruleTextsUptoRow.holds Try.pinned (OpenSpec.upto ruleTextsSpec)

/-- 'horologelaw16.RuleBack', WHERE WHAT IT READS IS OF BULK AT MOST 1048576: true; the input reads as it did. -/
def ruleBackUptoRow : OpenClaim := { program := "ytnjeemghkpgcfaa", sum := "7ce45a4dc5a5447b1db4132eebb2ed0b224b24c084b14c863970c4b10e1ba526", func := "horologe/horologelaw16.RuleBack", spec := "ruleBack", inPlace := ["internal/bytealg.IndexByteString", "internal/bytealg.IndexString"], named := ["internal/bytealg.MaxLen"], apart := false, narrowed := true }
def RuleBackUptoSaid : Prop := ruleBackUptoRow.holds Try.pinned (OpenSpec.upto ruleBackSpec)

end Rows
end Go.Proofs.Ytnjeemghkpgcfaa
