/-
  No cell of these rows narrows 'for every input' (looked for: loops, veiled, ifaces, maps, wideKeys, modest, calm, conditions, laid).
  DERIVED. THE GIVEN ROWS OF THIS SEAT. 3 by the template 'for every input the law returns true; each argument reads behind the call as it read before'; 0 by the template 'total and deterministic' (their statements: YtpjognepdelocaaTotals.lean).
  GIVEN WITH THE SEED: the statements are not yours to turn. If you find one false, say at which input.
  Laid BY PROGRAM, IN A SANDBOX (cutbox-rows.mjs): the forced cells as the released guide's own fill.sh prints them over the translation b06c63db1d3f9931… (all of the seat's roots in one cut). By AI agents, Wed Nov 11 2026. No macro, syntax, notation, axiom, sorry.
-/
import Derived.Test.YtpjognepdelocaaChecked
import GoSem.Claim
import GoSem.ClaimJoined
import GoSem.ClaimMapViews
import Derived.JoinedTies
import Derived.KernelRfl
namespace Go.Proofs.Ytpjognepdelocaa
/- THE CELL 'sum', in the pinned program and in every row, IS THE sha256 OF THE DUMP (.gsa) THAT YtpjognepdelocaaProg.lean LOADS. Nothing in Lean hashes anything: it is a label: what it is worth is what the hold of that sum in a sandbox is worth. -/
noncomputable def Try.pinned : Pinned := { name := "ytpjognepdelocaa", sum := "b06c63db1d3f9931f2274b17fc6abbfa5afc5b75b8201614cb7159db88d55884", checked := Try.checked }
namespace Rows
def none {H : Type} : Left H := { results := [], args := [] }

/-- 'horologelaw34.SteadyTells': WHATEVER THE INPUT: true; the input reads as it did. -/
def steadyTellsSpec : ChangeSpec := { name := "steadyTells", fn := fun _ => fun
  | [d] => { results := [.lit (.bool true)], args := [d] }
  | _ => none }
def steadyTellsRow : OpenClaim := { program := "ytpjognepdelocaa", sum := "b06c63db1d3f9931f2274b17fc6abbfa5afc5b75b8201614cb7159db88d55884", func := "horologe/horologelaw34.SteadyTells", spec := "steadyTells", apart := false }
def SteadyTellsSaid : Prop := steadyTellsRow.holds Try.pinned (OpenSpec.ofChange steadyTellsSpec)

/-- ITS FALSE NEIGHBOUR: 'it returns false'. Refute it at one input. -/
def steadyTellsWrong : ChangeSpec := { name := "steadyTells", fn := fun _ => fun
  | [d] => { results := [.lit (.bool false)], args := [d] }
  | _ => none }
def SteadyTellsWrongFalsely : Prop := steadyTellsRow.holds Try.pinned (OpenSpec.ofChange steadyTellsWrong)

/-- 'horologelaw34.SteadyBack': WHATEVER THE INPUT: true; the input reads as it did. -/
def steadyBackSpec : ChangeSpec := { name := "steadyBack", fn := fun _ => fun
  | [d1, d2, d3] => { results := [.lit (.bool true)], args := [d1, d2, d3] }
  | _ => none }
def steadyBackRow : OpenClaim := { program := "ytpjognepdelocaa", sum := "b06c63db1d3f9931f2274b17fc6abbfa5afc5b75b8201614cb7159db88d55884", func := "horologe/horologelaw34.SteadyBack", spec := "steadyBack", inPlace := ["math/bits.Add64"], apart := false }
def SteadyBackSaid : Prop := steadyBackRow.holds Try.pinned (OpenSpec.ofChange steadyBackSpec)

/-- ITS FALSE NEIGHBOUR: 'it returns false'. Refute it at one input. -/
def steadyBackWrong : ChangeSpec := { name := "steadyBack", fn := fun _ => fun
  | [d1, d2, d3] => { results := [.lit (.bool false)], args := [d1, d2, d3] }
  | _ => none }
def SteadyBackWrongFalsely : Prop := steadyBackRow.holds Try.pinned (OpenSpec.ofChange steadyBackWrong)

/-- 'horologelaw34.SteadySplits': WHATEVER THE INPUT: true; the input reads as it did. -/
def steadySplitsSpec : ChangeSpec := { name := "steadySplits", fn := fun _ => fun
  | [d1, d2, d3] => { results := [.lit (.bool true)], args := [d1, d2, d3] }
  | _ => none }
def steadySplitsRow : OpenClaim := { program := "ytpjognepdelocaa", sum := "b06c63db1d3f9931f2274b17fc6abbfa5afc5b75b8201614cb7159db88d55884", func := "horologe/horologelaw34.SteadySplits", spec := "steadySplits", inPlace := ["math/bits.Add64"], apart := false }
def SteadySplitsSaid : Prop := steadySplitsRow.holds Try.pinned (OpenSpec.ofChange steadySplitsSpec)

/-- ITS FALSE NEIGHBOUR: 'it returns false'. Refute it at one input. -/
def steadySplitsWrong : ChangeSpec := { name := "steadySplits", fn := fun _ => fun
  | [d1, d2, d3] => { results := [.lit (.bool false)], args := [d1, d2, d3] }
  | _ => none }
def SteadySplitsWrongFalsely : Prop := steadySplitsRow.holds Try.pinned (OpenSpec.ofChange steadySplitsWrong)

/- THE SECOND FORM. 'bulk': how many values and letters a reading holds, each counted each time it is reached (what is shared counts as often as it is met; a slice's spare places count too). A statement '..UptoSaid' is the law's where the arguments, and the package variables that the reading takes, are together of bulk at most 1048576: NARROWER than '..Said'. Prove '..Said' where nothing that the law and all that it calls make is longer than what came in: it says more and counts as full. Else prove '..UptoSaid'. A law counts once. -/
mutual
def uptoBulk {H : Type} : DataW H → Nat
  | .lit (.string bytes) => bytes.length + 1
  | .lit _ => 1
  | .nil => 1
  | .ptr d => uptoBulk d + 1
  | .slice elems spare => uptoBulkAll elems + uptoBulkAll spare + 1
  | .agg parts => uptoBulkAll parts + 1
  | .iface _ d => uptoBulk d + 1
  | .map entries => uptoBulkEntries entries + 1
  | .held _ => 1
def uptoBulkAll {H : Type} : List (DataW H) → Nat
  | [] => 0
  | d :: r => uptoBulk d + uptoBulkAll r
def uptoBulkEntries {H : Type} : List (Lit × DataW H) → Nat
  | [] => 0
  | x :: r => uptoBulkEntry x + uptoBulkEntries r
def uptoBulkEntry {H : Type} : Lit × DataW H → Nat
  | (.string bytes, d) => bytes.length + uptoBulk d + 1
  | (_, d) => uptoBulk d + 1
 end
def uptoSmall : (H : Type) → List (DataW H) → Bool := fun _ ds => decide (uptoBulkAll ds ≤ 1048576)
def OpenSpec.upto (s : _root_.Go.ChangeSpec) : _root_.Go.OpenSpec := { _root_.Go.OpenSpec.ofChange s with cond := some uptoSmall }

/-- 'horologelaw34.SteadyTells', WHERE WHAT IT READS IS OF BULK AT MOST 1048576: true; the input reads as it did. -/
def steadyTellsUptoRow : OpenClaim := { program := "ytpjognepdelocaa", sum := "b06c63db1d3f9931f2274b17fc6abbfa5afc5b75b8201614cb7159db88d55884", func := "horologe/horologelaw34.SteadyTells", spec := "steadyTells", apart := false, narrowed := true }
def SteadyTellsUptoSaid : Prop := steadyTellsUptoRow.holds Try.pinned (OpenSpec.upto steadyTellsSpec)

/-- 'horologelaw34.SteadyBack', WHERE WHAT IT READS IS OF BULK AT MOST 1048576: true; the input reads as it did. -/
def steadyBackUptoRow : OpenClaim := { program := "ytpjognepdelocaa", sum := "b06c63db1d3f9931f2274b17fc6abbfa5afc5b75b8201614cb7159db88d55884", func := "horologe/horologelaw34.SteadyBack", spec := "steadyBack", inPlace := ["math/bits.Add64"], apart := false, narrowed := true }
def SteadyBackUptoSaid : Prop := steadyBackUptoRow.holds Try.pinned (OpenSpec.upto steadyBackSpec)

/-- 'horologelaw34.SteadySplits', WHERE WHAT IT READS IS OF BULK AT MOST 1048576: true; the input reads as it did. -/
def steadySplitsUptoRow : OpenClaim := { program := "ytpjognepdelocaa", sum := "b06c63db1d3f9931f2274b17fc6abbfa5afc5b75b8201614cb7159db88d55884", func := "horologe/horologelaw34.SteadySplits", spec := "steadySplits", inPlace := ["math/bits.Add64"], apart := false, narrowed := true }
def SteadySplitsUptoSaid : Prop := steadySplitsUptoRow.holds Try.pinned (OpenSpec.upto steadySplitsSpec)

end Rows
end Go.Proofs.Ytpjognepdelocaa
