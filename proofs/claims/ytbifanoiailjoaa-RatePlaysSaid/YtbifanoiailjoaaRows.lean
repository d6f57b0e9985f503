/-
  No cell of these rows narrows 'for every input' (looked for: loops, veiled, ifaces, maps, wideKeys, modest, calm, conditions, laid).
  DERIVED. THE GIVEN ROWS OF THIS SEAT. 4 by the template 'for every input the law returns true; each argument reads behind the call as it read before'; 0 by the template 'total and deterministic' (their statements: YtbifanoiailjoaaTotals.lean).
  GIVEN WITH THE SEED: the statements are not yours to turn. If you find one false, say at which input.
  Laid BY PROGRAM, IN A SANDBOX (cutbox-rows.mjs): the forced cells as the released guide's own fill.sh prints them over the translation 5375d8f51f67697d… (all of the seat's roots in one cut). By AI agents, Wed Nov 11 2026. No macro, syntax, notation, axiom, sorry.
-/
import Derived.Test.YtbifanoiailjoaaChecked
import GoSem.Claim
import GoSem.ClaimJoined
import GoSem.ClaimMapViews
import Derived.JoinedTies
import Derived.KernelRfl
namespace Go.Proofs.Ytbifanoiailjoaa
/- THE CELL 'sum', in the pinned program and in every row, IS THE sha256 OF THE DUMP (.gsa) THAT YtbifanoiailjoaaProg.lean LOADS. Nothing in Lean hashes anything: it is a label: what it is worth is what the hold of that sum in a sandbox is worth. -/
noncomputable def Try.pinned : Pinned := { name := "ytbifanoiailjoaa", sum := "5375d8f51f67697de27fc243d9f30bd3ff838b6b8603c898e93548bac43ce0d9", checked := Try.checked }
namespace Rows
def none {H : Type} : Left H := { results := [], args := [] }

/-- 'horologelaw31.RateStays': WHATEVER THE INPUT: true; the input reads as it did. -/
def rateStaysSpec : ChangeSpec := { name := "rateStays", fn := fun _ => fun
  | [d1, d2, d3] => { results := [.lit (.bool true)], args := [d1, d2, d3] }
  | _ => none }
def rateStaysRow : OpenClaim := { program := "ytbifanoiailjoaa", sum := "5375d8f51f67697de27fc243d9f30bd3ff838b6b8603c898e93548bac43ce0d9", func := "horologe/horologelaw31.RateStays", spec := "rateStays", inPlace := ["slices.overlaps[horologe/rate.Entry[string]]", "slices.overlaps[horologe/rate.Entry[uint32]]"], unfollowed := true, recurses := true, apart := false }
def RateStaysSaid : Prop := rateStaysRow.holds Try.pinned (OpenSpec.ofChange rateStaysSpec)

/-- ITS FALSE NEIGHBOUR: 'it returns false'. Refute it at one input. -/
def rateStaysWrong : ChangeSpec := { name := "rateStays", fn := fun _ => fun
  | [d1, d2, d3] => { results := [.lit (.bool false)], args := [d1, d2, d3] }
  | _ => none }
def RateStaysWrongFalsely : Prop := rateStaysRow.holds Try.pinned (OpenSpec.ofChange rateStaysWrong)

/-- 'horologelaw31.RateSpans': WHATEVER THE INPUT: true; the input reads as it did. -/
def rateSpansSpec : ChangeSpec := { name := "rateSpans", fn := fun _ => fun
  | [d1, d2, d3] => { results := [.lit (.bool true)], args := [d1, d2, d3] }
  | _ => none }
def rateSpansRow : OpenClaim := { program := "ytbifanoiailjoaa", sum := "5375d8f51f67697de27fc243d9f30bd3ff838b6b8603c898e93548bac43ce0d9", func := "horologe/horologelaw31.RateSpans", spec := "rateSpans", inPlace := ["slices.overlaps[horologe/rate.Entry[string]]", "slices.overlaps[horologe/rate.Entry[uint32]]"], unfollowed := true, recurses := true, apart := false }
def RateSpansSaid : Prop := rateSpansRow.holds Try.pinned (OpenSpec.ofChange rateSpansSpec)

/-- ITS FALSE NEIGHBOUR: 'it returns false'. Refute it at one input. -/
def rateSpansWrong : ChangeSpec := { name := "rateSpans", fn := fun _ => fun
  | [d1, d2, d3] => { results := [.lit (.bool false)], args := [d1, d2, d3] }
  | _ => none }
def RateSpansWrongFalsely : Prop := rateSpansRow.holds Try.pinned (OpenSpec.ofChange rateSpansWrong)

/-- 'horologelaw31.RateTexts': WHATEVER THE INPUT: true; the input reads as it did. -/
def rateTextsSpec : ChangeSpec := { name := "rateTexts", fn := fun _ => fun
  | [d1, d2, d3] => { results := [.lit (.bool true)], args := [d1, d2, d3] }
  | _ => none }
def rateTextsRow : OpenClaim := { program := "ytbifanoiailjoaa", sum := "5375d8f51f67697de27fc243d9f30bd3ff838b6b8603c898e93548bac43ce0d9", func := "horologe/horologelaw31.RateTexts", spec := "rateTexts", inPlace := ["slices.overlaps[horologe/rate.Entry[string]]", "slices.overlaps[horologe/rate.Entry[uint32]]"], unfollowed := true, recurses := true, apart := false }
def RateTextsSaid : Prop := rateTextsRow.holds Try.pinned (OpenSpec.ofChange rateTextsSpec)

/-- ITS FALSE NEIGHBOUR: 'it returns false'. Refute it at one input. -/
def rateTextsWrong : ChangeSpec := { name := "rateTexts", fn := fun _ => fun
  | [d1, d2, d3] => { results := [.lit (.bool false)], args := [d1, d2, d3] }
  | _ => none }
def RateTextsWrongFalsely : Prop := rateTextsRow.holds Try.pinned (OpenSpec.ofChange rateTextsWrong)

/-- 'horologelaw31.RatePlays': WHATEVER THE INPUT: true; the input reads as it did. -/
def ratePlaysSpec : ChangeSpec := { name := "ratePlays", fn := fun _ => fun
  | [d1, d2, d3] => { results := [.lit (.bool true)], args := [d1, d2, d3] }
  | _ => none }
def ratePlaysRow : OpenClaim := { program := "ytbifanoiailjoaa", sum := "5375d8f51f67697de27fc243d9f30bd3ff838b6b8603c898e93548bac43ce0d9", func := "horologe/horologelaw31.RatePlays", spec := "ratePlays", inPlace := ["slices.overlaps[horologe/rate.Entry[string]]", "slices.overlaps[horologe/rate.Entry[uint32]]"], unfollowed := true, recurses := true, apart := false }
def RatePlaysSaid : Prop := ratePlaysRow.holds Try.pinned (OpenSpec.ofChange ratePlaysSpec)

/-- ITS FALSE NEIGHBOUR: 'it returns false'. Refute it at one input. -/
def ratePlaysWrong : ChangeSpec := { name := "ratePlays", fn := fun _ => fun
  | [d1, d2, d3] => { results := [.lit (.bool false)], args := [d1, d2, d3] }
  | _ => none }
def RatePlaysWrongFalsely : Prop := ratePlaysRow.holds Try.pinned (OpenSpec.ofChange ratePlaysWrong)

/- THE SECOND FORM. 'bulk': how many values and letters a reading holds, each counted each time it is reached (what is shared counts as often as it is met; a slice's spare places count too). A statement '..UptoSaid' is the law's where the arguments, and the package variables that the reading takes, are together of bulk at most 1048576: NARROWER than '..Said'. Prove '..Said' where nothing that the law and all that it calls make is longer than what came in: it says more and counts as full. Else prove '..UptoSaid'. A law counts once. -/
mutual
def uptoBulk {H : Type} : DataW H → Nat
  | .lit (.string bytes) => bytes.length + 1
  | .lit _ => 1
  | .nil => 1
  | .ptr d => uptoBulk d + 1
  | .slice elems spare => uptoBulkAll elems + uptoBulkAll spare + 1
  | .agg parts => uptoBulkAll parts + 1
  | .iface _ d => uptoBulk d + 1
  | .map entries => uptoBulkEntries entries + 1
  | .held _ => 1
def uptoBulkAll {H : Type} : List (DataW H) → Nat
  | [] => 0
  | d :: r => uptoBulk d + uptoBulkAll r
def uptoBulkEntries {H : Type} : List (Lit × DataW H) → Nat
  | [] => 0
  | x :: r => uptoBulkEntry x + uptoBulkEntries r
def uptoBulkEntry {H : Type} : Lit × DataW H → Nat
  | (.string bytes, d) => bytes.length + uptoBulk d + 1
  | (_, d) => uptoBulk d + 1
 end
def uptoSmall : (H : Type) → List (DataW H) → Bool := fun _ ds => decide (uptoBulkAll ds ≤ 1048576)
def OpenSpec.upto (s : _root_.Go.ChangeSpec) : _root_.Go.OpenSpec := { _root_.Go.OpenSpec.ofChange s with cond := some uptoSmall }

/-- 'horologelaw31.RateStays', WHERE WHAT IT READS IS OF BULK AT MOST 1048576: true; the input reads as it did. -/
def rateStaysUptoRow : OpenClaim := { program := "ytbifanoiailjoaa", sum := "5375d8f51f67697de27fc243d9f30bd3ff838b6b8603c898e93548bac43ce0d9", func := "horologe/horologelaw31.RateStays", spec := "rateStays", inPlace := ["slices.overlaps[horologe/rate.Entry[string]]", "slices.overlaps[horologe/rate.Entry[uint32]]"], unfollowed := true, recurses := true, apart := false, narrowed := true }
def RateStaysUptoSaid : Prop := rateStaysUptoRow.holds Try.pinned (OpenSpec.upto rateStaysSpec)

/-- 'horologelaw31.RateSpans', WHERE WHAT IT READS IS OF BULK AT MOST 1048576: true; the input reads as it did. -/
def rateSpansUptoRow : OpenClaim := { program := "ytbifanoiailjoaa", sum := "5375d8f51f67697de27fc243d9f30bd3ff838b6b8603c898e93548bac43ce0d9", func := "horologe/horologelaw31.RateSpans", spec := "rateSpans", inPlace := ["slices.overlaps[horologe/rate.Entry[string]]", "slices.overlaps[horologe/rate.Entry[uint32]]"], unfollowed := true, recurses := true, apart := false, narrowed := true }
def RateSpansUptoSaid : Prop := rateSpansUptoRow.holds Try.pinned (OpenSpec.upto rateSpansSpec)

/-- 'horologelaw31.RateTexts', WHERE WHAT IT READS IS OF BULK AT MOST 1048576: true; the input reads as it did. -/
def rateTextsUptoRow : OpenClaim := { program := "ytbifanoiailjoaa", sum := "5375d8f51f67697de27fc243d9f30bd3ff838b6b8603c898e93548bac43ce0d9", func := "horologe/horologelaw31.RateTexts", spec := "rateTexts", inPlace := ["slices.overlaps[horologe/rate.Entry[string]]", "slices.overlaps[horologe/rate.Entry[uint32]]"], unfollowed := true, recurses := true, apart := false, narrowed := true }
def RateTextsUptoSaid : Prop := rateTextsUptoRow.holds Try.pinned (OpenSpec.upto rateTextsSpec)

/-- 'horologelaw31.RatePlays', WHERE WHAT IT READS IS OF BULK AT MOST 1048576: true; the input reads as it did. -/
def ratePlaysUptoRow : OpenClaim := { program := "ytbifanoiailjoaa", sum := "5375d8f51f67697de27fc243d9f30bd3ff838b6b8603c898e93548bac43ce0d9", func := "horologe/horologelaw31.RatePlays", spec := "ratePlays", inPlace := ["slices.overlaps[horologe/rate.Entry[string]]", "slices.overlaps[horologe/rate.Entry[uint32]]"], unfollowed := true, recurses := true, apart := false, narrowed := true }
def RatePlaysUptoSaid : Prop := ratePlaysUptoRow.holds Try.pinned (OpenSpec.upto ratePlaysSpec)

end Rows
end Go.Proofs.Ytbifanoiailjoaa
