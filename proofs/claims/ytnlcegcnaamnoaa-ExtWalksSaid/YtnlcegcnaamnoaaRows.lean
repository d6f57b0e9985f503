/-
  No cell of these rows narrows 'for every input' (looked for: loops, veiled, ifaces, maps, wideKeys, modest, calm, conditions, laid).
  DERIVED. THE GIVEN ROWS OF THIS SEAT. 4 by the template 'for every input the law returns true; each argument reads behind the call as it read before'; 0 by the template 'total and deterministic' (their statements: YtnlcegcnaamnoaaTotals.lean).
  GIVEN WITH THE SEED: the statements are not yours to turn. If you find one false, say at which input.
  Laid BY PROGRAM, IN A SANDBOX (cutbox-rows.mjs): the forced cells as the released guide's own fill.sh prints them over the translation b59f73de6fdce7a1… (all of the seat's roots in one cut). By AI agents, Wed Nov 11 2026. No macro, syntax, notation, axiom, sorry.
-/
import Derived.Test.YtnlcegcnaamnoaaChecked
import GoSem.Claim
import GoSem.ClaimJoined
import GoSem.ClaimMapViews
import Derived.JoinedTies
import Derived.KernelRfl
namespace Go.Proofs.Ytnlcegcnaamnoaa
/- THE CELL 'sum', in the pinned program and in every row, IS THE sha256 OF THE DUMP (.gsa) THAT YtnlcegcnaamnoaaProg.lean LOADS. Nothing in Lean hashes anything: it is a label: what it is worth is what the hold of that sum in a sandbox is worth. -/
noncomputable def Try.pinned : Pinned := { name := "ytnlcegcnaamnoaa", sum := "b59f73de6fdce7a1e9e32daa8ca1ab33817f1f829682d7495616b8bf56361049", checked := Try.checked }
namespace Rows
def none {H : Type} : Left H := { results := [], args := [] }

/-- 'horologelaw29.ExtWalks': WHATEVER THE INPUT: true; the input reads as it did. -/
def extWalksSpec : ChangeSpec := { name := "extWalks", fn := fun _ => fun
  | [d1, d2] => { results := [.lit (.bool true)], args := [d1, d2] }
  | _ => none }
def extWalksRow : OpenClaim := { program := "ytnlcegcnaamnoaa", sum := "b59f73de6fdce7a1e9e32daa8ca1ab33817f1f829682d7495616b8bf56361049", func := "horologe/horologelaw29.ExtWalks", spec := "extWalks", unfollowed := true, recurses := true, apart := false }
def ExtWalksSaid : Prop := extWalksRow.holds Try.pinned (OpenSpec.ofChange extWalksSpec)

/-- ITS FALSE NEIGHBOUR: 'it returns false'. Refute it at one input. -/
def extWalksWrong : ChangeSpec := { name := "extWalks", fn := fun _ => fun
  | [d1, d2] => { results := [.lit (.bool false)], args := [d1, d2] }
  | _ => none }
def ExtWalksWrongFalsely : Prop := extWalksRow.holds Try.pinned (OpenSpec.ofChange extWalksWrong)

/-- 'horologelaw29.ExtParts': WHATEVER THE INPUT: true; the input reads as it did. -/
def extPartsSpec : ChangeSpec := { name := "extParts", fn := fun _ => fun
  | [d1, d2, d3] => { results := [.lit (.bool true)], args := [d1, d2, d3] }
  | _ => none }
def extPartsRow : OpenClaim := { program := "ytnlcegcnaamnoaa", sum := "b59f73de6fdce7a1e9e32daa8ca1ab33817f1f829682d7495616b8bf56361049", func := "horologe/horologelaw29.ExtParts", spec := "extParts", unfollowed := true, recurses := true, apart := false }
def ExtPartsSaid : Prop := extPartsRow.holds Try.pinned (OpenSpec.ofChange extPartsSpec)

/-- ITS FALSE NEIGHBOUR: 'it returns false'. Refute it at one input. -/
def extPartsWrong : ChangeSpec := { name := "extParts", fn := fun _ => fun
  | [d1, d2, d3] => { results := [.lit (.bool false)], args := [d1, d2, d3] }
  | _ => none }
def ExtPartsWrongFalsely : Prop := extPartsRow.holds Try.pinned (OpenSpec.ofChange extPartsWrong)

/-- 'horologelaw29.ExtPuts': WHATEVER THE INPUT: true; the input reads as it did. -/
def extPutsSpec : ChangeSpec := { name := "extPuts", fn := fun _ => fun
  | [d1, d2] => { results := [.lit (.bool true)], args := [d1, d2] }
  | _ => none }
def extPutsRow : OpenClaim := { program := "ytnlcegcnaamnoaa", sum := "b59f73de6fdce7a1e9e32daa8ca1ab33817f1f829682d7495616b8bf56361049", func := "horologe/horologelaw29.ExtPuts", spec := "extPuts", unfollowed := true, recurses := true, apart := false }
def ExtPutsSaid : Prop := extPutsRow.holds Try.pinned (OpenSpec.ofChange extPutsSpec)

/-- ITS FALSE NEIGHBOUR: 'it returns false'. Refute it at one input. -/
def extPutsWrong : ChangeSpec := { name := "extPuts", fn := fun _ => fun
  | [d1, d2] => { results := [.lit (.bool false)], args := [d1, d2] }
  | _ => none }
def ExtPutsWrongFalsely : Prop := extPutsRow.holds Try.pinned (OpenSpec.ofChange extPutsWrong)

/-- 'horologelaw29.ExtBack': WHATEVER THE INPUT: true; the input reads as it did. -/
def extBackSpec : ChangeSpec := { name := "extBack", fn := fun _ => fun
  | [d1, d2, d3] => { results := [.lit (.bool true)], args := [d1, d2, d3] }
  | _ => none }
def extBackRow : OpenClaim := { program := "ytnlcegcnaamnoaa", sum := "b59f73de6fdce7a1e9e32daa8ca1ab33817f1f829682d7495616b8bf56361049", func := "horologe/horologelaw29.ExtBack", spec := "extBack", unfollowed := true, recurses := true, apart := false }
def ExtBackSaid : Prop := extBackRow.holds Try.pinned (OpenSpec.ofChange extBackSpec)

/-- ITS FALSE NEIGHBOUR: 'it returns false'. Refute it at one input. -/
def extBackWrong : ChangeSpec := { name := "extBack", fn := fun _ => fun
  | [d1, d2, d3] => { results := [.lit (.bool false)], args := [d1, d2, d3] }
  | _ => none }
def ExtBackWrongFalsely : Prop := extBackRow.holds Try.pinned (OpenSpec.ofChange extBackWrong)

/- THE SECOND FORM. 'bulk': how many values and letters a reading holds, each counted each time it is reached (what is shared counts as often as it is met; a slice's spare places count too). A statement '..UptoSaid' is the law's where the arguments, and the package variables that the reading takes, are together of bulk at most 1048576: NARROWER than '..Said'. Prove '..Said' where nothing that the law and all that it calls make is longer than what came in: it says more and counts as full. Else prove '..UptoSaid'. A law counts once. -/
mutual
def uptoBulk {H : Type} : DataW H → Nat
  | .lit (.string bytes) => bytes.length + 1
  | .lit _ => 1
  | .nil => 1
  | .ptr d => uptoBulk d + 1
  | .slice elems spare => uptoBulkAll elems + uptoBulkAll spare + 1
  | .agg parts => uptoBulkAll parts + 1
  | .iface _ d => uptoBulk d + 1
  | .map entries => uptoBulkEntries entries + 1
  | .held _ => 1
def uptoBulkAll {H : Type} : List (DataW H) → Nat
  | [] => 0
  | d :: r => uptoBulk d + uptoBulkAll r
def uptoBulkEntries {H : Type} : List (Lit × DataW H) → Nat
  | [] => 0
  | x :: r => uptoBulkEntry x + uptoBulkEntries r
def uptoBulkEntry {H : Type} : Lit × DataW H → Nat
  | (.string bytes, d) => bytes.length + uptoBulk d + 1
  | (_, d) => uptoBulk d + 1
 end
def uptoSmall : (H : Type) → List (DataW H) → Bool := fun _ ds => decide (uptoBulkAll ds ≤ 1048576)
def OpenSpec.upto (s : _root_.Go.ChangeSpec) : _root_.Go.OpenSpec := { _root_.Go.OpenSpec.ofChange s with cond := some uptoSmall }

/-- 'horologelaw29.ExtWalks', WHERE WHAT IT READS IS OF BULK AT MOST 1048576: true; the input reads as it did. -/
def extWalksUptoRow : OpenClaim := { program := "ytnlcegcnaamnoaa", sum := "b59f73de6fdce7a1e9e32daa8ca1ab33817f1f829682d7495616b8bf56361049", func := "horologe/horologelaw29.ExtWalks", spec := "extWalks", unfollowed := true, recurses := true, apart := false, narrowed := true }
def ExtWalksUptoSaid : Prop := extWalksUptoRow.holds Try.pinned (OpenSpec.upto extWalksSpec)

/-- 'horologelaw29.ExtParts', WHERE WHAT IT READS IS OF BULK AT MOST 1048576: true; the input reads as it did. -/
def extPartsUptoRow : OpenClaim := { program := "ytnlcegcnaamnoaa", sum := "b59f73de6fdce7a1e9e32daa8ca1ab33817f1f829682d7495616b8bf56361049", func := "horologe/horologelaw29.ExtParts", spec := "extParts", unfollowed := true, recurses := true, apart := false, narrowed := true }
def ExtPartsUptoSaid : Prop := extPartsUptoRow.holds Try.pinned (OpenSpec.upto extPartsSpec)

/-- 'horologelaw29.ExtPuts', WHERE WHAT IT READS IS OF BULK AT MOST 1048576: true; the input reads as it did. -/
def extPutsUptoRow : OpenClaim := { program := "ytnlcegcnaamnoaa", sum := "b59f73de6fdce7a1e9e32daa8ca1ab33817f1f829682d7495616b8bf56361049", func := "horologe/horologelaw29.ExtPuts", spec := "extPuts", unfollowed := true, recurses := true, apart := false, narrowed := true }
def ExtPutsUptoSaid : Prop := extPutsUptoRow.holds Try.pinned (OpenSpec.upto extPutsSpec)

/-- 'horologelaw29.ExtBack', WHERE WHAT IT READS IS OF BULK AT MOST 1048576: true; the input reads as it did. -/
def extBackUptoRow : OpenClaim := { program := "ytnlcegcnaamnoaa", sum := "b59f73de6fdce7a1e9e32daa8ca1ab33817f1f829682d7495616b8bf56361049", func := "horologe/horologelaw29.ExtBack", spec := "extBack", unfollowed := true, recurses := true, apart := false, narrowed := true }
def ExtBackUptoSaid : Prop := extBackUptoRow.holds Try.pinned (OpenSpec.upto extBackSpec)

end Rows
end Go.Proofs.Ytnlcegcnaamnoaa
