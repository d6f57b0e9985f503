-- This text was written by a program of this session (a changed scratch copy of a tool of the kit; NOTES.md tells the changes).
import Derived.Test.YtnlcegcnaamnoaaOpenBase
import Derived.Test.YtnlcegcnaamnoaaRows
import Derived.Test.YtnlcegcnaamnoaaMExtPutsx8
import Derived.Test.YtnlcegcnaamnoaaPureExtPuts
import Derived.WalkKit
import Derived.ProofKit
import Derived.OpenShut
import Derived.ShutString
import Derived.ChangeOld
import Derived.Below
import Derived.SizedLaws
import Derived.Test.YtnlcegcnaamnoaaWSized
namespace Go.Proofs.Ytnlcegcnaamnoaa.extPuts.Op
open Go.RowKit Go.Proofs.YtnlcegcnaamnoaaW.PrintWords Go.Proofs.Ytnlcegcnaamnoaa.MExtPuts Go.Proofs.Ytnlcegcnaamnoaa
set_option linter.unusedVariables false
theorem cut_at {α : Type} (cs : List α) (a b : Nat) : cs.drop a = (cs.drop a).take b ++ cs.drop (a + b) := by rw [← List.drop_drop, List.take_append_drop]
theorem opens41 (W : World) : OpenBase.Opens Try.prog W 41 k41 ok41 := by
  intro H enc base spare held fuel cs x hx
  obtain ⟨xs, n, _, _, hl0, hlen, hf⟩ := DataW.trod_struct Try.underlying41 hx
  have hl : cs.length = 2 := hl0.trans (by kernel_rfl)
  match xs, hlen with
  | [y0, y1], _ =>
    have g0 : DataW.trod enc Try.prog W base spare held n 39 ((cs.drop 0).take (Try.prog.cellsOf 39)) = some y0 := hf 0 _ rfl
    obtain ⟨a0, k0_, o0⟩ := (OpenBase.opens_int Try.underlying39) enc base spare held n _ _ g0
    rw [show Try.prog.cellsOf 39 = 1 by kernel_rfl] at k0_
    have g1 : DataW.trod enc Try.prog W base spare held n 22 ((cs.drop 1).take (Try.prog.cellsOf 22)) = some y1 := hf 1 _ rfl
    obtain ⟨a1, k1_, o1⟩ := (OpenBase.opens_slice Try.underlying22 (OpenBase.opens_int Try.underlying5) (by kernel_rfl)) enc base spare held n _ _ g1
    rw [show Try.prog.cellsOf 22 = 1 by kernel_rfl] at k1_
    rw [List.take_of_length_le (by rw [List.length_drop, hl]; decide)] at k1_
    exact ⟨⟨a0, a1⟩, ⟨_, _, cut_at cs 0 1, k0_, k1_⟩, ⟨o0, o1⟩⟩
theorem opens26 (W : World) : OpenBase.Opens Try.prog W 26 k26 ok26 := by
  intro H enc base spare held fuel cs x hx
  obtain ⟨xs, n, _, _, hl0, hlen, hf⟩ := DataW.trod_struct Try.underlying26 hx
  have hl : cs.length = 2 := hl0.trans (by kernel_rfl)
  match xs, hlen with
  | [y0, y1], _ =>
    have g0 : DataW.trod enc Try.prog W base spare held n 24 ((cs.drop 0).take (Try.prog.cellsOf 24)) = some y0 := hf 0 _ rfl
    obtain ⟨a0, k0_, o0⟩ := (OpenBase.opens_slice Try.underlying24 (opens41 W) (by kernel_rfl)) enc base spare held n _ _ g0
    rw [show Try.prog.cellsOf 24 = 1 by kernel_rfl] at k0_
    have g1 : DataW.trod enc Try.prog W base spare held n 22 ((cs.drop 1).take (Try.prog.cellsOf 22)) = some y1 := hf 1 _ rfl
    obtain ⟨a1, k1_, o1⟩ := (OpenBase.opens_slice Try.underlying22 (OpenBase.opens_int Try.underlying5) (by kernel_rfl)) enc base spare held n _ _ g1
    rw [show Try.prog.cellsOf 22 = 1 by kernel_rfl] at k1_
    rw [List.take_of_length_le (by rw [List.length_drop, hl]; decide)] at k1_
    exact ⟨⟨a0, a1⟩, ⟨_, _, cut_at cs 0 1, k0_, k1_⟩, ⟨o0, o1⟩⟩
end Go.Proofs.Ytnlcegcnaamnoaa.extPuts.Op
namespace Go.Proofs.Ytnlcegcnaamnoaa.extPuts
open Go.ChangeShapes Go.WideShapes Go.ChangeAt Go.RowKit
open Go.ChangeMaps (open_string shut_string)
set_option linter.unusedVariables false
theorem own : ownKnob Try.prog.godebug = none := by kernel_rfl
theorem laidOut : laidOutB Try.prog = true := by kernel_rfl
def IsRow (k : IntKind) (w : World) (a : Option Addr) (len cap : Nat) (zs : List Int) : Prop :=
  (a = none ∧ len = 0 ∧ cap = 0 ∧ zs = []) ∨
  ∃ x, a = some x ∧ len ≤ cap ∧ cap ≤ maxLen ∧ zs.length = cap ∧ (∀ i, i < zs.length → w.cell? (x.add i) = some (.int k (zs.getD i 0))) ∧ ∀ n ∈ zs, (Lit.int k n).wf = true
set_option maxRecDepth 100000 in
theorem lifted (os : Os) (started : os.Started) (H : Type) (enc : TypeId × Value → H) :
    ReturnsInHanded {} Try.checked os 5 .any (Rows.extPutsSpec.pre6 enc Try.prog Try.f5 Rows.extPutsRow.domain false) (Rows.extPutsSpec.post enc Try.prog Try.f5 false true false false) := by
  refine returnsInHanded_of_change_sized (C := Try.checked) own started (by kernel_rfl) Try.func5
    (ChangeSpec.witness6 (enc := enc) (C := Try.checked) false ⟨#[], #[.int .i64 0, (.agg #[(.slice none 0 0), (.slice none 0 0)])], []⟩ 8 (by kernel_rfl) (by kernel_rfl) (by kernel_rfl) (by kernel_rfl)) ?_
  intro W base args ds gs before hval0 hW hcnd hsz0 _
  have hsz : (DataW.weightsEach Try.prog (Try.f5.params.toList ++ Rows.extPutsSpec.plain.varTypes Try.prog) (ds ++ gs)).all (· ≤ reachBytes) = true := hsz0
  have hval : ∀ (j : Nat) t v, Try.f5.params[j]? = some t → args[j]? = some v → Value.okWide Try.prog W .any base t v := hval0
  have hW' := hW
  obtain ⟨p, q, hA0, hV, rfl, hfz, hnd⟩ := hW
  have hA : DataW.TrodAll enc Try.prog W 0 (fun _ => true) true Try.f5.params.toList args.toList ds p := hA0
  rw [Try.params5] at hA hval hsz
  obtain ⟨v0, vs0, d0, ds0, p0, q0, hargs, rfl, rfl, h0, r0⟩ := trodAll_cons hA
  obtain ⟨v1, vs1, d1, ds1, p1, q1, rfl, rfl, rfl, h1, r1⟩ := trodAll_cons r0
  obtain ⟨rfl, rfl, rfl⟩ := trodAll_nil r1
  obtain rfl : args = #[v0, v1] := by cases args; simp_all
  obtain ⟨rfl, rfl⟩ := trodVars_none hV
  obtain ⟨a0, rfl, rfl, rfl, w0⟩ := open_int Try.underlying3 (hval 0 3 v0 rfl rfl) h0
  have k1 := h1
  have lt1 : ∀ x ∈ p1, x.block < W.heap.size := by obtain ⟨m, hm⟩ := k1; exact DataW.trod_lt m _ _ _ hm
  obtain ⟨cs1, rfl, hs1⟩ := okWide_struct Try.underlying26 (hval 1 26 v1 rfl rfl)
  obtain ⟨x1, hK1, w1⟩ : ∃ x, Go.Proofs.Ytnlcegcnaamnoaa.MExtPuts.k26.K W x cs1.toList ∧ Go.Proofs.Ytnlcegcnaamnoaa.MExtPuts.ok26 x := by
    obtain ⟨fuel, hf⟩ := h1
    exact (Op.opens26 W) enc _ _ _ fuel _ _ hf
  obtain ⟨A1_0, c1_0, A1_1, c1_1, e1, hc1_0, hr1_0, hc1_1, hr1_1⟩ := Go.Proofs.Ytnlcegcnaamnoaa.MExtPuts.k26_open hK1
  obtain rfl : cs1 = #[.slice A1_0 x1.f0.length c1_0, .slice A1_1 x1.f1.length c1_1] := by rw [← Array.toList_inj]; exact e1
  clear hA0 hval0 hsz0 hsz
  refine (MExtPuts.horologelaw29_ExtPuts.walk Pure.ExtPuts a0 _ _ x1.f0 _ _ x1.f1 W w0 hr1_0 hc1_0 hr1_1 hc1_1 w1).mono fun e W' ⟨he, bel⟩ => ?_
  subst he
  exact ⟨_, rfl, _, _, _, [], _, [], hW', trodAll_mk1 (shut_bool Try.underlying4 _), (trodAll_cons_mk (shut_int Try.underlying3 w0) (trodAll_cons_mk (Below.trod laidOut (by kernel_rfl) (of_decide_eq_true (by kernel_rfl)) k1 bel lt1) trodAll_mk0)), rfl, bel.frame _, fun h => by cases h⟩
theorem over : Rows.extPutsRow.holds Try.pinned (OpenSpec.ofChange Rows.extPutsSpec) :=
  OpenClaim.holds_of_wide 5 Try.f5 rfl rfl rfl rfl rfl rfl rfl ⟨rfl, rfl, rfl, rfl, rfl⟩ rfl rfl rfl rfl rfl (by kernel_rfl) Try.func5 (by kernel_rfl)
    (of_decide_eq_true (by kernel_rfl)) (by unfold Func.isWrapper; first | (rw [if_pos (by decide +kernel)]; kernel_rfl) | (rw [if_neg (by decide +kernel)]; exact ⟨rfl, rfl⟩))
    (fun os started H enc _ => lifted os started H enc)
theorem proved : Rows.ExtPutsSaid := over
#print axioms proved
end Go.Proofs.Ytnlcegcnaamnoaa.extPuts
namespace Go.Proofs.Ytnlcegcnaamnoaa
/-- The row, under a short name, for the claim. -/
theorem extPuts_holds : Rows.ExtPutsSaid := extPuts.proved
end Go.Proofs.Ytnlcegcnaamnoaa
