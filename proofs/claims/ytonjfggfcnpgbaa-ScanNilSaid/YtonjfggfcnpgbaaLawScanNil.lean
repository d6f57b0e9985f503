-- This text was written by a program of this session (a changed scratch copy of a tool of the kit; NOTES.md tells the changes).
import Derived.Test.YtonjfggfcnpgbaaOpenBase
import Derived.Test.YtonjfggfcnpgbaaRows
import Derived.Test.YtonjfggfcnpgbaaMScanNilx7
import Derived.Test.YtonjfggfcnpgbaaPureScanNil
import Derived.WalkKit
import Derived.ProofKit
import Derived.OpenShut
import Derived.ShutString
import Derived.ChangeOld
import Derived.Below
import Derived.SizedLaws
import Derived.Test.YtonjfggfcnpgbaaWSized
namespace Go.Proofs.Ytonjfggfcnpgbaa.scanNil.Op
open Go.RowKit Go.Proofs.YtonjfggfcnpgbaaW.PrintWords Go.Proofs.Ytonjfggfcnpgbaa.MScanNil Go.Proofs.Ytonjfggfcnpgbaa
set_option linter.unusedVariables false
theorem cut_at {α : Type} (cs : List α) (a b : Nat) : cs.drop a = (cs.drop a).take b ++ cs.drop (a + b) := by rw [← List.drop_drop, List.take_append_drop]
theorem opens35 (W : World) : OpenBase.Opens Try.prog W 35 k35 ok35 := by
  intro H enc base spare held fuel cs x hx
  obtain ⟨xs, n, _, _, hl0, hlen, hf⟩ := DataW.trod_struct Try.underlying35 hx
  have hl : cs.length = 6 := hl0.trans (by kernel_rfl)
  match xs, hlen with
  | [y0, y1, y2, y3, y4, y5], _ =>
    have g0 : DataW.trod enc Try.prog W base spare held n 3 ((cs.drop 0).take (Try.prog.cellsOf 3)) = some y0 := hf 0 _ rfl
    obtain ⟨a0, k0_, o0⟩ := (OpenBase.opens_int Try.underlying3) enc base spare held n _ _ g0
    rw [show Try.prog.cellsOf 3 = 1 by kernel_rfl] at k0_
    have g1 : DataW.trod enc Try.prog W base spare held n 5 ((cs.drop 1).take (Try.prog.cellsOf 5)) = some y1 := hf 1 _ rfl
    obtain ⟨a1, k1_, o1⟩ := (OpenBase.opens_int Try.underlying5) enc base spare held n _ _ g1
    rw [show Try.prog.cellsOf 5 = 1 by kernel_rfl] at k1_
    have g2 : DataW.trod enc Try.prog W base spare held n 9 ((cs.drop 2).take (Try.prog.cellsOf 9)) = some y2 := hf 2 _ rfl
    obtain ⟨a2, k2_, o2⟩ := (OpenBase.opens_string Try.underlying9) enc base spare held n _ _ g2
    rw [show Try.prog.cellsOf 9 = 1 by kernel_rfl] at k2_
    have g3 : DataW.trod enc Try.prog W base spare held n 33 ((cs.drop 3).take (Try.prog.cellsOf 33)) = some y3 := hf 3 _ rfl
    obtain ⟨a3, k3_, o3⟩ := (OpenBase.opens_slice Try.underlying33 (OpenBase.opens_string Try.underlying9) (by kernel_rfl)) enc base spare held n _ _ g3
    rw [show Try.prog.cellsOf 33 = 1 by kernel_rfl] at k3_
    have g4 : DataW.trod enc Try.prog W base spare held n 3 ((cs.drop 4).take (Try.prog.cellsOf 3)) = some y4 := hf 4 _ rfl
    obtain ⟨a4, k4_, o4⟩ := (OpenBase.opens_int Try.underlying3) enc base spare held n _ _ g4
    rw [show Try.prog.cellsOf 3 = 1 by kernel_rfl] at k4_
    have g5 : DataW.trod enc Try.prog W base spare held n 3 ((cs.drop 5).take (Try.prog.cellsOf 3)) = some y5 := hf 5 _ rfl
    obtain ⟨a5, k5_, o5⟩ := (OpenBase.opens_int Try.underlying3) enc base spare held n _ _ g5
    rw [show Try.prog.cellsOf 3 = 1 by kernel_rfl] at k5_
    rw [List.take_of_length_le (by rw [List.length_drop, hl]; decide)] at k5_
    exact ⟨⟨a0, a1, a2, a3, a4, a5⟩, ⟨_, _, cut_at cs 0 1, k0_, ⟨_, _, cut_at cs 1 1, k1_, ⟨_, _, cut_at cs 2 1, k2_, ⟨_, _, cut_at cs 3 1, k3_, ⟨_, _, cut_at cs 4 1, k4_, k5_⟩⟩⟩⟩⟩, ⟨o0, o1, o2, o3, o4, o5⟩⟩
end Go.Proofs.Ytonjfggfcnpgbaa.scanNil.Op
namespace Go.Proofs.Ytonjfggfcnpgbaa.scanNil
open Go.ChangeShapes Go.WideShapes Go.ChangeAt Go.RowKit
open Go.ChangeMaps (open_string shut_string)
set_option linter.unusedVariables false
theorem own : ownKnob Try.prog.godebug = none := by kernel_rfl
theorem laidOut : laidOutB Try.prog = true := by kernel_rfl
def IsRow (k : IntKind) (w : World) (a : Option Addr) (len cap : Nat) (zs : List Int) : Prop :=
  (a = none ∧ len = 0 ∧ cap = 0 ∧ zs = []) ∨
  ∃ x, a = some x ∧ len ≤ cap ∧ cap ≤ maxLen ∧ zs.length = cap ∧ (∀ i, i < zs.length → w.cell? (x.add i) = some (.int k (zs.getD i 0))) ∧ ∀ n ∈ zs, (Lit.int k n).wf = true
set_option maxRecDepth 100000 in
theorem lifted (os : Os) (started : os.Started) (H : Type) (enc : TypeId × Value → H) :
    ReturnsInHanded {} Try.checked os 5 .any (Rows.scanNilSpec.pre6 enc Try.prog Try.f5 Rows.scanNilRow.domain false) (Rows.scanNilSpec.post enc Try.prog Try.f5 false true false false) := by
  refine returnsInHanded_of_change_sized (C := Try.checked) own started (by kernel_rfl) Try.func5
    (ChangeSpec.witness6 (enc := enc) (C := Try.checked) false ⟨#[], #[(.agg #[(.int .i64 0), (.int .u8 0), (.string ⟨#[]⟩), (.slice none 0 0), (.int .i64 0), (.int .i64 0)])], []⟩ 8 (by kernel_rfl) (by kernel_rfl) (by kernel_rfl) (by kernel_rfl)) ?_
  intro W base args ds gs before hval0 hW hcnd hsz0 _
  have hsz : (DataW.weightsEach Try.prog (Try.f5.params.toList ++ Rows.scanNilSpec.plain.varTypes Try.prog) (ds ++ gs)).all (· ≤ reachBytes) = true := hsz0
  have hval : ∀ (j : Nat) t v, Try.f5.params[j]? = some t → args[j]? = some v → Value.okWide Try.prog W .any base t v := hval0
  have hW' := hW
  obtain ⟨p, q, hA0, hV, rfl, hfz, hnd⟩ := hW
  have hA : DataW.TrodAll enc Try.prog W 0 (fun _ => true) true Try.f5.params.toList args.toList ds p := hA0
  rw [Try.params5] at hA hval hsz
  obtain ⟨v0, vs0, d0, ds0, p0, q0, hargs, rfl, rfl, h0, r0⟩ := trodAll_cons hA
  obtain ⟨rfl, rfl, rfl⟩ := trodAll_nil r0
  obtain rfl : args = #[v0] := by cases args; simp_all
  obtain ⟨rfl, rfl⟩ := trodVars_none hV
  have k0 := h0
  have lt0 : ∀ x ∈ p0, x.block < W.heap.size := by obtain ⟨m, hm⟩ := k0; exact DataW.trod_lt m _ _ _ hm
  obtain ⟨cs0, rfl, hs0⟩ := okWide_struct Try.underlying35 (hval 0 35 v0 rfl rfl)
  obtain ⟨x0, hK0, w0⟩ : ∃ x, Go.Proofs.Ytonjfggfcnpgbaa.MScanNil.k35.K W x cs0.toList ∧ Go.Proofs.Ytonjfggfcnpgbaa.MScanNil.ok35 x := by
    obtain ⟨fuel, hf⟩ := h0
    exact (Op.opens35 W) enc _ _ _ fuel _ _ hf
  obtain ⟨A0_3, c0_3, e0, hc0_3, hr0_3⟩ := Go.Proofs.Ytonjfggfcnpgbaa.MScanNil.k35_open hK0
  obtain rfl : cs0 = #[.int .i64 x0.f0, .int .u8 x0.f1, .string x0.f2, .slice A0_3 x0.f3.length c0_3, .int .i64 x0.f4, .int .i64 x0.f5] := by rw [← Array.toList_inj]; exact e0
  clear hA0 hval0 hsz0 hsz
  refine (MScanNil.scanNil_walk x0.f0 x0.f1 x0.f2 _ _ x0.f3 x0.f4 x0.f5 W hr0_3 hc0_3 w0).mono fun e W' ⟨he, bel⟩ => ?_
  subst he
  exact ⟨_, rfl, _, _, _, [], _, [], hW', trodAll_mk1 (shut_bool Try.underlying4 _), (trodAll_cons_mk (Below.trod laidOut (by kernel_rfl) (of_decide_eq_true (by kernel_rfl)) k0 bel lt0) trodAll_mk0), rfl, bel.frame _, fun h => by cases h⟩
theorem over : Rows.scanNilRow.holds Try.pinned (OpenSpec.ofChange Rows.scanNilSpec) :=
  OpenClaim.holds_of_wide 5 Try.f5 rfl rfl rfl rfl rfl rfl rfl ⟨rfl, rfl, rfl, rfl, rfl⟩ rfl rfl rfl rfl rfl (by kernel_rfl) Try.func5 (by kernel_rfl)
    (of_decide_eq_true (by kernel_rfl)) (by unfold Func.isWrapper; first | (rw [if_pos (by decide +kernel)]; kernel_rfl) | (rw [if_neg (by decide +kernel)]; exact ⟨rfl, rfl⟩))
    (fun os started H enc _ => lifted os started H enc)
theorem proved : Rows.ScanNilSaid := over
#print axioms proved
end Go.Proofs.Ytonjfggfcnpgbaa.scanNil
namespace Go.Proofs.Ytonjfggfcnpgbaa
/-- The row, under a short name, for the claim. -/
theorem scanNil_holds : Rows.ScanNilSaid := scanNil.proved
end Go.Proofs.Ytonjfggfcnpgbaa
