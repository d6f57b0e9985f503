-- This text was written by a program of this session (a changed scratch copy of a tool of the kit; NOTES.md tells the changes).
import Derived.Test.YtonjfggfcnpgbaaOpenBase
import Derived.Test.YtonjfggfcnpgbaaRows
import Derived.Test.YtonjfggfcnpgbaaScanLaw
import Derived.WalkKit
import Derived.ProofKit
import Derived.OpenShut
import Derived.ShutString
import Derived.ChangeOld
import Derived.Below
import Derived.SizedLaws
import Derived.Test.YtonjfggfcnpgbaaWSized
namespace Go.Proofs.Ytonjfggfcnpgbaa.scanPlays.Op
open Go.RowKit Go.Proofs.YtonjfggfcnpgbaaW.PrintWords Go.Proofs.Ytonjfggfcnpgbaa.MScanPlays Go.Proofs.Ytonjfggfcnpgbaa
set_option linter.unusedVariables false
theorem cut_at {α : Type} (cs : List α) (a b : Nat) : cs.drop a = (cs.drop a).take b ++ cs.drop (a + b) := by rw [← List.drop_drop, List.take_append_drop]
theorem opens35 (W : World) : OpenBase.Opens Try.prog W 35 k35 ok35 := by
  intro H enc base spare held fuel cs x hx
  obtain ⟨xs, n, _, _, hl0, hlen, hf⟩ := DataW.trod_struct Try.underlying35 hx
  have hl : cs.length = 6 := hl0.trans (by kernel_rfl)
  match xs, hlen with
  | [y0, y1, y2, y3, y4, y5], _ =>
    have g0 : DataW.trod enc Try.prog W base spare held n 3 ((cs.drop 0).take (Try.prog.cellsOf 3)) = some y0 := hf 0 _ rfl
    obtain ⟨a0, k0_, o0⟩ := (OpenBase.opens_int Try.underlying3) enc base spare held n _ _ g0
    rw [show Try.prog.cellsOf 3 = 1 by kernel_rfl] at k0_
    have g1 : DataW.trod enc Try.prog W base spare held n 5 ((cs.drop 1).take (Try.prog.cellsOf 5)) = some y1 := hf 1 _ rfl
    obtain ⟨a1, k1_, o1⟩ := (OpenBase.opens_int Try.underlying5) enc base spare held n _ _ g1
    rw [show Try.prog.cellsOf 5 = 1 by kernel_rfl] at k1_
    have g2 : DataW.trod enc Try.prog W base spare held n 9 ((cs.drop 2).take (Try.prog.cellsOf 9)) = some y2 := hf 2 _ rfl
    obtain ⟨a2, k2_, o2⟩ := (OpenBase.opens_string Try.underlying9) enc base spare held n _ _ g2
    rw [show Try.prog.cellsOf 9 = 1 by kernel_rfl] at k2_
    have g3 : DataW.trod enc Try.prog W base spare held n 33 ((cs.drop 3).take (Try.prog.cellsOf 33)) = some y3 := hf 3 _ rfl
    obtain ⟨a3, k3_, o3⟩ := (OpenBase.opens_slice Try.underlying33 (OpenBase.opens_string Try.underlying9) (by kernel_rfl)) enc base spare held n _ _ g3
    rw [show Try.prog.cellsOf 33 = 1 by kernel_rfl] at k3_
    have g4 : DataW.trod enc Try.prog W base spare held n 3 ((cs.drop 4).take (Try.prog.cellsOf 3)) = some y4 := hf 4 _ rfl
    obtain ⟨a4, k4_, o4⟩ := (OpenBase.opens_int Try.underlying3) enc base spare held n _ _ g4
    rw [show Try.prog.cellsOf 3 = 1 by kernel_rfl] at k4_
    have g5 : DataW.trod enc Try.prog W base spare held n 3 ((cs.drop 5).take (Try.prog.cellsOf 3)) = some y5 := hf 5 _ rfl
    obtain ⟨a5, k5_, o5⟩ := (OpenBase.opens_int Try.underlying3) enc base spare held n _ _ g5
    rw [show Try.prog.cellsOf 3 = 1 by kernel_rfl] at k5_
    rw [List.take_of_length_le (by rw [List.length_drop, hl]; decide)] at k5_
    exact ⟨⟨a0, a1, a2, a3, a4, a5⟩, ⟨_, _, cut_at cs 0 1, k0_, ⟨_, _, cut_at cs 1 1, k1_, ⟨_, _, cut_at cs 2 1, k2_, ⟨_, _, cut_at cs 3 1, k3_, ⟨_, _, cut_at cs 4 1, k4_, k5_⟩⟩⟩⟩⟩, ⟨o0, o1, o2, o3, o4, o5⟩⟩
end Go.Proofs.Ytonjfggfcnpgbaa.scanPlays.Op
namespace Go.Proofs.Ytonjfggfcnpgbaa.scanPlays
open Go.ChangeShapes Go.WideShapes Go.ChangeAt Go.RowKit
open Go.ChangeMaps (open_string shut_string)
set_option linter.unusedVariables false
theorem own : ownKnob Try.prog.godebug = none := by kernel_rfl
theorem laidOut : laidOutB Try.prog = true := by kernel_rfl
def IsRow (k : IntKind) (w : World) (a : Option Addr) (len cap : Nat) (zs : List Int) : Prop :=
  (a = none ∧ len = 0 ∧ cap = 0 ∧ zs = []) ∨
  ∃ x, a = some x ∧ len ≤ cap ∧ cap ≤ maxLen ∧ zs.length = cap ∧ (∀ i, i < zs.length → w.cell? (x.add i) = some (.int k (zs.getD i 0))) ∧ ∀ n ∈ zs, (Lit.int k n).wf = true
set_option maxRecDepth 100000 in
theorem lifted (os : Os) (started : os.Started) (H : Type) (enc : TypeId × Value → H) :
    ReturnsInHanded {} Try.checked os 3 .any (Rows.scanPlaysSpec.pre6 enc Try.prog Try.f3 Rows.scanPlaysRow.domain false) (Rows.scanPlaysSpec.post enc Try.prog Try.f3 false true false false) := by
  refine returnsInHanded_of_change_sized (C := Try.checked) own started (by kernel_rfl) Try.func3
    (ChangeSpec.witness6 (enc := enc) (C := Try.checked) false ⟨#[], #[.string ByteArray.empty, .slice none 0 0], []⟩ 8 (by kernel_rfl) (by kernel_rfl) (by kernel_rfl) (by kernel_rfl)) ?_
  intro W base args ds gs before hval0 hW hcnd hsz0 _
  have hsz : (DataW.weightsEach Try.prog (Try.f3.params.toList ++ Rows.scanPlaysSpec.plain.varTypes Try.prog) (ds ++ gs)).all (· ≤ reachBytes) = true := hsz0
  have hval : ∀ (j : Nat) t v, Try.f3.params[j]? = some t → args[j]? = some v → Value.okWide Try.prog W .any base t v := hval0
  have hW' := hW
  obtain ⟨p, q, hA0, hV, rfl, hfz, hnd⟩ := hW
  have hA : DataW.TrodAll enc Try.prog W 0 (fun _ => true) true Try.f3.params.toList args.toList ds p := hA0
  rw [Try.params3] at hA hval hsz
  obtain ⟨v0, vs0, d0, ds0, p0, q0, hargs, rfl, rfl, h0, r0⟩ := trodAll_cons hA
  obtain ⟨v1, vs1, d1, ds1, p1, q1, rfl, rfl, rfl, h1, r1⟩ := trodAll_cons r0
  obtain ⟨rfl, rfl, rfl⟩ := trodAll_nil r1
  obtain rfl : args = #[v0, v1] := by cases args; simp_all
  obtain ⟨rfl, rfl⟩ := trodVars_none hV
  obtain ⟨a0, rfl, rfl, rfl, y0⟩ := open_string Try.underlying9 (hval 0 9 v0 rfl rfl) h0
  have w0 : a0.size ≤ 140737488351232 := by
    have z := sized_string hsz (j := 0) (t := 9) rfl rfl
    rw [Array.length_toList] at z
    exact z
  have k1 := h1
  have lt1 : ∀ x ∈ p1, x.block < W.heap.size := by obtain ⟨m, hm⟩ := k1; exact DataW.trod_lt m _ _ _ hm
  obtain ⟨a1, len1, cap1, rfl⟩ := okWide_slice Try.underlying22 (hval 1 22 v1 rfl rfl)
  obtain ⟨l1, A1, c1, e1, hr1, hc1, w1⟩ : ∃ (l : _) (A : _) (c : _), (Value.slice a1 len1 cap1) = .slice A l.length c ∧ Go.Proofs.YtonjfggfcnpgbaaW.PrintWords.Kd.C Go.Proofs.Ytonjfggfcnpgbaa.MScanPlays.k35 W A l.length l ∧ l.length ≤ c ∧ (l.length ≤ 9223372036854775807 ∧ ∀ y_ ∈ l, Go.Proofs.Ytonjfggfcnpgbaa.MScanPlays.ok35 y_) := by
    obtain ⟨fuel, hf⟩ := h1
    obtain ⟨l, ⟨A, c, hcs, hle, hC⟩, ho⟩ := (Go.Proofs.Ytonjfggfcnpgbaa.OpenBase.opens_slice Try.underlying22 (Op.opens35 W) (by kernel_rfl)) enc _ _ _ fuel _ _ hf
    exact ⟨l, A, c, (List.cons.inj hcs).1, hC, hle, ho⟩
  injection e1 with ea1 el1 ec1
  subst ea1 el1 ec1
  clear hA0 hval0 hsz0 hsz
  refine (MScanPlays.scanPlays_walk a0 _ _ l1 W w0 hr1 hc1 w1).mono fun e W' ⟨he, bel⟩ => ?_
  subst he
  exact ⟨_, rfl, _, _, _, [], _, [], hW', trodAll_mk1 (shut_bool Try.underlying4 _), (trodAll_cons_mk (shut_string Try.underlying9 y0) (trodAll_cons_mk (Below.trod laidOut (by kernel_rfl) (of_decide_eq_true (by kernel_rfl)) k1 bel lt1) trodAll_mk0)), rfl, bel.frame _, fun h => by cases h⟩
theorem over : Rows.scanPlaysRow.holds Try.pinned (OpenSpec.ofChange Rows.scanPlaysSpec) :=
  OpenClaim.holds_of_wide 3 Try.f3 rfl rfl rfl rfl rfl rfl rfl ⟨rfl, rfl, rfl, rfl, rfl⟩ rfl rfl rfl rfl rfl (by kernel_rfl) Try.func3 (by kernel_rfl)
    (of_decide_eq_true (by kernel_rfl)) (by unfold Func.isWrapper; first | (rw [if_pos (by decide +kernel)]; kernel_rfl) | (rw [if_neg (by decide +kernel)]; exact ⟨rfl, rfl⟩))
    (fun os started H enc _ => lifted os started H enc)
theorem proved : Rows.ScanPlaysSaid := over
#print axioms proved
end Go.Proofs.Ytonjfggfcnpgbaa.scanPlays
namespace Go.Proofs.Ytonjfggfcnpgbaa
/-- The row, under a short name, for the claim. -/
theorem scanPlays_holds : Rows.ScanPlaysSaid := scanPlays.proved
end Go.Proofs.Ytonjfggfcnpgbaa
