/-
  The acts and bytes that come in, laid open.
-/
import Derived.Test.YtecbahciplnhfaaPureScriptBytes
import Derived.Test.YtecbahciplnhfaaOpenBase
namespace Go.Proofs.Ytecbahciplnhfaa
open Go.RowKit Go.Proofs.YtecbahciplnhfaaW.PrintWords Go.Proofs.Ytecbahciplnhfaa.MScriptBytes
set_option linter.unusedVariables false
theorem cut_at33 {α : Type} (cs : List α) (a b : Nat) : cs.drop a = (cs.drop a).take b ++ cs.drop (a + b) := by rw [← List.drop_drop, List.take_append_drop]
def ok33 (x : S33) : Prop := ((Lit.int .u64 x.f2).wf = true) ∧ ((Lit.int .u32 x.f3).wf = true) ∧ ∀ y ∈ x.f6, (Lit.int .u8 y).wf = true
theorem opens33 (W : World) : OpenBase.Opens Try.prog W 33 k33 ok33 := by
  intro H enc base spare held fuel cs x hx
  obtain ⟨xs, n, _, _, hl0, hlen, hf⟩ := DataW.trod_struct Try.underlying33 hx
  have hl : cs.length = 7 := hl0.trans (by kernel_rfl)
  match xs, hlen with
  | [y0, y1, y2, y3, y4, y5, y6], _ =>
    have g0 : DataW.trod enc Try.prog W base spare held n 3 ((cs.drop 0).take (Try.prog.cellsOf 3)) = some y0 := hf 0 _ rfl
    obtain ⟨a0, k0_, o0⟩ := (OpenBase.opens_int Try.underlying3) enc base spare held n _ _ g0
    rw [show Try.prog.cellsOf 3 = 1 by kernel_rfl] at k0_
    have g1 : DataW.trod enc Try.prog W base spare held n 3 ((cs.drop 1).take (Try.prog.cellsOf 3)) = some y1 := hf 1 _ rfl
    obtain ⟨a1, k1_, o1⟩ := (OpenBase.opens_int Try.underlying3) enc base spare held n _ _ g1
    rw [show Try.prog.cellsOf 3 = 1 by kernel_rfl] at k1_
    have g2 : DataW.trod enc Try.prog W base spare held n 30 ((cs.drop 2).take (Try.prog.cellsOf 30)) = some y2 := hf 2 _ rfl
    obtain ⟨a2, k2_, o2⟩ := (OpenBase.opens_int Try.underlying30) enc base spare held n _ _ g2
    rw [show Try.prog.cellsOf 30 = 1 by kernel_rfl] at k2_
    have g3 : DataW.trod enc Try.prog W base spare held n 31 ((cs.drop 3).take (Try.prog.cellsOf 31)) = some y3 := hf 3 _ rfl
    obtain ⟨a3, k3_, o3⟩ := (OpenBase.opens_int Try.underlying31) enc base spare held n _ _ g3
    rw [show Try.prog.cellsOf 31 = 1 by kernel_rfl] at k3_
    have g4 : DataW.trod enc Try.prog W base spare held n 3 ((cs.drop 4).take (Try.prog.cellsOf 3)) = some y4 := hf 4 _ rfl
    obtain ⟨a4, k4_, o4⟩ := (OpenBase.opens_int Try.underlying3) enc base spare held n _ _ g4
    rw [show Try.prog.cellsOf 3 = 1 by kernel_rfl] at k4_
    have g5 : DataW.trod enc Try.prog W base spare held n 3 ((cs.drop 5).take (Try.prog.cellsOf 3)) = some y5 := hf 5 _ rfl
    obtain ⟨a5, k5_, o5⟩ := (OpenBase.opens_int Try.underlying3) enc base spare held n _ _ g5
    rw [show Try.prog.cellsOf 3 = 1 by kernel_rfl] at k5_
    have g6 : DataW.trod enc Try.prog W base spare held n 22 ((cs.drop 6).take (Try.prog.cellsOf 22)) = some y6 := hf 6 _ rfl
    obtain ⟨a6, k6_, o6⟩ := (OpenBase.opens_slice Try.underlying22 (OpenBase.opens_int Try.underlying5) (by kernel_rfl)) enc base spare held n _ _ g6
    rw [show Try.prog.cellsOf 22 = 1 by kernel_rfl] at k6_
    rw [List.take_of_length_le (by rw [List.length_drop, hl]; decide)] at k6_
    exact ⟨⟨a0, a1, a2, a3, a4, a5, a6⟩, ⟨_, _, cut_at33 cs 0 1, k0_, ⟨_, _, cut_at33 cs 1 1, k1_, ⟨_, _, cut_at33 cs 2 1, k2_, ⟨_, _, cut_at33 cs 3 1, k3_, ⟨_, _, cut_at33 cs 4 1, k4_, ⟨_, _, cut_at33 cs 5 1, k5_, k6_⟩⟩⟩⟩⟩⟩, ⟨o2, o3, o6.2⟩⟩
theorem wf_of {x : S33} (h : ok33 x) : wfA x := by
  obtain ⟨h2, h3, h6⟩ := h
  have b2 := bounds_u64 h2
  have b3 := bounds_u32 h3
  exact ⟨by omega, by omega, fun y hy => bounds_u8 (h6 y hy)⟩
theorem bytes_row (A0 : Option Addr) (n0 c0 : Nat) (l : List S33) (A1 : Option Addr) (n1 c1 : Nat) (b : List S33) (w : World) (e0 : l.length = n0) (e1 : b.length = n1) (h0 : Kd.C k33 w A0 n0 l) (hc0 : n0 ≤ c0) (h1 : Kd.C k33 w A1 n1 b) (hc1 : n1 ≤ c1) (hwl : ∀ y ∈ l, ok33 y) (hwb : ∀ y ∈ b, ok33 y) :
    Calls Try.prog 4 #[.slice A0 n0 c0, .slice A1 n1 c1] w fun e w' => e = .returned (.bool true) ∧ Below w.heap.size w w' := by
  subst e0 e1
  exact bytes_walk A0 c0 l A1 c1 b w h0 hc0 h1 hc1 (fun y hy => wf_of (hwl y hy)) (fun y hy => wf_of (hwb y hy))
end Go.Proofs.Ytecbahciplnhfaa
