/-
  The acts that come in, laid open.
-/
import Derived.Test.YtdgeaadcidmmfaaPureQueuePlays
import Derived.Test.YtdgeaadcidmmfaaOpenBase
import Derived.Test.YtdgeaadcidmmfaaArrBase
namespace Go.Proofs.Ytdgeaadcidmmfaa
open Go.RowKit Go.Proofs.YtdgeaadcidmmfaaW.PrintWords Go.Proofs.Ytdgeaadcidmmfaa.MQueuePlays
set_option linter.unusedVariables false
theorem cut_at48 {α : Type} (cs : List α) (a b : Nat) : cs.drop a = (cs.drop a).take b ++ cs.drop (a + b) := by rw [← List.drop_drop, List.take_append_drop]
theorem opens48 (W : World) : OpenBase.Opens Try.prog W 48 k48 (fun _ => True) := by
  intro H enc base spare held fuel cs x hx
  obtain ⟨xs, n, _, _, hl0, hlen, hf⟩ := DataW.trod_struct Try.underlying48 hx
  have hl : cs.length = 3 := hl0.trans (by kernel_rfl)
  match xs, hlen with
  | [y0, y1, y2], _ =>
    have g0 : DataW.trod enc Try.prog W base spare held n 3 ((cs.drop 0).take (Try.prog.cellsOf 3)) = some y0 := hf 0 _ rfl
    obtain ⟨a0, k0_, o0⟩ := (OpenBase.opens_int Try.underlying3) enc base spare held n _ _ g0
    rw [show Try.prog.cellsOf 3 = 1 by kernel_rfl] at k0_
    have g1 : DataW.trod enc Try.prog W base spare held n 4 ((cs.drop 1).take (Try.prog.cellsOf 4)) = some y1 := hf 1 _ rfl
    obtain ⟨a1, k1_, o1⟩ := (OpenBase.opens_bool Try.underlying4) enc base spare held n _ _ g1
    rw [show Try.prog.cellsOf 4 = 1 by kernel_rfl] at k1_
    have g2 : DataW.trod enc Try.prog W base spare held n 9 ((cs.drop 2).take (Try.prog.cellsOf 9)) = some y2 := hf 2 _ rfl
    obtain ⟨a2, k2_, o2⟩ := (OpenBase.opens_string Try.underlying9) enc base spare held n _ _ g2
    rw [show Try.prog.cellsOf 9 = 1 by kernel_rfl] at k2_
    rw [List.take_of_length_le (by rw [List.length_drop, hl]; decide)] at k2_
    exact ⟨⟨a0, a1, a2⟩, ⟨_, _, cut_at48 cs 0 1, k0_, ⟨_, _, cut_at48 cs 1 1, k1_, k2_⟩⟩, trivial⟩
theorem plays_row (r0 r1 : Int) (A : Option Addr) (n c : Nat) (l : List S48) (w : World) (e : l.length = n) (hl : Kd.C k48 w A n l) (hc : n ≤ c) :
    Calls Try.prog 4 #[.agg #[.int .i64 r0, .int .i64 r1], .slice A n c] w fun e w' => e = .returned (.bool true) ∧ Below w.heap.size w w' := by
  subst e
  exact plays_walk r0 r1 A c l w hl hc
end Go.Proofs.Ytdgeaadcidmmfaa
