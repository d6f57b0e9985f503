/- SteadyTells: what a clock tells of any readings, is what the ruler tells of them, reading by reading. For every list of Go's kinds; no further condition. -/
import Derived.Test.YtpjognepdelocaaMSteadyTellsx
import Derived.Test.YtpjognepdelocaaBase
namespace Go.Proofs.Ytpjognepdelocaa.MSteadyTells
open Go.RowKit Go.Proofs.YtpjognepdelocaaW.PrintWords Go.Proofs.YtpjognepdelocaaW.PrintLast Go.Proofs.YtpjognepdelocaaW.PrintMore Go.Proofs.Ytpjognepdelocaa.Base
set_option linter.unusedVariables false
set_option linter.unusedSimpArgs false

theorem alive_is : horologelaw34_alive.f = some true := by kernel_rfl
/-- The greatest of the first n readings; the readings that fell back. -/
def top (l : List Int) : Nat → Int
  | 0 => 0
  | i + 1 => if rd l i < top l i then top l i else rd l i
def fell (l : List Int) : Nat → Int
  | 0 => 0
  | i + 1 => if rd l i < top l i then fell l i + 1 else fell l i
def tops (l : List Int) (n : Nat) : List Int := (List.range n).map (fun j => top l (j + 1))
theorem fell_bd (l : List Int) (n : Nat) : 0 ≤ fell l n ∧ fell l n ≤ n := by
  induction n with
  | zero => simp [fell]
  | succ n ih => unfold fell; split <;> omega
theorem tops_len (l : List Int) (n : Nat) : (tops l n).length = n := by simp [tops]
theorem tops_rd (l : List Int) (n i : Nat) (h : i < n) : rd (tops l n) i = top l (i + 1) := by
  unfold rd tops
  simp [List.getD_eq_getElem?_getD, h]
theorem tops_succ (l : List Int) (n : Nat) : tops l (n + 1) = tops l n ++ [top l (n + 1)] := by simp [tops, List.range_succ]
theorem rd_take (l : List Int) (n i : Nat) (h : i < n) : rd (l.take n) i = rd l i := by
  unfold rd
  simp [List.getD_eq_getElem?_getD, h]
theorem told_l0 (l : List Int) (n : Nat) (hn : n ≤ l.length) (hs : n ≤ 300) (m : Nat) : ∀ i : Nat, i + m = n → Ev (fun k => horologeref34_Told.l0 k (l.take n) (tops l i) (fell l i) (top l i) i) (tops l n, fell l n) := by
  induction m with
  | zero =>
    intro i hi
    refine Ev.up ?_
    simp only [horologeref34_Told.l0]
    have hi' : i = n := by omega
    subst hi'
    refine Ev.neg (by rw [List.length_take]; omega) (Ev.now _)
  | succ m ih =>
    intro i hi
    have fb := fell_bd l i
    refine Ev.up ?_
    simp only [horologeref34_Told.l0]
    rw [rd_take l n i (by omega), show wrap64 ((i : Int) + 1) = ((i + 1 : Nat) : Int) from wr (by omega), show wrap64 (fell l i + 1) = fell l i + 1 from wr (by omega), tops_len]
    have := ih (i + 1) (by omega)
    rw [tops_succ] at this
    refine Ev.pos (by rw [List.length_take]; omega) (Ev.pos (by omega) (Ev.ite (fun q => Ev.pos (by omega) ?_) (fun q => Ev.pos (by omega) ?_)))
    · have e1 : top l (i + 1) = top l i := by rw [top]; exact if_pos q
      have e2 : fell l (i + 1) = fell l i + 1 := by rw [fell]; exact if_pos q
      rw [e1, e2] at this
      exact this
    · have e1 : top l (i + 1) = rd l i := by rw [top]; exact if_neg q
      have e2 : fell l (i + 1) = fell l i := by rw [fell]; exact if_neg q
      rw [e1, e2] at this
      exact this
theorem told_is (l : List Int) (n : Nat) (hn : n ≤ l.length) (hs : n ≤ 300) : Ev (fun k => horologeref34_Told.f k (l.take n)) (tops l n, fell l n) := by
  unfold horologeref34_Told.f
  exact told_l0 l n hn hs n 0 (by omega)
theorem read_is (l : List Int) (i : Nat) (h : i < 300) : steady_Clock_Read.f (top l i) i (fell l i) (rd l i) = some (top l (i + 1), decide (rd l i < top l i), top l (i + 1), (i : Int) + 1, fell l (i + 1)) := by
  have fb := fell_bd l i
  unfold steady_Clock_Read.f
  rw [show wrap64 ((i : Int) + 1) = (i : Int) + 1 from wr (by omega), show wrap64 (fell l i + 1) = fell l i + 1 from wr (by omega), top, fell]
  split
  · rename_i q; rw [decide_eq_true q]
  · rename_i q; rw [decide_eq_false q]
theorem loop_is (l : List Int) (hl : l.length ≤ 300) (m : Nat) : ∀ i : Nat, i + m = l.length → Ev (fun k => horologelaw34_SteadyTells.l0 k l l (l.length : Int) i (top l i) i (fell l i)) true := by
  induction m with
  | zero =>
    intro i hi
    refine Ev.up ?_
    simp only [horologelaw34_SteadyTells.l0]
    exact Ev.neg (by omega) (Ev.now _)
  | succ m ih =>
    intro i hi
    refine Ev.up ?_
    simp only [horologelaw34_SteadyTells.l0]
    rw [show wrap64 ((i : Int) + 1) = ((i + 1 : Nat) : Int) from wr (by omega)]
    refine Ev.pos (by omega) (Ev.pos (by omega) (Ev.pos (by omega) (Ev.pos (by omega) (Ev.pos (by omega) ?_))))
    rw [show ((i + 1 : Nat) : Int).toNat = i + 1 by omega]
    refine Ev.bind (told_is l (i + 1) (by omega) (by omega)) (Ev.bindc (read_is l i (by omega)) (Ev.bindc (a := (top l (i + 1), true, top l (i + 1), (i : Int) + 1, fell l (i + 1))) ?_ ?_))
    · unfold steady_Clock_Now.f
      rw [decide_eq_true (show (i : Int) + 1 > 0 by omega)]
    · simp only [tops_len, tops_rd l (i + 1) i (by omega)]
      refine Ev.pos (by omega) (Ev.pos trivial (Ev.neg ?_ (Ev.pos trivial (Ev.pos trivial (Ev.bindc (show steady_Clock_Backs.f _ _ _ = some _ from rfl) (Ev.pos rfl (Ev.bindc (show steady_Clock_Reads.f _ _ _ = some _ from rfl) (Ev.pos (by show (i : Int) + 1 = _; omega) ?_))))))))
      · rw [top]
        by_cases q : rd l i < top l i
        · simp [q]
        · simp [q]
      · have := ih (i + 1) (by omega)
        rw [show ((i + 1 : Nat) : Int) = (i : Int) + 1 by omega] at this ⊢
        exact this
end Go.Proofs.Ytpjognepdelocaa.MSteadyTells
namespace Go.Proofs.Ytpjognepdelocaa.Pure
open Go.RowKit Go.Proofs.Ytpjognepdelocaa.MSteadyTells Go.Proofs.YtpjognepdelocaaW.PrintWords Go.Proofs.YtpjognepdelocaaW.PrintLast Go.Proofs.Ytpjognepdelocaa.Base
set_option linter.unusedVariables false
set_option linter.unusedSimpArgs false
theorem SteadyTells : horologelaw34_SteadyTells.Pure := by
  intro l hl hl2 hw
  refine Ev.ok (g := fun k => horologelaw34_SteadyTells.f k l) ?_
  unfold horologelaw34_SteadyTells.f
  refine Ev.bindc alive_is (Ev.pos rfl (Ev.ite (fun _ => Ev.now _) (fun h => ?_)))
  refine Ev.bindc (show steady_Clock_Read_nil.f 5 = some (0, false) from rfl) (Ev.bindc (show steady_Clock_Now_nil.f = some (0, false) from rfl) ?_)
  refine Ev.pos rfl (Ev.neg (by decide) (Ev.pos rfl (Ev.neg (by decide) (Ev.bindc (show steady_Clock_Backs_nil.f = some 0 from rfl) (Ev.bindc (show steady_Clock_Reads_nil.f = some 0 from rfl) ?_)))))
  rw [show (wrap64 (0 + 0) != 0) = false from by kernel_rfl]
  refine Ev.up ?_
  simp only [horologelaw34_SteadyTells.j0, Bool.false_eq_true, if_false]
  refine Ev.bindc (show steady_New.f = some (0, 0, 0) from rfl) (Ev.bindc (show steady_Clock_Now.f 0 0 0 = some (0, false, 0, 0, 0) from rfl) (Ev.pos rfl ?_))
  refine Ev.up ?_
  simp only [horologelaw34_SteadyTells.j1, Bool.false_eq_true, if_false]
  exact loop_is l (by omega) l.length 0 (by omega)
end Go.Proofs.Ytpjognepdelocaa.Pure
