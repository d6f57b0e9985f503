/- The document's table: what its functions answer. Plain lists. -/
import Derived.Test.YtbifanoiailjoaaMRatePlaysx6
import Derived.Test.YtbifanoiailjoaaMRatePlaysx7
import Derived.Test.YtbifanoiailjoaaRateMid
namespace Go.Proofs.Ytbifanoiailjoaa.MRatePlays
open Go.RowKit Go.Proofs.YtbifanoiailjoaaW.PrintWords Go.Proofs.YtbifanoiailjoaaW.PrintLast Go.Proofs.YtbifanoiailjoaaW.PrintMore Go.Proofs.Ytbifanoiailjoaa.Base
set_option linter.unusedVariables false
set_option linter.unusedSimpArgs false

theorem rd94 (l : List S94) (i : Nat) (h : i < l.length) : rd_T94 l i = l[i] := by unfold rd_T94; simp [List.getElem?_eq_getElem h]
theorem rd94_mid (pre ys : List S94) (y : S94) : rd_T94 (pre ++ y :: ys) (pre.length : Int) = y := by
  rw [rd94 _ _ (by simp)]
  simp
theorem wr94 (n : Nat) (h : n ≤ 1000000) : wrap64 ((n : Int) + 1) = ((n + 1 : Nat) : Int) := by
  rw [wrap64_id (by unfold I64; omega)]
  rfl
theorem wr94m (n : Nat) (h : n ≤ 1000000) : wrap64 (((n + 1 : Nat) : Int) - 1) = (n : Int) := by
  rw [wrap64_id (by unfold I64; omega)]
  omega
def findAt : Nat → List S94 → Int → Int
  | _, [], _ => -1
  | n, y :: ys, key => if y.f0 = key then (n : Int) else findAt (n + 1) ys key
theorem find_l0 (key r s : Int) : ∀ (ys pre : List S94), (pre ++ ys).length ≤ 1000000 → Ev (fun k => horologeref31_Find.l0 k key (pre.length : Int) (pre ++ ys) r s) (findAt pre.length ys key)
  | [], pre, hl => by
    refine Ev.up ?_
    simp only [horologeref31_Find.l0]
    exact Ev.neg (by simp) (Ev.now _)
  | y :: ys, pre, hl => by
    have hlen : (pre ++ y :: ys).length = pre.length + (ys.length + 1) := by simp
    refine Ev.up ?_
    simp only [horologeref31_Find.l0]
    refine Ev.pos (by rw [hlen]; omega) (Ev.pos (by omega) ?_)
    rw [rd94_mid, wr94 _ (by omega)]
    unfold findAt
    refine Ev.ite (fun h => ?_) (fun h => ?_)
    · rw [if_pos h]
      exact Ev.now _
    · rw [if_neg h]
      have := find_l0 key r s ys (pre ++ [y]) (by simpa using hl)
      simpa using this
def findV (l : List S94) (key : Int) : Int := findAt 0 l key
theorem find_is (l : List S94) (r s key : Int) (hl : l.length ≤ 1000000) : Ev (fun k => horologeref31_Find.f k l r s key) (findV l key) := find_l0 key r s l [] hl
theorem findAt_spec (key : Int) : ∀ (ys : List S94) (n : Nat), (findAt n ys key = -1 ∧ ∀ y ∈ ys, y.f0 ≠ key) ∨ ∃ i : Nat, ∃ h : i < ys.length, findAt n ys key = ((n + i : Nat) : Int) ∧ ys[i].f0 = key
  | [], n => .inl ⟨rfl, fun y h => by cases h⟩
  | y :: ys, n => by
    unfold findAt
    by_cases h : y.f0 = key
    · rw [if_pos h]
      exact .inr ⟨0, by simp, rfl, h⟩
    · rw [if_neg h]
      rcases findAt_spec key ys (n + 1) with ⟨h1, h2⟩ | ⟨i, hi, h1, h2⟩
      · refine .inl ⟨h1, fun z hz => ?_⟩
        rcases List.mem_cons.1 hz with rfl | hz
        · exact h
        · exact h2 z hz
      · exact .inr ⟨i + 1, by simpa using hi, by rw [h1]; congr 1; omega, by simpa using h2⟩
theorem findV_spec (l : List S94) (key : Int) : (findV l key = -1 ∧ ∀ y ∈ l, y.f0 ≠ key) ∨ ∃ i : Nat, ∃ h : i < l.length, findV l key = (i : Int) ∧ l[i].f0 = key := by
  rcases findAt_spec key l 0 with h | ⟨i, hi, h1, h2⟩
  · exact .inl h
  · exact .inr ⟨i, hi, by unfold findV; rw [h1, Nat.zero_add], h2⟩
theorem without_is (l : List S94) (r s : Int) (i : Nat) (hi : i < l.length) (hl : l.length ≤ 1000000) : horologeref31_Without.f l r s i = some (l.take i ++ l.drop (i + 1), r, s) := by
  have h1 : (0 : Int) ≤ (i : Int) := Int.natCast_nonneg i
  have h2 : (i : Int) ≤ (l.length : Int) := Int.ofNat_le.2 (Nat.le_of_lt hi)
  have h3 : ([] : List S94).length + (l.take (i : Int).toNat).length < 5864062014805 := by
    rw [List.length_nil, Nat.zero_add, List.length_take]
    exact Nat.lt_of_le_of_lt (Nat.le_trans (Nat.min_le_right _ _) hl) (by decide)
  have h4 : (0 : Int) ≤ ((i + 1 : Nat) : Int) := Int.natCast_nonneg _
  have h5 : ((i + 1 : Nat) : Int) ≤ (l.length : Int) := Int.ofNat_le.2 hi
  have h6 : (([] : List S94) ++ l.take (i : Int).toNat).length + (l.drop (((i + 1 : Nat) : Int)).toNat).length < 5864062014805 := by
    rw [List.nil_append, List.length_take, List.length_drop]
    exact Nat.lt_of_le_of_lt (Nat.add_le_add (Nat.le_trans (Nat.min_le_right _ _) hl) (Nat.le_trans (Nat.sub_le _ _) hl)) (by decide)
  have hw := wr94 i (Nat.le_of_lt (Nat.lt_of_lt_of_le hi hl))
  unfold horologeref31_Without.f
  rw [hw, Option.bind_some]
  refine (if_pos h1).trans ((if_pos h2).trans ?_)
  rw [Option.bind_some]
  refine (if_pos h3).trans ?_
  rw [Option.bind_some]
  refine (if_pos h4).trans ((if_pos h5).trans ?_)
  rw [Option.bind_some]
  refine (if_pos h6).trans ?_
  rw [Int.toNat_natCast, Int.toNat_natCast, List.nil_append]
def olderR (y z : S94) : Prop := y.f1 < z.f1 ∨ (y.f1 = z.f1 ∧ y.f0 < z.f0)
theorem oldest_l0 (r s : Int) : ∀ (ys pre : List S94) (best : Int), (pre ++ ys).length ≤ 1000000 → ((best = -1 ∧ pre = []) ∨ ∃ i : Nat, best = i ∧ ∃ h : i < pre.length, ∀ y ∈ pre, ¬ olderR y pre[i]) →
    ∃ at_ : Int, Ev (fun k => horologeref31_Oldest.l0 k best (pre.length : Int) (pre ++ ys) r s) at_ ∧ ((at_ = -1 ∧ pre ++ ys = []) ∨ ∃ i : Nat, at_ = i ∧ ∃ h : i < (pre ++ ys).length, ∀ y ∈ pre ++ ys, ¬ olderR y (pre ++ ys)[i])
  | [], pre, best, hl, hb => by
    refine ⟨best, Ev.up ?_, ?_⟩
    · simp only [horologeref31_Oldest.l0]
      exact Ev.neg (by simp) (Ev.now _)
    · simpa using hb
  | y :: ys, pre, best, hl, hb => by
    have hlen : (pre ++ y :: ys).length = pre.length + (ys.length + 1) := by simp
    have e : pre ++ y :: ys = (pre ++ [y]) ++ ys := by simp
    have hpl : ((pre ++ [y]).length : Int) = ((pre.length + 1 : Nat) : Int) := by simp
    have next : ∀ (b2 : Int), ((b2 = -1 ∧ pre ++ [y] = []) ∨ ∃ i : Nat, b2 = i ∧ ∃ h : i < (pre ++ [y]).length, ∀ z ∈ pre ++ [y], ¬ olderR z (pre ++ [y])[i]) →
        ∃ at_ : Int, Ev (fun k => horologeref31_Oldest.l0 k b2 (wrap64 ((pre.length : Int) + 1)) (pre ++ y :: ys) r s) at_ ∧ ((at_ = -1 ∧ pre ++ y :: ys = []) ∨ ∃ i : Nat, at_ = i ∧ ∃ h : i < (pre ++ y :: ys).length, ∀ z ∈ pre ++ y :: ys, ¬ olderR z (pre ++ y :: ys)[i]) := fun b2 h2 => by
      have := oldest_l0 r s ys (pre ++ [y]) b2 (by rw [← e]; exact hl) h2
      rw [hpl, ← e] at this
      rw [wr94 _ (by omega)]
      exact this
    rcases hb with ⟨rfl, rfl⟩ | ⟨i, rfl, hi, hmin⟩
    · obtain ⟨at_, hev, hsp⟩ := next ((([] : List S94).length : Nat) : Int) (.inr ⟨0, rfl, by simp, fun z hz => by
        rw [List.nil_append, List.mem_singleton] at hz
        subst hz
        simp [olderR]⟩)
      refine ⟨at_, Ev.up ?_, hsp⟩
      simp only [horologeref31_Oldest.l0]
      refine Ev.pos (by rw [hlen]; omega) (Ev.pos (by omega) (Ev.pos (by decide) (Ev.up ?_)))
      simp only [horologeref31_Oldest.j1, if_true]
      exact hev
    · have hri : rd_T94 (pre ++ y :: ys) (i : Int) = pre[i] := by rw [rd94 _ _ (by rw [hlen]; omega), List.getElem_append_left hi]
      have hgi : ∀ h, (pre ++ [y])[i]'h = pre[i] := fun h => List.getElem_append_left hi
      by_cases ho : olderR y pre[i]
      · obtain ⟨at_, hev, hsp⟩ := next (pre.length : Int) (.inr ⟨pre.length, rfl, by simp, fun z hz => by
          have hg : (pre ++ [y])[pre.length]'(by simp) = y := by simp
          rw [hg]
          rcases List.mem_append.1 hz with hz | hz
          · have := hmin z hz
            unfold olderR at *
            omega
          · rw [List.mem_singleton] at hz
            subst hz
            unfold olderR
            omega⟩)
        refine ⟨at_, Ev.up ?_, hsp⟩
        simp only [horologeref31_Oldest.l0]
        refine Ev.pos (by rw [hlen]; omega) (Ev.pos (by omega) (Ev.neg (by omega) (Ev.pos (by omega) (Ev.pos (by rw [hlen]; omega) ?_))))
        rw [rd94_mid, hri]
        rcases ho with ho | ⟨ho1, ho2⟩
        · refine Ev.pos ho (Ev.up ?_)
          simp only [horologeref31_Oldest.j1, if_true]
          exact hev
        · refine Ev.neg (by omega) (Ev.pos ho1 (Ev.up ?_))
          rw [decide_eq_true ho2]
          simp only [horologeref31_Oldest.j1, if_true]
          exact hev
      · obtain ⟨at_, hev, hsp⟩ := next (i : Int) (.inr ⟨i, rfl, by simp; omega, fun z hz => by
          rw [hgi]
          rcases List.mem_append.1 hz with hz | hz
          · exact hmin z hz
          · rw [List.mem_singleton] at hz
            subst hz
            exact ho⟩)
        refine ⟨at_, Ev.up ?_, hsp⟩
        simp only [horologeref31_Oldest.l0]
        refine Ev.pos (by rw [hlen]; omega) (Ev.pos (by omega) (Ev.neg (by omega) (Ev.pos (by omega) (Ev.pos (by rw [hlen]; omega) ?_))))
        rw [rd94_mid, hri]
        have h1 : ¬ y.f1 < pre[i].f1 := fun q => ho (.inl q)
        refine Ev.neg h1 (Ev.ite (fun h2 => ?_) (fun h2 => ?_))
        · have h3 : ¬ y.f0 < pre[i].f0 := fun q => ho (.inr ⟨h2, q⟩)
          rw [decide_eq_false h3]
          refine Ev.up ?_
          simp only [horologeref31_Oldest.j1, Bool.false_eq_true, if_false]
          exact hev
        · refine Ev.up ?_
          simp only [horologeref31_Oldest.j1, Bool.false_eq_true, if_false]
          exact hev
theorem oldest_is (l : List S94) (r s : Int) (hl : l.length ≤ 1000000) : ∃ at_ : Int, Ev (fun k => horologeref31_Oldest.f k l r s) at_ ∧ ((at_ = -1 ∧ l = []) ∨ ∃ i : Nat, at_ = i ∧ ∃ h : i < l.length, ∀ y ∈ l, ¬ olderR y l[i]) :=
  oldest_l0 r s l [] (-1) hl (.inl ⟨rfl, rfl⟩)
end Go.Proofs.Ytbifanoiailjoaa.MRatePlays
