/- What the functions on numbers of any size (rows of digits) answer: each as the number it stands for. No condition but that the rows are short. -/
import Derived.Test.YtonjfggfcnpgbaaMScanPlaysx
import Derived.Test.YtonjfggfcnpgbaaBigBase
namespace Go.Proofs.Ytonjfggfcnpgbaa.MScanPlays
open Go.RowKit Go.Proofs.YtonjfggfcnpgbaaW.PrintWords Go.Proofs.YtonjfggfcnpgbaaW.PrintLast Go.Proofs.YtonjfggfcnpgbaaW.PrintMore Go.Proofs.Ytonjfggfcnpgbaa.Base
set_option linter.unusedVariables false
set_option linter.unusedSimpArgs false

theorem digit_is (l : List Int) (i : Nat) : r1_digit.f l (i : Int) = some (dg l i) := by
  unfold r1_digit.f dg rd
  by_cases h : i < l.length
  · rw [if_pos (by omega), if_pos (by omega)]; simp
  · rw [if_neg (by omega), getD_ge (by omega)]
theorem cut_is (l : List Int) (hd : Dg l) (hn : l.length ≤ 1000000) : ∃ r, Ev (fun k => r1_cut.l0 k l) r ∧ val r = val l ∧ Dg r ∧ Tr r ∧ r.length ≤ l.length := by
  generalize e : l.length = n at *
  induction n generalizing l with
  | zero =>
    refine ⟨l, Ev.up ?_, rfl, hd, ?_, by omega⟩
    · simp only [r1_cut.l0]; exact Ev.neg (by omega) (Ev.now _)
    · intro m hm; omega
  | succ n ih =>
    have w : wrap64 ((l.length : Int) - 1) = n := by rw [wrap64_id (by unfold I64; omega)]; omega
    have er : rd l n = dg l n := rfl
    by_cases h0 : dg l n = 0
    · have hl : (l.take n).length = n := by simp; omega
      obtain ⟨r, h1, h2, h3, h4, h5⟩ := ih (l.take n) (hd.take n) hl (by omega)
      refine ⟨r, Ev.up ?_, ?_, h3, h4, by omega⟩
      · simp only [r1_cut.l0]
        simp only [w, er]
        refine Ev.pos (by omega) (Ev.pos (by omega) (Ev.pos (by omega) (Ev.pos h0 (Ev.pos (by omega) ?_))))
        simpa using h1
      · rw [h2, val_cut l n, val_drop, h0, List.drop_eq_nil_of_le (by omega)]; simp [val]
    · refine ⟨l, Ev.up ?_, rfl, hd, Tr.of_last hd e h0, by omega⟩
      simp only [r1_cut.l0]
      simp only [w, er]
      exact Ev.pos (by omega) (Ev.pos (by omega) (Ev.pos (by omega) (Ev.neg h0 (Ev.now _))))
theorem cut_f (l : List Int) (hd : Dg l) (hn : l.length ≤ 1000000) : ∃ r, Ev (fun k => r1_cut.f k l) r ∧ val r = val l ∧ Dg r ∧ Tr r ∧ r.length ≤ l.length := cut_is l hd hn

theorem plus_l0 (a b : List Int) (ha : Dg a) (hb : Dg b) (hna : a.length ≤ 100000) (hnb : b.length ≤ 100000) (m : Nat) :
    ∀ (out : List Int) (c : Int), Dg out → 0 ≤ c → c ≤ 1 → max a.length b.length + 2 - out.length ≤ m → out.length ≤ max a.length b.length + 1 → (c = 1 → out.length ≤ max a.length b.length) →
      val out + B out.length * (c + val (a.drop out.length) + val (b.drop out.length)) = val a + val b →
      ((∀ n, out.length = n + 1 → Tr a → Tr b → B n ≤ val a + val b)) →
      ∃ r, Ev (fun k => r1_plus.l0 k a b out c out.length) r ∧ val r = val a + val b ∧ Dg r ∧ r.length ≤ max a.length b.length + 1 ∧ (Tr a → Tr b → Tr r) := by
  induction m with
  | zero => intro out c ho c0 c1 hm hl hc hv ht; omega
  | succ m ih =>
    intro out c ho c0 c1 hm hl hc hv ht
    by_cases hgo : out.length < a.length ∨ out.length < b.length ∨ c = 1
    · have da := ha.dg out.length
      have db := hb.dg out.length
      have va := val_drop a out.length
      have vb := val_drop b out.length
      have na := val_bd (ha.drop (out.length + 1))
      have nb := val_bd (hb.drop (out.length + 1))
      have no := val_bd ho
      have bp := B_pos out.length
      have hstep : val a + val b = val out + B out.length * (dg a out.length + dg b out.length + c) + B (out.length + 1) * (val (a.drop (out.length + 1)) + val (b.drop (out.length + 1))) := by
        rw [← hv, va, vb, B_succ]
        simp only [Int.mul_add, Int.mul_left_comm (B out.length) 65536, Int.mul_assoc]
        omega
      generalize hs : dg a out.length + dg b out.length + c = s at *
      have w1 : IntKind.u64.wrap (IntKind.u64.wrap (dg a out.length + dg b out.length) + c) = s := by rw [wrap_u64, wrap_u64]; omega
      have w2 : IntKind.u64.wrap (Int.tdiv s 65536) = s / 65536 := by rw [Int.tdiv_eq_ediv_of_nonneg (by omega), wrap_u64]; omega
      have w3 : Int.tmod s 65536 = s % 65536 := Int.tmod_eq_emod_of_nonneg (by omega)
      have w4 : wrap64 ((out.length : Int) + 1) = ((out ++ [s % 65536]).length : Nat) := by rw [wrap64_id (by unfold I64; omega)]; simp
      have ho' := ho.snoc (d := s % 65536) (by omega) (by omega)
      have hlen : (out ++ [s % 65536]).length = out.length + 1 := by simp
      have hc' : s / 65536 = 1 → out.length < a.length ∨ out.length < b.length := by
        intro h
        by_cases h1 : out.length < a.length
        · exact Or.inl h1
        · by_cases h2 : out.length < b.length
          · exact Or.inr h2
          · have e1 : dg a out.length = 0 := getD_ge (by omega)
            have e2 : dg b out.length = 0 := getD_ge (by omega)
            omega
      have hge : (out.length < a.length ∨ out.length < b.length) ∨ c = 1 := by omega
      obtain ⟨r, h1, h2, h3, h4, h5⟩ := ih (out ++ [s % 65536]) (s / 65536) ho' (by omega) (by omega) (by omega) (by omega) (by omega) (by
          rw [hlen, val_snoc, hstep, B_succ]
          have e := Int.mul_ediv_add_emod s 65536
          have e2 : B out.length * s = B out.length * (s % 65536) + B out.length * (65536 * (s / 65536)) := by rw [← Int.mul_add]; congr 1; omega
          rw [e2]
          simp only [Int.mul_add, Int.mul_assoc, Int.mul_left_comm (B out.length) 65536]
          omega) (by
          intro n hn ta tb
          obtain rfl : n = out.length := by omega
          rw [hstep]
          rcases hge with (h | h) | h
          · obtain ⟨q, hq⟩ : ∃ q, a.length = q + 1 := ⟨a.length - 1, by omega⟩
            have t1 := ta q hq
            have t2 := B_le (show out.length ≤ q by omega)
            have := (val_bd hb).1
            omega
          · obtain ⟨q, hq⟩ : ∃ q, b.length = q + 1 := ⟨b.length - 1, by omega⟩
            have t1 := tb q hq
            have t2 := B_le (show out.length ≤ q by omega)
            have := (val_bd ha).1
            omega
          · have q1 := Int.mul_le_mul_of_nonneg_left (show 1 ≤ s by omega) (Int.le_of_lt bp)
            have q2 := Int.mul_nonneg (Int.le_of_lt (B_pos (out.length + 1))) (show 0 ≤ val (a.drop (out.length + 1)) + val (b.drop (out.length + 1)) by omega)
            omega)
      refine ⟨r, Ev.up ?_, h2, h3, h4, h5⟩
      have hj : Ev (fun k => r1_plus.j1 k a b out c out.length true) r := by
        refine Ev.up ?_
        simp only [r1_plus.j1, if_true, digit_is, Option.bind_some]
        simp only [w1, w2, w3, w4]
        exact Ev.pos (by omega) h1
      simp only [r1_plus.l0]
      refine Ev.ite (fun _ => hj) (fun q1 => Ev.ite (fun _ => hj) (fun q2 => ?_))
      rw [decide_eq_true (show c > 0 by omega)]
      exact hj
    · refine ⟨out, Ev.up ?_, ?_, ho, hl, ?_⟩
      · simp only [r1_plus.l0]
        refine Ev.neg (by omega) (Ev.neg (by omega) ?_)
        rw [decide_eq_false (by omega)]
        refine Ev.up ?_
        simp only [r1_plus.j1, Bool.false_eq_true, if_false]
        exact Ev.now _
      · rw [List.drop_eq_nil_of_le (by omega), List.drop_eq_nil_of_le (by omega), show c = 0 by omega] at hv
        simpa [val] using hv
      · intro ta tb n hn
        have := ht n hn ta tb
        rw [List.drop_eq_nil_of_le (by omega), List.drop_eq_nil_of_le (by omega), show c = 0 by omega] at hv
        simp [val] at hv; omega
theorem plus_is (a b : List Int) (ha : Dg a) (hb : Dg b) (hna : a.length ≤ 100000) (hnb : b.length ≤ 100000) :
    ∃ r, Ev (fun k => r1_plus.f k a b) r ∧ val r = val a + val b ∧ Dg r ∧ r.length ≤ max a.length b.length + 1 ∧ (Tr a → Tr b → Tr r) := by
  refine plus_l0 a b ha hb hna hnb (max a.length b.length + 2) [] 0 Dg.nil (by decide) (by decide) (by simp) (by simp) (by simp) (by simp [val, B]) (by simp)
theorem less_l0 (a b : List Int) (ha : Dg a) (hb : Dg b) (n : Nat) (hn : n ≤ 1000000) (he : val (a.drop n) = val (b.drop n)) :
    Ev (fun k => r1_less.l0 k a b ((n : Int) - 1)) (decide (val a < val b)) := by
  induction n with
  | zero =>
    refine Ev.up ?_
    simp only [r1_less.l0]
    rw [List.drop_zero, List.drop_zero] at he
    rw [decide_eq_false (by omega)]
    exact Ev.neg (by omega) (Ev.now _)
  | succ n ih =>
    refine Ev.up ?_
    simp only [r1_less.l0]
    simp only [show ((n + 1 : Nat) : Int) - 1 = (n : Int) by omega, digit_is, Option.bind_some]
    refine Ev.pos (by omega) ?_
    refine Ev.ite (fun h => ?_) (fun h => ?_)
    · rw [wrap64_id (by unfold I64; omega)]
      exact ih (by omega) (by rw [val_drop a n, val_drop b n, h, he])
    · refine Ev.cast (Ev.now _) ?_
      rcases Int.lt_or_gt_of_ne h with h1 | h1
      · rw [decide_eq_true h1, decide_eq_true (lt_of_dg ha hb n he h1)]
      · have := lt_of_dg hb ha n he.symm h1
        rw [decide_eq_false (by omega), decide_eq_false (by omega)]
theorem less_is (a b : List Int) (ha : Dg a) (hb : Dg b) (hna : a.length ≤ 100000) (hnb : b.length ≤ 100000) :
    Ev (fun k => r1_less.f k a b) (decide (val a < val b)) := by
  unfold r1_less.f
  have e : wrap64 (mx (a.length : Int) (b.length : Int) - 1) = ((max a.length b.length : Nat) : Int) - 1 := by
    unfold mx
    split
    · rw [wrap64_id (by unfold I64; omega)]; omega
    · rw [wrap64_id (by unfold I64; omega)]; omega
  rw [e]
  exact less_l0 a b ha hb _ (by omega) (by rw [List.drop_eq_nil_of_le (by omega), List.drop_eq_nil_of_le (by omega)])
theorem minus_l0 (a b : List Int) (ha : Dg a) (hb : Dg b) (hna : a.length ≤ 100000) (hnb : b.length ≤ 100000) (hle : val b ≤ val a) (m : Nat) :
    ∀ (out : List Int) (c : Int), Dg out → 0 ≤ c → c ≤ 1 → out.length + m = a.length →
      val out + B out.length * (val (a.drop out.length) - val (b.drop out.length) - c) = val a - val b →
      ∃ r, Ev (fun k => r1_minus.l0 k a b out c out.length) r ∧ val r = val a - val b ∧ Dg r ∧ r.length ≤ a.length ∧ Tr r := by
  induction m with
  | zero =>
    intro out c ho c0 c1 hm hv
    have ev : val out = val a - val b := by
      rw [List.drop_eq_nil_of_le (show a.length ≤ out.length by omega)] at hv
      have v1 := val_bd ho
      have v2 := val_bd (hb.drop out.length)
      simp only [val] at hv
      have : val (b.drop out.length) + c = 0 := by
        by_cases h : val (b.drop out.length) + c = 0
        · exact h
        · have := Int.mul_le_mul_of_nonneg_left (show 1 ≤ val (b.drop out.length) + c by omega) (Int.le_of_lt (B_pos out.length))
          rw [show (0 : Int) - val (b.drop out.length) - c = -(val (b.drop out.length) + c) by omega, Int.mul_neg] at hv
          omega
      rw [show (0 : Int) - val (b.drop out.length) - c = 0 by omega, Int.mul_zero] at hv
      omega
    obtain ⟨r, h1, h2, h3, h4, h5⟩ := cut_f out ho (by omega)
    refine ⟨r, Ev.up ?_, by omega, h3, by omega, h4⟩
    simp only [r1_minus.l0]
    exact Ev.neg (by omega) (Ev.bind h1 (Ev.now _))
  | succ m ih =>
    intro out c ho c0 c1 hm hv
    have da := ha.dg out.length
    have db := hb.dg out.length
    have va := val_drop a out.length
    have vb := val_drop b out.length
    have bp := B_pos out.length
    generalize hs : 65536 + dg a out.length - dg b out.length - c = s at *
    have w1 : IntKind.u64.wrap (IntKind.u64.wrap (IntKind.u64.wrap (65536 + dg a out.length) - dg b out.length) - c) = s := by rw [wrap_u64, wrap_u64, wrap_u64]; omega
    have w2 : IntKind.u64.wrap (1 - IntKind.u64.wrap (Int.tdiv s 65536)) = 1 - s / 65536 := by rw [Int.tdiv_eq_ediv_of_nonneg (by omega), wrap_u64, wrap_u64]; omega
    have w3 : Int.tmod s 65536 = s % 65536 := Int.tmod_eq_emod_of_nonneg (by omega)
    have w4 : wrap64 ((out.length : Int) + 1) = ((out ++ [s % 65536]).length : Nat) := by rw [wrap64_id (by unfold I64; omega)]; simp
    have hlen : (out ++ [s % 65536]).length = out.length + 1 := by simp
    obtain ⟨r, h1, h2, h3, h4, h5⟩ := ih (out ++ [s % 65536]) (1 - s / 65536) (ho.snoc (by omega) (by omega)) (by omega) (by omega) (by omega) (by
        rw [hlen, val_snoc, B_succ, ← hv, va, vb]
        have e2 : B out.length * s = B out.length * (s % 65536) + B out.length * (65536 * (s / 65536)) := by rw [← Int.mul_add]; congr 1; omega
        have e3 : B out.length * s = B out.length * 65536 + B out.length * dg a out.length - B out.length * dg b out.length - B out.length * c := by rw [← hs, Int.mul_sub, Int.mul_sub, Int.mul_add]
        simp only [Int.mul_add, Int.mul_sub, Int.mul_assoc, Int.mul_left_comm (B out.length) 65536, Int.mul_one] at *
        omega)
    refine ⟨r, Ev.up ?_, h2, h3, h4, h5⟩
    simp only [r1_minus.l0, digit_is, Option.bind_some, w1, w2, w3, w4]
    exact Ev.pos (by omega) (Ev.pos (by omega) h1)
theorem minus_is (a b : List Int) (ha : Dg a) (hb : Dg b) (hna : a.length ≤ 100000) (hnb : b.length ≤ 100000) (hle : val b ≤ val a) :
    ∃ r, Ev (fun k => r1_minus.f k a b) r ∧ val r = val a - val b ∧ Dg r ∧ r.length ≤ a.length ∧ Tr r :=
  minus_l0 a b ha hb hna hnb hle a.length [] 0 Dg.nil (by decide) (by decide) (by simp) (by simp [val, B])
end Go.Proofs.Ytonjfggfcnpgbaa.MScanPlays
