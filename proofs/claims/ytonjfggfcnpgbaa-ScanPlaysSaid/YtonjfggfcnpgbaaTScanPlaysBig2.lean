/- What the sums, comparisons and small numbers of any size answer, continued. No condition but that the rows are short. -/
import Derived.Test.YtonjfggfcnpgbaaTScanPlaysBig1
namespace Go.Proofs.Ytonjfggfcnpgbaa.MScanPlays
open Go.RowKit Go.Proofs.YtonjfggfcnpgbaaW.PrintWords Go.Proofs.YtonjfggfcnpgbaaW.PrintLast Go.Proofs.YtonjfggfcnpgbaaW.PrintMore Go.Proofs.Ytonjfggfcnpgbaa.Base
set_option linter.unusedVariables false
set_option linter.unusedSimpArgs false

theorem tdiv_abs (x : Int) : (Int.tdiv x 65536 = if x < 0 then -((-x) / 65536) else x / 65536) ∧ (Int.tmod x 65536 = if x < 0 then -((-x) % 65536) else x % 65536) := by
  by_cases h : x < 0
  · rw [if_pos h, if_pos h]
    have e : x = -(-x) := by omega
    constructor
    · rw [e, Int.neg_tdiv, Int.tdiv_eq_ediv_of_nonneg (by omega)]; omega
    · rw [e, Int.neg_tmod, Int.tmod_eq_emod_of_nonneg (by omega)]; omega
  · rw [if_neg h, if_neg h, Int.tdiv_eq_ediv_of_nonneg (by omega), Int.tmod_eq_emod_of_nonneg (by omega)]
    exact ⟨rfl, rfl⟩
theorem Of_l0 (s : Bool) (A : Int) (m : Nat) : ∀ (x : Int) (out : List Int), I64 x → (x < 0 → -x < B m) → (0 ≤ x → x < B m) → Dg out → out.length + m ≤ 1000 →
      val out + B out.length * (if x < 0 then -x else x) = A → (∀ n, out.length = n + 1 → B n ≤ A) → ∃ r, Ev (fun k => r1_Of.l0 k x out s) (s, r) ∧ val r = A ∧ Dg r ∧ Tr r := by
  induction m with
  | zero =>
    intro x out hx hm hp ho hl hv ht
    rw [B_zero] at hm hp
    obtain rfl : x = 0 := by
      by_cases h : x < 0
      · have := hm h; omega
      · have := hp (by omega); omega
    rw [if_neg (by omega), Int.mul_zero] at hv
    refine ⟨out, Ev.up ?_, by omega, ho, fun n hn => ?_⟩
    · simp only [r1_Of.l0, if_true]; exact Ev.now _
    · have := ht n hn; omega
  | succ m ih =>
    intro x out hx hm hp ho hl hv ht
    by_cases h0 : x = 0
    · subst h0
      rw [if_neg (by omega), Int.mul_zero] at hv
      refine ⟨out, Ev.up ?_, by omega, ho, fun n hn => ?_⟩
      · simp only [r1_Of.l0, if_true]; exact Ev.now _
      · have := ht n hn; omega
    · obtain ⟨e1, e2⟩ := tdiv_abs x
      rw [B_succ] at hm hp
      have bp := B_pos m
      have bo := B_pos out.length
      have vo := val_bd ho
      unfold I64 at hx
      have key : ∀ (y d : Int), 0 ≤ d → d < 65536 → y ≠ 0 ∨ d ≠ 0 → I64 y → (y < 0 → -y < B m) → (0 ≤ y → y < B m) → (if x < 0 then -x else x) = 65536 * (if y < 0 then -y else y) + d →
          ∃ r, Ev (fun k => r1_Of.l0 k y (out ++ [d]) s) (s, r) ∧ val r = A ∧ Dg r ∧ Tr r := by
        intro y d d0 d1 hne hy y1 y2 e
        have hlen : (out ++ [d]).length = out.length + 1 := by simp
        refine ih y (out ++ [d]) hy y1 y2 (ho.snoc d0 d1) (by omega) ?_ ?_
        · rw [hlen, val_snoc, B_succ, ← hv, e, Int.mul_add, Int.mul_left_comm (B out.length) 65536, Int.mul_assoc]; omega
        · intro n hn
          obtain rfl : n = out.length := by omega
          have ax : 1 ≤ (if x < 0 then -x else x) := by split <;> omega
          have := Int.mul_le_mul_of_nonneg_left ax (Int.le_of_lt bo)
          omega
      by_cases hneg : x < 0
      · rw [if_pos hneg] at e1 e2
        have hb := hm hneg
        have w1 : wrap64 (Int.tdiv x 65536) = -((-x) / 65536) := by rw [e1, wrap64_id (by unfold I64; omega)]
        by_cases hd : (-x) % 65536 = 0
        · obtain ⟨r, h1, h2⟩ := key (-((-x) / 65536)) 0 (by omega) (by omega) (by omega) (by unfold I64; omega) (by omega) (by omega) (by rw [if_pos hneg]; split <;> omega)
          refine ⟨r, Ev.up ?_, h2⟩
          simp only [r1_Of.l0, w1, e2, hd]
          exact Ev.neg h0 (Ev.neg (by omega) (Ev.pos (by omega) (by simpa [wrap_u64] using h1)))
        · obtain ⟨r, h1, h2⟩ := key (-((-x) / 65536)) ((-x) % 65536) (by omega) (by omega) (by omega) (by unfold I64; omega) (by omega) (by omega) (by rw [if_pos hneg]; split <;> omega)
          refine ⟨r, Ev.up ?_, h2⟩
          have w2 : IntKind.u64.wrap (wrap64 (- -((-x) % 65536))) = (-x) % 65536 := by rw [wrap64_id (by unfold I64; omega), wrap_u64]; omega
          simp only [r1_Of.l0, w1, e2, w2]
          exact Ev.neg h0 (Ev.pos (by omega) (Ev.pos (by omega) h1))
      · rw [if_neg hneg] at e1 e2
        have hb := hp (by omega)
        have w1 : wrap64 (Int.tdiv x 65536) = x / 65536 := by rw [e1, wrap64_id (by unfold I64; omega)]
        have w2 : IntKind.u64.wrap (x % 65536) = x % 65536 := by rw [wrap_u64]; omega
        obtain ⟨r, h1, h2⟩ := key (x / 65536) (x % 65536) (by omega) (by omega) (by omega) (by unfold I64; omega) (by omega) (by omega) (by rw [if_neg hneg]; split <;> omega)
        refine ⟨r, Ev.up ?_, h2⟩
        simp only [r1_Of.l0, w1, e2, w2]
        exact Ev.neg h0 (Ev.neg (by omega) (Ev.pos (by omega) h1))
theorem Of_is (x : Int) (hx : I64 x) : ∃ r, Ev (fun k => r1_Of.f k x) r ∧ Is r x 4 := by
  have hx' := hx
  unfold I64 at hx'
  have hB : B 4 = 18446744073709551616 := B_four
  obtain ⟨r, h1, h2, h3, h4⟩ := Of_l0 (decide (x < 0)) (if x < 0 then -x else x) 4 x [] hx (by omega) (by omega) Dg.nil (by simp) (by simp [val, B]) (by simp)
  refine ⟨(decide (x < 0), r), h1, Is.mk' h3 h4 rfl h2 (len_of_val h4 ?_)⟩
  rw [h2, hB]; split <;> omega
theorem Plus_is {a b : Bool × List Int} {x y : Int} {n m : Nat} (ha : Is a x n) (hb : Is b y m) (hn : n ≤ 10000) (hm : m ≤ 10000) :
    ∃ r, Ev (fun k => r1_Plus.f k a.1 a.2 b.1 b.2) r ∧ Is r (x + y) (max n m + 1) := by
  have la := ha.le
  have lb := hb.le
  have na := ha.neg
  have nb := hb.neg
  have va := ha.abs
  have vb := hb.abs
  have pa := val_bd ha.dg
  have pb := val_bd hb.dg
  unfold r1_Plus.f
  by_cases hs : a.1 = b.1
  · obtain ⟨r, h1, h2, h3, h4, h5⟩ := plus_is a.2 b.2 ha.dg hb.dg (by omega) (by omega)
    refine ⟨(a.1, r), Ev.pos (by rw [hs]; exact beq_self_eq_true _) (Ev.bind h1 (Ev.now _)), Is.mk' h3 (h5 ha.tr hb.tr) ?_ ?_ (by omega)⟩
    · by_cases h : x < 0
      · have := na.mpr h; have := nb.mp (hs ▸ this); rw [na.mpr h, decide_eq_true (by omega)]
      · have h' : ¬ a.1 = true := fun q => h (na.mp q)
        have : ¬ y < 0 := fun q => h' (hs ▸ nb.mpr q)
        rw [Bool.eq_false_iff.mpr h', decide_eq_false (by omega)]
    · rw [h2, va, vb]
      by_cases h : x < 0
      · have := nb.mp (hs ▸ na.mpr h); rw [if_pos h, if_pos this, if_pos (by omega)]; omega
      · have h' : ¬ a.1 = true := fun q => h (na.mp q)
        have : ¬ y < 0 := fun q => h' (hs ▸ nb.mpr q)
        rw [if_neg h, if_neg this, if_neg (by omega)]
  · have hl := less_is a.2 b.2 ha.dg hb.dg (by omega) (by omega)
    have hs' : ¬ (a.1 == b.1) = true := fun h => hs (beq_iff_eq.mp h)
    have opp : (x < 0 ∧ ¬ y < 0 ∧ a.1 = true) ∨ (¬ x < 0 ∧ y < 0 ∧ a.1 = false) := by
      by_cases h : x < 0
      · refine Or.inl ⟨h, fun q => hs ?_, na.mpr h⟩; rw [na.mpr h, nb.mpr q]
      · have h' : ¬ a.1 = true := fun q => h (na.mp q)
        have h2 := Bool.eq_false_iff.mpr h'
        refine Or.inr ⟨h, ?_, h2⟩
        by_cases q : y < 0
        · exact q
        · exact absurd (h2.trans (Bool.eq_false_iff.mpr (fun q' => q (nb.mp q'))).symm) hs
    by_cases hlt : val a.2 < val b.2
    · rw [decide_eq_true hlt] at hl
      obtain ⟨r, h1, h2, h3, h4, h5⟩ := minus_is b.2 a.2 hb.dg ha.dg (by omega) (by omega) (by omega)
      refine ⟨(b.1, r), Ev.neg hs' (Ev.bind hl (Ev.pos rfl (Ev.bind h1 (Ev.now _)))), Is.mk' h3 h5 ?_ ?_ (by omega)⟩
      · rcases opp with ⟨p1, p2, p3⟩ | ⟨p1, p2, p3⟩
        · rw [if_pos p1] at va; rw [if_neg p2] at vb
          have : ¬ b.1 = true := fun q => p2 (nb.mp q)
          rw [Bool.eq_false_iff.mpr this, decide_eq_false (by omega)]
        · rw [if_neg p1] at va; rw [if_pos p2] at vb
          rw [nb.mpr p2, decide_eq_true (by omega)]
      · rw [h2]
        rcases opp with ⟨p1, p2, p3⟩ | ⟨p1, p2, p3⟩
        · rw [if_pos p1] at va; rw [if_neg p2] at vb; rw [if_neg (by omega)]; omega
        · rw [if_neg p1] at va; rw [if_pos p2] at vb; rw [if_pos (by omega)]; omega
    · rw [decide_eq_false hlt] at hl
      obtain ⟨r, h1, h2, h3, h4, h5⟩ := minus_is a.2 b.2 ha.dg hb.dg (by omega) (by omega) (by omega)
      have lp := len_pos h3 h5
      rcases opp with ⟨p1, p2, p3⟩ | ⟨p1, p2, p3⟩
      · rw [if_pos p1] at va; rw [if_neg p2] at vb
        refine ⟨(decide (0 < r.length), r), Ev.neg hs' (Ev.bind hl (Ev.neg (by simp) (Ev.bind h1 (Ev.pos p3 (Ev.now _))))), Is.mk' h3 h5 ?_ ?_ (by omega)⟩
        · rw [lp]; congr 1; exact propext ⟨fun _ => by omega, fun _ => by omega⟩
        · rw [h2]; split <;> omega
      · rw [if_neg p1] at va; rw [if_pos p2] at vb
        refine ⟨(false, r), Ev.neg hs' (Ev.bind hl (Ev.neg (by simp) (Ev.bind h1 (Ev.neg (by rw [p3]; simp) (Ev.now _))))), Is.mk' h3 h5 ?_ ?_ (by omega)⟩
        · rw [decide_eq_false (by omega)]
        · rw [h2, if_neg (by omega)]; omega
theorem Less_is {a b : Bool × List Int} {x y : Int} {n m : Nat} (ha : Is a x n) (hb : Is b y m) (hn : n ≤ 10000) (hm : m ≤ 10000) :
    Ev (fun k => r1_Less.f k a.1 a.2 b.1 b.2) (decide (x < y)) := by
  have la := ha.le
  have lb := hb.le
  have na := ha.neg
  have nb := hb.neg
  have va := ha.abs
  have vb := hb.abs
  unfold r1_Less.f
  refine Ev.ite (fun hs => ?_) (fun hs => ?_)
  · have hs' : a.1 ≠ b.1 := bne_iff_ne.mp hs
    refine Ev.cast (Ev.now _) ?_
    by_cases h : x < 0
    · have hb' : ¬ y < 0 := fun q => hs' (by rw [na.mpr h, nb.mpr q])
      rw [na.mpr h, decide_eq_true (by omega)]
    · have h' : ¬ a.1 = true := fun q => h (na.mp q)
      have h2 := Bool.eq_false_iff.mpr h'
      have hy : y < 0 := by
        by_cases q : y < 0
        · exact q
        · exact absurd (h2.trans (Bool.eq_false_iff.mpr (fun q' => q (nb.mp q'))).symm) hs'
      rw [h2, decide_eq_false (by omega)]
  · have hs' : a.1 = b.1 := by
      by_cases e : a.1 = b.1
      · exact e
      · exact absurd (bne_iff_ne.mpr e) hs
    refine Ev.ite (fun h => ?_) (fun h => ?_)
    · have hx := na.mp h
      have hy := nb.mp (hs' ▸ h)
      rw [if_pos hx] at va; rw [if_pos hy] at vb
      refine Ev.bind (less_is b.2 a.2 hb.dg ha.dg (by omega) (by omega)) (Ev.cast (Ev.now _) ?_)
      rw [va, vb]; congr 1; exact propext ⟨fun _ => by omega, fun _ => by omega⟩
    · have hx : ¬ x < 0 := fun q => h (na.mpr q)
      have hy : ¬ y < 0 := fun q => h (hs' ▸ nb.mpr q)
      rw [if_neg hx] at va; rw [if_neg hy] at vb
      refine Ev.bind (less_is a.2 b.2 ha.dg hb.dg (by omega) (by omega)) (Ev.cast (Ev.now _) ?_)
      rw [va, vb]
theorem Small_l0 (s : Bool) (l : List Int) (hd : Dg l) (n : Nat) (hn : n ≤ l.length) (hl : l.length ≤ 100000) :
    Ev (fun k => r1_Small.l0 k (wrap64 (bv (s, l.drop n))) ((n : Int) - 1) s l) (wrap64 (bv (s, l)), 0) := by
  induction n with
  | zero =>
    refine Ev.up ?_
    simp only [r1_Small.l0, List.drop_zero]
    exact Ev.neg (by omega) (Ev.now _)
  | succ n ih =>
    have ih := ih (by omega)
    have d := hd.dg n
    have er : rd l n = dg l n := rfl
    have w1 : wrap64 ((n : Int) - 1) = (n : Int) - 1 := wrap64_id (by unfold I64; omega)
    have w2 : wrap64 (dg l n) = dg l n := wrap64_id (by unfold I64; omega)
    refine Ev.up ?_
    simp only [r1_Small.l0, show ((n + 1 : Nat) : Int) - 1 = (n : Int) by omega, w1, er, w2]
    refine Ev.pos (by omega) ?_
    cases s with
    | true =>
      simp only [if_true]
      refine Ev.pos (by omega) (Ev.pos (by omega) ?_)
      rw [wrap64_mul_sub _ _ _ rfl]
      have e : bv (true, l.drop (n + 1)) * 65536 - dg l n = bv (true, l.drop n) := by unfold bv; simp only [if_true]; rw [val_drop l n]; omega
      rw [e]; exact ih
    | false =>
      simp only [Bool.false_eq_true, if_false]
      refine Ev.pos (by omega) (Ev.pos (by omega) ?_)
      rw [wrap64_mul_add _ _ _ rfl]
      have e : bv (false, l.drop (n + 1)) * 65536 + dg l n = bv (false, l.drop n) := by unfold bv; simp only [Bool.false_eq_true, if_false]; rw [val_drop l n]; omega
      rw [e]; exact ih
theorem Small_is {a : Bool × List Int} {x : Int} {n : Nat} (ha : Is a x n) (hn : n ≤ 10000) : Ev (fun k => r1_Small.f k a.1 a.2) (smallV x) := by
  obtain ⟨lo, l1, l2⟩ := Of_is (-9223372036854775808) (by unfold I64; omega)
  obtain ⟨hi, h1, h2⟩ := Of_is 9223372036854775807 (by unfold I64; omega)
  have hle := ha.le
  unfold r1_Small.f
  refine Ev.bind l1 (Ev.bind h1 (Ev.bind (Less_is ha l2 hn (by decide)) ?_))
  refine Ev.ite (fun q => ?_) (fun q => Ev.bind (Less_is h2 ha (by decide) hn) ?_)
  · have q' := of_decide_eq_true q
    rw [smallV_out (by unfold I64; omega)]
    refine Ev.up ?_
    simp only [r1_Small.j0, if_true]
    exact Ev.now _
  · have q' : ¬ x < -9223372036854775808 := fun q2 => q (decide_eq_true q2)
    refine Ev.up ?_
    simp only [r1_Small.j0]
    refine Ev.ite (fun q => ?_) (fun q => ?_)
    · have q2 := of_decide_eq_true q
      rw [smallV_out (by unfold I64; omega)]
      exact Ev.now _
    · have q2 : ¬ 9223372036854775807 < x := fun q2 => q (decide_eq_true q2)
      rw [smallV_in (by unfold I64; omega)]
      have := Small_l0 a.1 a.2 ha.dg a.2.length (Nat.le_refl _) (by omega)
      rw [show bv (a.1, a.2) = x from ha.eq, wrap64_id (n := x) (by unfold I64; omega), List.drop_eq_nil_of_le (Nat.le_refl _)] at this
      rw [wrap64_id (n := (a.2.length : Int) - 1) (by unfold I64; omega)]
      have e0 : wrap64 (bv (a.1, [])) = 0 := by
        have z : bv (a.1, []) = 0 := by unfold bv; simp [val]
        rw [z]; exact wrap64_id (by unfold I64; omega)
      rw [e0] at this
      exact this
end Go.Proofs.Ytonjfggfcnpgbaa.MScanPlays
