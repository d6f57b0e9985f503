/- What products of numbers of any size answer. No condition but that the rows are short. -/
import Derived.Test.YtonjfggfcnpgbaaTScanPlaysBig2
namespace Go.Proofs.Ytonjfggfcnpgbaa.MScanPlays
open Go.RowKit Go.Proofs.YtonjfggfcnpgbaaW.PrintWords Go.Proofs.YtonjfggfcnpgbaaW.PrintLast Go.Proofs.YtonjfggfcnpgbaaW.PrintMore Go.Proofs.Ytonjfggfcnpgbaa.Base
set_option linter.unusedVariables false
set_option linter.unusedSimpArgs false

theorem times_l1 (a b : List Int) (ha : Dg a) (hb : Dg b) (hna : a.length ≤ 10000) (hnb : b.length ≤ 10000) (i : Nat) (hi : i < b.length) (out : List Int) (m : Nat) :
    ∀ (row : List Int) (c : Int) (kk : Nat), Dg row → 0 ≤ c → c ≤ 65535 → row.length = i + kk → kk + m = a.length + 1 → (0 < c → kk ≤ a.length) →
      val row + B (i + kk) * (c + val (a.drop kk) * dg b i) = B i * (val a * dg b i) →
      ∃ row', Dg row' ∧ val row' = B i * (val a * dg b i) ∧ row'.length ≤ i + a.length + 1 ∧
        ∀ res, Ev (fun k => (r1_plus.f k out row').bind fun t => r1_times.l0 k a b t (wrap64 ((i : Int) + 1))) res → Ev (fun k => r1_times.l1 k a b out i row c kk) res := by
  induction m with
  | zero =>
    intro row c kk hr c0 c1 hl hm hc hv
    rw [List.drop_eq_nil_of_le (by omega), show c = 0 by omega] at hv
    simp only [val, Int.zero_mul, Int.add_zero, Int.mul_zero] at hv
    refine ⟨row, hr, hv, by omega, fun res h => Ev.up ?_⟩
    simp only [r1_times.l1]
    exact Ev.neg (by omega) (Ev.neg (by omega) h)
  | succ m ih =>
    intro row c kk hr c0 c1 hl hm hc hv
    by_cases hgo : kk < a.length ∨ 0 < c
    · have q1 : (0 : Int) ≤ (i : Int) := Int.natCast_nonneg i
      have q2 : (i : Int) < (b.length : Int) := Int.ofNat_lt.mpr hi
      have q3 : row.length < 17592186044416 := by clear hv ih; omega
      have q4 : ¬ (kk : Int) < (a.length : Int) → c > 0 := fun h => hgo.resolve_left (fun q => h (Int.ofNat_lt.mpr q))
      have da := ha.dg kk
      have db := hb.dg i
      have er : rd b i = dg b i := rfl
      have va := val_drop a kk
      have hp : dg a kk * dg b i ≤ 65535 * 65535 := Int.mul_le_mul (by omega) (by omega) (by omega) (by omega)
      have hp0 : 0 ≤ dg a kk * dg b i := Int.mul_nonneg da.1 db.1
      rw [va, Int.add_mul, Int.mul_assoc] at hv
      generalize hs : dg a kk * dg b i = p at *
      have w1 : IntKind.u64.wrap (IntKind.u64.wrap p + c) = p + c := by rw [wrap_u64, wrap_u64]; omega
      have w2 : IntKind.u64.wrap (Int.tdiv (p + c) 65536) = (p + c) / 65536 := by rw [Int.tdiv_eq_ediv_of_nonneg (by omega), wrap_u64]; omega
      have w3 : Int.tmod (p + c) 65536 = (p + c) % 65536 := Int.tmod_eq_emod_of_nonneg (by omega)
      have w4 : wrap64 ((kk : Int) + 1) = ((kk + 1 : Nat) : Int) := by rw [wrap64_id (by unfold I64; omega)]; omega
      have hlen : (row ++ [(p + c) % 65536]).length = i + (kk + 1) := by simp; omega
      have hz : ¬ kk < a.length → p = 0 := by
        intro h
        have : dg a kk = 0 := getD_ge (by omega)
        rw [this, Int.zero_mul] at hs; omega
      obtain ⟨row', h1, h2, h3, h4⟩ := ih (row ++ [(p + c) % 65536]) ((p + c) / 65536) (kk + 1) (hr.snoc (by omega) (by omega)) (by omega) (by omega) hlen (by omega) (by omega) (by
        rw [val_snoc, hl, ← hv, show i + (kk + 1) = i + kk + 1 by omega, B_succ]
        generalize val (a.drop (kk + 1)) * dg b i = q
        have e2 : B (i + kk) * (p + c) = B (i + kk) * ((p + c) % 65536) + B (i + kk) * (65536 * ((p + c) / 65536)) := by rw [← Int.mul_add]; congr 1; omega
        simp only [Int.mul_add, Int.mul_assoc, Int.mul_left_comm (B (i + kk)) 65536] at *
        omega)
      refine ⟨row', h1, h2, h3, fun res h => Ev.up ?_⟩
      have h5 := h4 res h
      simp only [r1_times.l1, digit_is, Option.bind_some, er, hs, w1, w2, w3, w4]
      exact Ev.ite (fun _ => Ev.pos q1 (Ev.pos q2 (Ev.pos q3 h5))) (fun h => Ev.pos (q4 h) (Ev.pos q1 (Ev.pos q2 (Ev.pos q3 h5))))
    · rw [List.drop_eq_nil_of_le (by omega), show c = 0 by omega] at hv
      simp only [val, Int.zero_mul, Int.add_zero, Int.mul_zero] at hv
      refine ⟨row, hr, hv, by omega, fun res h => Ev.up ?_⟩
      simp only [r1_times.l1]
      exact Ev.neg (by omega) (Ev.neg (by omega) h)
theorem times_l0 (a b : List Int) (ha : Dg a) (hb : Dg b) (hna : a.length ≤ 10000) (hnb : b.length ≤ 10000) (m : Nat) :
    ∀ (out : List Int) (i : Nat), Dg out → i + m = b.length → out.length ≤ a.length + 2 * i + 1 → val out = val a * val (b.take i) →
      ∃ r, Ev (fun k => r1_times.l0 k a b out i) r ∧ val r = val a * val b ∧ Dg r ∧ Tr r := by
  induction m with
  | zero =>
    intro out i ho hi hl hv
    obtain ⟨r, h1, h2, h3, h4, h5⟩ := cut_f out ho (by omega)
    refine ⟨r, Ev.up ?_, by rw [h2, hv, List.take_of_length_le (by omega)], h3, h4⟩
    simp only [r1_times.l0]
    exact Ev.neg (by omega) (Ev.bind h1 (Ev.now _))
  | succ m ih =>
    intro out i ho hi hl hv
    obtain ⟨row, r1, r2, r3, r4⟩ := times_l1 a b ha hb hna hnb i (by omega) out (a.length + 1) (List.replicate i 0) 0 0 (Dg.rep i) (by decide) (by decide) (by simp) (by omega) (by omega) (by rw [val_rep, List.drop_zero]; simp)
    obtain ⟨sum, s1, s2, s3, s4, s5⟩ := plus_is out row ho r1 (by omega) (by omega)
    have w4 : wrap64 ((i : Int) + 1) = ((i + 1 : Nat) : Int) := by rw [wrap64_id (by unfold I64; omega)]; omega
    have hv' : val sum = val a * val (b.take (i + 1)) := by rw [s2, hv, r2, val_take_succ, Int.mul_add, Int.mul_left_comm (B i)]
    have q1 : (0 : Int) ≤ (i : Int) := Int.natCast_nonneg i
    have q2 : (i : Int) < (b.length : Int) := by clear hv hv' r2 s2 r4 ih; omega
    have q3 : (i : Int).toNat ≤ 35184372088832 := by clear hv hv' r2 s2 r4 ih; omega
    have q4 : sum.length ≤ a.length + 2 * (i + 1) + 1 := by clear hv hv' r2 s2 r4 ih; omega
    have q5 : i + 1 + m = b.length := by clear hv hv' r2 s2 r4 ih; omega
    obtain ⟨r, h1, h2⟩ := ih sum (i + 1) s3 q5 q4 hv'
    refine ⟨r, Ev.up ?_, h2⟩
    simp only [r1_times.l0]
    refine Ev.pos q2 (Ev.pos q1 (Ev.pos q3 ?_))
    have := r4 r (Ev.bind s1 (by rw [w4]; exact h1))
    simpa using this
theorem times_is (a b : List Int) (ha : Dg a) (hb : Dg b) (hna : a.length ≤ 10000) (hnb : b.length ≤ 10000) :
    ∃ r, Ev (fun k => r1_times.f k a b) r ∧ val r = val a * val b ∧ Dg r ∧ Tr r ∧ r.length ≤ a.length + b.length := by
  obtain ⟨r, h1, h2, h3, h4⟩ := times_l0 a b ha hb hna hnb b.length [] 0 Dg.nil (by omega) (by simp) (by simp [val])
  refine ⟨r, h1, h2, h3, h4, len_of_val h4 ?_⟩
  have va := val_bd ha
  have vb := val_bd hb
  rw [h2, B_add]
  by_cases h : val a = 0
  · rw [h, Int.zero_mul]; exact Int.mul_pos (B_pos _) (B_pos _)
  · exact Int.lt_of_lt_of_le (Int.mul_lt_mul_of_pos_left va.2 (by omega : 0 < val b + 1) |> fun h => by rw [Int.mul_comm (val b + 1), Int.mul_comm (val b + 1), Int.mul_add] at h; omega) (Int.mul_le_mul_of_nonneg_left (show val b + 1 ≤ B b.length by omega) (Int.le_of_lt (B_pos _)))
theorem Times_is {a b : Bool × List Int} {x y : Int} {n m : Nat} (ha : Is a x n) (hb : Is b y m) (hn : n ≤ 10000) (hm : m ≤ 10000) :
    ∃ r, Ev (fun k => r1_Times.f k a.1 a.2 b.1 b.2) r ∧ Is r (x * y) (n + m) := by
  have la := ha.le
  have lb := hb.le
  have na := ha.neg
  have nb := hb.neg
  have va := ha.abs
  have vb := hb.abs
  obtain ⟨r, h1, h2, h3, h4, h5⟩ := times_is a.2 b.2 ha.dg hb.dg (by omega) (by omega)
  have lp := len_pos h3 h4
  rw [va, vb] at h2
  unfold r1_Times.f
  by_cases hs : a.1 = b.1
  · refine ⟨(false, r), Ev.bind h1 (Ev.neg (by rw [hs]; simp) (Ev.now _)), Is.mk' h3 h4 ?_ ?_ (by omega)⟩
    · have : ¬ x * y < 0 := by
        by_cases h : x < 0
        · have hy := nb.mp (hs ▸ na.mpr h)
          have := Int.mul_nonneg_of_nonpos_of_nonpos (show x ≤ 0 by omega) (show y ≤ 0 by omega); omega
        · have hy : ¬ y < 0 := fun q => h (na.mp (hs.symm ▸ nb.mpr q))
          have := Int.mul_nonneg (show 0 ≤ x by omega) (show 0 ≤ y by omega); omega
      rw [decide_eq_false this]
    · rw [h2]
      by_cases h : x < 0
      · have hy := nb.mp (hs ▸ na.mpr h)
        have := Int.mul_nonneg_of_nonpos_of_nonpos (show x ≤ 0 by omega) (show y ≤ 0 by omega)
        rw [if_pos h, if_pos hy, if_neg (by omega), Int.neg_mul_neg]
      · have hy : ¬ y < 0 := fun q => h (na.mp (hs.symm ▸ nb.mpr q))
        have := Int.mul_nonneg (show 0 ≤ x by omega) (show 0 ≤ y by omega)
        rw [if_neg h, if_neg hy, if_neg (by omega)]
  · have opp : (x < 0 ∧ ¬ y < 0) ∨ (¬ x < 0 ∧ y < 0) := by
      by_cases h : x < 0
      · refine Or.inl ⟨h, fun q => hs ?_⟩; rw [na.mpr h, nb.mpr q]
      · have h' : ¬ a.1 = true := fun q => h (na.mp q)
        have h2 := Bool.eq_false_iff.mpr h'
        refine Or.inr ⟨h, ?_⟩
        by_cases q : y < 0
        · exact q
        · exact absurd (h2.trans (Bool.eq_false_iff.mpr (fun q' => q (nb.mp q'))).symm) hs
    have hle : x * y ≤ 0 := by
      rcases opp with ⟨p, q⟩ | ⟨p, q⟩
      · exact Int.mul_nonpos_of_nonpos_of_nonneg (show x ≤ 0 by omega) (show 0 ≤ y by omega)
      · exact Int.mul_nonpos_of_nonneg_of_nonpos (show 0 ≤ x by omega) (show y ≤ 0 by omega)
    have hv : val r = -(x * y) := by
      rw [h2]
      rcases opp with ⟨p, q⟩ | ⟨p, q⟩
      · rw [if_pos p, if_neg q, Int.neg_mul]
      · rw [if_neg p, if_pos q, Int.mul_neg]
    refine ⟨(decide (0 < r.length), r), Ev.bind h1 (Ev.pos (bne_iff_ne.mpr hs) (Ev.now _)), Is.mk' h3 h4 ?_ ?_ (by omega)⟩
    · rw [lp]; congr 1; exact propext ⟨fun _ => by omega, fun _ => by omega⟩
    · rw [hv]; split <;> omega
end Go.Proofs.Ytonjfggfcnpgbaa.MScanPlays
