/- EraSplits: the era of any second, and any era's seconds, are the document's. For every input of Go's kinds; no further condition. -/
import Derived.Test.YtcjmanlcogeikaaTEraSplitsBig4
namespace Go.Proofs.Ytcjmanlcogeikaa.MEraSplits
open Go.RowKit Go.Proofs.YtcjmanlcogeikaaW.PrintWords Go.Proofs.YtcjmanlcogeikaaW.PrintLast Go.Proofs.YtcjmanlcogeikaaW.PrintMore Go.Proofs.Ytcjmanlcogeikaa.Base
set_option linter.unusedVariables false
set_option linter.unusedSimpArgs false

theorem add_is (a b : Int) (ha : I64 a) (hb : I64 b) : num_Add.f a b = some (ovf (a + b)) := by
  unfold I64 at ha hb
  unfold num_Add.f ovf
  by_cases h : I64 (a + b)
  · have w := wrap64_id h
    unfold I64 at h
    rw [w, if_pos (show I64 (a + b) from h)]
    repeat' split
    all_goals first | rfl | omega
  · rw [if_neg h]
    unfold I64 at h
    unfold wrap64
    repeat' split
    all_goals first | rfl | (exfalso; omega)
theorem and32 {x : Int} (h0 : 0 ≤ x) (h : x < 18446744073709551616) : Go.bits .and .u64 x 4294967295 = x % 4294967296 := and_mask h0 h (n := 32) (by decide)
theorem mul64_is (a b : Int) (ha : 0 ≤ a ∧ a < 18446744073709551616) (hb : 0 ≤ b ∧ b < 18446744073709551616) :
    bits_Mul64.f a b = some (a * b / 18446744073709551616, a * b % 18446744073709551616) := by
  unfold bits_Mul64.f
  rw [and32 ha.1 ha.2, and32 hb.1 hb.2]
  have hp : ∀ x y : Int, 0 ≤ x → x ≤ 4294967295 → 0 ≤ y → y ≤ 4294967295 → 0 ≤ x * y ∧ x * y ≤ 18446744065119617025 := fun x y h1 h2 h3 h4 =>
    ⟨Int.mul_nonneg h1 h3, by have := Int.mul_le_mul h2 h4 h3 (by decide); omega⟩
  have e : a * b = 18446744073709551616 * ((a / 4294967296) * (b / 4294967296)) + 4294967296 * ((a / 4294967296) * (b % 4294967296) + (a % 4294967296) * (b / 4294967296)) + (a % 4294967296) * (b % 4294967296) := by
    have ea : a = 4294967296 * (a / 4294967296) + a % 4294967296 := by omega
    have eb : b = 4294967296 * (b / 4294967296) + b % 4294967296 := by omega
    generalize a / 4294967296 = a1 at *
    generalize a % 4294967296 = a0 at *
    generalize b / 4294967296 = b1 at *
    generalize b % 4294967296 = b0 at *
    subst ea eb
    simp only [Int.mul_add, Int.add_mul, Int.mul_assoc, Int.mul_left_comm a1 4294967296, Int.mul_left_comm a0 4294967296]
    omega
  have h11 := hp (a / 4294967296) (b / 4294967296) (by omega) (by omega) (by omega) (by omega)
  have h10 := hp (a / 4294967296) (b % 4294967296) (by omega) (by omega) (by omega) (by omega)
  have h01 := hp (a % 4294967296) (b / 4294967296) (by omega) (by omega) (by omega) (by omega)
  have h00 := hp (a % 4294967296) (b % 4294967296) (by omega) (by omega) (by omega) (by omega)
  rw [e]
  clear hp e
  generalize (a / 4294967296) * (b / 4294967296) = p11 at *
  generalize (a / 4294967296) * (b % 4294967296) = p10 at *
  generalize (a % 4294967296) * (b / 4294967296) = p01 at *
  generalize (a % 4294967296) * (b % 4294967296) = p00 at *
  clear ha hb
  have w11 : IntKind.u64.wrap p11 = p11 := by rw [wrap_u64]; omega
  have w10 : IntKind.u64.wrap p10 = p10 := by rw [wrap_u64]; omega
  have w01 : IntKind.u64.wrap p01 = p01 := by rw [wrap_u64]; omega
  have w00 : IntKind.u64.wrap p00 = p00 := by rw [wrap_u64]; omega
  have wt : IntKind.u64.wrap (p10 + p00 / 4294967296) = p10 + p00 / 4294967296 := by rw [wrap_u64]; omega
  rw [w11, w10, w01, w00, wt, and32 (by omega) (by omega)]
  rw [wrap_u64, wrap_u64, wrap_u64, wrap_u64]
  congr 2
  omega
theorem size_is (a : Int) (ha : I64 a) : num_size.f a = some (if a < 0 then -a else a) := by
  unfold I64 at ha
  unfold num_size.f
  split
  · rw [wrap_u64, wrap_u64]; congr 1; omega
  · rw [wrap_u64]; congr 1; omega
theorem signed_is (n : Int) (below : Bool) (h0 : 0 ≤ n) (h : n < 18446744073709551616) : Ev (fun k => num_signed.f k n below) (ovf (if below = true then -n else n)) := by
  unfold num_signed.f
  cases below with
  | true =>
    simp only [if_true]
    refine Ev.up ?_
    simp only [num_signed.j0]
    refine Ev.ite (fun q => ?_) (fun q => ?_)
    · have := of_decide_eq_true q
      rw [ovf_in (by unfold I64; omega)]
      refine Ev.cast (Ev.now _) ?_
      rw [wrap_u64]
      congr 1
      unfold wrap64; omega
    · have : ¬ n ≤ 9223372036854775808 := fun h => q (decide_eq_true h)
      rw [ovf_out (by unfold I64; omega)]
      simp only [if_true]
      exact Ev.now _
  | false =>
    simp only [Bool.false_eq_true, if_false]
    refine Ev.up ?_
    simp only [num_signed.j0, Bool.false_eq_true, if_false]
    refine Ev.ite (fun q => ?_) (fun q => ?_)
    · rw [ovf_in (by unfold I64; omega), wrap64_id (by unfold I64; omega)]
      exact Ev.now _
    · rw [ovf_out (by unfold I64; omega)]
      exact Ev.now _
theorem mul_is (a b : Int) (ha : I64 a) (hb : I64 b) : Ev (fun k => num_Mul.f k a b) (ovf (a * b)) := by
  have ha' := ha
  have hb' := hb
  unfold I64 at ha' hb'
  have hsa : 0 ≤ (if a < 0 then -a else a) ∧ (if a < 0 then -a else a) ≤ 9223372036854775808 := by split <;> omega
  have hsb : 0 ≤ (if b < 0 then -b else b) ∧ (if b < 0 then -b else b) ≤ 9223372036854775808 := by split <;> omega
  have hp := Int.mul_nonneg hsa.1 hsb.1
  have hs : a * b = (if ((decide (a < 0)) != (decide (b < 0))) = true then -((if a < 0 then -a else a) * (if b < 0 then -b else b)) else (if a < 0 then -a else a) * (if b < 0 then -b else b)) := by
    by_cases h1 : a < 0
    · by_cases h2 : b < 0
      · simp only [if_pos h1, if_pos h2, decide_eq_true h1, decide_eq_true h2, bne_self_eq_false, Bool.false_eq_true, if_false, Int.neg_mul_neg]
      · simp only [if_pos h1, if_neg h2, decide_eq_true h1, decide_eq_false h2, Bool.bne_false, if_true, Int.neg_mul, Int.neg_neg]
    · by_cases h2 : b < 0
      · simp only [if_neg h1, if_pos h2, decide_eq_false h1, decide_eq_true h2, Bool.bne_true, Bool.not_false, if_true, Int.mul_neg, Int.neg_neg]
      · simp only [if_neg h1, if_neg h2, decide_eq_false h1, decide_eq_false h2, bne_self_eq_false, Bool.false_eq_true, if_false]
  unfold num_Mul.f
  refine Ev.bindc (size_is a ha) (Ev.bindc (size_is b hb) (Ev.bindc (mul64_is _ _ (by omega) (by omega)) ?_))
  rw [hs]
  generalize (if a < 0 then -a else a) * (if b < 0 then -b else b) = p at *
  generalize ((decide (a < 0)) != (decide (b < 0))) = s at *
  clear hs hsa hsb
  refine Ev.ite (fun q => ?_) (fun q => ?_)
  · rw [show p % 18446744073709551616 = p by omega]
    exact Ev.bind (signed_is p s hp (by omega)) (Ev.now _)
  · rw [ovf_out (by unfold I64; split <;> omega)]
    exact Ev.now _
theorem num_is (e : Option Int) : horologenum_Num.f e = some (match e with | none => 0 | some c => if c = 0 then -1 else c) := by
  unfold horologenum_Num.f
  cases e <;> simp
  split <;> rfl
theorem fold_l0 (t n : Int) (hn : n ≤ 62) (ht : I64 t) (m : Nat) : ∀ (i : Nat), (i : Int) + m = n → Ev (fun k => horologeref13_Fold.l0 k t n (2 ^ i) i) (t % 2 ^ n.toNat) := by
  induction m with
  | zero =>
    intro i hi
    have p62 := pow62 (n := i) (by omega)
    have pp := pow_pos2 i
    rw [show n.toNat = i by omega]
    have e0 := Int.emod_nonneg t (Int.ne_of_gt pp)
    have e1 := Int.emod_lt_of_pos t pp
    have hm : Int.tmod t (2 ^ i) = t % 2 ^ i ∨ (Int.tmod t (2 ^ i) < 0 ∧ Int.tmod t (2 ^ i) + 2 ^ i = t % 2 ^ i) := by
      by_cases h : 0 ≤ t
      · exact Or.inl (Int.tmod_eq_emod_of_nonneg h)
      · have e : t = -(-t) := by omega
        have e2 : Int.tmod t (2 ^ i) = -((-t) % 2 ^ i) := by rw [e, Int.neg_tmod, Int.tmod_eq_emod_of_nonneg (by omega), ← e]
        have a0 := Int.emod_nonneg (-t) (Int.ne_of_gt pp)
        have a1 := Int.emod_lt_of_pos (-t) pp
        by_cases hz : (-t) % 2 ^ i = 0
        · refine Or.inl ?_
          rw [e2, hz]
          have := Int.dvd_of_emod_eq_zero hz
          exact (Int.emod_eq_zero_of_dvd ((Int.dvd_neg).mp this)).symm
        · refine Or.inr ⟨by omega, ?_⟩
          rw [e2]
          have d1 := Int.emod_def (-t) (2 ^ i)
          have d2 : t = (2 ^ i - (-t) % 2 ^ i) + 2 ^ i * (-((-t) / 2 ^ i) - 1) := by
            rw [Int.mul_sub, Int.mul_neg, Int.mul_one]; omega
          have d3 := congrArg (fun z => z % (2 : Int) ^ i) d2
          simp only [Int.add_mul_emod_self_left] at d3
          rw [d3, Int.emod_eq_of_lt (a := 2 ^ i - (-t) % 2 ^ i) (b := 2 ^ i) (by omega) (by omega)]; omega
    refine Ev.up ?_
    simp only [horologeref13_Fold.l0]
    refine Ev.neg (by omega) (Ev.neg (by omega) ?_)
    rcases hm with h | ⟨h1, h2⟩
    · refine Ev.neg (by omega) ?_
      rw [h]; exact Ev.now _
    · refine Ev.pos h1 ?_
      rw [h2, wrap64_id (by unfold I64; omega)]; exact Ev.now _
  | succ m ih =>
    intro i hi
    have p62 := pow62 (n := i + 1) (by omega)
    have pp := pow_pos2 i
    rw [pow_succ2] at p62
    refine Ev.up ?_
    simp only [horologeref13_Fold.l0]
    refine Ev.pos (by omega) ?_
    have := ih (i + 1) (by omega)
    rw [wrap64_id (n := 2 ^ i * 2) (by unfold I64; omega), wrap64_id (n := (i : Int) + 1) (by unfold I64; omega)]
    rw [pow_succ2] at this
    rw [Int.mul_comm (2 ^ i) 2]
    exact this
theorem ref_fold_is (t n : Int) (h0 : 0 ≤ n) (hn : n ≤ 62) (ht : I64 t) : Ev (fun k => horologeref13_Fold.f k t n) (t % 2 ^ n.toNat) :=
  fold_l0 t n hn ht n.toNat 0 (by omega)
theorem alive_is : Ev (fun k => horologelaw13_alive.f k) true := Ev.of (fun k => horologelaw13_alive.mono k) (k := 10) (by kernel_rfl)
theorem join_is (w s : Int) (hw : I64 w) (hs : 0 ≤ s ∧ s ≤ 4294967295) : Ev (fun k => era_Join.f k w s) (ovf (w * 4294967296 + s)) := by
  unfold era_Join.f
  refine Ev.bind (mul_is w 4294967296 hw (by unfold I64; omega)) ?_
  by_cases h : I64 (w * 4294967296)
  · rw [ovf_in h]
    simp only [Option.isNone_none, if_true]
    rw [wrap64_id (n := s) (by unfold I64; omega)]
    exact Ev.bindc (add_is _ _ h (by unfold I64; omega)) (Ev.now _)
  · rw [ovf_out h, ovf_out (by unfold I64 at *; omega)]
    exact Ev.now _
theorem num_ovf (x : Int) : (horologenum_Num.f (ovf x).2).map (fun n => ((ovf x).1, n)) = some (smallV x) := by
  rw [num_is]
  unfold ovf smallV
  split <;> rfl
end Go.Proofs.Ytcjmanlcogeikaa.MEraSplits
namespace Go.Proofs.Ytcjmanlcogeikaa.Pure
open Go.RowKit Go.Proofs.Ytcjmanlcogeikaa.MEraSplits Go.Proofs.YtcjmanlcogeikaaW.PrintWords Go.Proofs.YtcjmanlcogeikaaW.PrintLast Go.Proofs.Ytcjmanlcogeikaa.Base
set_option linter.unusedVariables false
set_option linter.unusedSimpArgs false
theorem EraSplits : horologelaw13_EraSplits.Pure := by
  intro t w s ht hw hs
  replace ht := i64_of ht
  replace hw := i64_of hw
  replace hs := bounds_u32 hs
  have ht' := ht
  unfold I64 at ht'
  refine Ev.ok (g := fun k => horologelaw13_EraSplits.f k t w s) ?_
  unfold horologelaw13_EraSplits.f
  refine Ev.bind alive_is (Ev.pos rfl ?_)
  refine Ev.bindc (show era_Split.f t = some _ from rfl) (Ev.bind (ref_fold_is t 32 (by decide) (by decide) ht) ?_)
  have e32 : (2 : Int) ^ (32 : Int).toNat = 4294967296 := by decide
  have w1 : wrap64 (t % 4294967296) = t % 4294967296 := wrap64_id (by unfold I64; omega)
  simp only [e32, w1]
  refine Ev.pos (by trivial) ?_
  obtain ⟨a, a1, a2⟩ := Of_is (t / 4294967296) (by unfold I64; omega)
  obtain ⟨p, p1, p2⟩ := Power_is 32 (by decide) (by decide)
  obtain ⟨m, m1, m2⟩ := Times_is a2 p2 (by decide) (by decide)
  obtain ⟨r, r1, r2⟩ := Of_is (t % 4294967296) (by unfold I64; omega)
  obtain ⟨u, u1, u2⟩ := Plus_is m2 r2 (by decide) (by decide)
  have s1 := Small_is u2 (by decide)
  rw [e32] at s1
  rw [show t / 4294967296 * 4294967296 + t % 4294967296 = t by omega, smallV_in ht] at s1
  refine Ev.bind a1 (Ev.bind p1 (Ev.bind m1 (Ev.bind r1 (Ev.bind u1 (Ev.bind s1 (Ev.pos rfl ?_))))))
  refine Ev.up ?_
  simp only [horologelaw13_EraSplits.j0, bne_self_eq_false, Bool.false_eq_true, if_false]
  obtain ⟨a, a1, a2⟩ := Of_is w hw
  obtain ⟨m, m1, m2⟩ := Times_is a2 p2 (by decide) (by decide)
  obtain ⟨r, r1, r2⟩ := Of_is s (by unfold I64; omega)
  obtain ⟨u, u1, u2⟩ := Plus_is m2 r2 (by decide) (by decide)
  have s1 := Small_is u2 (by decide)
  rw [e32] at s1
  have w2 : wrap64 s = s := wrap64_id (by unfold I64; omega)
  simp only [w2]
  refine Ev.bind (join_is w s hw hs) (Ev.bind a1 (Ev.bind p1 (Ev.bind m1 (Ev.bind r1 (Ev.bind u1 (Ev.bind s1 ?_))))))
  unfold ovf smallV
  by_cases h : I64 (w * 4294967296 + s)
  · simp only [if_pos h, if_true, num_is, Option.bind_some]
    exact Ev.now _
  · simp only [if_neg h, if_true, num_is, Option.bind_some]
    exact Ev.now _
end Go.Proofs.Ytcjmanlcogeikaa.Pure
