/- What the functions of layer 13 answer, and the sums of layer 1 that they use: plain facts on numbers. No condition beyond the sizes of Go's kinds. -/
import Derived.Test.YtcjmanlcogeikaaMEraBackx
import Derived.Test.YtcjmanlcogeikaaBase
namespace Go.Proofs.Ytcjmanlcogeikaa.MEraBack
open Go.RowKit Go.Proofs.YtcjmanlcogeikaaW.PrintWords Go.Proofs.YtcjmanlcogeikaaW.PrintLast Go.Proofs.YtcjmanlcogeikaaW.PrintMore Go.Proofs.Ytcjmanlcogeikaa.Base
set_option linter.unusedVariables false
set_option linter.unusedSimpArgs false

theorem add_is (a b : Int) (ha : I64 a) (hb : I64 b) : num_Add.f a b = some (ovf (a + b)) := by
  unfold I64 at ha hb
  unfold num_Add.f ovf
  by_cases h : I64 (a + b)
  · have w := wrap64_id h
    unfold I64 at h
    rw [w, if_pos (show I64 (a + b) from h)]
    repeat' split
    all_goals first | rfl | omega
  · rw [if_neg h]
    unfold I64 at h
    unfold wrap64
    repeat' split
    all_goals first | rfl | (exfalso; omega)
theorem right_is (n : Int) : era_right.f n = some (decide (1 ≤ n ∧ n ≤ 62)) := by
  unfold era_right.f
  split
  · congr 1; simp; omega
  · congr 1; simp; omega
theorem mask_is (n : Int) (h0 : 0 ≤ n) (h : n ≤ 62) : era_mask.f n = some (2 ^ n.toNat - 1) := by
  unfold era_mask.f
  have := pow62 (n := n.toNat) (by omega)
  have := pow_pos2 n.toNat
  rw [if_pos h0, shl_u64 h0 h, wrap_u64]
  congr 1; omega

/-- The rest that is nearest to 0 of a number by 2 to n, the greater half below 0. -/
def near (x : Int) (n : Nat) : Int := if 2 ^ (n - 1) ≤ x % 2 ^ n then x % 2 ^ n - 2 ^ n else x % 2 ^ n
theorem near_bd (x : Int) {n : Nat} (h : 1 ≤ n) : -(2 ^ (n - 1)) ≤ near x n ∧ near x n < 2 ^ (n - 1) := by
  have e : (2 : Int) ^ n = 2 * 2 ^ (n - 1) := by rw [← pow_succ2, Nat.sub_add_cancel h]
  have p := pow_pos2 n
  have a := Int.emod_nonneg x (Int.ne_of_gt p)
  have b := Int.emod_lt_of_pos x p
  unfold near
  split <;> omega
theorem near_mod (x : Int) (n : Nat) : ∃ q, near x n = x - 2 ^ n * q := by
  have e := Int.emod_def x (2 ^ n)
  unfold near
  split
  · exact ⟨x / 2 ^ n + 1, by rw [e, Int.mul_add]; omega⟩
  · exact ⟨x / 2 ^ n, e⟩
theorem near_uniq {x y : Int} {n : Nat} (h : 1 ≤ n) (q : Int) (e : y = x - 2 ^ n * q) (hl : -(2 ^ (n - 1)) ≤ y) (hu : y < 2 ^ (n - 1)) : near x n = y := by
  obtain ⟨q', e'⟩ := near_mod x n
  have b := near_bd x h
  have p := pow_pos2 (n - 1)
  have e2 : (2 : Int) ^ n = 2 * 2 ^ (n - 1) := by rw [← pow_succ2, Nat.sub_add_cancel h]
  have d : near x n - y = 2 ^ n * (q - q') := by rw [e', e, Int.mul_sub]; omega
  have : q - q' = 0 := by
    rcases Int.lt_trichotomy (q - q') 0 with h1 | h1 | h1
    · have := Int.mul_le_mul_of_nonneg_left (show q - q' ≤ -1 by omega) (Int.le_of_lt (pow_pos2 n)); omega
    · exact h1
    · have := Int.mul_le_mul_of_nonneg_left (show 1 ≤ q - q' by omega) (Int.le_of_lt (pow_pos2 n)); omega
  rw [this] at d; omega

/-- What Bits answers. -/
def bitsV (word n pivot : Int) : Int × Option Int := if 1 ≤ n ∧ n ≤ 62 ∧ word < 2 ^ n.toNat then ovf (pivot + near (word - pivot) n.toNat) else (0, some 1)
theorem bits_is (word n pivot : Int) (hw : 0 ≤ word ∧ word ≤ 18446744073709551615) (hn : I64 n) (hp : I64 pivot) : Ev (fun k => era_Bits.f k word n pivot) (bitsV word n pivot) := by
  unfold era_Bits.f bitsV
  refine Ev.bindc (right_is n) ?_
  by_cases hr : 1 ≤ n ∧ n ≤ 62
  · have hm := mask_is n (by omega) hr.2
    have p62 := pow62 (n := n.toNat) (by omega)
    have pp := pow_pos2 n.toNat
    simp only [decide_eq_true hr, if_true]
    refine Ev.bindc hm ?_
    refine Ev.up ?_
    by_cases hw2 : word < 2 ^ n.toNat
    · rw [if_pos ⟨hr.1, hr.2, hw2⟩]
      have hd : decide (word > 2 ^ n.toNat - 1) = false := decide_eq_false (by omega)
      simp only [hd, era_Bits.j0, Bool.false_eq_true, if_false]
      refine Ev.bindc hm ?_
      have w1 : wrap64 (n - 1) = n - 1 := wrap64_id (by unfold I64 at *; omega)
      have em : Go.bits .and .u64 (IntKind.u64.wrap (word - IntKind.u64.wrap pivot)) (2 ^ n.toNat - 1) = (word - pivot) % 2 ^ n.toNat := by
        rw [and_mask (by rw [wrap_u64]; omega) (by rw [wrap_u64]; omega) (by omega), wrap_u64, mod_mod64 _ (by omega), wrap_u64, Int.sub_emod, mod_mod64 _ (by omega), ← Int.sub_emod]
      have b0 := Int.emod_nonneg (word - pivot) (Int.ne_of_gt pp)
      have b1 := Int.emod_lt_of_pos (word - pivot) pp
      have w2 : wrap64 ((word - pivot) % 2 ^ n.toNat) = (word - pivot) % 2 ^ n.toNat := wrap64_id (by unfold I64; omega)
      have e2 : (2 : Int) ^ n.toNat = 2 * 2 ^ (n.toNat - 1) := by rw [← pow_succ2, Nat.sub_add_cancel (by omega)]
      rw [em, w2, w1, shl_i64 (by omega) (by omega), shl_i64 (by omega) (by omega), if_pos (show 0 ≤ n - 1 by omega), show (n - 1).toNat = n.toNat - 1 by omega]
      unfold near
      by_cases hh : (2 : Int) ^ (n.toNat - 1) ≤ (word - pivot) % 2 ^ n.toNat
      · rw [if_pos hh, if_pos hh, if_pos (show 0 ≤ n by omega)]
        rw [wrap64_id (n := (word - pivot) % 2 ^ n.toNat - 2 ^ n.toNat) (by unfold I64; omega)]
        exact Ev.bindc (add_is _ _ hp (by unfold I64; omega)) (Ev.now _)
      · rw [if_neg hh, if_neg hh]
        exact Ev.bindc (add_is _ _ hp (by unfold I64; omega)) (Ev.now _)
    · rw [if_neg (by omega)]
      have hd : decide (word > 2 ^ n.toNat - 1) = true := decide_eq_true (by omega)
      simp only [hd, era_Bits.j0, if_true]
      exact Ev.now _
  · rw [if_neg (by omega)]
    simp only [decide_eq_false hr, Bool.false_eq_true, if_false]
    refine Ev.up ?_
    simp only [era_Bits.j0, if_true]
    exact Ev.now _
theorem fold_is (t n : Int) : era_FoldBits.f t n = some (if 1 ≤ n ∧ n ≤ 62 then (t % 2 ^ n.toNat, none) else (0, some 1)) := by
  unfold era_FoldBits.f
  rw [right_is]
  simp only [Option.bind_some]
  by_cases hr : 1 ≤ n ∧ n ≤ 62
  · simp only [decide_eq_true hr, if_true, mask_is n (by omega) hr.2, Option.bind_some]
    rw [and_mask (by rw [wrap_u64]; omega) (by rw [wrap_u64]; omega) (by omega), wrap_u64, mod_mod64 _ (by omega), if_pos hr]
  · simp only [decide_eq_false hr, Bool.false_eq_true, if_false]
    rw [if_neg hr]
theorem sub_is (a b : Int) (ha : I64 a) (hb : I64 b) : num_Sub.f a b = some (ovf (a - b)) := by
  unfold I64 at ha hb
  unfold num_Sub.f ovf
  by_cases h : I64 (a - b)
  · have w := wrap64_id h
    unfold I64 at h
    rw [w, if_pos (show I64 (a - b) from h)]
    repeat' split
    all_goals first | rfl | omega
  · rw [if_neg h]
    unfold I64 at h
    unfold wrap64
    repeat' split
    all_goals first | rfl | (exfalso; omega)
theorem near_is (t p n : Int) (ht : I64 t) (hp : I64 p) : era_Near.f t p n = some (if 1 ≤ n ∧ n ≤ 62 then (decide (-(2 ^ (n.toNat - 1)) ≤ t - p ∧ t - p < 2 ^ (n.toNat - 1)), none) else (false, some 1)) := by
  unfold era_Near.f
  rw [right_is]
  simp only [Option.bind_some]
  by_cases hr : 1 ≤ n ∧ n ≤ 62
  · have p62 := pow62 (n := n.toNat - 1) (by omega)
    have pp := pow_pos2 (n.toNat - 1)
    have w1 : wrap64 (n - 1) = n - 1 := wrap64_id (by unfold I64; omega)
    simp only [decide_eq_true hr, if_true, sub_is t p ht hp, Option.bind_some, w1]
    rw [shl_i64 (by omega) (by omega), show (n - 1).toNat = n.toNat - 1 by omega, wrap64_id (n := -2 ^ (n.toNat - 1)) (by unfold I64; omega)]
    rw [if_pos (show 0 ≤ n - 1 by omega), if_pos hr]
    by_cases hi : I64 (t - p)
    · rw [ovf_in hi]
      simp only [Option.isNone_none, if_true]
      split
      · congr 2; simp; omega
      · congr 2; simp; omega
    · rw [ovf_out hi]
      unfold I64 at hi
      simp only [Option.isNone_some, Bool.false_eq_true, if_false]
      congr 2; simp; omega
  · simp only [decide_eq_false hr, Bool.false_eq_true, if_false]
    rw [if_neg hr]
theorem num_is (e : Option Int) : horologenum_Num.f e = some (match e with | none => 0 | some c => if c = 0 then -1 else c) := by
  unfold horologenum_Num.f
  cases e <;> simp
  split <;> rfl
theorem alive_is : Ev (fun k => horologelaw13_alive.f k) true := Ev.of (fun k => horologelaw13_alive.mono k) (k := 10) (by kernel_rfl)
end Go.Proofs.Ytcjmanlcogeikaa.MEraBack
