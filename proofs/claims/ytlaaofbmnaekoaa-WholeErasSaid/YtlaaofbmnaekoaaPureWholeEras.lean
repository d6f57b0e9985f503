/- WholeEras: by a pivot that isn't near, seconds of a stamp come out whole eras away, and weeks whole rounds of 1024 away, and never as they were; by one that is, as they were. For every input of Go's kinds; no further condition. -/
import Derived.Test.YtlaaofbmnaekoaaMWholeErasx
import Derived.Test.YtlaaofbmnaekoaaBase
namespace Go.Proofs.Ytlaaofbmnaekoaa.MWholeEras
open Go.RowKit Go.Proofs.YtlaaofbmnaekoaaW.PrintWords Go.Proofs.YtlaaofbmnaekoaaW.PrintLast Go.Proofs.YtlaaofbmnaekoaaW.PrintMore Go.Proofs.Ytlaaofbmnaekoaa.Base
set_option linter.unusedVariables false
set_option linter.unusedSimpArgs false

theorem add_is (a b : Int) (ha : I64 a) (hb : I64 b) : num_Add.f a b = some (ovf (a + b)) := by
  unfold I64 at ha hb
  unfold num_Add.f ovf
  by_cases h : I64 (a + b)
  · have w := wrap64_id h
    unfold I64 at h
    rw [w, if_pos (show I64 (a + b) from h)]
    repeat' split
    all_goals first | rfl | omega
  · rw [if_neg h]
    unfold I64 at h
    unfold wrap64
    repeat' split
    all_goals first | rfl | (exfalso; omega)
theorem right_is (n : Int) : era_right.f n = some (decide (1 ≤ n ∧ n ≤ 62)) := by
  unfold era_right.f
  split
  · congr 1; simp; omega
  · congr 1; simp; omega
theorem mask_is (n : Int) (h0 : 0 ≤ n) (h : n ≤ 62) : era_mask.f n = some (2 ^ n.toNat - 1) := by
  unfold era_mask.f
  have := pow62 (n := n.toNat) (by omega)
  have := pow_pos2 n.toNat
  rw [if_pos h0, shl_u64 h0 h, wrap_u64]
  congr 1; omega

/-- The rest that is nearest to 0 of a number by 2 to n, the greater half below 0. -/
def near (x : Int) (n : Nat) : Int := if 2 ^ (n - 1) ≤ x % 2 ^ n then x % 2 ^ n - 2 ^ n else x % 2 ^ n
theorem near_bd (x : Int) {n : Nat} (h : 1 ≤ n) : -(2 ^ (n - 1)) ≤ near x n ∧ near x n < 2 ^ (n - 1) := by
  have e : (2 : Int) ^ n = 2 * 2 ^ (n - 1) := by rw [← pow_succ2, Nat.sub_add_cancel h]
  have p := pow_pos2 n
  have a := Int.emod_nonneg x (Int.ne_of_gt p)
  have b := Int.emod_lt_of_pos x p
  unfold near
  split <;> omega
theorem near_mod (x : Int) (n : Nat) : ∃ q, near x n = x - 2 ^ n * q := by
  have e := Int.emod_def x (2 ^ n)
  unfold near
  split
  · exact ⟨x / 2 ^ n + 1, by rw [e, Int.mul_add]; omega⟩
  · exact ⟨x / 2 ^ n, e⟩
theorem near_uniq {x y : Int} {n : Nat} (h : 1 ≤ n) (q : Int) (e : y = x - 2 ^ n * q) (hl : -(2 ^ (n - 1)) ≤ y) (hu : y < 2 ^ (n - 1)) : near x n = y := by
  obtain ⟨q', e'⟩ := near_mod x n
  have b := near_bd x h
  have p := pow_pos2 (n - 1)
  have e2 : (2 : Int) ^ n = 2 * 2 ^ (n - 1) := by rw [← pow_succ2, Nat.sub_add_cancel h]
  have d : near x n - y = 2 ^ n * (q - q') := by rw [e', e, Int.mul_sub]; omega
  have : q - q' = 0 := by
    rcases Int.lt_trichotomy (q - q') 0 with h1 | h1 | h1
    · have := Int.mul_le_mul_of_nonneg_left (show q - q' ≤ -1 by omega) (Int.le_of_lt (pow_pos2 n)); omega
    · exact h1
    · have := Int.mul_le_mul_of_nonneg_left (show 1 ≤ q - q' by omega) (Int.le_of_lt (pow_pos2 n)); omega
  rw [this] at d; omega

/-- What Bits answers. -/
def bitsV (word n pivot : Int) : Int × Option Int := if 1 ≤ n ∧ n ≤ 62 ∧ word < 2 ^ n.toNat then ovf (pivot + near (word - pivot) n.toNat) else (0, some 1)
theorem bits_is (word n pivot : Int) (hw : 0 ≤ word ∧ word ≤ 18446744073709551615) (hn : I64 n) (hp : I64 pivot) : Ev (fun k => era_Bits.f k word n pivot) (bitsV word n pivot) := by
  unfold era_Bits.f bitsV
  refine Ev.bindc (right_is n) ?_
  by_cases hr : 1 ≤ n ∧ n ≤ 62
  · have hm := mask_is n (by omega) hr.2
    have p62 := pow62 (n := n.toNat) (by omega)
    have pp := pow_pos2 n.toNat
    simp only [decide_eq_true hr, if_true]
    refine Ev.bindc hm ?_
    refine Ev.up ?_
    by_cases hw2 : word < 2 ^ n.toNat
    · rw [if_pos ⟨hr.1, hr.2, hw2⟩]
      have hd : decide (word > 2 ^ n.toNat - 1) = false := decide_eq_false (by omega)
      simp only [hd, era_Bits.j0, Bool.false_eq_true, if_false]
      refine Ev.bindc hm ?_
      have w1 : wrap64 (n - 1) = n - 1 := wrap64_id (by unfold I64 at *; omega)
      have em : Go.bits .and .u64 (IntKind.u64.wrap (word - IntKind.u64.wrap pivot)) (2 ^ n.toNat - 1) = (word - pivot) % 2 ^ n.toNat := by
        rw [and_mask (by rw [wrap_u64]; omega) (by rw [wrap_u64]; omega) (by omega), wrap_u64, mod_mod64 _ (by omega), wrap_u64, Int.sub_emod, mod_mod64 _ (by omega), ← Int.sub_emod]
      have b0 := Int.emod_nonneg (word - pivot) (Int.ne_of_gt pp)
      have b1 := Int.emod_lt_of_pos (word - pivot) pp
      have w2 : wrap64 ((word - pivot) % 2 ^ n.toNat) = (word - pivot) % 2 ^ n.toNat := wrap64_id (by unfold I64; omega)
      have e2 : (2 : Int) ^ n.toNat = 2 * 2 ^ (n.toNat - 1) := by rw [← pow_succ2, Nat.sub_add_cancel (by omega)]
      rw [em, w2, w1, shl_i64 (by omega) (by omega), shl_i64 (by omega) (by omega), if_pos (show 0 ≤ n - 1 by omega), show (n - 1).toNat = n.toNat - 1 by omega]
      unfold near
      by_cases hh : (2 : Int) ^ (n.toNat - 1) ≤ (word - pivot) % 2 ^ n.toNat
      · rw [if_pos hh, if_pos hh, if_pos (show 0 ≤ n by omega)]
        rw [wrap64_id (n := (word - pivot) % 2 ^ n.toNat - 2 ^ n.toNat) (by unfold I64; omega)]
        exact Ev.bindc (add_is _ _ hp (by unfold I64; omega)) (Ev.now _)
      · rw [if_neg hh, if_neg hh]
        exact Ev.bindc (add_is _ _ hp (by unfold I64; omega)) (Ev.now _)
    · rw [if_neg (by omega)]
      have hd : decide (word > 2 ^ n.toNat - 1) = true := decide_eq_true (by omega)
      simp only [hd, era_Bits.j0, if_true]
      exact Ev.now _
  · rw [if_neg (by omega)]
    simp only [decide_eq_false hr, Bool.false_eq_true, if_false]
    refine Ev.up ?_
    simp only [era_Bits.j0, if_true]
    exact Ev.now _
theorem frac_is (a : Int) (ha : I64 a) : stamp_Fraction.f a = some (if 0 ≤ a ∧ a < 1000000000 then ((a * 4294967296 + 999999999) / 1000000000, none) else (0, some 1)) := by
  unfold I64 at ha
  unfold stamp_Fraction.f stamp_right.f
  by_cases h : 0 ≤ a ∧ a < 1000000000
  · rw [if_pos h, if_pos h.1]
    simp only [Option.bind_some, decide_eq_true h.2, if_true]
    rw [wrap_u64 a, wrap_u64 (a % 18446744073709551616 * 4294967296), wrap_u64 (a % 18446744073709551616 * 4294967296 % 18446744073709551616 + 1000000000), wrap_u64 ((a % 18446744073709551616 * 4294967296 % 18446744073709551616 + 1000000000) % 18446744073709551616 - 1)]
    rw [show ((a % 18446744073709551616 * 4294967296 % 18446744073709551616 + 1000000000) % 18446744073709551616 - 1) % 18446744073709551616 = a * 4294967296 + 999999999 by omega]
    rw [tdiv_is, if_neg (by omega), wrap_u64]
    congr 2; omega
  · rw [if_neg h]
    split
    · rw [decide_eq_false (by omega)]; rfl
    · rfl
theorem nano_is (a : Int) (h0 : 0 ≤ a) (h : a < 1000000000) : stamp_Nano.f ((a * 4294967296 + 999999999) / 1000000000) = some a := by
  unfold stamp_Nano.f
  rw [wrap_u64, wrap_u64]
  congr 1
  obtain ⟨f, hf⟩ : ∃ f, f = (a * 4294967296 + 999999999) / 1000000000 := ⟨_, rfl⟩
  rw [← hf]
  have f1 : a * 4294967296 ≤ f * 1000000000 ∧ f * 1000000000 ≤ a * 4294967296 + 999999999 := by omega
  clear hf
  rw [show f % 18446744073709551616 = f by omega, show f * 1000000000 % 18446744073709551616 = f * 1000000000 by omega, show f * 1000000000 / 4294967296 = a by omega]
  exact wr (by omega)
theorem sof_is (t n : Int) (hn : I64 n) : stamp_Of.f t n = some (if 0 ≤ n ∧ n < 1000000000 then (t % 4294967296, (n * 4294967296 + 999999999) / 1000000000, none) else (0, 0, some 1)) := by
  unfold stamp_Of.f
  rw [frac_is n hn]
  simp only [Option.bind_some]
  by_cases h : 0 ≤ n ∧ n < 1000000000
  · simp only [if_pos h]; rfl
  · simp only [if_neg h]; rfl
theorem size_is4 : Ev (fun k => octets_Size_uint32.f k) 4 := Ev.of (fun k => octets_Size_uint32.mono k) (k := 10) (by kernel_rfl)
theorem time_is (t p n : Int) (ht : -1152921504606846976 ≤ t ∧ t ≤ 1152921504606846976) (hp : -1152921504606846976 ≤ p ∧ p ≤ 1152921504606846976) (h0 : 0 ≤ n) (h : n < 1000000000) :
    Ev (fun k => stamp_Time.f k (t % 4294967296) ((n * 4294967296 + 999999999) / 1000000000) p) (p + near (t % 4294967296 - p) 32, n, none) := by
  unfold stamp_Time.f era_Unfold_uint32.f
  have nb := near_bd (t % 4294967296 - p) (n := 32) (by decide)
  have e31 : (2 : Int) ^ (32 - 1) = 2147483648 := by decide
  rw [e31] at nb
  have hb := bits_is (t % 4294967296) 32 p (by omega) (by unfold I64; omega) (by unfold I64; omega)
  have e : bitsV (t % 4294967296) 32 p = (p + near (t % 4294967296 - p) 32, none) := by
    unfold bitsV
    rw [if_pos ⟨by decide, by decide, by show t % 4294967296 < 4294967296; omega⟩]
    exact ovf_in (by unfold I64; show _ ≤ p + near (t % 4294967296 - p) 32 ∧ p + near (t % 4294967296 - p) 32 ≤ _; omega)
  rw [e] at hb
  refine Ev.bind (a := (p + near (t % 4294967296 - p) 32, none)) (Ev.bind size_is4 ?_) (Ev.pos rfl (Ev.bindc (nano_is n h0 h) (Ev.now _)))
  rw [show IntKind.u64.wrap (t % 4294967296) = t % 4294967296 by rw [wrap_u64]; omega, show wrap64 (4 * 8) = 32 from wr (by omega)]
  exact Ev.bind hb (Ev.now _)
theorem stand_is : Ev (fun k => horologetop_erasStand.f k) true := Ev.of (fun k => horologetop_erasStand.mono k) (k := 10) (by kernel_rfl)
/-- A rest and its pivot: as it was, if it is near; else another number, whole rounds away. -/
theorem back_if (t p : Int) (n : Nat) (h : 1 ≤ n) : (∃ q, p + near (t % 2 ^ n - p) n = t - 2 ^ n * q) ∧ (p + near (t % 2 ^ n - p) n = t ↔ -(2 ^ (n - 1)) ≤ t - p ∧ t - p < 2 ^ (n - 1)) := by
  have d := Int.emod_def t (2 ^ n)
  refine ⟨?_, ?_, ?_⟩
  · obtain ⟨q, e⟩ := near_mod (t % 2 ^ n - p) n
    exact ⟨t / 2 ^ n + q, by rw [e, Int.mul_add]; omega⟩
  · intro e
    have nb := near_bd (t % 2 ^ n - p) h
    omega
  · intro ⟨h1, h2⟩
    rw [near_uniq (y := t - p) h (-(t / 2 ^ n)) (by rw [Int.mul_neg]; omega) h1 h2]
    omega
theorem short_is (t : Int) : gps_Short.f t = some (t % 1024) := by
  unfold gps_Short.f
  rw [wrap_u64, tmod_is, if_neg (by omega), wr (by omega)]
  congr 1; omega
theorem long_is (t p : Int) (ht : -1152921504606846976 ≤ t ∧ t ≤ 1152921504606846976) (hp : -1152921504606846976 ≤ p ∧ p ≤ 1152921504606846976) :
    Ev (fun k => gps_Long.f k (t % 1024) p) (p + near (t % 1024 - p) 10, none) := by
  unfold gps_Long.f
  have nb := near_bd (t % 1024 - p) (n := 10) (by decide)
  have e31 : (2 : Int) ^ (10 - 1) = 512 := by decide
  rw [e31] at nb
  have hb := bits_is (t % 1024) 10 p (by omega) (by unfold I64; omega) (by unfold I64; omega)
  have e : bitsV (t % 1024) 10 p = (p + near (t % 1024 - p) 10, none) := by
    unfold bitsV
    rw [if_pos ⟨by decide, by decide, by show t % 1024 < 1024; omega⟩]
    exact ovf_in (by unfold I64; show _ ≤ p + near (t % 1024 - p) 10 ∧ p + near (t % 1024 - p) 10 ≤ _; omega)
  rw [e] at hb
  rw [show IntKind.u64.wrap (t % 1024) = t % 1024 by rw [wrap_u64]; omega]
  exact Ev.neg (by omega) (Ev.bind hb (Ev.now _))
end Go.Proofs.Ytlaaofbmnaekoaa.MWholeEras
namespace Go.Proofs.Ytlaaofbmnaekoaa.Pure
open Go.RowKit Go.Proofs.Ytlaaofbmnaekoaa.MWholeEras Go.Proofs.YtlaaofbmnaekoaaW.PrintWords Go.Proofs.YtlaaofbmnaekoaaW.PrintLast Go.Proofs.Ytlaaofbmnaekoaa.Base
set_option linter.unusedVariables false
set_option linter.unusedSimpArgs false
theorem WholeEras : horologetop_WholeEras.Pure := by
  intro t p n ht hp hn
  replace hn := i64_of hn
  refine Ev.ok (g := fun k => horologetop_WholeEras.f k t p n) ?_
  unfold horologetop_WholeEras.f
  refine Ev.bind stand_is (Ev.pos rfl ?_)
  have out : Ev (fun k => horologetop_WholeEras.j0 k t p n true) true := by
    refine Ev.up ?_
    simp only [horologetop_WholeEras.j0, if_true]
    exact Ev.now _
  refine Ev.ite (fun _ => out) (fun h1 => Ev.ite (fun _ => out) (fun h2 => Ev.ite (fun _ => out) (fun h3 => ?_)))
  by_cases h4 : p < -1152921504606846976
  · rw [decide_eq_true h4]; exact out
  · rw [decide_eq_false h4]
    refine Ev.up ?_
    simp only [horologetop_WholeEras.j0, Bool.false_eq_true, if_false]
    refine Ev.bindc (sof_is t n hn) ?_
    unfold I64 at hn
    by_cases hnn : 0 ≤ n ∧ n < 1000000000
    · simp only [if_pos hnn]
      refine Ev.pos rfl (Ev.bind (time_is t p n (by omega) (by omega) hnn.1 hnn.2) (Ev.pos rfl (Ev.pos rfl ?_)))
      obtain ⟨⟨q, hq⟩, hi⟩ := back_if t p 32 (by decide)
      have e32 : (2 : Int) ^ 32 = 4294967296 := by decide
      have e31 : (2 : Int) ^ (32 - 1) = 2147483648 := by decide
      rw [e32] at hq
      rw [e32, e31] at hi
      have nb := near_bd (t % 4294967296 - p) (n := 32) (by decide)
      rw [e31] at nb
      generalize hx : p + near (t % 4294967296 - p) 32 = x at *
      rw [show wrap64 (x - t) = x - t from wr (by omega), show wrap64 (t - p) = t - p from wr (by omega), tmod_is]
      refine Ev.pos (by split <;> omega) ?_
      have j1 : Ev (fun k => horologetop_WholeEras.j1 k t p false) true := by
        refine Ev.up ?_
        simp only [horologetop_WholeEras.j1, Bool.false_eq_true, if_false]
        refine Ev.bindc (short_is t) (Ev.bind (long_is t p (by omega) (by omega)) (Ev.pos rfl ?_))
        obtain ⟨⟨q, hq⟩, hi⟩ := back_if t p 10 (by decide)
        have e32 : (2 : Int) ^ 10 = 1024 := by decide
        have e31 : (2 : Int) ^ (10 - 1) = 512 := by decide
        rw [e32] at hq
        rw [e32, e31] at hi
        have nb := near_bd (t % 1024 - p) (n := 10) (by decide)
        rw [e31] at nb
        generalize hx : p + near (t % 1024 - p) 10 = x at *
        rw [show wrap64 (x - t) = x - t from wr (by omega), show wrap64 (t - p) = t - p from wr (by omega), tmod_is]
        refine Ev.pos (by split <;> omega) (Ev.ite (fun a => ?_) (fun a => ?_))
        · refine Ev.cast (Ev.now _) ?_
          by_cases b : t - p < 512
          · rw [decide_eq_true b, hi.mpr ⟨a, b⟩]; simp
          · rw [decide_eq_false b]
            have : x ≠ t := fun e => b (hi.mp e).2
            simp [this]
        · refine Ev.cast (Ev.now _) ?_
          have : x ≠ t := fun e => a (hi.mp e).1
          simp [this]
      refine Ev.ite (fun a => ?_) (fun a => ?_)
      · by_cases b : t - p < 2147483648
        · rw [decide_eq_true b, hi.mpr ⟨a, b⟩]
          simpa using j1
        · have : x ≠ t := fun e => b (hi.mp e).2
          rw [decide_eq_false b, beq_eq_false_iff_ne.mpr this]
          exact j1
      · have : x ≠ t := fun e => a (hi.mp e).1
        rw [beq_eq_false_iff_ne.mpr this]
        exact j1
    · simp only [if_neg hnn]
      refine Ev.neg (by decide) (Ev.ite (fun _ => Ev.now _) (fun h => ?_))
      rw [decide_eq_true (by omega)]
      exact Ev.now _
end Go.Proofs.Ytlaaofbmnaekoaa.Pure
