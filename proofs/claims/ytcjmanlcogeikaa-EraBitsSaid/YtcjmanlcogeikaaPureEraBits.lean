/- EraBits: any number folded to any number of bits, and any word unfolded by any pivot, are the document's. For every input of Go's kinds; no further condition. -/
import Derived.Test.YtcjmanlcogeikaaTEraBitsBig4
namespace Go.Proofs.Ytcjmanlcogeikaa.MEraBits
open Go.RowKit Go.Proofs.YtcjmanlcogeikaaW.PrintWords Go.Proofs.YtcjmanlcogeikaaW.PrintLast Go.Proofs.YtcjmanlcogeikaaW.PrintMore Go.Proofs.Ytcjmanlcogeikaa.Base
set_option linter.unusedVariables false
set_option linter.unusedSimpArgs false

theorem add_is (a b : Int) (ha : I64 a) (hb : I64 b) : num_Add.f a b = some (ovf (a + b)) := by
  unfold I64 at ha hb
  unfold num_Add.f ovf
  by_cases h : I64 (a + b)
  · have w := wrap64_id h
    unfold I64 at h
    rw [w, if_pos (show I64 (a + b) from h)]
    repeat' split
    all_goals first | rfl | omega
  · rw [if_neg h]
    unfold I64 at h
    unfold wrap64
    repeat' split
    all_goals first | rfl | (exfalso; omega)
theorem sub_is (a b : Int) (ha : I64 a) (hb : I64 b) : num_Sub.f a b = some (ovf (a - b)) := by
  unfold I64 at ha hb
  unfold num_Sub.f ovf
  by_cases h : I64 (a - b)
  · have w := wrap64_id h
    unfold I64 at h
    rw [w, if_pos (show I64 (a - b) from h)]
    repeat' split
    all_goals first | rfl | omega
  · rw [if_neg h]
    unfold I64 at h
    unfold wrap64
    repeat' split
    all_goals first | rfl | (exfalso; omega)
theorem num_is (e : Option Int) : horologenum_Num.f e = some (match e with | none => 0 | some c => if c = 0 then -1 else c) := by
  unfold horologenum_Num.f
  cases e <;> simp
  split <;> rfl
theorem right_is (n : Int) : era_right.f n = some (decide (1 ≤ n ∧ n ≤ 62)) := by
  unfold era_right.f
  split
  · congr 1; simp; omega
  · congr 1; simp; omega
theorem mask_is (n : Int) (h0 : 0 ≤ n) (h : n ≤ 62) : era_mask.f n = some (2 ^ n.toNat - 1) := by
  unfold era_mask.f
  have := pow62 (n := n.toNat) (by omega)
  have := pow_pos2 n.toNat
  rw [if_pos h0, shl_u64 h0 h, wrap_u64]
  congr 1; omega

/-- The rest that is nearest to 0 of a number by 2 to n, the greater half below 0. -/
def near (x : Int) (n : Nat) : Int := if 2 ^ (n - 1) ≤ x % 2 ^ n then x % 2 ^ n - 2 ^ n else x % 2 ^ n
theorem near_bd (x : Int) {n : Nat} (h : 1 ≤ n) : -(2 ^ (n - 1)) ≤ near x n ∧ near x n < 2 ^ (n - 1) := by
  have e : (2 : Int) ^ n = 2 * 2 ^ (n - 1) := by rw [← pow_succ2, Nat.sub_add_cancel h]
  have p := pow_pos2 n
  have a := Int.emod_nonneg x (Int.ne_of_gt p)
  have b := Int.emod_lt_of_pos x p
  unfold near
  split <;> omega
theorem near_mod (x : Int) (n : Nat) : ∃ q, near x n = x - 2 ^ n * q := by
  have e := Int.emod_def x (2 ^ n)
  unfold near
  split
  · exact ⟨x / 2 ^ n + 1, by rw [e, Int.mul_add]; omega⟩
  · exact ⟨x / 2 ^ n, e⟩
theorem near_uniq {x y : Int} {n : Nat} (h : 1 ≤ n) (q : Int) (e : y = x - 2 ^ n * q) (hl : -(2 ^ (n - 1)) ≤ y) (hu : y < 2 ^ (n - 1)) : near x n = y := by
  obtain ⟨q', e'⟩ := near_mod x n
  have b := near_bd x h
  have p := pow_pos2 (n - 1)
  have e2 : (2 : Int) ^ n = 2 * 2 ^ (n - 1) := by rw [← pow_succ2, Nat.sub_add_cancel h]
  have d : near x n - y = 2 ^ n * (q - q') := by rw [e', e, Int.mul_sub]; omega
  have : q - q' = 0 := by
    rcases Int.lt_trichotomy (q - q') 0 with h1 | h1 | h1
    · have := Int.mul_le_mul_of_nonneg_left (show q - q' ≤ -1 by omega) (Int.le_of_lt (pow_pos2 n)); omega
    · exact h1
    · have := Int.mul_le_mul_of_nonneg_left (show 1 ≤ q - q' by omega) (Int.le_of_lt (pow_pos2 n)); omega
  rw [this] at d; omega

/-- What Bits answers. -/
def bitsV (word n pivot : Int) : Int × Option Int := if 1 ≤ n ∧ n ≤ 62 ∧ word < 2 ^ n.toNat then ovf (pivot + near (word - pivot) n.toNat) else (0, some 1)
theorem bits_is (word n pivot : Int) (hw : 0 ≤ word ∧ word ≤ 18446744073709551615) (hn : I64 n) (hp : I64 pivot) : Ev (fun k => era_Bits.f k word n pivot) (bitsV word n pivot) := by
  unfold era_Bits.f bitsV
  refine Ev.bindc (right_is n) ?_
  by_cases hr : 1 ≤ n ∧ n ≤ 62
  · have hm := mask_is n (by omega) hr.2
    have p62 := pow62 (n := n.toNat) (by omega)
    have pp := pow_pos2 n.toNat
    simp only [decide_eq_true hr, if_true]
    refine Ev.bindc hm ?_
    refine Ev.up ?_
    by_cases hw2 : word < 2 ^ n.toNat
    · rw [if_pos ⟨hr.1, hr.2, hw2⟩]
      have hd : decide (word > 2 ^ n.toNat - 1) = false := decide_eq_false (by omega)
      simp only [hd, era_Bits.j0, Bool.false_eq_true, if_false]
      refine Ev.bindc hm ?_
      have w1 : wrap64 (n - 1) = n - 1 := wrap64_id (by unfold I64 at *; omega)
      have em : Go.bits .and .u64 (IntKind.u64.wrap (word - IntKind.u64.wrap pivot)) (2 ^ n.toNat - 1) = (word - pivot) % 2 ^ n.toNat := by
        rw [and_mask (by rw [wrap_u64]; omega) (by rw [wrap_u64]; omega) (by omega), wrap_u64, mod_mod64 _ (by omega), wrap_u64, Int.sub_emod, mod_mod64 _ (by omega), ← Int.sub_emod]
      have b0 := Int.emod_nonneg (word - pivot) (Int.ne_of_gt pp)
      have b1 := Int.emod_lt_of_pos (word - pivot) pp
      have w2 : wrap64 ((word - pivot) % 2 ^ n.toNat) = (word - pivot) % 2 ^ n.toNat := wrap64_id (by unfold I64; omega)
      have e2 : (2 : Int) ^ n.toNat = 2 * 2 ^ (n.toNat - 1) := by rw [← pow_succ2, Nat.sub_add_cancel (by omega)]
      rw [em, w2, w1, shl_i64 (by omega) (by omega), shl_i64 (by omega) (by omega), if_pos (show 0 ≤ n - 1 by omega), show (n - 1).toNat = n.toNat - 1 by omega]
      unfold near
      by_cases hh : (2 : Int) ^ (n.toNat - 1) ≤ (word - pivot) % 2 ^ n.toNat
      · rw [if_pos hh, if_pos hh, if_pos (show 0 ≤ n by omega)]
        rw [wrap64_id (n := (word - pivot) % 2 ^ n.toNat - 2 ^ n.toNat) (by unfold I64; omega)]
        exact Ev.bindc (add_is _ _ hp (by unfold I64; omega)) (Ev.now _)
      · rw [if_neg hh, if_neg hh]
        exact Ev.bindc (add_is _ _ hp (by unfold I64; omega)) (Ev.now _)
    · rw [if_neg (by omega)]
      have hd : decide (word > 2 ^ n.toNat - 1) = true := decide_eq_true (by omega)
      simp only [hd, era_Bits.j0, if_true]
      exact Ev.now _
  · rw [if_neg (by omega)]
    simp only [decide_eq_false hr, Bool.false_eq_true, if_false]
    refine Ev.up ?_
    simp only [era_Bits.j0, if_true]
    exact Ev.now _
theorem fold_is (t n : Int) : era_FoldBits.f t n = some (if 1 ≤ n ∧ n ≤ 62 then (t % 2 ^ n.toNat, none) else (0, some 1)) := by
  unfold era_FoldBits.f
  rw [right_is]
  simp only [Option.bind_some]
  by_cases hr : 1 ≤ n ∧ n ≤ 62
  · simp only [decide_eq_true hr, if_true, mask_is n (by omega) hr.2, Option.bind_some]
    rw [and_mask (by rw [wrap_u64]; omega) (by rw [wrap_u64]; omega) (by omega), wrap_u64, mod_mod64 _ (by omega), if_pos hr]
  · simp only [decide_eq_false hr, Bool.false_eq_true, if_false]
    rw [if_neg hr]
theorem near_is (t p n : Int) (ht : I64 t) (hp : I64 p) : era_Near.f t p n = some (if 1 ≤ n ∧ n ≤ 62 then (decide (-(2 ^ (n.toNat - 1)) ≤ t - p ∧ t - p < 2 ^ (n.toNat - 1)), none) else (false, some 1)) := by
  unfold era_Near.f
  rw [right_is]
  simp only [Option.bind_some]
  by_cases hr : 1 ≤ n ∧ n ≤ 62
  · have p62 := pow62 (n := n.toNat - 1) (by omega)
    have pp := pow_pos2 (n.toNat - 1)
    have w1 : wrap64 (n - 1) = n - 1 := wrap64_id (by unfold I64; omega)
    simp only [decide_eq_true hr, if_true, sub_is t p ht hp, Option.bind_some, w1]
    rw [shl_i64 (by omega) (by omega), show (n - 1).toNat = n.toNat - 1 by omega, wrap64_id (n := -2 ^ (n.toNat - 1)) (by unfold I64; omega)]
    rw [if_pos (show 0 ≤ n - 1 by omega), if_pos hr]
    by_cases hi : I64 (t - p)
    · rw [ovf_in hi]
      simp only [Option.isNone_none, if_true]
      split
      · congr 2; simp; omega
      · congr 2; simp; omega
    · rw [ovf_out hi]
      unfold I64 at hi
      simp only [Option.isNone_some, Bool.false_eq_true, if_false]
      congr 2; simp; omega
  · simp only [decide_eq_false hr, Bool.false_eq_true, if_false]
    rw [if_neg hr]
theorem Minus_is {a : Bool × List Int} {x : Int} {n : Nat} (ha : Is a x n) : ∃ r, horologeref01_Minus.f a.1 a.2 = some r ∧ Is r (-x) n := by
  have va := ha.abs
  have na := ha.neg
  unfold horologeref01_Minus.f
  by_cases h : a.1 = true
  · refine ⟨(false, a.2), by rw [if_pos h], Is.mk' ha.dg ha.tr ?_ ?_ ha.le⟩
    · have := na.mp h; rw [decide_eq_false (by omega)]
    · have := na.mp h; rw [va, if_pos this, if_neg (by omega)]
  · have hx : ¬ x < 0 := fun q => h (na.mpr q)
    rw [if_neg hx] at va
    refine ⟨(decide (0 < a.2.length), a.2), by rw [if_neg h], Is.mk' ha.dg ha.tr ?_ ?_ ha.le⟩
    · rw [len_pos ha.dg ha.tr, va]; exact decide_eq_decide.mpr ⟨fun _ => by omega, fun _ => by omega⟩
    · rw [va]; split <;> omega
theorem fold_l0 (t n : Int) (hn : n ≤ 62) (ht : I64 t) (m : Nat) : ∀ (i : Nat), (i : Int) + m = n → Ev (fun k => horologeref13_Fold.l0 k t n (2 ^ i) i) (t % 2 ^ n.toNat) := by
  induction m with
  | zero =>
    intro i hi
    have p62 := pow62 (n := i) (by omega)
    have pp := pow_pos2 i
    rw [show n.toNat = i by omega]
    have e0 := Int.emod_nonneg t (Int.ne_of_gt pp)
    have e1 := Int.emod_lt_of_pos t pp
    have hm : Int.tmod t (2 ^ i) = t % 2 ^ i ∨ (Int.tmod t (2 ^ i) < 0 ∧ Int.tmod t (2 ^ i) + 2 ^ i = t % 2 ^ i) := by
      by_cases h : 0 ≤ t
      · exact Or.inl (Int.tmod_eq_emod_of_nonneg h)
      · have e : t = -(-t) := by omega
        have e2 : Int.tmod t (2 ^ i) = -((-t) % 2 ^ i) := by rw [e, Int.neg_tmod, Int.tmod_eq_emod_of_nonneg (by omega), ← e]
        have a0 := Int.emod_nonneg (-t) (Int.ne_of_gt pp)
        have a1 := Int.emod_lt_of_pos (-t) pp
        by_cases hz : (-t) % 2 ^ i = 0
        · refine Or.inl ?_
          rw [e2, hz]
          have := Int.dvd_of_emod_eq_zero hz
          exact (Int.emod_eq_zero_of_dvd ((Int.dvd_neg).mp this)).symm
        · refine Or.inr ⟨by omega, ?_⟩
          rw [e2]
          have d1 := Int.emod_def (-t) (2 ^ i)
          have d2 : t = (2 ^ i - (-t) % 2 ^ i) + 2 ^ i * (-((-t) / 2 ^ i) - 1) := by
            rw [Int.mul_sub, Int.mul_neg, Int.mul_one]; omega
          have d3 := congrArg (fun z => z % (2 : Int) ^ i) d2
          simp only [Int.add_mul_emod_self_left] at d3
          rw [d3, Int.emod_eq_of_lt (a := 2 ^ i - (-t) % 2 ^ i) (b := 2 ^ i) (by omega) (by omega)]; omega
    refine Ev.up ?_
    simp only [horologeref13_Fold.l0]
    refine Ev.neg (by omega) (Ev.neg (by omega) ?_)
    rcases hm with h | ⟨h1, h2⟩
    · refine Ev.neg (by omega) ?_
      rw [h]; exact Ev.now _
    · refine Ev.pos h1 ?_
      rw [h2, wrap64_id (by unfold I64; omega)]; exact Ev.now _
  | succ m ih =>
    intro i hi
    have p62 := pow62 (n := i + 1) (by omega)
    have pp := pow_pos2 i
    rw [pow_succ2] at p62
    refine Ev.up ?_
    simp only [horologeref13_Fold.l0]
    refine Ev.pos (by omega) ?_
    have := ih (i + 1) (by omega)
    rw [wrap64_id (n := 2 ^ i * 2) (by unfold I64; omega), wrap64_id (n := (i : Int) + 1) (by unfold I64; omega)]
    rw [pow_succ2] at this
    rw [Int.mul_comm (2 ^ i) 2]
    exact this
theorem ref_fold_is (t n : Int) (h0 : 0 ≤ n) (hn : n ≤ 62) (ht : I64 t) : Ev (fun k => horologeref13_Fold.f k t n) (t % 2 ^ n.toNat) :=
  fold_l0 t n hn ht n.toNat 0 (by omega)
def en (e : Option Int) : Int := match e with | none => 0 | some c => c
theorem rnear_is {a b : Bool × List Int} {t p : Int} {m l : Nat} (ha : Is a t m) (hb : Is b p l) (hm : m ≤ 1000) (hl : l ≤ 1000) (n : Int) (h1 : 1 ≤ n) (h2 : n ≤ 62) :
    Ev (fun k => horologeref13_Near.f k a.1 a.2 b.1 b.2 n) (decide (-(2 ^ (n.toNat - 1)) ≤ t - p ∧ t - p < 2 ^ (n.toNat - 1))) := by
  unfold horologeref13_Near.f
  obtain ⟨h, p1, p2⟩ := Power_is (n - 1) (by omega) (by omega)
  obtain ⟨g, g1, g2⟩ := Minus_is p2
  obtain ⟨u, u1, u2⟩ := Plus_is hb g2 (by omega) (by decide)
  obtain ⟨v, v1, v2⟩ := Plus_is hb p2 (by omega) (by decide)
  rw [show (n - 1).toNat = n.toNat - 1 by omega] at *
  rw [wr (n := n - 1) (by omega)]
  refine Ev.bind p1 (Ev.bindc g1 (Ev.bind u1 (Ev.bind (Less_is ha u2 (by omega) (by omega)) (Ev.ite (fun q => ?_) (fun q => ?_)))))
  · have := of_decide_eq_true q
    rw [decide_eq_false (by omega)]; exact Ev.now _
  · have q' : ¬ t < p + -2 ^ (n.toNat - 1) := fun z => q (decide_eq_true z)
    refine Ev.bind v1 (Ev.bind (Less_is ha v2 (by omega) (by omega)) (Ev.cast (Ev.now _) ?_))
    exact decide_eq_decide.mpr ⟨fun z => ⟨by omega, by omega⟩, fun z => by omega⟩
theorem near_add (x : Int) (n : Nat) (q : Int) : near (x + 2 ^ n * q) n = near x n := by
  unfold near
  rw [Int.add_mul_emod_self_left]
theorem rbits_is (word n p : Int) (hw : 0 ≤ word ∧ word ≤ 18446744073709551615) (hn : I64 n) (hp : I64 p) : Ev (fun k => horologeref13_Bits.f k word n p) ((bitsV word n p).1, en (bitsV word n p).2) := by
  unfold horologeref13_Bits.f
  have bad : ¬ (1 ≤ n ∧ n ≤ 62 ∧ word < 2 ^ n.toNat) → Ev (fun k => horologeref13_Bits.j0 k word n p true) ((bitsV word n p).1, en (bitsV word n p).2) := by
    intro h
    unfold bitsV
    rw [if_neg h]
    refine Ev.up ?_
    simp only [horologeref13_Bits.j0, if_true]
    exact Ev.now _
  refine Ev.ite (fun h => bad (by omega)) (fun h1 => Ev.ite (fun h => bad (by omega)) (fun h2 => ?_))
  have wn : IntKind.u64.wrap n = n := by rw [wrap_u64]; omega
  have pp := pow_pos2 n.toNat
  have p62 := pow62 (n := n.toNat) (by omega)
  simp only [wn]
  rw [shl_u64 (by omega) (by omega)]
  refine Ev.pos (by omega) ?_
  by_cases hw2 : word ≥ 2 ^ n.toNat
  · rw [decide_eq_true hw2]; exact bad (by omega)
  · rw [decide_eq_false hw2]
    unfold bitsV
    rw [if_pos ⟨by omega, by omega, by omega⟩]
    have e2 : (2 : Int) ^ n.toNat = 2 * 2 ^ (n.toNat - 1) := by rw [← pow_succ2, Nat.sub_add_cancel (by omega)]
    have hh := pow_pos2 (n.toNat - 1)
    have f0 := Int.emod_nonneg p (Int.ne_of_gt pp)
    have f1 := Int.emod_lt_of_pos p pp
    obtain ⟨a, a1, a2⟩ := Of_is p hp
    obtain ⟨f, g1, g2⟩ := Of_is (p % 2 ^ n.toNat) (by unfold I64; omega)
    obtain ⟨m, m1, m2⟩ := Minus_is g2
    obtain ⟨u, u1, u2⟩ := Plus_is a2 m2 (by decide) (by decide)
    obtain ⟨w, w1, w2⟩ := Of_is word (by unfold I64; omega)
    obtain ⟨b, b1, b2⟩ := Plus_is u2 w2 (by decide) (by decide)
    obtain ⟨s, s1, s2⟩ := Power_is n (by omega) (by omega)
    obtain ⟨c, c1, c2⟩ := Plus_is b2 s2 (by decide) (by decide)
    obtain ⟨g, q1, q2⟩ := Minus_is s2
    obtain ⟨d, d1, d2⟩ := Plus_is b2 q2 (by decide) (by decide)
    have hd : near (word - p) n.toNat = near (word - p % 2 ^ n.toNat) n.toNat := by
      have e := Int.emod_def p (2 ^ n.toNat)
      rw [show word - p = word - p % 2 ^ n.toNat + 2 ^ n.toNat * (-(p / 2 ^ n.toNat)) by rw [Int.mul_neg]; omega, near_add]
    have hn1 : 1 ≤ n.toNat := by omega
    have fin : ∀ (x : Bool × List Int) (y : Int) (l : Nat), Is x y l → l ≤ 1000 → (near (word - p) n.toNat = y - p) → Ev (fun k => (horologeref01_Small.f k x.1 x.2).bind fun z => some (z.1, z.2)) ((ovf (p + near (word - p) n.toNat)).1, en (ovf (p + near (word - p) n.toNat)).2) := by
      intro x y l hx hl e
      refine Ev.bind (Small_is hx (by omega)) (Ev.cast (Ev.now _) ?_)
      rw [e, show p + (y - p) = y by omega]
      by_cases hi : I64 y
      · rw [smallV_in hi, ovf_in hi]; rfl
      · rw [smallV_out hi, ovf_out hi]; rfl
    refine Ev.up ?_
    simp only [horologeref13_Bits.j0, Bool.false_eq_true, if_false]
    rw [wr (n := word) (by omega)]
    refine Ev.bind a1 (Ev.bind (ref_fold_is p n (by omega) (by omega) hp) (Ev.bind g1 (Ev.bindc m1 (Ev.bind u1 (Ev.bind w1 (Ev.bind b1 (Ev.bind s1 ?_)))))))
    have hc : (-(2 ^ (n.toNat - 1)) ≤ word - p % 2 ^ n.toNat ∧ word - p % 2 ^ n.toNat < 2 ^ (n.toNat - 1)) ∨ word - p % 2 ^ n.toNat < -(2 ^ (n.toNat - 1)) ∨ 2 ^ (n.toNat - 1) ≤ word - p % 2 ^ n.toNat := by omega
    have k1 : wrap64 (0 + 1) = 1 := wr (by omega)
    have k2 : wrap64 (1 + 1) = 2 := wr (by omega)
    -- the three that are looked at
    refine Ev.up ?_
    simp only [horologeref13_Bits.l0]
    refine Ev.pos (by decide) (Ev.neg (by decide) (Ev.up ?_))
    simp only [horologeref13_Bits.j2]
    refine Ev.neg (by decide) (Ev.up ?_)
    simp only [horologeref13_Bits.j3]
    refine Ev.bind (rnear_is b2 a2 (by decide) (by decide) n (by omega) (by omega)) ?_
    refine Ev.ite (fun q => ?_) (fun q => ?_)
    · have q' := of_decide_eq_true q
      exact fin b _ _ b2 (by decide) (by rw [hd, near_uniq (y := word - p % 2 ^ n.toNat) hn1 0 (by omega) (by omega) (by omega)]; omega)
    · have q' : ¬ (-(2 ^ (n.toNat - 1)) ≤ p + -(p % 2 ^ n.toNat) + word - p ∧ p + -(p % 2 ^ n.toNat) + word - p < 2 ^ (n.toNat - 1)) := fun z => q (decide_eq_true z)
      rw [k1]
      refine Ev.up ?_
      simp only [horologeref13_Bits.l0]
      refine Ev.pos (by decide) (Ev.pos trivial (Ev.bind c1 (Ev.up ?_)))
      simp only [horologeref13_Bits.j2]
      refine Ev.neg (by decide) (Ev.up ?_)
      simp only [horologeref13_Bits.j3]
      refine Ev.bind (rnear_is c2 a2 (by decide) (by decide) n (by omega) (by omega)) ?_
      refine Ev.ite (fun r => ?_) (fun r => ?_)
      · have r' := of_decide_eq_true r
        exact fin c _ _ c2 (by decide) (by rw [hd, near_uniq (y := word - p % 2 ^ n.toNat + 2 ^ n.toNat) hn1 (-1) (by omega) (by omega) (by omega)]; omega)
      · have r' : ¬ (-(2 ^ (n.toNat - 1)) ≤ p + -(p % 2 ^ n.toNat) + word + 2 ^ n.toNat - p ∧ p + -(p % 2 ^ n.toNat) + word + 2 ^ n.toNat - p < 2 ^ (n.toNat - 1)) := fun z => r (decide_eq_true z)
        rw [k2]
        refine Ev.up ?_
        simp only [horologeref13_Bits.l0]
        refine Ev.pos (by decide) (Ev.neg (by decide) (Ev.up ?_))
        simp only [horologeref13_Bits.j2]
        refine Ev.pos trivial (Ev.bindc q1 (Ev.bind d1 (Ev.up ?_)))
        simp only [horologeref13_Bits.j3]
        refine Ev.bind (rnear_is d2 a2 (by decide) (by decide) n (by omega) (by omega)) (Ev.pos (decide_eq_true (by omega)) ?_)
        exact fin d _ _ d2 (by decide) (by rw [hd, near_uniq (y := word - p % 2 ^ n.toNat - 2 ^ n.toNat) hn1 1 (by omega) (by omega) (by omega)]; omega)
theorem alive_is : Ev (fun k => horologelaw13_alive.f k) true := Ev.of (fun k => horologelaw13_alive.mono k) (k := 10) (by kernel_rfl)
theorem num_bits (w n p : Int) : horologenum_Num.f (bitsV w n p).2 = some (en (bitsV w n p).2) := by
  rw [num_is]
  unfold bitsV ovf
  repeat' split
  all_goals first | rfl | simp_all [en]
end Go.Proofs.Ytcjmanlcogeikaa.MEraBits
namespace Go.Proofs.Ytcjmanlcogeikaa.Pure
open Go.RowKit Go.Proofs.Ytcjmanlcogeikaa.MEraBits Go.Proofs.YtcjmanlcogeikaaW.PrintWords Go.Proofs.YtcjmanlcogeikaaW.PrintLast Go.Proofs.Ytcjmanlcogeikaa.Base
set_option linter.unusedVariables false
set_option linter.unusedSimpArgs false
theorem EraBits : horologelaw13_EraBits.Pure := by
  intro t p w n ht hp hw hn
  replace ht := i64_of ht
  replace hp := i64_of hp
  replace hn := i64_of hn
  replace hw := bounds_u64 hw
  refine Ev.ok (g := fun k => horologelaw13_EraBits.f k t p w n) ?_
  unfold horologelaw13_EraBits.f
  refine Ev.bind alive_is (Ev.pos rfl (Ev.bindc (fold_is t n) (Ev.bindc (near_is t p n ht hp) (Ev.bind (bits_is w n p hw hn hp) (Ev.bind (rbits_is w n p hw hn hp) (Ev.pos rfl (Ev.bindc (num_bits w n p) ?_)))))))
  rw [bne_self_eq_false]
  by_cases h : 1 ≤ n ∧ n ≤ 62
  · rw [if_pos h, if_pos h]
    refine Ev.up ?_
    simp only [horologelaw13_EraBits.j0, Bool.false_eq_true, if_false]
    refine Ev.neg (by omega) ?_
    rw [show decide (n > 62) = false from decide_eq_false (by omega)]
    refine Ev.up ?_
    simp only [horologelaw13_EraBits.j1, Bool.false_eq_true, if_false]
    have p62 := pow62 (n := n.toNat) (by omega)
    have pp := pow_pos2 n.toNat
    have e0 := Int.emod_nonneg t (Int.ne_of_gt pp)
    have e1 := Int.emod_lt_of_pos t pp
    obtain ⟨a, a1, a2⟩ := Of_is t ht
    obtain ⟨b, b1, b2⟩ := Of_is p hp
    refine Ev.pos rfl (Ev.pos rfl (Ev.bind (ref_fold_is t n (by omega) h.2 ht) (Ev.pos (wr (by omega)) (Ev.bind a1 (Ev.bind b1 (Ev.bind (rnear_is a2 b2 (by decide) (by decide) n h.1 h.2) (Ev.cast (Ev.now _) ?_)))))))
    simp only [beq_iff_eq]
  · rw [if_neg h, if_neg h]
    refine Ev.up ?_
    simp only [horologelaw13_EraBits.j0, Bool.false_eq_true, if_false]
    have out : Ev (fun k => horologelaw13_EraBits.j1 k n t p 0 (some 1) false (some 1) true) true := by
      refine Ev.up ?_
      simp only [horologelaw13_EraBits.j1, if_true]
      refine Ev.neg (by decide) (Ev.bindc (a := true) ?_ (Ev.pos rfl (Ev.bindc (a := true) ?_ (Ev.now _))))
      · unfold horologenum_Is.f; rw [num_is]; rfl
      · unfold horologenum_Is.f; rw [num_is]; rfl
    refine Ev.ite (fun _ => out) (fun h1 => ?_)
    rw [decide_eq_true (by omega)]
    exact out
end Go.Proofs.Ytcjmanlcogeikaa.Pure
