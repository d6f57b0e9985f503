/- NumScales: products that are divided are the document's, whatever size they have. For all numbers of Go's kind; no further condition. -/
import Derived.Test.YtcgcodmknoiljaaMNumScalesx
import Derived.Test.YtcgcodmknoiljaaTNumScalesBig3
namespace Go.Proofs.Ytcgcodmknoiljaa.MNumScales
open Go.RowKit Go.Proofs.YtcgcodmknoiljaaW.PrintWords Go.Proofs.YtcgcodmknoiljaaW.PrintLast Go.Proofs.YtcgcodmknoiljaaW.PrintMore Go.Proofs.Ytcgcodmknoiljaa.Base
set_option linter.unusedVariables false
set_option linter.unusedSimpArgs false

theorem num_is (e : Option Int) : horologenum_Num.f e = some (match e with | none => 0 | some c => if c = 0 then -1 else c) := by
  unfold horologenum_Num.f
  cases e <;> simp
  split <;> rfl
theorem alive_is : Ev (fun k => horologelaw01_alive.f k) true := Ev.of (fun k => horologelaw01_alive.mono k) (k := 10) (by kernel_rfl)
theorem quot_is {x y z : Bool × List Int} {a b q r : Int} {n m l : Nat} (hx : Is x a n) (hy : Is y b m) (hz : Is z q l) (hn : n ≤ 1000) (hm : m ≤ 1000) (hl : l ≤ 1000) (e : b * q + r = a) (h1 : 0 < b → 0 ≤ r ∧ r < b) (h2 : b < 0 → b < r ∧ r ≤ 0) (hb : b ≠ 0) :
    Ev (fun k => horologeref01_Quotient.f k x.1 x.2 y.1 y.2 z.1 z.2) true := by
  obtain ⟨p, p1, p2⟩ := Times_is hz hy (by omega) (by omega)
  obtain ⟨o, o1, o2⟩ := Of_is 1 (by unfold I64; omega)
  obtain ⟨s, s1, s2⟩ := Plus_is hz o2 (by omega) (by decide)
  obtain ⟨t, t1, t2⟩ := Times_is s2 hy (by omega) (by omega)
  have L1 := Less_is p2 hx (by omega) (by omega)
  have L2 := Less_is t2 hx (by omega) (by omega)
  have L3 := Less_is hx p2 (by omega) (by omega)
  have L4 := Less_is hx t2 (by omega) (by omega)
  rw [Int.add_mul, Int.one_mul] at L2 L4
  rw [Int.mul_comm q b] at L1 L2 L3 L4
  generalize b * q = u at e L1 L2 L3 L4
  unfold horologeref01_Quotient.f
  refine Ev.bind p1 (Ev.bind o1 (Ev.bind s1 (Ev.bind t1 (Ev.ite (fun g => ?_) (fun g => ?_)))))
  · have hb := h2 (hy.neg.mp g)
    refine Ev.bind L1 (Ev.neg (by rw [decide_eq_true_iff]; omega) ?_)
    rw [decide_eq_true (show u + b < a by omega)] at L2
    exact L2
  · have hg : ¬ b < 0 := fun z => g (hy.neg.mpr z)
    have hb := h1 (by omega)
    refine Ev.bind L3 (Ev.neg (by rw [decide_eq_true_iff]; omega) ?_)
    rw [decide_eq_true (show a < u + b by omega)] at L4
    exact L4
theorem and32 {x : Int} (h0 : 0 ≤ x) (h : x < 18446744073709551616) : Go.bits .and .u64 x 4294967295 = x % 4294967296 := and_mask h0 h (n := 32) (by decide)
theorem mul64_is (a b : Int) (ha : 0 ≤ a ∧ a < 18446744073709551616) (hb : 0 ≤ b ∧ b < 18446744073709551616) :
    bits_Mul64.f a b = some (a * b / 18446744073709551616, a * b % 18446744073709551616) := by
  unfold bits_Mul64.f
  rw [and32 ha.1 ha.2, and32 hb.1 hb.2]
  have hp : ∀ x y : Int, 0 ≤ x → x ≤ 4294967295 → 0 ≤ y → y ≤ 4294967295 → 0 ≤ x * y ∧ x * y ≤ 18446744065119617025 := fun x y h1 h2 h3 h4 =>
    ⟨Int.mul_nonneg h1 h3, by have := Int.mul_le_mul h2 h4 h3 (by decide); omega⟩
  have e : a * b = 18446744073709551616 * ((a / 4294967296) * (b / 4294967296)) + 4294967296 * ((a / 4294967296) * (b % 4294967296) + (a % 4294967296) * (b / 4294967296)) + (a % 4294967296) * (b % 4294967296) := by
    have ea : a = 4294967296 * (a / 4294967296) + a % 4294967296 := by omega
    have eb : b = 4294967296 * (b / 4294967296) + b % 4294967296 := by omega
    generalize a / 4294967296 = a1 at *
    generalize a % 4294967296 = a0 at *
    generalize b / 4294967296 = b1 at *
    generalize b % 4294967296 = b0 at *
    subst ea eb
    simp only [Int.mul_add, Int.add_mul, Int.mul_assoc, Int.mul_left_comm a1 4294967296, Int.mul_left_comm a0 4294967296]
    omega
  have h11 := hp (a / 4294967296) (b / 4294967296) (by omega) (by omega) (by omega) (by omega)
  have h10 := hp (a / 4294967296) (b % 4294967296) (by omega) (by omega) (by omega) (by omega)
  have h01 := hp (a % 4294967296) (b / 4294967296) (by omega) (by omega) (by omega) (by omega)
  have h00 := hp (a % 4294967296) (b % 4294967296) (by omega) (by omega) (by omega) (by omega)
  rw [e]
  clear hp e
  generalize (a / 4294967296) * (b / 4294967296) = p11 at *
  generalize (a / 4294967296) * (b % 4294967296) = p10 at *
  generalize (a % 4294967296) * (b / 4294967296) = p01 at *
  generalize (a % 4294967296) * (b % 4294967296) = p00 at *
  clear ha hb
  have w11 : IntKind.u64.wrap p11 = p11 := by rw [wrap_u64]; omega
  have w10 : IntKind.u64.wrap p10 = p10 := by rw [wrap_u64]; omega
  have w01 : IntKind.u64.wrap p01 = p01 := by rw [wrap_u64]; omega
  have w00 : IntKind.u64.wrap p00 = p00 := by rw [wrap_u64]; omega
  have wt : IntKind.u64.wrap (p10 + p00 / 4294967296) = p10 + p00 / 4294967296 := by rw [wrap_u64]; omega
  rw [w11, w10, w01, w00, wt, and32 (by omega) (by omega)]
  rw [wrap_u64, wrap_u64, wrap_u64, wrap_u64]
  congr 2
  omega
theorem signed_is (n : Int) (below : Bool) (h0 : 0 ≤ n) (h : n < 18446744073709551616) : Ev (fun k => num_signed.f k n below) (ovf (if below = true then -n else n)) := by
  unfold num_signed.f
  cases below with
  | true =>
    simp only [if_true]
    refine Ev.up ?_
    simp only [num_signed.j0]
    refine Ev.ite (fun q => ?_) (fun q => ?_)
    · have := of_decide_eq_true q
      rw [ovf_in (by unfold I64; omega)]
      refine Ev.cast (Ev.now _) ?_
      rw [wrap_u64]
      congr 1
      unfold wrap64; omega
    · have : ¬ n ≤ 9223372036854775808 := fun h => q (decide_eq_true h)
      rw [ovf_out (by unfold I64; omega)]
      simp only [if_true]
      exact Ev.now _
  | false =>
    simp only [Bool.false_eq_true, if_false]
    refine Ev.up ?_
    simp only [num_signed.j0, Bool.false_eq_true, if_false]
    refine Ev.ite (fun q => ?_) (fun q => ?_)
    · rw [ovf_in (by unfold I64; omega), wrap64_id (by unfold I64; omega)]
      exact Ev.now _
    · rw [ovf_out (by unfold I64; omega)]
      exact Ev.now _
/-- One digit of a quotient: U b + u1 by D, b = 4294967296. -/
structure Dig (U u1 d1 d0 D Q r : Int) : Prop where
  cd : D = d1 * 4294967296 + d0
  b0 : 0 ≤ d0 ∧ d0 < 4294967296
  b1 : 2147483648 ≤ d1 ∧ d1 < 4294967296
  bu : 0 ≤ u1 ∧ u1 < 4294967296
  bU : 0 ≤ U ∧ U < D
  eq : Q * D + r = U * 4294967296 + u1
  br : 0 ≤ r ∧ r < D
theorem dig_ex (U u1 d1 d0 D : Int) (d : D = d1 * 4294967296 + d0) (h0 : 0 ≤ d0 ∧ d0 < 4294967296) (h1 : 2147483648 ≤ d1 ∧ d1 < 4294967296) (hu : 0 ≤ u1 ∧ u1 < 4294967296) (hU : 0 ≤ U ∧ U < D) : ∃ Q r, Dig U u1 d1 d0 D Q r := by
  refine ⟨(U * 4294967296 + u1) / D, (U * 4294967296 + u1) % D, d, h0, h1, hu, hU, ?_, ?_⟩
  · have := Int.mul_ediv_add_emod (U * 4294967296 + u1) D
    rw [Int.mul_comm] at this
    exact this
  · exact ⟨Int.emod_nonneg _ (by omega), Int.emod_lt_of_pos _ (by omega)⟩
theorem Dig.small {U u1 d1 d0 D Q r : Int} (h : Dig U u1 d1 d0 D Q r) : 0 ≤ Q ∧ Q < 4294967296 := by
  obtain ⟨hd, h0, h1, hu, hU, he, hr⟩ := h
  constructor
  · rcases Int.lt_or_le Q 0 with q | q
    · have := Int.mul_le_mul_of_nonneg_right (show Q ≤ -1 by omega) (show 0 ≤ D by omega)
      omega
    · exact q
  · rcases Int.lt_or_le Q 4294967296 with q | q
    · exact q
    · have := Int.mul_le_mul_of_nonneg_right q (show 0 ≤ D by omega)
      omega
theorem Dig.le {U u1 d1 d0 D Q r q : Int} (h : Dig U u1 d1 d0 D Q r) (hq : q * D ≤ U * 4294967296 + u1) : q ≤ Q := by
  obtain ⟨hd, h0, h1, hu, hU, he, hr⟩ := h
  rcases Int.lt_or_le Q q with k | k
  · have := Int.mul_le_mul_of_nonneg_right (show Q + 1 ≤ q by omega) (show 0 ≤ D by omega)
    rw [Int.add_mul] at this
    omega
  · exact k
theorem Dig.gt {U u1 d1 d0 D Q r q : Int} (h : Dig U u1 d1 d0 D Q r) (hq : U * 4294967296 + u1 < q * D) : Q < q := by
  obtain ⟨hd, h0, h1, hu, hU, he, hr⟩ := h
  rcases Int.lt_or_le Q q with k | k
  · exact k
  · have := Int.mul_le_mul_of_nonneg_right k (show 0 ≤ D by omega)
    omega
/-- What is tried first is not too small, and not much too great. -/
theorem Dig.first {U u1 d1 d0 D Q r : Int} (h : Dig U u1 d1 d0 D Q r) : (U / d1) * d1 + U % d1 = U ∧ 0 ≤ U % d1 ∧ U % d1 < d1 ∧ Q ≤ U / d1 ∧ U / d1 ≤ 4294967297 := by
  have h' := h
  obtain ⟨hd, h0, h1, hu, hU, he, hr⟩ := h
  have e := Int.mul_ediv_add_emod U d1
  rw [Int.mul_comm] at e
  have m0 := Int.emod_nonneg U (show d1 ≠ 0 by omega)
  have m1 := Int.emod_lt_of_pos U (show 0 < d1 by omega)
  refine ⟨e, m0, m1, ?_, ?_⟩
  · have hh : Q < U / d1 + 1 := by
      refine h'.gt ?_
      rw [hd, Int.mul_add, Int.add_mul, Int.one_mul, ← Int.mul_assoc, Int.add_mul]
      have : 0 ≤ (U / d1 + 1) * d0 := by
        refine Int.mul_nonneg ?_ h0.1
        have := Int.ediv_nonneg (show 0 ≤ U by omega) (show 0 ≤ d1 by omega)
        omega
      rw [Int.add_mul, Int.one_mul] at this
      generalize U / d1 * d1 = p at *
      generalize U / d1 * d0 = p0 at *
      generalize U % d1 = m at *
      omega
    omega
  · rcases Int.lt_or_le 4294967297 (U / d1) with k | k
    · have := Int.mul_le_mul_of_nonneg_right (show 4294967298 ≤ U / d1 by omega) (show 0 ≤ d1 by omega)
      generalize U / d1 * d1 = p at *
      omega
    · exact k
theorem digit_loop {α : Type} (L : Nat → Int → Int → Option α) (J : Nat → Int → Int → Bool → Option α) (E : Nat → Int → Option α) {U u1 d1 d0 D Q r : Int} (h : Dig U u1 d1 d0 D Q r) (res : α)
    (hL : ∀ k q m, L (k + 1) q m = if q ≥ 4294967296 then J k q m true else J k q m (decide (IntKind.u64.wrap (q * d0) > IntKind.u64.wrap (IntKind.u64.wrap (4294967296 * m) + u1))))
    (hJ : ∀ k q m c, J (k + 1) q m c = if c = true then (if IntKind.u64.wrap (m + d1) ≥ 4294967296 then E k (IntKind.u64.wrap (q - 1)) else L k (IntKind.u64.wrap (q - 1)) (IntKind.u64.wrap (m + d1))) else E k q)
    (hE : Ev (fun k => E k Q) res) : ∀ (n : Nat) (q m : Int), q * d1 + m = U → 0 ≤ m → m < 4294967296 → Q ≤ q → q ≤ 4294967297 → (q - Q).toNat = n → Ev (fun k => L k q m) res := by
  have hs := h.small
  have h' := h
  obtain ⟨hd, h0, h1, hu, hU, he, hr⟩ := h
  -- one too great
  have down : ∀ (n : Nat), (∀ (q m : Int), q * d1 + m = U → 0 ≤ m → m < 4294967296 → Q ≤ q → q ≤ 4294967297 → (q - Q).toNat = n → Ev (fun k => L k q m) res) → ∀ q m, q * d1 + m = U → 0 ≤ m → m < 4294967296 → Q < q → q ≤ 4294967297 → (q - Q).toNat = n + 1 → Ev (fun k => J k q m true) res := by
    intro n ih q m e m0 m1 hq hq1 hn
    refine Ev.up ?_
    simp only [hJ, if_true]
    have w1 : IntKind.u64.wrap (q - 1) = q - 1 := by rw [wrap_u64]; omega
    have w2 : IntKind.u64.wrap (m + d1) = m + d1 := by rw [wrap_u64]; omega
    rw [w1, w2]
    have e' : (q - 1) * d1 + (m + d1) = U := by rw [Int.sub_mul, Int.one_mul]; omega
    refine Ev.ite (fun c => ?_) (fun c => ?_)
    · have : q - 1 ≤ Q := by
        refine h'.le ?_
        rw [hd, Int.mul_add, ← Int.mul_assoc]
        have b0 : (q - 1) * d0 ≤ 4294967296 * 4294967295 := Int.mul_le_mul (by omega) (by omega) (by omega) (by decide)
        generalize (q - 1) * d0 = p0 at *
        generalize (q - 1) * d1 = p1 at *
        omega
      rw [show q - 1 = Q by omega]
      exact hE
    · exact ih (q - 1) (m + d1) e' (by omega) (by omega) (by omega) (by omega) (by omega)
  -- whether it is too great
  have head : ∀ (q m : Int), q * d1 + m = U → 0 ≤ m → m < 4294967296 → Q ≤ q → q ≤ 4294967297 → (Q < q → Ev (fun k => J k q m true) res) → Ev (fun k => L k q m) res := by
    intro q m e m0 m1 hq hq1 hgo
    refine Ev.up ?_
    simp only [hL]
    refine Ev.ite (fun c => hgo (by omega)) (fun c => ?_)
    have b0 : q * d0 ≤ 4294967295 * 4294967295 := Int.mul_le_mul (by omega) (by omega) (by omega) (by decide)
    have b1 : 0 ≤ q * d0 := Int.mul_nonneg (by omega) h0.1
    have eD : q * D = q * d1 * 4294967296 + q * d0 := by rw [hd, Int.mul_add, ← Int.mul_assoc]
    have w1 : IntKind.u64.wrap (q * d0) = q * d0 := by rw [wrap_u64]; omega
    have w2 : IntKind.u64.wrap (IntKind.u64.wrap (4294967296 * m) + u1) = 4294967296 * m + u1 := by rw [wrap_u64, wrap_u64]; omega
    rw [w1, w2]
    by_cases c2 : q * d0 > 4294967296 * m + u1
    · rw [decide_eq_true c2]
      refine hgo (h'.gt ?_)
      rw [eD]
      generalize q * d0 = p0 at *
      generalize q * d1 = p1 at *
      omega
    · rw [decide_eq_false c2]
      have : q ≤ Q := by
        refine h'.le ?_
        rw [eD]
        generalize q * d0 = p0 at *
        generalize q * d1 = p1 at *
        omega
      obtain rfl : q = Q := by omega
      refine Ev.up ?_
      simp only [hJ, Bool.false_eq_true, if_false]
      exact hE
  intro n
  induction n with
  | zero =>
    intro q m e m0 m1 hq hq1 hn
    exact head q m e m0 m1 hq hq1 (fun k => by omega)
  | succ n ih =>
    intro q m e m0 m1 hq hq1 hn
    exact head q m e m0 m1 hq hq1 (fun k => down n ih q m e m0 m1 k hq1 hn)
/-- The table of lengths, read. -/
theorem len_tab : ∃ T : ByteArray, (∀ k x x2, bits_Len64.j1 (k + 1) x x2 = if x ≥ 256 then (if 0 ≤ (x / 256) % 256 then (if (x / 256) % 256 < 256 then some (wrap64 (wrap64 (x2 + 8) + wrap64 (bt T ((x / 256) % 256)))) else none) else none) else (if 0 ≤ x % 256 then (if x % 256 < 256 then some (wrap64 (x2 + wrap64 (bt T (x % 256)))) else none) else none)) ∧
    ∀ b : Nat, b < 256 → 0 < b → ∃ L : Nat, L < 9 ∧ bt T b = (L : Int) ∧ 1 ≤ L ∧ 2 ^ (L - 1) ≤ b ∧ b < 2 ^ L :=
  ⟨_, fun _ _ _ => rfl, by decide +kernel⟩
theorem len_j1 (x n : Int) (h0 : 0 < x) (h1 : x < 65536) (hn : 0 ≤ n ∧ n ≤ 48) : ∃ L : Nat, 1 ≤ L ∧ L ≤ 16 ∧ 2 ^ (L - 1) ≤ x ∧ x < 2 ^ L ∧ Ev (fun k => bits_Len64.j1 k x n) (n + L) := by
  obtain ⟨T, hT, ht⟩ := len_tab
  by_cases c : x ≥ 256
  · obtain ⟨b, hb⟩ : ∃ b : Nat, (b : Int) = x / 256 := ⟨(x / 256).toNat, by omega⟩
    obtain ⟨L, hL, e, l1, l2, l3⟩ := ht b (by omega) (by omega)
    have p1 : (2 : Int) ^ (L + 8 - 1) = 2 ^ (L - 1) * 256 := by rw [show L + 8 - 1 = (L - 1) + 8 by omega, Int.pow_add]; rfl
    have p2 : (2 : Int) ^ (L + 8) = 2 ^ L * 256 := by rw [Int.pow_add]; rfl
    have q1 : (2 : Int) ^ (L - 1) ≤ b := by exact_mod_cast l2
    have q2 : (b : Int) < 2 ^ L := by exact_mod_cast l3
    refine ⟨L + 8, by omega, by omega, by rw [p1]; omega, by rw [p2]; omega, Ev.up ?_⟩
    simp only [hT]
    refine Ev.pos c (Ev.pos (by omega) (Ev.pos (by omega) ?_))
    rw [show (x / 256) % 256 = (b : Int) by omega, e]
    refine Ev.cast (Ev.now _) ?_
    unfold wrap64
    omega
  · obtain ⟨b, rfl⟩ : ∃ b : Nat, (b : Int) = x := ⟨x.toNat, by omega⟩
    obtain ⟨L, hL, e, l1, l2, l3⟩ := ht b (by omega) (by omega)
    have q1 : (2 : Int) ^ (L - 1) ≤ b := by exact_mod_cast l2
    have q2 : (b : Int) < 2 ^ L := by exact_mod_cast l3
    refine ⟨L, l1, by omega, q1, q2, Ev.up ?_⟩
    simp only [hT]
    refine Ev.neg c (Ev.pos (by omega) (Ev.pos (by omega) ?_))
    rw [show (b : Int) % 256 = (b : Int) by omega, e]
    refine Ev.cast (Ev.now _) ?_
    unfold wrap64
    omega
theorem len_j0 (x n : Int) (h0 : 0 < x) (h1 : x < 4294967296) (hn : 0 ≤ n ∧ n ≤ 32) : ∃ L : Nat, 1 ≤ L ∧ L ≤ 32 ∧ 2 ^ (L - 1) ≤ x ∧ x < 2 ^ L ∧ Ev (fun k => bits_Len64.j0 k x n) (n + L) := by
  by_cases c : x ≥ 65536
  · obtain ⟨L, l0, l1, l2, l3, e⟩ := len_j1 (x / 65536) (n + 16) (by omega) (by omega) (by omega)
    have p1 : (2 : Int) ^ (L + 16 - 1) = 2 ^ (L - 1) * 65536 := by rw [show L + 16 - 1 = (L - 1) + 16 by omega, Int.pow_add]; rfl
    have p2 : (2 : Int) ^ (L + 16) = 2 ^ L * 65536 := by rw [Int.pow_add]; rfl
    refine ⟨L + 16, by omega, by omega, by rw [p1]; omega, by rw [p2]; omega, Ev.up ?_⟩
    simp only [bits_Len64.j0]
    refine Ev.pos c ?_
    rw [wr (n := n + 16) (by omega)]
    exact Ev.cast e (by omega)
  · obtain ⟨L, l0, l1, l2, l3, e⟩ := len_j1 x n h0 (by omega) (by omega)
    refine ⟨L, l0, by omega, l2, l3, Ev.up ?_⟩
    simp only [bits_Len64.j0]
    exact Ev.neg c e
theorem len_is (x : Int) (h0 : 0 < x) (h1 : x < 18446744073709551616) : ∃ L : Nat, 1 ≤ L ∧ L ≤ 64 ∧ 2 ^ (L - 1) ≤ x ∧ x < 2 ^ L ∧ Ev (fun k => bits_Len64.f k x) (L : Int) := by
  unfold bits_Len64.f
  by_cases c : x ≥ 4294967296
  · obtain ⟨L, l0, l1, l2, l3, e⟩ := len_j0 (x / 4294967296) 32 (by omega) (by omega) (by omega)
    have p1 : (2 : Int) ^ (L + 32 - 1) = 2 ^ (L - 1) * 4294967296 := by rw [show L + 32 - 1 = (L - 1) + 32 by omega, Int.pow_add]; rfl
    have p2 : (2 : Int) ^ (L + 32) = 2 ^ L * 4294967296 := by rw [Int.pow_add]; rfl
    exact ⟨L + 32, by omega, by omega, by rw [p1]; omega, by rw [p2]; omega, Ev.pos c (Ev.cast e (by omega))⟩
  · obtain ⟨L, l0, l1, l2, l3, e⟩ := len_j0 x 0 h0 (by omega) (by omega)
    exact ⟨L, l0, by omega, l2, l3, Ev.neg c (Ev.cast e (by omega))⟩
theorem or_join {x y : Int} {s : Nat} (hs : s ≤ 64) (h0 : 0 ≤ x) (h1 : x < 18446744073709551616) (hm : x % 2 ^ s = 0) (g0 : 0 ≤ y) (g1 : y < 2 ^ s) : Go.bits .or .u64 x y = x + y :=
  bits_join .u64 64 (by simp [IntKind.bits]) (fun m a b => by rw [wrap_u64]; omega) s x y h0 hm h1 g0 g1 (Int.lt_of_lt_of_le g1 (pow_le_of hs))
theorem div64_is (hi lo y : Int) (h0 : 0 ≤ hi) (h1 : hi < y) (hy : y < 18446744073709551616) (g0 : 0 ≤ lo) (g1 : lo < 18446744073709551616) :
    Ev (fun k => bits_Div64.f k hi lo y) ((hi * 18446744073709551616 + lo) / y, (hi * 18446744073709551616 + lo) % y) := by
  unfold bits_Div64.f
  refine Ev.neg (by omega) (Ev.neg (by omega) ?_)
  by_cases c : hi = 0
  · subst c
    refine Ev.pos rfl ?_
    rw [Int.tdiv_eq_ediv_of_nonneg g0, Int.tmod_eq_emod_of_nonneg g0]
    have q0 := Int.ediv_nonneg g0 (show 0 ≤ y by omega)
    have q1 := Int.ediv_le_self y g0
    rw [wrap_u64, show lo / y % 18446744073709551616 = lo / y by omega, show 0 * 18446744073709551616 + lo = lo by omega]
    exact Ev.now _
  refine Ev.neg c ?_
  obtain ⟨L, l0, l1, l2, l3, eL⟩ := len_is y (by omega) hy
  obtain ⟨s, hs⟩ : ∃ s : Nat, s = 64 - L := ⟨_, rfl⟩
  have eZ : Ev (fun k => bits_LeadingZeros64.f k y) (s : Int) := by
    unfold bits_LeadingZeros64.f
    refine Ev.bind eL (Ev.cast (Ev.now _) ?_)
    rw [wr (by omega)]
    omega
  refine Ev.bind eZ ?_
  have hs64 : s ≤ 63 := by omega
  have ws : IntKind.u64.wrap (s : Int) = s := by rw [wrap_u64]; omega
  have ws' : IntKind.u64.wrap (64 - (s : Int)) = ((64 - s : Nat) : Int) := by rw [wrap_u64]; omega
  rw [ws, ws']
  have pp : (0 : Int) < 2 ^ s := pow_pos2 s
  have pq : (0 : Int) < 2 ^ (64 - s) := pow_pos2 (64 - s)
  have pe : (2 : Int) ^ s * 2 ^ (64 - s) = 18446744073709551616 := by rw [← Int.pow_add, show s + (64 - s) = 64 by omega]; rfl
  -- y shifted
  obtain ⟨D, hD⟩ : ∃ D : Int, D = y * 2 ^ s := ⟨_, rfl⟩
  have D1 : D < 18446744073709551616 := by
    have : y * 2 ^ s < 2 ^ L * 2 ^ s := Int.mul_lt_mul_of_pos_right l3 pp
    rw [← Int.pow_add, show L + s = 64 by omega] at this
    rw [hD]
    exact this
  have D0 : 9223372036854775808 ≤ D := by
    have : 2 ^ (L - 1) * 2 ^ s ≤ y * 2 ^ s := Int.mul_le_mul_of_nonneg_right l2 (Int.le_of_lt pp)
    rw [← Int.pow_add, show L - 1 + s = 63 by omega] at this
    rw [hD]
    exact this
  have eD : shl .u64 y (s : Int) = D := by
    unfold shl
    rw [show min (s : Int).toNat IntKind.u64.bits = s by simp [IntKind.bits]; omega, ← hD, wrap_u64]
    omega
  have hH : hi * 2 ^ s < D := by rw [hD]; exact Int.mul_lt_mul_of_pos_right h1 pp
  have hH0 : 0 ≤ hi * 2 ^ s := Int.mul_nonneg h0 (Int.le_of_lt pp)
  have eH : shl .u64 hi (s : Int) = hi * 2 ^ s := by
    unfold shl
    rw [show min (s : Int).toNat IntKind.u64.bits = s by simp [IntKind.bits]; omega, wrap_u64]
    omega
  have eR : shr .u64 lo ((64 - s : Nat) : Int) = lo / 2 ^ (64 - s) := by
    unfold shr
    rw [show min ((64 - s : Nat) : Int).toNat IntKind.u64.bits = 64 - s by simp [IntKind.bits]]
  have eT : shl .u64 lo (s : Int) = (lo * 2 ^ s) % 18446744073709551616 := by
    unfold shl
    rw [show min (s : Int).toNat IntKind.u64.bits = s by simp [IntKind.bits]; omega, wrap_u64]
  have hR0 : 0 ≤ lo / 2 ^ (64 - s) := Int.ediv_nonneg g0 (Int.le_of_lt pq)
  have hR1 : lo / 2 ^ (64 - s) < 2 ^ s := Int.ediv_lt_of_lt_mul pq (by rw [pe]; exact g1)
  have eLo : lo * 2 ^ s = lo / 2 ^ (64 - s) * 18446744073709551616 + (lo * 2 ^ s) % 18446744073709551616 := by
    have e1 : lo * 2 ^ s / 18446744073709551616 = lo / 2 ^ (64 - s) := by
      rw [← pe, Int.mul_comm lo, Int.mul_ediv_mul_of_pos _ _ pp]
    have e2 := Int.mul_ediv_add_emod (lo * 2 ^ s) 18446744073709551616
    rw [e1, Int.mul_comm] at e2
    exact e2.symm
  have hM : 0 ≤ (lo * 2 ^ s) % 18446744073709551616 ∧ (lo * 2 ^ s) % 18446744073709551616 < 18446744073709551616 := by omega
  have eO : Go.bits .or .u64 (hi * 2 ^ s) (lo / 2 ^ (64 - s)) = hi * 2 ^ s + lo / 2 ^ (64 - s) :=
    or_join (by omega) hH0 (by omega) (Int.mul_emod_left _ _) hR0 hR1
  rw [eD, eH, eR, eT, eO]
  obtain ⟨T, hT⟩ : ∃ T : Int, T = (lo * 2 ^ s) % 18446744073709551616 := ⟨_, rfl⟩
  obtain ⟨U, hU⟩ : ∃ U : Int, U = hi * 2 ^ s + lo / 2 ^ (64 - s) := ⟨_, rfl⟩
  have eN : (hi * 18446744073709551616 + lo) * 2 ^ s = U * 18446744073709551616 + T := by
    rw [Int.add_mul, eLo, hU, hT, Int.mul_right_comm, Int.add_mul]
    omega
  have hUD : 0 ≤ U ∧ U < D := by
    constructor
    · omega
    · rw [hD, hU]
      have a1 : hi * 2 ^ s + 2 ^ s ≤ y * 2 ^ s := by
        have := Int.mul_le_mul_of_nonneg_right (show hi + 1 ≤ y by omega) (Int.le_of_lt pp)
        rw [Int.add_mul, Int.one_mul] at this
        exact this
      omega
  rw [← hT, ← hU]
  rw [← hT] at hM
  clear eLo eO hT hU hH hH0 hR0 hR1 eD eH eR eT l2 l3 eL eZ
  rw [and32 (by omega) D1, and32 hM.1 hM.2]
  refine Ev.pos (by omega) (Ev.pos (by omega) (Ev.neg (by omega) ?_))
  obtain ⟨d1, hd1⟩ : ∃ d1 : Int, d1 = D / 4294967296 := ⟨_, rfl⟩
  obtain ⟨d0, hd0⟩ : ∃ d0 : Int, d0 = D % 4294967296 := ⟨_, rfl⟩
  obtain ⟨u1, hu1⟩ : ∃ u1 : Int, u1 = T / 4294967296 := ⟨_, rfl⟩
  obtain ⟨u0, hu0⟩ : ∃ u0 : Int, u0 = T % 4294967296 := ⟨_, rfl⟩
  rw [← hd1, ← hd0, ← hu1, ← hu0]
  obtain ⟨Q1, R1, H1⟩ := dig_ex U u1 d1 d0 D (by omega) (by omega) (by omega) (by omega) hUD
  obtain ⟨Q0, R0, H0⟩ := dig_ex R1 u0 d1 d0 D (by omega) (by omega) (by omega) (by omega) H1.br
  have first : ∀ {V v Q r : Int}, Dig V v d1 d0 D Q r → IntKind.u64.wrap (Int.tdiv V d1) = V / d1 ∧ IntKind.u64.wrap (V - IntKind.u64.wrap (V / d1 * d1)) = V % d1 := by
    intro V v Q r H
    obtain ⟨f1, f2, f3, f4, f5⟩ := H.first
    have hV := H.bU
    have b := H.b1
    rw [Int.tdiv_eq_ediv_of_nonneg hV.1]
    have hq := Int.ediv_nonneg hV.1 (show 0 ≤ d1 by omega)
    generalize V / d1 * d1 = p at *
    generalize V / d1 = q at *
    generalize V % d1 = m at *
    constructor
    · rw [wrap_u64]; omega
    · rw [wrap_u64, wrap_u64]; omega
  rw [(first H1).1, (first H1).2]
  obtain ⟨a1, a2, a3, a4, a5⟩ := H1.first
  have hb1 := H1.b1
  refine digit_loop (fun k q m => bits_Div64.l0 k D s d1 d0 U u1 u0 q m) (fun k q m c => bits_Div64.j1 k D s d1 d0 U u1 u0 q m c) (fun k q => bits_Div64.j2 k D s d1 d0 U u1 u0 q) H1 _ (fun _ _ _ => rfl) (fun _ _ _ _ => rfl) ?_ _ _ _ a1 a2 (by omega) a4 a5 rfl
  refine Ev.up ?_
  simp only [bits_Div64.j2]
  refine Ev.neg (by omega) ?_
  have e21 : IntKind.u64.wrap (IntKind.u64.wrap (IntKind.u64.wrap (U * 4294967296) + u1) - IntKind.u64.wrap (Q1 * D)) = R1 := by
    have e := H1.eq
    have r := H1.br
    generalize Q1 * D = p at *
    rw [wrap_u64, wrap_u64, wrap_u64, wrap_u64]
    omega
  rw [e21, (first H0).1, (first H0).2]
  obtain ⟨b1, b2, b3, b4, b5⟩ := H0.first
  refine digit_loop (fun k q m => bits_Div64.l1 k D s d1 d0 u0 Q1 m R1 q) (fun k q m c => bits_Div64.j4 k D s d1 d0 u0 Q1 m R1 q c) (fun _ q => if 0 ≤ (s : Int) then (some (IntKind.u64.wrap ((IntKind.u64.wrap (Q1 * 4294967296)) + q), shr .u64 (IntKind.u64.wrap ((IntKind.u64.wrap ((IntKind.u64.wrap (R1 * 4294967296)) + u0)) - (IntKind.u64.wrap (q * D)))) s)) else none) H0 _ (fun _ _ _ => rfl) (fun _ _ _ _ => rfl) ?_ _ _ _ b1 b2 (by omega) b4 b5 rfl
  refine Ev.pos (by omega) (Ev.cast (Ev.now _) ?_)
  have s1 := H1.small
  have s0 := H0.small
  have e20 : IntKind.u64.wrap (IntKind.u64.wrap (IntKind.u64.wrap (R1 * 4294967296) + u0) - IntKind.u64.wrap (Q0 * D)) = R0 := by
    have e := H0.eq
    have r := H0.br
    generalize Q0 * D = p at *
    rw [wrap_u64, wrap_u64, wrap_u64, wrap_u64]
    omega
  have eq : IntKind.u64.wrap (IntKind.u64.wrap (Q1 * 4294967296) + Q0) = Q1 * 4294967296 + Q0 := by rw [wrap_u64, wrap_u64]; omega
  rw [e20, eq]
  unfold shr
  rw [show min (s : Int).toNat IntKind.u64.bits = s by simp [IntKind.bits]; omega]
  -- the number by y
  have key : (hi * 18446744073709551616 + lo) * 2 ^ s = ((Q1 * 4294967296 + Q0) * y) * 2 ^ s + R0 := by
    have k1 := H1.eq
    have k0 := H0.eq
    have kD : ((Q1 * 4294967296 + Q0) * y) * 2 ^ s = Q1 * D * 4294967296 + Q0 * D := by
      rw [Int.mul_assoc, ← hD, Int.add_mul, Int.mul_right_comm]
    rw [eN, kD]
    generalize Q1 * D = p1 at *
    generalize Q0 * D = p0 at *
    omega
  have hR := H0.br
  obtain ⟨q, hq⟩ : ∃ q : Int, q = Q1 * 4294967296 + Q0 := ⟨_, rfl⟩
  rw [← hq] at key ⊢
  obtain ⟨N, hN⟩ : ∃ N : Int, N = hi * 18446744073709551616 + lo := ⟨_, rfl⟩
  rw [← hN] at key ⊢
  have e3 : R0 = (N - q * y) * 2 ^ s := by rw [Int.sub_mul]; omega
  have e4 : R0 / 2 ^ s = N - q * y := by rw [e3, Int.mul_ediv_cancel _ (by omega)]
  have n0 : 0 ≤ N - q * y := by rw [← e4]; exact Int.ediv_nonneg hR.1 (Int.le_of_lt pp)
  have n1 : N - q * y < y := by rw [← e4]; exact Int.ediv_lt_of_lt_mul pp (by rw [← hD]; exact hR.2)
  rw [e4]
  have e5 : N / y = q := by
    have : N = (N - q * y) + y * q := by rw [Int.mul_comm y q]; omega
    rw [this, Int.add_mul_ediv_left _ _ (by omega), Int.ediv_eq_zero_of_lt n0 n1]
    omega
  have e6 : N % y = N - q * y := by
    have := Int.mul_ediv_add_emod N y
    rw [e5, Int.mul_comm y q] at this
    omega
  rw [e5, e6]
theorem scale_is (a b c : Int) (ha : I64 a) (hb : I64 b) (hc : I64 c) (h1 : 0 ≤ a) (h2 : 0 ≤ b) (h3 : 1 ≤ c) : Ev (fun k => num_Scale.f k a b c) (ovf (a * b / c)) := by
  unfold I64 at ha hb hc
  unfold num_Scale.f
  refine Ev.neg (by omega) (Ev.neg (by omega) ?_)
  rw [decide_eq_false (show ¬ c < 1 by omega)]
  refine Ev.up ?_
  simp only [num_Scale.j0, Bool.false_eq_true, if_false]
  have wa : IntKind.u64.wrap a = a := by rw [wrap_u64]; omega
  have wb : IntKind.u64.wrap b = b := by rw [wrap_u64]; omega
  have wc : IntKind.u64.wrap c = c := by rw [wrap_u64]; omega
  rw [wa, wb, wc]
  refine Ev.bindc (mul64_is a b (by omega) (by omega)) ?_
  have hp := Int.mul_nonneg h1 h2
  generalize a * b = p at *
  have q0 := Int.ediv_nonneg hp (show 0 ≤ c by omega)
  have m := Int.mul_ediv_add_emod p c
  have m0 := Int.emod_nonneg p (show c ≠ 0 by omega)
  have m1 := Int.emod_lt_of_pos p (show 0 < c by omega)
  refine Ev.ite (fun g => ?_) (fun g => ?_)
  · rw [ovf_out]
    · exact Ev.now _
    · unfold I64
      rcases Int.lt_or_le (p / c) 9223372036854775808 with k | k
      · have := Int.mul_le_mul_of_nonneg_left (show p / c ≤ 9223372036854775807 by omega) (show 0 ≤ c by omega)
        exfalso
        generalize c * (p / c) = z at *
        omega
      · omega
  · have hd := div64_is (p / 18446744073709551616) (p % 18446744073709551616) c (by omega) (by omega) (by omega) (by omega) (by omega)
    rw [show p / 18446744073709551616 * 18446744073709551616 + p % 18446744073709551616 = p by omega] at hd
    refine Ev.bind hd ?_
    have hlt : p / c < 18446744073709551616 := Int.ediv_lt_of_lt_mul (by omega) (by omega)
    refine Ev.bind (signed_is (p / c) false q0 hlt) ?_
    simp only [Bool.false_eq_true, if_false]
    exact Ev.now _
end Go.Proofs.Ytcgcodmknoiljaa.MNumScales
namespace Go.Proofs.Ytcgcodmknoiljaa.Pure
open Go.RowKit Go.Proofs.Ytcgcodmknoiljaa.MNumScales Go.Proofs.YtcgcodmknoiljaaW.PrintWords Go.Proofs.YtcgcodmknoiljaaW.PrintLast Go.Proofs.Ytcgcodmknoiljaa.Base
set_option linter.unusedVariables false
set_option linter.unusedSimpArgs false
theorem bad_is (a b c : Int) (q : Int) (e : Option Int) (h : q = 0) (he : horologenum_Is.f e 1 = some true) : Ev (fun k => horologelaw01_NumScales.j0 k a b c q e true) true := by
  refine Ev.up ?_
  simp only [horologelaw01_NumScales.j0, if_true]
  exact Ev.pos h (Ev.bindc he (Ev.now _))
theorem NumScales : horologelaw01_NumScales.Pure := by
  intro a b c ha hb hc
  replace ha := i64_of ha
  replace hb := i64_of hb
  replace hc := i64_of hc
  refine Ev.ok (g := fun k => horologelaw01_NumScales.f k a b c) ?_
  unfold horologelaw01_NumScales.f
  refine Ev.bind alive_is (Ev.pos rfl ?_)
  have hbad : (a < 0 ∨ b < 0 ∨ c < 1) → Ev (fun k => num_Scale.f k a b c) (0, some 1) := by
    intro h
    unfold num_Scale.f
    by_cases c1 : a < 0
    · refine Ev.pos c1 (Ev.up ?_)
      simp only [num_Scale.j0, if_true]
      exact Ev.now _
    · refine Ev.neg c1 ?_
      by_cases c2 : b < 0
      · refine Ev.pos c2 (Ev.up ?_)
        simp only [num_Scale.j0, if_true]
        exact Ev.now _
      · refine Ev.neg c2 ?_
        rw [decide_eq_true (show c < 1 by omega)]
        refine Ev.up ?_
        simp only [num_Scale.j0, if_true]
        exact Ev.now _
  by_cases c1 : a < 0
  · exact Ev.bind (hbad (.inl c1)) (Ev.pos c1 (bad_is a b c 0 (some 1) rfl rfl))
  by_cases c2 : b < 0
  · exact Ev.bind (hbad (.inr (.inl c2))) (Ev.neg c1 (Ev.pos c2 (bad_is a b c 0 (some 1) rfl rfl)))
  by_cases c3 : c < 1
  · refine Ev.bind (hbad (.inr (.inr c3))) (Ev.neg c1 (Ev.neg c2 ?_))
    rw [decide_eq_true c3]
    exact bad_is a b c 0 (some 1) rfl rfl
  refine Ev.bind (scale_is a b c ha hb hc (by omega) (by omega) (by omega)) (Ev.neg c1 (Ev.neg c2 ?_))
  rw [decide_eq_false c3]
  obtain ⟨x, x1, x2⟩ := Of_is a ha
  obtain ⟨y, y1, y2⟩ := Of_is b hb
  obtain ⟨p, p1, p2⟩ := Times_is x2 y2 (by decide) (by decide)
  obtain ⟨z, z1, z2⟩ := Of_is c hc
  obtain ⟨m, m1, m2⟩ := Of_is 9223372036854775807 (by unfold I64; omega)
  obtain ⟨o, o1, o2⟩ := Of_is 1 (by unfold I64; omega)
  obtain ⟨s, s1, s2⟩ := Plus_is m2 o2 (by decide) (by decide)
  obtain ⟨t, t1, t2⟩ := Times_is z2 s2 (by decide) (by decide)
  have hl := Less_is p2 t2 (by decide) (by decide)
  refine Ev.up ?_
  simp only [horologelaw01_NumScales.j0, Bool.false_eq_true, if_false]
  refine Ev.bind x1 (Ev.bind y1 (Ev.bind p1 (Ev.bind z1 (Ev.bind m1 (Ev.bind o1 (Ev.bind s1 (Ev.bind t1 (Ev.bind hl ?_))))))))
  have hp := Int.mul_nonneg (show 0 ≤ a by omega) (show 0 ≤ b by omega)
  clear x1 y1 p1 z1 m1 o1 s1 t1 hl hbad
  generalize a * b = n at *
  have q0 := Int.ediv_nonneg hp (show 0 ≤ c by omega)
  have e := Int.mul_ediv_add_emod n c
  have e0 := Int.emod_nonneg n (show c ≠ 0 by omega)
  have e1 := Int.emod_lt_of_pos n (show 0 < c by omega)
  rw [show (9223372036854775807 : Int) + 1 = 9223372036854775808 by decide]
  refine Ev.ite (fun g => ?_) (fun g => ?_)
  · have g' := of_decide_eq_true g
    have hlt : n / c < 9223372036854775808 := Int.ediv_lt_of_lt_mul (by omega) (by rw [Int.mul_comm]; exact g')
    have hi : I64 (n / c) := by unfold I64; omega
    rw [ovf_in hi]
    obtain ⟨u, u1, u2⟩ := Of_is (n / c) hi
    exact Ev.pos rfl (Ev.bind u1 (Ev.bind (quot_is p2 z2 u2 (by decide) (by decide) (by decide) e (fun _ => ⟨e0, e1⟩) (fun h => absurd h (by omega)) (by omega)) (Ev.now _)))
  · have g' : ¬ n < c * 9223372036854775808 := fun h => g (decide_eq_true h)
    have ho : ¬ I64 (n / c) := by
      unfold I64
      rcases Int.lt_or_le (n / c) 9223372036854775808 with k | k
      · have := Int.mul_le_mul_of_nonneg_left (show n / c ≤ 9223372036854775807 by omega) (show 0 ≤ c by omega)
        exfalso
        generalize c * (n / c) = w at *
        omega
      · omega
    rw [ovf_out ho]
    exact Ev.pos rfl (Ev.bindc (show horologenum_Is.f (some 5) 5 = some true from rfl) (Ev.now _))
end Go.Proofs.Ytcgcodmknoiljaa.Pure
