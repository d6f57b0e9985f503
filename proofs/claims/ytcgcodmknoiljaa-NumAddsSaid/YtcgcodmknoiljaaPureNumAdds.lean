/- NumAdds: sums, differences, products, and what has the other sign, of any two numbers, are the document's. For all numbers of Go's kinds; no further condition. -/
import Derived.Test.YtcgcodmknoiljaaTNumAddsBig3
namespace Go.Proofs.Ytcgcodmknoiljaa.MNumAdds
open Go.RowKit Go.Proofs.YtcgcodmknoiljaaW.PrintWords Go.Proofs.YtcgcodmknoiljaaW.PrintLast Go.Proofs.YtcgcodmknoiljaaW.PrintMore Go.Proofs.Ytcgcodmknoiljaa.Base
set_option linter.unusedVariables false
set_option linter.unusedSimpArgs false

theorem add_is (a b : Int) (ha : I64 a) (hb : I64 b) : num_Add.f a b = some (ovf (a + b)) := by
  unfold I64 at ha hb
  unfold num_Add.f ovf
  by_cases h : I64 (a + b)
  · have w := wrap64_id h
    unfold I64 at h
    rw [w, if_pos (show I64 (a + b) from h)]
    repeat' split
    all_goals first | rfl | omega
  · rw [if_neg h]
    unfold I64 at h
    unfold wrap64
    repeat' split
    all_goals first | rfl | (exfalso; omega)
theorem sub_is (a b : Int) (ha : I64 a) (hb : I64 b) : num_Sub.f a b = some (ovf (a - b)) := by
  unfold I64 at ha hb
  unfold num_Sub.f ovf
  by_cases h : I64 (a - b)
  · have w := wrap64_id h
    unfold I64 at h
    rw [w, if_pos (show I64 (a - b) from h)]
    repeat' split
    all_goals first | rfl | omega
  · rw [if_neg h]
    unfold I64 at h
    unfold wrap64
    repeat' split
    all_goals first | rfl | (exfalso; omega)
theorem and32 {x : Int} (h0 : 0 ≤ x) (h : x < 18446744073709551616) : Go.bits .and .u64 x 4294967295 = x % 4294967296 := and_mask h0 h (n := 32) (by decide)
theorem mul64_is (a b : Int) (ha : 0 ≤ a ∧ a < 18446744073709551616) (hb : 0 ≤ b ∧ b < 18446744073709551616) :
    bits_Mul64.f a b = some (a * b / 18446744073709551616, a * b % 18446744073709551616) := by
  unfold bits_Mul64.f
  rw [and32 ha.1 ha.2, and32 hb.1 hb.2]
  have hp : ∀ x y : Int, 0 ≤ x → x ≤ 4294967295 → 0 ≤ y → y ≤ 4294967295 → 0 ≤ x * y ∧ x * y ≤ 18446744065119617025 := fun x y h1 h2 h3 h4 =>
    ⟨Int.mul_nonneg h1 h3, by have := Int.mul_le_mul h2 h4 h3 (by decide); omega⟩
  have e : a * b = 18446744073709551616 * ((a / 4294967296) * (b / 4294967296)) + 4294967296 * ((a / 4294967296) * (b % 4294967296) + (a % 4294967296) * (b / 4294967296)) + (a % 4294967296) * (b % 4294967296) := by
    have ea : a = 4294967296 * (a / 4294967296) + a % 4294967296 := by omega
    have eb : b = 4294967296 * (b / 4294967296) + b % 4294967296 := by omega
    generalize a / 4294967296 = a1 at *
    generalize a % 4294967296 = a0 at *
    generalize b / 4294967296 = b1 at *
    generalize b % 4294967296 = b0 at *
    subst ea eb
    simp only [Int.mul_add, Int.add_mul, Int.mul_assoc, Int.mul_left_comm a1 4294967296, Int.mul_left_comm a0 4294967296]
    omega
  have h11 := hp (a / 4294967296) (b / 4294967296) (by omega) (by omega) (by omega) (by omega)
  have h10 := hp (a / 4294967296) (b % 4294967296) (by omega) (by omega) (by omega) (by omega)
  have h01 := hp (a % 4294967296) (b / 4294967296) (by omega) (by omega) (by omega) (by omega)
  have h00 := hp (a % 4294967296) (b % 4294967296) (by omega) (by omega) (by omega) (by omega)
  rw [e]
  clear hp e
  generalize (a / 4294967296) * (b / 4294967296) = p11 at *
  generalize (a / 4294967296) * (b % 4294967296) = p10 at *
  generalize (a % 4294967296) * (b / 4294967296) = p01 at *
  generalize (a % 4294967296) * (b % 4294967296) = p00 at *
  clear ha hb
  have w11 : IntKind.u64.wrap p11 = p11 := by rw [wrap_u64]; omega
  have w10 : IntKind.u64.wrap p10 = p10 := by rw [wrap_u64]; omega
  have w01 : IntKind.u64.wrap p01 = p01 := by rw [wrap_u64]; omega
  have w00 : IntKind.u64.wrap p00 = p00 := by rw [wrap_u64]; omega
  have wt : IntKind.u64.wrap (p10 + p00 / 4294967296) = p10 + p00 / 4294967296 := by rw [wrap_u64]; omega
  rw [w11, w10, w01, w00, wt, and32 (by omega) (by omega)]
  rw [wrap_u64, wrap_u64, wrap_u64, wrap_u64]
  congr 2
  omega
theorem size_is (a : Int) (ha : I64 a) : num_size.f a = some (if a < 0 then -a else a) := by
  unfold I64 at ha
  unfold num_size.f
  split
  · rw [wrap_u64, wrap_u64]; congr 1; omega
  · rw [wrap_u64]; congr 1; omega
theorem signed_is (n : Int) (below : Bool) (h0 : 0 ≤ n) (h : n < 18446744073709551616) : Ev (fun k => num_signed.f k n below) (ovf (if below = true then -n else n)) := by
  unfold num_signed.f
  cases below with
  | true =>
    simp only [if_true]
    refine Ev.up ?_
    simp only [num_signed.j0]
    refine Ev.ite (fun q => ?_) (fun q => ?_)
    · have := of_decide_eq_true q
      rw [ovf_in (by unfold I64; omega)]
      refine Ev.cast (Ev.now _) ?_
      rw [wrap_u64]
      congr 1
      unfold wrap64; omega
    · have : ¬ n ≤ 9223372036854775808 := fun h => q (decide_eq_true h)
      rw [ovf_out (by unfold I64; omega)]
      simp only [if_true]
      exact Ev.now _
  | false =>
    simp only [Bool.false_eq_true, if_false]
    refine Ev.up ?_
    simp only [num_signed.j0, Bool.false_eq_true, if_false]
    refine Ev.ite (fun q => ?_) (fun q => ?_)
    · rw [ovf_in (by unfold I64; omega), wrap64_id (by unfold I64; omega)]
      exact Ev.now _
    · rw [ovf_out (by unfold I64; omega)]
      exact Ev.now _
theorem mul_is (a b : Int) (ha : I64 a) (hb : I64 b) : Ev (fun k => num_Mul.f k a b) (ovf (a * b)) := by
  have ha' := ha
  have hb' := hb
  unfold I64 at ha' hb'
  have hsa : 0 ≤ (if a < 0 then -a else a) ∧ (if a < 0 then -a else a) ≤ 9223372036854775808 := by split <;> omega
  have hsb : 0 ≤ (if b < 0 then -b else b) ∧ (if b < 0 then -b else b) ≤ 9223372036854775808 := by split <;> omega
  have hp := Int.mul_nonneg hsa.1 hsb.1
  have hs : a * b = (if ((decide (a < 0)) != (decide (b < 0))) = true then -((if a < 0 then -a else a) * (if b < 0 then -b else b)) else (if a < 0 then -a else a) * (if b < 0 then -b else b)) := by
    by_cases h1 : a < 0
    · by_cases h2 : b < 0
      · simp only [if_pos h1, if_pos h2, decide_eq_true h1, decide_eq_true h2, bne_self_eq_false, Bool.false_eq_true, if_false, Int.neg_mul_neg]
      · simp only [if_pos h1, if_neg h2, decide_eq_true h1, decide_eq_false h2, Bool.bne_false, if_true, Int.neg_mul, Int.neg_neg]
    · by_cases h2 : b < 0
      · simp only [if_neg h1, if_pos h2, decide_eq_false h1, decide_eq_true h2, Bool.bne_true, Bool.not_false, if_true, Int.mul_neg, Int.neg_neg]
      · simp only [if_neg h1, if_neg h2, decide_eq_false h1, decide_eq_false h2, bne_self_eq_false, Bool.false_eq_true, if_false]
  unfold num_Mul.f
  refine Ev.bindc (size_is a ha) (Ev.bindc (size_is b hb) (Ev.bindc (mul64_is _ _ (by omega) (by omega)) ?_))
  rw [hs]
  generalize (if a < 0 then -a else a) * (if b < 0 then -b else b) = p at *
  generalize ((decide (a < 0)) != (decide (b < 0))) = s at *
  clear hs hsa hsb
  refine Ev.ite (fun q => ?_) (fun q => ?_)
  · rw [show p % 18446744073709551616 = p by omega]
    exact Ev.bind (signed_is p s hp (by omega)) (Ev.now _)
  · rw [ovf_out (by unfold I64; split <;> omega)]
    exact Ev.now _
theorem num_is (e : Option Int) : horologenum_Num.f e = some (match e with | none => 0 | some c => if c = 0 then -1 else c) := by
  unfold horologenum_Num.f
  cases e <;> simp
  split <;> rfl
theorem Minus_is {a : Bool × List Int} {x : Int} {n : Nat} (ha : Is a x n) : ∃ r, horologeref01_Minus.f a.1 a.2 = some r ∧ Is r (-x) n := by
  have va := ha.abs
  have na := ha.neg
  unfold horologeref01_Minus.f
  by_cases h : a.1 = true
  · refine ⟨(false, a.2), by rw [if_pos h], Is.mk' ha.dg ha.tr ?_ ?_ ha.le⟩
    · have := na.mp h; rw [decide_eq_false (by omega)]
    · have := na.mp h; rw [va, if_pos this, if_neg (by omega)]
  · have hx : ¬ x < 0 := fun q => h (na.mpr q)
    rw [if_neg hx] at va
    refine ⟨(decide (0 < a.2.length), a.2), by rw [if_neg h], Is.mk' ha.dg ha.tr ?_ ?_ ha.le⟩
    · rw [len_pos ha.dg ha.tr, va]; exact decide_eq_decide.mpr ⟨fun _ => by omega, fun _ => by omega⟩
    · rw [va]; split <;> omega
theorem alive_is : Ev (fun k => horologelaw01_alive.f k) true := Ev.of (fun k => horologelaw01_alive.mono k) (k := 10) (by kernel_rfl)
theorem is_is {a : Bool × List Int} {x : Int} {n : Nat} (ha : Is a x n) (hn : n ≤ 10000) : Ev (fun k => horologelaw01_is.f k (ovf x).1 (ovf x).2 a.1 a.2) true := by
  unfold horologelaw01_is.f
  refine Ev.bind (Small_is ha hn) ?_
  by_cases h : I64 x
  · rw [ovf_in h, smallV_in h]
    exact Ev.pos rfl (Ev.bindc (num_is _) (Ev.now _))
  · rw [ovf_out h, smallV_out h]
    exact Ev.pos rfl (Ev.bindc (num_is _) (Ev.now _))
theorem neg_is (a : Int) (ha : I64 a) : num_Neg.f a = some (ovf (-a)) := by
  unfold num_Neg.f
  rw [sub_is 0 a (by unfold I64; omega) ha]
  rw [show (0 : Int) - a = -a by omega]
  rfl
end Go.Proofs.Ytcgcodmknoiljaa.MNumAdds
namespace Go.Proofs.Ytcgcodmknoiljaa.Pure
open Go.RowKit Go.Proofs.Ytcgcodmknoiljaa.MNumAdds Go.Proofs.YtcgcodmknoiljaaW.PrintWords Go.Proofs.YtcgcodmknoiljaaW.PrintLast Go.Proofs.Ytcgcodmknoiljaa.Base
set_option linter.unusedVariables false
set_option linter.unusedSimpArgs false
theorem NumAdds : horologelaw01_NumAdds.Pure := by
  intro a b ha hb
  replace ha := i64_of ha
  replace hb := i64_of hb
  refine Ev.ok (g := fun k => horologelaw01_NumAdds.f k a b) ?_
  unfold horologelaw01_NumAdds.f
  obtain ⟨x, x1, x2⟩ := Of_is a ha
  obtain ⟨y, y1, y2⟩ := Of_is b hb
  obtain ⟨s, s1, s2⟩ := Plus_is x2 y2 (by decide) (by decide)
  obtain ⟨m, m1, m2⟩ := Minus_is y2
  obtain ⟨d, d1, d2⟩ := Plus_is x2 m2 (by decide) (by decide)
  obtain ⟨p, p1, p2⟩ := Times_is x2 y2 (by decide) (by decide)
  obtain ⟨n, n1, n2⟩ := Minus_is x2
  rw [show a + -b = a - b by omega] at d2
  refine Ev.bind alive_is (Ev.pos rfl (Ev.bind x1 (Ev.bind y1 (Ev.bindc (add_is a b ha hb) (Ev.bindc (sub_is a b ha hb) (Ev.bind (mul_is a b ha hb) (Ev.bindc (neg_is a ha) ?_)))))))
  refine Ev.bind s1 (Ev.bind (is_is s2 (by decide)) (Ev.pos rfl ?_))
  refine Ev.bindc m1 (Ev.bind d1 (Ev.bind (is_is d2 (by decide)) (Ev.pos rfl ?_)))
  refine Ev.bind p1 (Ev.bind (is_is p2 (by decide)) (Ev.pos rfl ?_))
  exact Ev.bindc n1 (Ev.bind (is_is n2 (by decide)) (Ev.now _))
end Go.Proofs.Ytcgcodmknoiljaa.Pure
