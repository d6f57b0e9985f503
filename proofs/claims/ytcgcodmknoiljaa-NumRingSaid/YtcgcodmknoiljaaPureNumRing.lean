/- NumRing: sums and products follow the rules of whole numbers, and a number is b times the quotient and the rest. For all numbers of Go's kinds; no further condition. -/
import Derived.Test.YtcgcodmknoiljaaMNumRingx
import Derived.Test.YtcgcodmknoiljaaBase
namespace Go.Proofs.Ytcgcodmknoiljaa.MNumRing
open Go.RowKit Go.Proofs.YtcgcodmknoiljaaW.PrintWords Go.Proofs.YtcgcodmknoiljaaW.PrintLast Go.Proofs.YtcgcodmknoiljaaW.PrintMore Go.Proofs.Ytcgcodmknoiljaa.Base
set_option linter.unusedVariables false
set_option linter.unusedSimpArgs false

theorem add_is (a b : Int) (ha : I64 a) (hb : I64 b) : num_Add.f a b = some (ovf (a + b)) := by
  unfold I64 at ha hb
  unfold num_Add.f ovf
  by_cases h : I64 (a + b)
  · have w := wrap64_id h
    unfold I64 at h
    rw [w, if_pos (show I64 (a + b) from h)]
    repeat' split
    all_goals first | rfl | omega
  · rw [if_neg h]
    unfold I64 at h
    unfold wrap64
    repeat' split
    all_goals first | rfl | (exfalso; omega)
theorem sub_is (a b : Int) (ha : I64 a) (hb : I64 b) : num_Sub.f a b = some (ovf (a - b)) := by
  unfold I64 at ha hb
  unfold num_Sub.f ovf
  by_cases h : I64 (a - b)
  · have w := wrap64_id h
    unfold I64 at h
    rw [w, if_pos (show I64 (a - b) from h)]
    repeat' split
    all_goals first | rfl | omega
  · rw [if_neg h]
    unfold I64 at h
    unfold wrap64
    repeat' split
    all_goals first | rfl | (exfalso; omega)
theorem and32 {x : Int} (h0 : 0 ≤ x) (h : x < 18446744073709551616) : Go.bits .and .u64 x 4294967295 = x % 4294967296 := and_mask h0 h (n := 32) (by decide)
theorem mul64_is (a b : Int) (ha : 0 ≤ a ∧ a < 18446744073709551616) (hb : 0 ≤ b ∧ b < 18446744073709551616) :
    bits_Mul64.f a b = some (a * b / 18446744073709551616, a * b % 18446744073709551616) := by
  unfold bits_Mul64.f
  rw [and32 ha.1 ha.2, and32 hb.1 hb.2]
  have hp : ∀ x y : Int, 0 ≤ x → x ≤ 4294967295 → 0 ≤ y → y ≤ 4294967295 → 0 ≤ x * y ∧ x * y ≤ 18446744065119617025 := fun x y h1 h2 h3 h4 =>
    ⟨Int.mul_nonneg h1 h3, by have := Int.mul_le_mul h2 h4 h3 (by decide); omega⟩
  have e : a * b = 18446744073709551616 * ((a / 4294967296) * (b / 4294967296)) + 4294967296 * ((a / 4294967296) * (b % 4294967296) + (a % 4294967296) * (b / 4294967296)) + (a % 4294967296) * (b % 4294967296) := by
    have ea : a = 4294967296 * (a / 4294967296) + a % 4294967296 := by omega
    have eb : b = 4294967296 * (b / 4294967296) + b % 4294967296 := by omega
    generalize a / 4294967296 = a1 at *
    generalize a % 4294967296 = a0 at *
    generalize b / 4294967296 = b1 at *
    generalize b % 4294967296 = b0 at *
    subst ea eb
    simp only [Int.mul_add, Int.add_mul, Int.mul_assoc, Int.mul_left_comm a1 4294967296, Int.mul_left_comm a0 4294967296]
    omega
  have h11 := hp (a / 4294967296) (b / 4294967296) (by omega) (by omega) (by omega) (by omega)
  have h10 := hp (a / 4294967296) (b % 4294967296) (by omega) (by omega) (by omega) (by omega)
  have h01 := hp (a % 4294967296) (b / 4294967296) (by omega) (by omega) (by omega) (by omega)
  have h00 := hp (a % 4294967296) (b % 4294967296) (by omega) (by omega) (by omega) (by omega)
  rw [e]
  clear hp e
  generalize (a / 4294967296) * (b / 4294967296) = p11 at *
  generalize (a / 4294967296) * (b % 4294967296) = p10 at *
  generalize (a % 4294967296) * (b / 4294967296) = p01 at *
  generalize (a % 4294967296) * (b % 4294967296) = p00 at *
  clear ha hb
  have w11 : IntKind.u64.wrap p11 = p11 := by rw [wrap_u64]; omega
  have w10 : IntKind.u64.wrap p10 = p10 := by rw [wrap_u64]; omega
  have w01 : IntKind.u64.wrap p01 = p01 := by rw [wrap_u64]; omega
  have w00 : IntKind.u64.wrap p00 = p00 := by rw [wrap_u64]; omega
  have wt : IntKind.u64.wrap (p10 + p00 / 4294967296) = p10 + p00 / 4294967296 := by rw [wrap_u64]; omega
  rw [w11, w10, w01, w00, wt, and32 (by omega) (by omega)]
  rw [wrap_u64, wrap_u64, wrap_u64, wrap_u64]
  congr 2
  omega
theorem size_is (a : Int) (ha : I64 a) : num_size.f a = some (if a < 0 then -a else a) := by
  unfold I64 at ha
  unfold num_size.f
  split
  · rw [wrap_u64, wrap_u64]; congr 1; omega
  · rw [wrap_u64]; congr 1; omega
theorem signed_is (n : Int) (below : Bool) (h0 : 0 ≤ n) (h : n < 18446744073709551616) : Ev (fun k => num_signed.f k n below) (ovf (if below = true then -n else n)) := by
  unfold num_signed.f
  cases below with
  | true =>
    simp only [if_true]
    refine Ev.up ?_
    simp only [num_signed.j0]
    refine Ev.ite (fun q => ?_) (fun q => ?_)
    · have := of_decide_eq_true q
      rw [ovf_in (by unfold I64; omega)]
      refine Ev.cast (Ev.now _) ?_
      rw [wrap_u64]
      congr 1
      unfold wrap64; omega
    · have : ¬ n ≤ 9223372036854775808 := fun h => q (decide_eq_true h)
      rw [ovf_out (by unfold I64; omega)]
      simp only [if_true]
      exact Ev.now _
  | false =>
    simp only [Bool.false_eq_true, if_false]
    refine Ev.up ?_
    simp only [num_signed.j0, Bool.false_eq_true, if_false]
    refine Ev.ite (fun q => ?_) (fun q => ?_)
    · rw [ovf_in (by unfold I64; omega), wrap64_id (by unfold I64; omega)]
      exact Ev.now _
    · rw [ovf_out (by unfold I64; omega)]
      exact Ev.now _
theorem mul_is (a b : Int) (ha : I64 a) (hb : I64 b) : Ev (fun k => num_Mul.f k a b) (ovf (a * b)) := by
  have ha' := ha
  have hb' := hb
  unfold I64 at ha' hb'
  have hsa : 0 ≤ (if a < 0 then -a else a) ∧ (if a < 0 then -a else a) ≤ 9223372036854775808 := by split <;> omega
  have hsb : 0 ≤ (if b < 0 then -b else b) ∧ (if b < 0 then -b else b) ≤ 9223372036854775808 := by split <;> omega
  have hp := Int.mul_nonneg hsa.1 hsb.1
  have hs : a * b = (if ((decide (a < 0)) != (decide (b < 0))) = true then -((if a < 0 then -a else a) * (if b < 0 then -b else b)) else (if a < 0 then -a else a) * (if b < 0 then -b else b)) := by
    by_cases h1 : a < 0
    · by_cases h2 : b < 0
      · simp only [if_pos h1, if_pos h2, decide_eq_true h1, decide_eq_true h2, bne_self_eq_false, Bool.false_eq_true, if_false, Int.neg_mul_neg]
      · simp only [if_pos h1, if_neg h2, decide_eq_true h1, decide_eq_false h2, Bool.bne_false, if_true, Int.neg_mul, Int.neg_neg]
    · by_cases h2 : b < 0
      · simp only [if_neg h1, if_pos h2, decide_eq_false h1, decide_eq_true h2, Bool.bne_true, Bool.not_false, if_true, Int.mul_neg, Int.neg_neg]
      · simp only [if_neg h1, if_neg h2, decide_eq_false h1, decide_eq_false h2, bne_self_eq_false, Bool.false_eq_true, if_false]
  unfold num_Mul.f
  refine Ev.bindc (size_is a ha) (Ev.bindc (size_is b hb) (Ev.bindc (mul64_is _ _ (by omega) (by omega)) ?_))
  rw [hs]
  generalize (if a < 0 then -a else a) * (if b < 0 then -b else b) = p at *
  generalize ((decide (a < 0)) != (decide (b < 0))) = s at *
  clear hs hsa hsb
  refine Ev.ite (fun q => ?_) (fun q => ?_)
  · rw [show p % 18446744073709551616 = p by omega]
    exact Ev.bind (signed_is p s hp (by omega)) (Ev.now _)
  · rw [ovf_out (by unfold I64; split <;> omega)]
    exact Ev.now _
theorem num_is (e : Option Int) : horologenum_Num.f e = some (match e with | none => 0 | some c => if c = 0 then -1 else c) := by
  unfold horologenum_Num.f
  cases e <;> simp
  split <;> rfl
/-- A quotient and its rest. -/
structure DM (a b q r : Int) : Prop where
  eq : a = b * q + r
  pos : 0 < b → 0 ≤ r ∧ r < b
  neg : b < 0 → b < r ∧ r ≤ 0
  iq : I64 q
theorem tdm (a b : Int) : b * Int.tdiv a b + Int.tmod a b = a := Int.mul_tdiv_add_tmod a b
theorem tmod_bd (a b : Int) (hb : b ≠ 0) : (0 ≤ a → 0 ≤ Int.tmod a b) ∧ (a ≤ 0 → Int.tmod a b ≤ 0) ∧ (0 < b → -b < Int.tmod a b ∧ Int.tmod a b < b) ∧ (b < 0 → b < Int.tmod a b ∧ Int.tmod a b < -b) := by
  rw [tmod_is]
  by_cases h : a < 0
  · rw [if_pos h]
    have e0 := Int.emod_nonneg (-a) hb
    refine ⟨fun _ => by omega, fun _ => by omega, fun p => ?_, fun p => ?_⟩
    · have := Int.emod_lt_of_pos (-a) p; omega
    · have := Int.emod_lt_of_pos (-a) (show 0 < -b by omega); rw [Int.emod_neg] at this; omega
  · rw [if_neg h]
    have e0 := Int.emod_nonneg a hb
    refine ⟨fun _ => e0, fun q => ?_, fun p => ?_, fun p => ?_⟩
    · have : a = 0 := by omega
      subst this; simp
    · have := Int.emod_lt_of_pos a p; omega
    · have := Int.emod_lt_of_pos a (show 0 < -b by omega); rw [Int.emod_neg] at this; omega
theorem tdiv_bd (a b : Int) (ha : I64 a) (hb : b ≠ 0) (hx : ¬ (a = -9223372036854775808 ∧ b = -1)) : I64 (Int.tdiv a b) ∧ (Int.tmod a b ≠ 0 → ((a < 0 ∧ 0 < b) ∨ (0 ≤ a ∧ b < 0)) → I64 (Int.tdiv a b - 1)) := by
  have e := tdm a b
  obtain ⟨t1, t2, t3, t4⟩ := tmod_bd a b hb
  unfold I64 at *
  generalize Int.tdiv a b = u at *
  generalize Int.tmod a b = t at *
  by_cases hu0 : u = 0
  · subst hu0
    constructor
    · omega
    · intro z s; omega
  rcases Int.lt_or_gt_of_ne hb with h | h
  · have t4 := t4 h
    rcases Int.lt_or_le u 0 with hu | hu
    · have m := Int.mul_le_mul_of_nonpos_right (show b ≤ -1 by omega) (show u ≤ 0 by omega)
      have m' := Int.mul_le_mul_of_nonpos_left (show b ≤ 0 by omega) (show u ≤ -1 by omega)
      constructor
      · omega
      · intro z s; omega
    · have m := Int.mul_le_mul_of_nonneg_right (show b ≤ -1 by omega) hu
      have m' := Int.mul_le_mul_of_nonpos_left (show b ≤ 0 by omega) (show 1 ≤ u by omega)
      by_cases hb1 : b = -1
      · subst hb1
        constructor
        · omega
        · intro z s; omega
      · have m2 := Int.mul_le_mul_of_nonneg_right (show b ≤ -2 by omega) hu
        constructor
        · omega
        · intro z s; omega
  · have t3 := t3 h
    rcases Int.lt_or_le u 0 with hu | hu
    · have m := Int.mul_le_mul_of_nonpos_right (show 1 ≤ b by omega) (show u ≤ 0 by omega)
      have m' := Int.mul_le_mul_of_nonneg_left (show u ≤ -1 by omega) (show 0 ≤ b by omega)
      constructor
      · omega
      · intro z s; omega
    · have m := Int.mul_le_mul_of_nonneg_right (show 1 ≤ b by omega) hu
      have m' := Int.mul_le_mul_of_nonneg_left (show 1 ≤ u by omega) (show 0 ≤ b by omega)
      constructor
      · omega
      · intro z s; omega
theorem div_mod (a b : Int) (ha : I64 a) (hbb : I64 b) (hb : b ≠ 0) (hx : ¬ (a = -9223372036854775808 ∧ b = -1)) :
    ∃ q r, Ev (fun k => num_Div.f k a b) (q, none) ∧ num_Mod.f a b = some (r, none) ∧ DM a b q r := by
  have e := tdm a b
  have bd := tmod_bd a b hb
  obtain ⟨t1, t2, t3, t4⟩ := bd
  obtain ⟨i1, i2⟩ := tdiv_bd a b ha hb hx
  have hd : ∀ v, Ev (fun k => num_Div.j0 k a b false) v → Ev (fun k => num_Div.f k a b) v := by
    intro v h
    unfold num_Div.f
    refine Ev.neg hb (Ev.ite (fun q => ?_) (fun _ => h))
    rw [beq_eq_false_iff_ne.mpr (fun z => hx ⟨q, z⟩)]
    exact h
  unfold num_Mod.f
  rw [if_neg hb]
  by_cases hz : Int.tmod a b = 0
  · refine ⟨Int.tdiv a b, 0, hd _ (Ev.up ?_), ?_, ⟨by omega, fun _ => by omega, fun _ => by omega, i1⟩⟩
    · simp only [num_Div.j0, Bool.false_eq_true, if_false]
      rw [wrap64_id i1]
      exact Ev.neg hb (Ev.pos hz (Ev.now _))
    · by_cases hm : b = -1
      · rw [if_pos hm]
      · rw [if_neg hm, if_pos hz, hz]
  · have hm : b ≠ -1 := by
      intro h
      have := t4 (by omega)
      omega
    rw [if_neg hm, if_neg hz]
    by_cases hs : (a < 0 ∧ 0 < b) ∨ (0 ≤ a ∧ b < 0)
    · have i2 := i2 hz hs
      refine ⟨Int.tdiv a b - 1, Int.tmod a b + b, hd _ (Ev.up ?_), ?_, ⟨by rw [Int.mul_sub, Int.mul_one]; omega, fun _ => by omega, fun _ => by omega, i2⟩⟩
      · simp only [num_Div.j0, Bool.false_eq_true, if_false]
        rw [wrap64_id i1, wrap64_id i2]
        refine Ev.neg hb (Ev.neg hz (Ev.pos ?_ (Ev.now _)))
        rcases hs with ⟨p, q⟩ | ⟨p, q⟩
        · rw [decide_eq_true p, decide_eq_false (by omega)]; rfl
        · rw [decide_eq_false (by omega), decide_eq_true q]; rfl
      · have w : wrap64 (Int.tmod a b + b) = Int.tmod a b + b := wrap64_id (by unfold I64 at *; omega)
        rw [w, if_pos]
        rcases hs with ⟨p, q⟩ | ⟨p, q⟩
        · rw [decide_eq_true (by omega), decide_eq_false (by omega)]; rfl
        · rw [decide_eq_false (by omega), decide_eq_true q]; rfl
    · refine ⟨Int.tdiv a b, Int.tmod a b, hd _ (Ev.up ?_), ?_, ⟨by omega, fun _ => by omega, fun _ => by omega, i1⟩⟩
      · simp only [num_Div.j0, Bool.false_eq_true, if_false]
        rw [wrap64_id i1]
        refine Ev.neg hb (Ev.neg hz (Ev.neg ?_ (Ev.now _)))
        by_cases p : a < 0
        · rw [decide_eq_true p, decide_eq_true (by omega)]; decide
        · rw [decide_eq_false p, decide_eq_false (by omega)]; decide
      · rw [if_neg]
        by_cases p : a < 0
        · rw [decide_eq_true (by omega), decide_eq_true (by omega)]; decide
        · rw [decide_eq_false (by omega), decide_eq_false (by omega)]; decide
theorem div_zero (a : Int) : Ev (fun k => num_Div.f k a 0) (0, some 1) ∧ num_Mod.f a 0 = some (0, some 1) := by
  constructor
  · unfold num_Div.f
    exact Ev.pos rfl (Ev.now _)
  · rfl
theorem div_over : Ev (fun k => num_Div.f k (-9223372036854775808) (-1)) (0, some 5) ∧ num_Mod.f (-9223372036854775808) (-1) = some (0, none) := by
  constructor
  · unfold num_Div.f
    refine Ev.neg (by decide) (Ev.pos rfl (Ev.up ?_))
    simp only [num_Div.j0, BEq.rfl, if_true]
    exact Ev.now _
  · rfl
theorem alive_is : Ev (fun k => horologelaw01_alive.f k) true := Ev.of (fun k => horologelaw01_alive.mono k) (k := 10) (by kernel_rfl)
end Go.Proofs.Ytcgcodmknoiljaa.MNumRing
namespace Go.Proofs.Ytcgcodmknoiljaa.Pure
open Go.RowKit Go.Proofs.Ytcgcodmknoiljaa.MNumRing Go.Proofs.YtcgcodmknoiljaaW.PrintWords Go.Proofs.YtcgcodmknoiljaaW.PrintLast Go.Proofs.Ytcgcodmknoiljaa.Base
set_option linter.unusedVariables false
set_option linter.unusedSimpArgs false
theorem num_ok (e : Option Int) : ∃ n, horologenum_Num.f e = some n := ⟨_, num_is e⟩
theorem NumRing : horologelaw01_NumRing.Pure := by
  intro a b c ha hb hc
  replace ha := i64_of ha
  replace hb := i64_of hb
  replace hc := i64_of hc
  refine Ev.ok (g := fun k => horologelaw01_NumRing.f k a b c) ?_
  unfold horologelaw01_NumRing.f
  refine Ev.bind alive_is (Ev.pos rfl ?_)
  refine Ev.bindc (add_is a b ha hb) (Ev.bindc (add_is b a hb ha) ?_)
  rw [Int.add_comm b a]
  obtain ⟨n, hn⟩ := num_ok (ovf (a + b)).2
  refine Ev.pos rfl (Ev.bindc hn (Ev.bindc hn ?_))
  rw [bne_self_eq_false]
  -- the quotient and the rest
  have h4 : Ev (fun k => horologelaw01_NumRing.j4 k a b) true := by
    refine Ev.up ?_
    simp only [horologelaw01_NumRing.j4]
    by_cases hb0 : b = 0
    · subst hb0
      exact Ev.bind (div_zero a).1 (Ev.bindc (div_zero a).2 (Ev.neg (by decide) (Ev.pos rfl (Ev.now _))))
    · by_cases hx : a = -9223372036854775808 ∧ b = -1
      · obtain ⟨rfl, rfl⟩ := hx
        exact Ev.bind div_over.1 (Ev.bindc div_over.2 (Ev.neg (by decide) (Ev.neg (by decide) (Ev.pos rfl (Ev.now _)))))
      · obtain ⟨q, r, h1, h2, h3⟩ := div_mod a b ha hb hb0 hx
        refine Ev.bind h1 (Ev.bindc h2 (Ev.pos rfl (Ev.pos rfl (Ev.pos ?_ (Ev.ite (fun _ => Ev.now _) (fun hr => ?_))))))
        · have e := h3.eq
          have : wrap64 (wrap64 (b * q) + r) = wrap64 (b * q + r) := by unfold wrap64; omega
          show a = wrap64 (wrap64 (b * q) + r)
          rw [this, ← e, wrap64_id ha]
        · refine Ev.cast (Ev.now _) ?_
          have hr' : r ≠ 0 := hr
          have p := h3.pos
          have q := h3.neg
          by_cases s : b < 0
          · rw [decide_eq_true s, decide_eq_true (by omega)]; rfl
          · rw [decide_eq_false s, decide_eq_false (by omega)]; rfl
  have h3 : ∀ v, Ev (fun k => horologelaw01_NumRing.j3 k a b v v v false) true := by
    intro v
    refine Ev.up ?_
    simp only [horologelaw01_NumRing.j3, Bool.false_eq_true, if_false]
    exact h4
  have h2 : Ev (fun k => horologelaw01_NumRing.j2 k a b c (ovf (a * b)).2 (ovf (a * b)).1 false) true := by
    refine Ev.up ?_
    simp only [horologelaw01_NumRing.j2, Bool.false_eq_true, if_false]
    refine Ev.bind (mul_is a c ha hc) (Ev.bindc (add_is b c hb hc) ?_)
    have no : ∀ x y z, Ev (fun k => horologelaw01_NumRing.j3 k a b x y z false) true := by
      intro x y z
      refine Ev.up ?_
      simp only [horologelaw01_NumRing.j3, Bool.false_eq_true, if_false]
      exact h4
    refine Ev.ite (fun e1 => Ev.ite (fun e2 => Ev.ite (fun e3 => ?_) (fun _ => no _ _ _)) (fun _ => no _ _ _)) (fun _ => no _ _ _)
    have f1 : I64 (a * b) := by
      by_cases h : I64 (a * b)
      · exact h
      · rw [ovf_out h] at e1; simp at e1
    have f2 : I64 (a * c) := by
      by_cases h : I64 (a * c)
      · exact h
      · rw [ovf_out h] at e2; simp at e2
    have f3 : I64 (b + c) := by
      by_cases h : I64 (b + c)
      · exact h
      · rw [ovf_out h] at e3; simp at e3
    rw [ovf_in f1, ovf_in f2, ovf_in f3]
    refine Ev.up ?_
    simp only [horologelaw01_NumRing.j3, if_true]
    have m := mul_is a (b + c) ha f3
    rw [Int.mul_add] at m
    obtain ⟨n, hn⟩ := num_ok (ovf (a * b + a * c)).2
    exact Ev.bindc (add_is _ _ f1 f2) (Ev.bind m (Ev.pos rfl (Ev.bindc hn (Ev.bindc hn (Ev.pos rfl h4)))))
  have h1 : Ev (fun k => horologelaw01_NumRing.j1 k a b c false) true := by
    refine Ev.up ?_
    simp only [horologelaw01_NumRing.j1, Bool.false_eq_true, if_false]
    have m := mul_is b a hb ha
    rw [Int.mul_comm] at m
    obtain ⟨n, hn⟩ := num_ok (ovf (a * b)).2
    refine Ev.bind (mul_is a b ha hb) (Ev.bind m (Ev.pos rfl (Ev.bindc hn (Ev.bindc hn ?_))))
    rw [bne_self_eq_false]
    exact h2
  refine Ev.up ?_
  simp only [horologelaw01_NumRing.j0, Bool.false_eq_true, if_false]
  by_cases h : I64 (a + b)
  · rw [ovf_in h]
    refine Ev.bindc (sub_is _ _ h hb) ?_
    rw [show a + b - b = a by omega, ovf_in ha]
    simp only [Option.isNone_none, if_true, bne_self_eq_false]
    exact h1
  · rw [ovf_out h]
    refine Ev.bindc (sub_is 0 b (by unfold I64; omega) hb) ?_
    simp only [Option.isNone_some, Bool.false_eq_true, if_false]
    exact h1
end Go.Proofs.Ytcgcodmknoiljaa.Pure
