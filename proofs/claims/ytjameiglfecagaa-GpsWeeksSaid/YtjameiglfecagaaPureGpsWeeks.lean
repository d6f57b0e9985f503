/- GpsWeeks: the week of any atomic seconds, its text, and the atomic seconds of any week's second, are the document's. For every input of Go's kinds; no further condition. -/
import Derived.Test.YtjameiglfecagaaTGpsWeeksBig3
import Derived.Test.YtjameiglfecagaaCalBase
import Derived.Test.YtjameiglfecagaaFigBase
namespace Go.Proofs.Ytjameiglfecagaa.MGpsWeeks
open Go.RowKit Go.Proofs.YtjameiglfecagaaW.PrintWords Go.Proofs.YtjameiglfecagaaW.PrintLast Go.Proofs.YtjameiglfecagaaW.PrintMore Go.Proofs.Ytjameiglfecagaa.Base
set_option linter.unusedVariables false
set_option linter.unusedSimpArgs false

theorem add_is (a b : Int) (ha : I64 a) (hb : I64 b) : num_Add.f a b = some (ovf (a + b)) := by
  unfold I64 at ha hb
  unfold num_Add.f ovf
  by_cases h : I64 (a + b)
  · have w := wrap64_id h
    unfold I64 at h
    rw [w, if_pos (show I64 (a + b) from h)]
    repeat' split
    all_goals first | rfl | omega
  · rw [if_neg h]
    unfold I64 at h
    unfold wrap64
    repeat' split
    all_goals first | rfl | (exfalso; omega)
theorem sub_is (a b : Int) (ha : I64 a) (hb : I64 b) : num_Sub.f a b = some (ovf (a - b)) := by
  unfold I64 at ha hb
  unfold num_Sub.f ovf
  by_cases h : I64 (a - b)
  · have w := wrap64_id h
    unfold I64 at h
    rw [w, if_pos (show I64 (a - b) from h)]
    repeat' split
    all_goals first | rfl | omega
  · rw [if_neg h]
    unfold I64 at h
    unfold wrap64
    repeat' split
    all_goals first | rfl | (exfalso; omega)
theorem and32 {x : Int} (h0 : 0 ≤ x) (h : x < 18446744073709551616) : Go.bits .and .u64 x 4294967295 = x % 4294967296 := and_mask h0 h (n := 32) (by decide)
theorem mul64_is (a b : Int) (ha : 0 ≤ a ∧ a < 18446744073709551616) (hb : 0 ≤ b ∧ b < 18446744073709551616) :
    bits_Mul64.f a b = some (a * b / 18446744073709551616, a * b % 18446744073709551616) := by
  unfold bits_Mul64.f
  rw [and32 ha.1 ha.2, and32 hb.1 hb.2]
  have hp : ∀ x y : Int, 0 ≤ x → x ≤ 4294967295 → 0 ≤ y → y ≤ 4294967295 → 0 ≤ x * y ∧ x * y ≤ 18446744065119617025 := fun x y h1 h2 h3 h4 =>
    ⟨Int.mul_nonneg h1 h3, by have := Int.mul_le_mul h2 h4 h3 (by decide); omega⟩
  have e : a * b = 18446744073709551616 * ((a / 4294967296) * (b / 4294967296)) + 4294967296 * ((a / 4294967296) * (b % 4294967296) + (a % 4294967296) * (b / 4294967296)) + (a % 4294967296) * (b % 4294967296) := by
    have ea : a = 4294967296 * (a / 4294967296) + a % 4294967296 := by omega
    have eb : b = 4294967296 * (b / 4294967296) + b % 4294967296 := by omega
    generalize a / 4294967296 = a1 at *
    generalize a % 4294967296 = a0 at *
    generalize b / 4294967296 = b1 at *
    generalize b % 4294967296 = b0 at *
    subst ea eb
    simp only [Int.mul_add, Int.add_mul, Int.mul_assoc, Int.mul_left_comm a1 4294967296, Int.mul_left_comm a0 4294967296]
    omega
  have h11 := hp (a / 4294967296) (b / 4294967296) (by omega) (by omega) (by omega) (by omega)
  have h10 := hp (a / 4294967296) (b % 4294967296) (by omega) (by omega) (by omega) (by omega)
  have h01 := hp (a % 4294967296) (b / 4294967296) (by omega) (by omega) (by omega) (by omega)
  have h00 := hp (a % 4294967296) (b % 4294967296) (by omega) (by omega) (by omega) (by omega)
  rw [e]
  clear hp e
  generalize (a / 4294967296) * (b / 4294967296) = p11 at *
  generalize (a / 4294967296) * (b % 4294967296) = p10 at *
  generalize (a % 4294967296) * (b / 4294967296) = p01 at *
  generalize (a % 4294967296) * (b % 4294967296) = p00 at *
  clear ha hb
  have w11 : IntKind.u64.wrap p11 = p11 := by rw [wrap_u64]; omega
  have w10 : IntKind.u64.wrap p10 = p10 := by rw [wrap_u64]; omega
  have w01 : IntKind.u64.wrap p01 = p01 := by rw [wrap_u64]; omega
  have w00 : IntKind.u64.wrap p00 = p00 := by rw [wrap_u64]; omega
  have wt : IntKind.u64.wrap (p10 + p00 / 4294967296) = p10 + p00 / 4294967296 := by rw [wrap_u64]; omega
  rw [w11, w10, w01, w00, wt, and32 (by omega) (by omega)]
  rw [wrap_u64, wrap_u64, wrap_u64, wrap_u64]
  congr 2
  omega
theorem size_is (a : Int) (ha : I64 a) : num_size.f a = some (if a < 0 then -a else a) := by
  unfold I64 at ha
  unfold num_size.f
  split
  · rw [wrap_u64, wrap_u64]; congr 1; omega
  · rw [wrap_u64]; congr 1; omega
theorem signed_is (n : Int) (below : Bool) (h0 : 0 ≤ n) (h : n < 18446744073709551616) : Ev (fun k => num_signed.f k n below) (ovf (if below = true then -n else n)) := by
  unfold num_signed.f
  cases below with
  | true =>
    simp only [if_true]
    refine Ev.up ?_
    simp only [num_signed.j0]
    refine Ev.ite (fun q => ?_) (fun q => ?_)
    · have := of_decide_eq_true q
      rw [ovf_in (by unfold I64; omega)]
      refine Ev.cast (Ev.now _) ?_
      rw [wrap_u64]
      congr 1
      unfold wrap64; omega
    · have : ¬ n ≤ 9223372036854775808 := fun h => q (decide_eq_true h)
      rw [ovf_out (by unfold I64; omega)]
      simp only [if_true]
      exact Ev.now _
  | false =>
    simp only [Bool.false_eq_true, if_false]
    refine Ev.up ?_
    simp only [num_signed.j0, Bool.false_eq_true, if_false]
    refine Ev.ite (fun q => ?_) (fun q => ?_)
    · rw [ovf_in (by unfold I64; omega), wrap64_id (by unfold I64; omega)]
      exact Ev.now _
    · rw [ovf_out (by unfold I64; omega)]
      exact Ev.now _
theorem mul_is (a b : Int) (ha : I64 a) (hb : I64 b) : Ev (fun k => num_Mul.f k a b) (ovf (a * b)) := by
  have ha' := ha
  have hb' := hb
  unfold I64 at ha' hb'
  have hsa : 0 ≤ (if a < 0 then -a else a) ∧ (if a < 0 then -a else a) ≤ 9223372036854775808 := by split <;> omega
  have hsb : 0 ≤ (if b < 0 then -b else b) ∧ (if b < 0 then -b else b) ≤ 9223372036854775808 := by split <;> omega
  have hp := Int.mul_nonneg hsa.1 hsb.1
  have hs : a * b = (if ((decide (a < 0)) != (decide (b < 0))) = true then -((if a < 0 then -a else a) * (if b < 0 then -b else b)) else (if a < 0 then -a else a) * (if b < 0 then -b else b)) := by
    by_cases h1 : a < 0
    · by_cases h2 : b < 0
      · simp only [if_pos h1, if_pos h2, decide_eq_true h1, decide_eq_true h2, bne_self_eq_false, Bool.false_eq_true, if_false, Int.neg_mul_neg]
      · simp only [if_pos h1, if_neg h2, decide_eq_true h1, decide_eq_false h2, Bool.bne_false, if_true, Int.neg_mul, Int.neg_neg]
    · by_cases h2 : b < 0
      · simp only [if_neg h1, if_pos h2, decide_eq_false h1, decide_eq_true h2, Bool.bne_true, Bool.not_false, if_true, Int.mul_neg, Int.neg_neg]
      · simp only [if_neg h1, if_neg h2, decide_eq_false h1, decide_eq_false h2, bne_self_eq_false, Bool.false_eq_true, if_false]
  unfold num_Mul.f
  refine Ev.bindc (size_is a ha) (Ev.bindc (size_is b hb) (Ev.bindc (mul64_is _ _ (by omega) (by omega)) ?_))
  rw [hs]
  generalize (if a < 0 then -a else a) * (if b < 0 then -b else b) = p at *
  generalize ((decide (a < 0)) != (decide (b < 0))) = s at *
  clear hs hsa hsb
  refine Ev.ite (fun q => ?_) (fun q => ?_)
  · rw [show p % 18446744073709551616 = p by omega]
    exact Ev.bind (signed_is p s hp (by omega)) (Ev.now _)
  · rw [ovf_out (by unfold I64; split <;> omega)]
    exact Ev.now _
theorem num_is (e : Option Int) : horologenum_Num.f e = some (match e with | none => 0 | some c => if c = 0 then -1 else c) := by
  unfold horologenum_Num.f
  cases e <;> simp
  split <;> rfl
/-- A quotient and its rest. -/
structure DM (a b q r : Int) : Prop where
  eq : a = b * q + r
  pos : 0 < b → 0 ≤ r ∧ r < b
  neg : b < 0 → b < r ∧ r ≤ 0
  iq : I64 q
theorem tdm (a b : Int) : b * Int.tdiv a b + Int.tmod a b = a := Int.mul_tdiv_add_tmod a b
theorem tmod_bd (a b : Int) (hb : b ≠ 0) : (0 ≤ a → 0 ≤ Int.tmod a b) ∧ (a ≤ 0 → Int.tmod a b ≤ 0) ∧ (0 < b → -b < Int.tmod a b ∧ Int.tmod a b < b) ∧ (b < 0 → b < Int.tmod a b ∧ Int.tmod a b < -b) := by
  rw [tmod_is]
  by_cases h : a < 0
  · rw [if_pos h]
    have e0 := Int.emod_nonneg (-a) hb
    refine ⟨fun _ => by omega, fun _ => by omega, fun p => ?_, fun p => ?_⟩
    · have := Int.emod_lt_of_pos (-a) p; omega
    · have := Int.emod_lt_of_pos (-a) (show 0 < -b by omega); rw [Int.emod_neg] at this; omega
  · rw [if_neg h]
    have e0 := Int.emod_nonneg a hb
    refine ⟨fun _ => e0, fun q => ?_, fun p => ?_, fun p => ?_⟩
    · have : a = 0 := by omega
      subst this; simp
    · have := Int.emod_lt_of_pos a p; omega
    · have := Int.emod_lt_of_pos a (show 0 < -b by omega); rw [Int.emod_neg] at this; omega
theorem tdiv_bd (a b : Int) (ha : I64 a) (hb : b ≠ 0) (hx : ¬ (a = -9223372036854775808 ∧ b = -1)) : I64 (Int.tdiv a b) ∧ (Int.tmod a b ≠ 0 → ((a < 0 ∧ 0 < b) ∨ (0 ≤ a ∧ b < 0)) → I64 (Int.tdiv a b - 1)) := by
  have e := tdm a b
  obtain ⟨t1, t2, t3, t4⟩ := tmod_bd a b hb
  unfold I64 at *
  generalize Int.tdiv a b = u at *
  generalize Int.tmod a b = t at *
  by_cases hu0 : u = 0
  · subst hu0
    constructor
    · omega
    · intro z s; omega
  rcases Int.lt_or_gt_of_ne hb with h | h
  · have t4 := t4 h
    rcases Int.lt_or_le u 0 with hu | hu
    · have m := Int.mul_le_mul_of_nonpos_right (show b ≤ -1 by omega) (show u ≤ 0 by omega)
      have m' := Int.mul_le_mul_of_nonpos_left (show b ≤ 0 by omega) (show u ≤ -1 by omega)
      constructor
      · omega
      · intro z s; omega
    · have m := Int.mul_le_mul_of_nonneg_right (show b ≤ -1 by omega) hu
      have m' := Int.mul_le_mul_of_nonpos_left (show b ≤ 0 by omega) (show 1 ≤ u by omega)
      by_cases hb1 : b = -1
      · subst hb1
        constructor
        · omega
        · intro z s; omega
      · have m2 := Int.mul_le_mul_of_nonneg_right (show b ≤ -2 by omega) hu
        constructor
        · omega
        · intro z s; omega
  · have t3 := t3 h
    rcases Int.lt_or_le u 0 with hu | hu
    · have m := Int.mul_le_mul_of_nonpos_right (show 1 ≤ b by omega) (show u ≤ 0 by omega)
      have m' := Int.mul_le_mul_of_nonneg_left (show u ≤ -1 by omega) (show 0 ≤ b by omega)
      constructor
      · omega
      · intro z s; omega
    · have m := Int.mul_le_mul_of_nonneg_right (show 1 ≤ b by omega) hu
      have m' := Int.mul_le_mul_of_nonneg_left (show 1 ≤ u by omega) (show 0 ≤ b by omega)
      constructor
      · omega
      · intro z s; omega
theorem div_mod (a b : Int) (ha : I64 a) (hbb : I64 b) (hb : b ≠ 0) (hx : ¬ (a = -9223372036854775808 ∧ b = -1)) :
    ∃ q r, Ev (fun k => num_Div.f k a b) (q, none) ∧ num_Mod.f a b = some (r, none) ∧ DM a b q r := by
  have e := tdm a b
  have bd := tmod_bd a b hb
  obtain ⟨t1, t2, t3, t4⟩ := bd
  obtain ⟨i1, i2⟩ := tdiv_bd a b ha hb hx
  have hd : ∀ v, Ev (fun k => num_Div.j0 k a b false) v → Ev (fun k => num_Div.f k a b) v := by
    intro v h
    unfold num_Div.f
    refine Ev.neg hb (Ev.ite (fun q => ?_) (fun _ => h))
    rw [beq_eq_false_iff_ne.mpr (fun z => hx ⟨q, z⟩)]
    exact h
  unfold num_Mod.f
  rw [if_neg hb]
  by_cases hz : Int.tmod a b = 0
  · refine ⟨Int.tdiv a b, 0, hd _ (Ev.up ?_), ?_, ⟨by omega, fun _ => by omega, fun _ => by omega, i1⟩⟩
    · simp only [num_Div.j0, Bool.false_eq_true, if_false]
      rw [wrap64_id i1]
      exact Ev.neg hb (Ev.pos hz (Ev.now _))
    · by_cases hm : b = -1
      · rw [if_pos hm]
      · rw [if_neg hm, if_pos hz, hz]
  · have hm : b ≠ -1 := by
      intro h
      have := t4 (by omega)
      omega
    rw [if_neg hm, if_neg hz]
    by_cases hs : (a < 0 ∧ 0 < b) ∨ (0 ≤ a ∧ b < 0)
    · have i2 := i2 hz hs
      refine ⟨Int.tdiv a b - 1, Int.tmod a b + b, hd _ (Ev.up ?_), ?_, ⟨by rw [Int.mul_sub, Int.mul_one]; omega, fun _ => by omega, fun _ => by omega, i2⟩⟩
      · simp only [num_Div.j0, Bool.false_eq_true, if_false]
        rw [wrap64_id i1, wrap64_id i2]
        refine Ev.neg hb (Ev.neg hz (Ev.pos ?_ (Ev.now _)))
        rcases hs with ⟨p, q⟩ | ⟨p, q⟩
        · rw [decide_eq_true p, decide_eq_false (by omega)]; rfl
        · rw [decide_eq_false (by omega), decide_eq_true q]; rfl
      · have w : wrap64 (Int.tmod a b + b) = Int.tmod a b + b := wrap64_id (by unfold I64 at *; omega)
        rw [w, if_pos]
        rcases hs with ⟨p, q⟩ | ⟨p, q⟩
        · rw [decide_eq_true (by omega), decide_eq_false (by omega)]; rfl
        · rw [decide_eq_false (by omega), decide_eq_true q]; rfl
    · refine ⟨Int.tdiv a b, Int.tmod a b, hd _ (Ev.up ?_), ?_, ⟨by omega, fun _ => by omega, fun _ => by omega, i1⟩⟩
      · simp only [num_Div.j0, Bool.false_eq_true, if_false]
        rw [wrap64_id i1]
        refine Ev.neg hb (Ev.neg hz (Ev.neg ?_ (Ev.now _)))
        by_cases p : a < 0
        · rw [decide_eq_true p, decide_eq_true (by omega)]; decide
        · rw [decide_eq_false p, decide_eq_false (by omega)]; decide
      · rw [if_neg]
        by_cases p : a < 0
        · rw [decide_eq_true (by omega), decide_eq_true (by omega)]; decide
        · rw [decide_eq_false (by omega), decide_eq_false (by omega)]; decide
theorem div_zero (a : Int) : Ev (fun k => num_Div.f k a 0) (0, some 1) ∧ num_Mod.f a 0 = some (0, some 1) := by
  constructor
  · unfold num_Div.f
    exact Ev.pos rfl (Ev.now _)
  · rfl
theorem div_over : Ev (fun k => num_Div.f k (-9223372036854775808) (-1)) (0, some 5) ∧ num_Mod.f (-9223372036854775808) (-1) = some (0, none) := by
  constructor
  · unfold num_Div.f
    refine Ev.neg (by decide) (Ev.pos rfl (Ev.up ?_))
    simp only [num_Div.j0, BEq.rfl, if_true]
    exact Ev.now _
  · rfl
/-- The sum of numbers, from one on; too great as soon as a sum on the way is. -/
def sumV : Int → List Int → Int × Option Int
  | v, [] => (v, none)
  | v, x :: xs => if I64 (v + x) then sumV (v + x) xs else (0, some 5)
theorem rd_drop {l : List Int} {i : Nat} (h : i < l.length) : l.drop i = rd l i :: l.drop (i + 1) := by
  unfold rd
  rw [List.drop_eq_getElem_cons h]
  simp [h]
theorem sum_l0 (l : List Int) (hl : ∀ x ∈ l, I64 x) (hn : l.length ≤ 1000) (m : Nat) : ∀ (i : Nat) (v : Int), I64 v → i + m = l.length → Ev (fun k => num_Sum.l0 k v l (l.length : Int) i) (sumV v (l.drop i)) := by
  induction m with
  | zero =>
    intro i v hv hi
    rw [List.drop_eq_nil_of_le (by omega)]
    refine Ev.up ?_
    simp only [num_Sum.l0, sumV]
    exact Ev.neg (by omega) (Ev.now _)
  | succ m ih =>
    intro i v hv hi
    have hd := rd_drop (l := l) (i := i) (by omega)
    have hx : I64 (rd l i) := hl _ (List.mem_of_mem_drop (hd ▸ List.mem_cons_self))
    rw [hd]
    refine Ev.up ?_
    simp only [num_Sum.l0, sumV]
    refine Ev.pos (by omega) (Ev.pos (by omega) (Ev.pos (by omega) (Ev.bindc (add_is v _ hv hx) ?_)))
    by_cases h : I64 (v + rd l i)
    · rw [ovf_in h, if_pos h, wr (n := (i : Int) + 1) (by omega)]
      exact Ev.pos rfl (ih (i + 1) _ h (by omega))
    · rw [ovf_out h, if_neg h]
      exact Ev.neg (by simp) (Ev.now _)
theorem rleap_is (y : Int) : horologeref05_Leap.f y = some (decide (lp y = 1)) := by
  have t4 : Int.tmod y 4 = 0 ↔ y % 4 = 0 := by rw [tmod_is]; split <;> omega
  have t100 : Int.tmod y 100 = 0 ↔ y % 100 = 0 := by rw [tmod_is]; split <;> omega
  have t400 : Int.tmod y 400 = 0 ↔ y % 400 = 0 := by rw [tmod_is]; split <;> omega
  have b100 : (Int.tmod y 100 != 0) = !decide (y % 100 = 0) := by rw [← decide_eq_decide.mpr t100]; rfl
  unfold horologeref05_Leap.f lp
  simp only [t4, t400, b100]
  by_cases p400 : y % 400 = 0
  · have p4 : y % 4 = 0 := by omega
    simp [p4, p400]
  · by_cases p4 : y % 4 = 0 <;> by_cases p100 : y % 100 = 0 <;> simp [p4, p100, p400]
theorem rdays_is (y : Int) : horologeref05_Days.f y = some (365 + lp y) := by
  unfold horologeref05_Days.f
  have l := lp_01 y
  rw [rleap_is]
  simp only [Option.bind_some]
  by_cases h : lp y = 1
  · rw [if_pos (decide_eq_true h), h]; rfl
  · rw [if_neg (by rw [decide_eq_false h]; decide), show lp y = 0 by omega]; rfl
theorem rmonth_is (y m : Int) (h1 : 1 ≤ m) (h2 : m ≤ 12) : horologeref05_Month.f y m = some (ml y m) := by
  unfold horologeref05_Month.f
  simp only [Option.bind_some, rleap_is]
  have l := lp_01 y
  have w : wrap64 (m - 1) = m - 1 := wr (by omega)
  have hr : m ≠ 2 ∨ lp y = 0 → rd [31, 28, 31, 30, 31, 30, 31, 31, 30, 31, 30, 31] (m - 1) = ml y m := by
    intro h
    unfold ml
    have := m12 h1 h2
    rcases this with e | e | e | e | e | e | e | e | e | e | e | e <;> subst e
    all_goals first
      | (rw [if_neg (by decide)]; decide)
      | (rw [if_pos (by decide), h.resolve_left (by decide)]; decide)
  rw [w]
  by_cases h : m = 2
  · rw [if_pos h]
    by_cases q : lp y = 1
    · rw [if_pos (decide_eq_true q)]
      unfold ml
      rw [if_pos h, q]; rfl
    · rw [if_neg (by rw [decide_eq_false q]; decide), if_pos (by omega), if_pos (by simp; omega), hr (by omega)]
  · rw [if_neg h, if_pos (by omega), if_pos (by simp; omega), hr (by omega)]
theorem rstart_l2 (y n : Int) (hn : -100000000 ≤ n ∧ n ≤ 100000000) (m : Nat) : ∀ x : Int, 1970 ≤ x → x + m = y → y ≤ 2400 → Ev (fun k => horologeref05_Start.l2 k y (n + S x) x) (n + S y) := by
  induction m with
  | zero =>
    intro x h1 h2 h3
    refine Ev.up ?_
    simp only [horologeref05_Start.l2]
    rw [show x = y by omega]
    exact Ev.neg (by omega) (Ev.now _)
  | succ m ih =>
    intro x h1 h2 h3
    have l := lp_01 x
    have s := S_succ x
    have b1 := S_mono h1
    have b2 := S_mono (show x ≤ 2400 by omega)
    have e1 : S 2400 = 157054 := by decide
    have e0 := S_1970
    refine Ev.up ?_
    simp only [horologeref05_Start.l2, rdays_is, Option.bind_some]
    rw [wr (n := x + 1) (by omega), wr (n := n + S x + (365 + lp x)) (by omega)]
    have := ih (x + 1) (by omega) (by omega) h3
    rw [s] at this
    refine Ev.pos (by omega) ?_
    rw [show n + S x + (365 + lp x) = n + (S x + 365 + lp x) by omega]
    exact this
theorem rstart_l1 (m : Nat) : ∀ y n : Int, 1970 ≤ y → y < 2370 + 400 * m → m ≤ 80 → -50000000 ≤ n → n ≤ 50000000 - 146097 * m → Ev (fun k => horologeref05_Start.l1 k y n) (n + S y) := by
  induction m with
  | zero =>
    intro y n h1 h2 h3 h4 h5
    refine Ev.up ?_
    simp only [horologeref05_Start.l1]
    refine Ev.neg (by omega) ?_
    have := rstart_l2 y n (by omega) (y - 1970).toNat 1970 (by decide) (by omega) (by omega)
    rw [S_1970, Int.add_zero] at this
    exact this
  | succ m ih =>
    intro y n h1 h2 h3 h4 h5
    by_cases h : y ≥ 2370
    · refine Ev.up ?_
      simp only [horologeref05_Start.l1]
      refine Ev.pos h ?_
      rw [wr (n := y - 400) (by omega), wr (n := n + 146097) (by omega)]
      have := ih (y - 400) (n + 146097) (by omega) (by omega) (by omega) (by omega) (by omega)
      have e := S_400 (y - 400)
      rw [show y - 400 + 400 = y by omega] at e
      rw [show n + S y = n + 146097 + S (y - 400) by omega]
      exact this
    · exact ih y n h1 (by omega) (by omega) h4 (by omega)
theorem rstart_l0 (m : Nat) : ∀ y n : Int, 1970 - 400 * m ≤ y → y ≤ 30000 → m ≤ 80 → -50000000 + 146097 * m ≤ n → n ≤ 30000000 → Ev (fun k => horologeref05_Start.l0 k y n) (n + S y) := by
  induction m with
  | zero =>
    intro y n h1 h2 h3 h4 h5
    refine Ev.up ?_
    simp only [horologeref05_Start.l0]
    exact Ev.neg (by omega) (rstart_l1 80 y n (by omega) (by omega) (by omega) (by omega) (by omega))
  | succ m ih =>
    intro y n h1 h2 h3 h4 h5
    by_cases h : y < 1970
    · refine Ev.up ?_
      simp only [horologeref05_Start.l0]
      refine Ev.pos h ?_
      rw [wr (n := y + 400) (by omega), wr (n := n - 146097) (by omega)]
      have := ih (y + 400) (n - 146097) (by omega) (by omega) (by omega) (by omega) (by omega)
      rw [S_400] at this
      rw [show n + S y = n - 146097 + (S y + 146097) by omega]
      exact this
    · exact ih y n (by omega) h2 (by omega) (by omega) h5
theorem rstart_is (y : Int) (h1 : -30000 ≤ y) (h2 : y ≤ 30000) : Ev (fun k => horologeref05_Start.f k y) (S y) := by
  have := rstart_l0 80 y 0 (by omega) h2 (by omega) (by omega) (by omega)
  rw [Int.zero_add] at this
  exact this
theorem rof_l0 (y m n : Int) (h2 : m ≤ 12) (hn : -100000000 ≤ n ∧ n ≤ 100000000) (j : Nat) : ∀ x : Int, 1 ≤ x → x + j = m → Ev (fun k => horologeref05_Of.l0 k y m (n + cm y x) x) (n + cm y m) := by
  induction j with
  | zero =>
    intro x h1 h2
    refine Ev.up ?_
    simp only [horologeref05_Of.l0]
    rw [show x = m by omega]
    exact Ev.neg (by omega) (Ev.now _)
  | succ j ih =>
    intro x h1 h3
    have c := cm_succ y x h1 (by omega)
    have b := cm_bd y x h1 (by omega)
    have l := ml_bd y x
    refine Ev.up ?_
    simp only [horologeref05_Of.l0, rmonth_is y x h1 (by omega), Option.bind_some]
    rw [wr (n := x + 1) (by omega), wr (n := n + cm y x + ml y x) (by omega)]
    have := ih (x + 1) (by omega) (by omega)
    rw [c] at this
    refine Ev.pos (by omega) ?_
    rw [show n + cm y x + ml y x = n + (cm y x + ml y x) by omega]
    exact this
theorem rof_is (y m d : Int) (hy : -9999 ≤ y ∧ y ≤ 9999) (ho : ok y m d) : Ev (fun k => horologeref05_Of.f k y m d) (nm y m d) := by
  obtain ⟨h1, h2, h3, h4⟩ := ho
  have := ml_bd y m
  have b1 := S_mono (show y ≤ 10000 by omega)
  have b2 := S_mono (show -10000 ≤ y by omega)
  have e1 : S 10000 = 2932897 := by decide
  have e2 : S (-10000) = -4371953 := by decide
  unfold horologeref05_Of.f
  refine Ev.bind (rstart_is y (by omega) (by omega)) ?_
  rw [wr (n := S y + d) (by omega), wr (n := S y + d - 1) (by omega)]
  have := rof_l0 y m (S y + d - 1) h2 (by omega) (m - 1).toNat 1 (by decide) (by omega)
  rw [cm_one, Int.add_zero] at this
  rw [show nm y m d = S y + d - 1 + cm y m by unfold nm; omega]
  exact this
theorem rev_l0 (l : List Int) (hn : l.length ≤ 1000000) (m : Nat) : ∀ (x : List Int) (i : Nat), x.length = l.length → 2 * i + m ≥ l.length → 2 * i ≤ l.length + 1 →
    (∀ t : Nat, t < l.length → rd x t = if t < i ∨ l.length - 1 - i < t then rd l ((l.length - 1 - t : Nat) : Int) else rd l t) →
      Ev (fun k => slices_Reverse_byte_byte.l0 k x i ((l.length : Int) - 1 - i)) l.reverse := by
  induction m with
  | zero =>
    intro x i hl hm h2 h
    refine Ev.up ?_
    simp only [slices_Reverse_byte_byte.l0]
    refine Ev.neg (by omega) ?_
    rw [← rev_of hl (fun t ht => ?_)]
    · exact Ev.now _
    · rw [h t ht]
      by_cases q : t < i ∨ l.length - 1 - i < t
      · rw [if_pos q]
      · rw [if_neg q, show l.length - 1 - t = t by omega]
  | succ m ih =>
    intro x i hl hm h2 h
    by_cases hgo : 2 * i + 1 < l.length
    · have ej : (l.length : Int) - 1 - i = ((l.length - 1 - i : Nat) : Int) := by omega
      refine Ev.up ?_
      simp only [slices_Reverse_byte_byte.l0, ej]
      refine Ev.pos (by omega) (Ev.pos (by omega) (Ev.pos (by omega) (Ev.pos (by omega) (Ev.pos (by omega) ?_))))
      rw [wr (n := (i : Int) + 1) (by omega), wr (n := ((l.length - 1 - i : Nat) : Int) - 1) (by omega)]
      have := ih ((x.set (i : Int).toNat (rd x ((l.length - 1 - i : Nat) : Int))).set ((l.length - 1 - i : Nat) : Int).toNat (rd x i)) (i + 1) (by simp [hl]) (by omega) (by omega) (by
        intro t ht
        simp only [Int.toNat_natCast]
        rw [rd_set _ _ _ (by simp; omega), rd_set _ _ _ (by omega)]
        by_cases t1 : t = l.length - 1 - i
        · rw [if_pos t1, if_pos (by omega), h i (by omega), if_neg (by omega), show l.length - 1 - t = i by omega]
        · rw [if_neg t1]
          by_cases t2 : t = i
          · rw [if_pos t2, if_pos (by omega), h _ (by omega), if_neg (by omega), t2]
          · rw [if_neg t2, h t ht]
            by_cases t3 : t < i ∨ l.length - 1 - i < t
            · rw [if_pos t3, if_pos (by omega)]
            · rw [if_neg t3, if_neg (by omega)])
      rw [show (l.length : Int) - 1 - ((i + 1 : Nat) : Int) = ((l.length - 1 - i : Nat) : Int) - 1 by omega] at this
      exact this
    · exact (by
        refine Ev.up ?_
        simp only [slices_Reverse_byte_byte.l0]
        refine Ev.neg (by omega) ?_
        rw [← rev_of hl (fun t ht => ?_)]
        · exact Ev.now _
        · rw [h t ht]
          by_cases q : t < i ∨ l.length - 1 - i < t
          · rw [if_pos q]
          · rw [if_neg q, show l.length - 1 - t = t by omega])
theorem rev_is (l : List Int) (hn : l.length ≤ 1000000) : Ev (fun k => slices_Reverse_byte_byte.f k l) l.reverse := by
  unfold slices_Reverse_byte_byte.f
  rw [wr (by omega)]
  have := rev_l0 l hn l.length l 0 rfl (by omega) (by omega) (fun t ht => by rw [if_neg (by omega)])
  simpa using this
theorem raw_pad (w : Int) (hw : 0 ≤ w ∧ w ≤ 1000) (m : Nat) : ∀ out : List Int, out.length ≤ 1000 → (max w.toNat 1 - out.length) ≤ m → Ev (fun k => figures_raw.l0 k 0 w out) (strOfNums ((out ++ List.replicate (max w.toNat 1 - out.length) 48).reverse)) := by
  have hx : mx w 1 = ((max w.toNat 1 : Nat) : Int) := by unfold mx; split <;> omega
  induction m with
  | zero =>
    intro out ho hm
    refine Ev.up ?_
    simp only [figures_raw.l0, hx]
    refine Ev.neg (by omega) (Ev.neg (by omega) (Ev.bind (rev_is out (by omega)) ?_))
    rw [show max w.toNat 1 - out.length = 0 by omega, List.replicate_zero, List.append_nil]
    exact Ev.now _
  | succ m ih =>
    intro out ho hm
    by_cases h : out.length < max w.toNat 1
    · refine Ev.up ?_
      simp only [figures_raw.l0, hx]
      have w1 : IntKind.u64.wrap (Int.tdiv 0 10) = 0 := by decide
      have w2 : (48 + Int.tmod 0 10) % 256 = 48 := by decide
      rw [w1, w2]
      refine Ev.neg (by omega) (Ev.pos (by omega) (Ev.pos (by omega) ?_))
      have := ih (out ++ [48]) (by simp; omega) (by simp; omega)
      rw [snoc_rep, show max w.toNat 1 - (out ++ [(48 : Int)]).length + 1 = max w.toNat 1 - out.length by simp; omega] at this
      exact this
    · exact ih out ho (by omega)
theorem raw_l0 (w : Int) (hw : 0 ≤ w ∧ w ≤ 100) (n : Nat) : ∀ out : List Int, n < 18446744073709551616 → out.length + (digs n).length ≤ 200 →
    Ev (fun k => figures_raw.l0 k (n : Int) w out) (strOfNums ((out ++ digs n ++ List.replicate (max w.toNat 1 - (out ++ digs n).length) 48).reverse)) := by
  induction n using Nat.strongRecOn with
  | ind n ih =>
    intro out hn ho
    by_cases h : n = 0
    · subst h
      rw [digs_zero, List.append_nil]
      exact raw_pad w (by omega) _ out (by omega) (Nat.le_refl _)
    · have e := digs_pos (show 0 < n by omega)
      refine Ev.up ?_
      simp only [figures_raw.l0]
      refine Ev.pos (by omega) (Ev.pos (by omega) ?_)
      have w1 : IntKind.u64.wrap (Int.tdiv (n : Int) 10) = ((n / 10 : Nat) : Int) := by rw [tdiv_is, if_neg (by omega), wrap_u64]; omega
      have w2 : (48 + Int.tmod (n : Int) 10) % 256 = 48 + (n : Int) % 10 := by rw [tmod_is, if_neg (by omega)]; omega
      rw [w1, w2]
      have := ih (n / 10) (by omega) (out ++ [48 + (n : Int) % 10]) (by omega) (by rw [e] at ho; simp at ho ⊢; omega)
      rw [show out ++ [48 + (n : Int) % 10] ++ digs (n / 10) = out ++ digs n by rw [e]; simp] at this
      exact this
theorem raw_is (n : Nat) (w : Int) (hn : n < 18446744073709551616) (hw : 0 ≤ w ∧ w ≤ 100) : Ev (fun k => figures_raw.f k (n : Int) w) (strOfNums (rawV n w.toNat)) := by
  have l := digs_len n 20 (by omega)
  have := raw_l0 w hw n [] hn (by simp; omega)
  rw [List.nil_append, List.reverse_append, List.reverse_replicate] at this
  exact this
/-- The text of a number with its sign. -/
def putV (n : Int) (w : Nat) : List Int := if n < 0 then 45 :: rawV (-n).toNat w else rawV n.toNat w
theorem put_is (n w : Int) (hn : I64 n) (hw : 0 ≤ w ∧ w ≤ 20) : Ev (fun k => figures_Put.f k n w) (strOfNums (putV n w.toNat), none) := by
  unfold I64 at hn
  unfold figures_Put.f
  refine Ev.neg (by omega) ?_
  rw [decide_eq_false (by omega)]
  refine Ev.up ?_
  simp only [figures_Put.j0, Bool.false_eq_true, if_false]
  unfold putV
  refine Ev.ite (fun h => ?_) (fun h => ?_)
  · rw [if_pos h, show IntKind.u64.wrap (-IntKind.u64.wrap n) = (((-n).toNat : Nat) : Int) by rw [wrap_u64, wrap_u64]; omega]
    refine Ev.bind (raw_is (-n).toNat w (by omega) (by omega)) (Ev.pos ?_ ?_)
    · rw [son_size, rawV_len]
      have := digs_len (-n).toNat 20 (by omega)
      omega
    · rw [show (⟨#[45]⟩ : ByteArray) = strOfNums [45] from rfl, son_append]
      exact Ev.now _
  · rw [if_neg h, show IntKind.u64.wrap n = ((n.toNat : Nat) : Int) by rw [wrap_u64]; omega]
    exact Ev.bind (raw_is n.toNat w (by omega) (by omega)) (Ev.now _)
theorem rraw_l1 (w : Int) (hw : 0 ≤ w ∧ w ≤ 1000) (m : Nat) : ∀ s : List Int, s.length ≤ 1000 → (max w.toNat 1 - s.length) ≤ m → Ev (fun k => horologeref02_Raw.l1 k w (strOfNums s)) (strOfNums (List.replicate (max w.toNat 1 - s.length) 48 ++ s)) := by
  induction m with
  | zero =>
    intro s hs hm
    refine Ev.up ?_
    simp only [horologeref02_Raw.l1, son_size]
    rw [show max w.toNat 1 - s.length = 0 by omega, List.replicate_zero, List.nil_append]
    exact Ev.neg (by omega) (Ev.neg (by omega) (Ev.now _))
  | succ m ih =>
    intro s hs hm
    by_cases h : s.length < max w.toNat 1
    · refine Ev.up ?_
      simp only [horologeref02_Raw.l1, son_size, show (⟨#[48]⟩ : ByteArray) = strOfNums [48] from rfl, son_append]
      have := ih ([48] ++ s) (by simp; omega) (by simp; omega)
      have e : List.replicate (max w.toNat 1 - ([48] ++ s).length) (48 : Int) ++ ([48] ++ s) = List.replicate (max w.toNat 1 - s.length) 48 ++ s := by
        rw [← List.append_assoc]
        congr 1
        rw [show max w.toNat 1 - s.length = (max w.toNat 1 - ([48] ++ s).length) + 1 by simp; omega, List.replicate_succ']
      rw [e] at this
      exact Ev.ite (fun _ => Ev.pos (by omega) this) (fun q => Ev.pos (by omega) (Ev.pos (by omega) this))
    · exact ih s hs (by omega)
theorem rraw_l0 (w : Int) (hw : 0 ≤ w ∧ w ≤ 100) (n : Nat) : ∀ s : List Int, n < 9223372036854775808 → s.length + (digs n).length ≤ 200 →
    Ev (fun k => horologeref02_Raw.l0 k (n : Int) w (strOfNums s)) (strOfNums (List.replicate (max w.toNat 1 - ((digs n).reverse ++ s).length) 48 ++ ((digs n).reverse ++ s))) := by
  induction n using Nat.strongRecOn with
  | ind n ih =>
    intro s hn hs
    by_cases h : n = 0
    · subst h
      rw [digs_zero]
      refine Ev.up ?_
      simp only [horologeref02_Raw.l0]
      refine Ev.neg (by omega) ?_
      exact rraw_l1 w (by omega) _ s (by omega) (Nat.le_refl _)
    · have e := digs_pos (show 0 < n by omega)
      have w1 : wrap64 (Int.tdiv (n : Int) 10) = ((n / 10 : Nat) : Int) := by rw [tdiv_is, if_neg (by omega), wr (by omega)]; omega
      have w2 : (wrap64 (48 + Int.tmod (n : Int) 10)) % 256 = 48 + (n : Int) % 10 := by rw [tmod_is, if_neg (by omega), wr (by omega)]; omega
      refine Ev.up ?_
      simp only [horologeref02_Raw.l0, Option.bind_some, w1, w2, son_size, son_append]
      refine Ev.pos (by omega) (Ev.pos (by simp; omega) ?_)
      have := ih (n / 10) (by omega) ([48 + (n : Int) % 10] ++ s) (by omega) (by rw [e] at hs; simp at hs ⊢; omega)
      rw [show (digs (n / 10)).reverse ++ ([48 + (n : Int) % 10] ++ s) = (digs n).reverse ++ s by rw [e]; simp] at this
      exact this
theorem rraw_is (n : Nat) (w : Int) (hn : n < 9223372036854775808) (hw : 0 ≤ w ∧ w ≤ 100) : Ev (fun k => horologeref02_Raw.f k (n : Int) w) (strOfNums (rawV n w.toNat)) := by
  have l := digs_len n 20 (by omega)
  have := rraw_l0 w hw n [] hn (by simp; omega)
  rw [List.append_nil, List.length_reverse] at this
  exact this
theorem rput_is (n w : Int) (hn : I64 n) (hm : n ≠ -9223372036854775808) (hw : 0 ≤ w ∧ w ≤ 20) : Ev (fun k => horologeref02_Put.f k n w) (strOfNums (putV n w.toNat), 0) := by
  unfold I64 at hn
  unfold horologeref02_Put.f
  refine Ev.neg (by omega) ?_
  rw [decide_eq_false (by omega)]
  refine Ev.up ?_
  simp only [horologeref02_Put.j0, Bool.false_eq_true, if_false]
  unfold putV
  refine Ev.neg hm (Ev.ite (fun h => ?_) (fun h => ?_))
  · rw [if_pos h, show wrap64 (-n) = (((-n).toNat : Nat) : Int) by rw [wr (by omega)]; omega]
    refine Ev.bind (rraw_is (-n).toNat w (by omega) (by omega)) (Ev.pos ?_ ?_)
    · rw [son_size, rawV_len]
      have := digs_len (-n).toNat 20 (by omega)
      omega
    · rw [show (⟨#[45]⟩ : ByteArray) = strOfNums [45] from rfl, son_append]
      exact Ev.now _
  · rw [if_neg h]
    have := rraw_is n.toNat w (by omega) (by omega)
    rw [show ((n.toNat : Nat) : Int) = n by omega] at this
    exact Ev.bind this (Ev.now _)
theorem Minus_is {a : Bool × List Int} {x : Int} {n : Nat} (ha : Is a x n) : ∃ r, horologeref01_Minus.f a.1 a.2 = some r ∧ Is r (-x) n := by
  have va := ha.abs
  have na := ha.neg
  unfold horologeref01_Minus.f
  by_cases h : a.1 = true
  · refine ⟨(false, a.2), by rw [if_pos h], Is.mk' ha.dg ha.tr ?_ ?_ ha.le⟩
    · have := na.mp h; rw [decide_eq_false (by omega)]
    · have := na.mp h; rw [va, if_pos this, if_neg (by omega)]
  · have hx : ¬ x < 0 := fun q => h (na.mpr q)
    rw [if_neg hx] at va
    refine ⟨(decide (0 < a.2.length), a.2), by rw [if_neg h], Is.mk' ha.dg ha.tr ?_ ?_ ha.le⟩
    · rw [len_pos ha.dg ha.tr, va]; exact decide_eq_decide.mpr ⟨fun _ => by omega, fun _ => by omega⟩
    · rw [va]; split <;> omega
def en (e : Option Int) : Int := match e with | none => 0 | some c => c
theorem split_is (a b : Int) (ha : I64 a) (hb : 0 < b) (hbb : I64 b) : Ev (fun k => num_Split.f k a b) (a / b, a % b, none) := by
  unfold num_Split.f
  obtain ⟨q, r, h1, h2, h3⟩ := div_mod a b ha hbb (by omega) (by omega)
  have p := h3.pos hb
  have e := h3.eq
  have eq : q = a / b := by
    rw [e, Int.add_comm, Int.add_mul_ediv_left _ _ (by omega), Int.ediv_eq_zero_of_lt p.1 p.2]; omega
  have er : r = a % b := by
    rw [e, Int.add_comm, Int.add_mul_emod_self_left, Int.emod_eq_of_lt p.1 p.2]
  rw [eq] at h1
  rw [er] at h2
  exact Ev.neg (by omega) (Ev.bind h1 (Ev.pos rfl (Ev.bindc h2 (Ev.pos rfl (Ev.now _)))))
/-- A moment's week and second. -/
def weekV (t : Int) : Int × Int × Option Int := if I64 (t - 315964819) then ((t - 315964819) / 604800, (t - 315964819) % 604800, none) else (0, 0, some 5)
theorem gof_is (t : Int) (ht : I64 t) : Ev (fun k => gps_Of.f k t) (weekV t) := by
  unfold gps_Of.f weekV
  refine Ev.bindc (sub_is t 315964819 ht (by unfold I64; omega)) ?_
  by_cases h : I64 (t - 315964819)
  · rw [ovf_in h, if_pos h]
    exact Ev.pos rfl (Ev.bind (split_is _ _ h (by decide) (by unfold I64; omega)) (Ev.now _))
  · rw [ovf_out h, if_neg h]
    exact Ev.neg (by simp) (Ev.now _)
/-- The moment of a week's second. -/
def taiV (w s : Int) : Int × Option Int := if 0 ≤ s ∧ s ≤ 604799 then (if I64 (w * 604800) then (if I64 (w * 604800 + s) then (if I64 (w * 604800 + s + 315964819) then (w * 604800 + s + 315964819, none) else (0, some 5)) else (0, some 5)) else (0, some 5)) else (0, some 1)
theorem tai_is (w s : Int) (hw : I64 w) (hs : I64 s) : Ev (fun k => gps_Tai.f k w s) (taiV w s) := by
  unfold gps_Tai.f taiV
  have bad : ¬ (0 ≤ s ∧ s ≤ 604799) → Ev (fun k => gps_Tai.j0 k w s true) (if 0 ≤ s ∧ s ≤ 604799 then (if I64 (w * 604800) then (if I64 (w * 604800 + s) then (if I64 (w * 604800 + s + 315964819) then (w * 604800 + s + 315964819, none) else (0, some 5)) else (0, some 5)) else (0, some 5)) else (0, some 1)) := by
    intro h
    rw [if_neg h]
    refine Ev.up ?_
    simp only [gps_Tai.j0, if_true]
    exact Ev.now _
  refine Ev.ite (fun h => bad (by omega)) (fun h => ?_)
  by_cases h2 : s ≥ 604800
  · rw [decide_eq_true h2]; exact bad (by omega)
  · rw [decide_eq_false h2, if_pos (by omega)]
    refine Ev.up ?_
    simp only [gps_Tai.j0, Bool.false_eq_true, if_false]
    refine Ev.bind (mul_is w 604800 hw (by unfold I64; omega)) ?_
    by_cases h3 : I64 (w * 604800)
    · rw [ovf_in h3, if_pos h3]
      have hl : ∀ x ∈ [w * 604800, s, 315964819], I64 x := by
        intro x hx
        rcases List.mem_cons.mp hx with e | hx
        · rw [e]; exact h3
        · rcases List.mem_cons.mp hx with e | hx
          · rw [e]; exact hs
          · rw [List.mem_singleton.mp hx]; unfold I64; omega
      have hsum := sum_l0 [w * 604800, s, 315964819] hl (by simp) 3 0 0 (by unfold I64; omega) rfl
      refine Ev.pos rfl (Ev.bind (a := if I64 (w * 604800 + s) then (if I64 (w * 604800 + s + 315964819) then (w * 604800 + s + 315964819, none) else (0, some 5)) else (0, some 5)) ?_ (Ev.now _))
      unfold num_Sum.f
      refine Ev.cast hsum ?_
      rw [List.drop_zero]
      simp only [sumV, Int.zero_add, if_pos h3]
    · rw [ovf_out h3, if_neg h3]
      exact Ev.neg (by simp) (Ev.now _)
theorem rbegin_is : Ev (fun k => horologeref14_Begin.f k) 315964819 := by
  unfold horologeref14_Begin.f
  refine Ev.bind (rof_is 1980 1 6 (by decide) (by decide)) (Ev.cast (Ev.now _) ?_)
  rw [show nm 1980 1 6 = 3657 by decide]
  rw [wr (n := 3657 * 86400) (by omega), wr (by omega)]
  rfl
theorem rtai_is (w s : Int) (hw : I64 w) (hs : I64 s) : Ev (fun k => horologeref14_Tai.f k w s) ((taiV w s).1, en (taiV w s).2) := by
  unfold horologeref14_Tai.f taiV
  have bad : ¬ (0 ≤ s ∧ s ≤ 604799) → Ev (fun k => horologeref14_Tai.j0 k w s true) (((if 0 ≤ s ∧ s ≤ 604799 then (if I64 (w * 604800) then (if I64 (w * 604800 + s) then (if I64 (w * 604800 + s + 315964819) then (w * 604800 + s + 315964819, none) else (0, some 5)) else (0, some 5)) else (0, some 5)) else (0, some 1)) : Int × Option Int).1, en ((if 0 ≤ s ∧ s ≤ 604799 then (if I64 (w * 604800) then (if I64 (w * 604800 + s) then (if I64 (w * 604800 + s + 315964819) then (w * 604800 + s + 315964819, none) else (0, some 5)) else (0, some 5)) else (0, some 5)) else (0, some 1)) : Int × Option Int).2) := by
    intro h
    rw [if_neg h]
    refine Ev.up ?_
    simp only [horologeref14_Tai.j0, if_true]
    exact Ev.now _
  refine Ev.ite (fun h => bad (by omega)) (fun h => ?_)
  by_cases h2 : s > 604799
  · rw [decide_eq_true h2]; exact bad (by omega)
  · rw [decide_eq_false h2, if_pos (by omega)]
    refine Ev.up ?_
    simp only [horologeref14_Tai.j0, Bool.false_eq_true, if_false]
    obtain ⟨a, a1, a2⟩ := Of_is w hw
    obtain ⟨b, b1, b2⟩ := Of_is 604800 (by unfold I64; omega)
    obtain ⟨m, m1, m2⟩ := Times_is a2 b2 (by decide) (by decide)
    obtain ⟨c, c1, c2⟩ := Of_is s hs
    obtain ⟨p, p1, p2⟩ := Plus_is m2 c2 (by decide) (by decide)
    obtain ⟨d, d1, d2⟩ := Of_is 315964819 (by unfold I64; omega)
    obtain ⟨q, q1, q2⟩ := Plus_is p2 d2 (by decide) (by decide)
    refine Ev.bind a1 (Ev.bind b1 (Ev.bind m1 (Ev.bind (Small_is m2 (by decide)) ?_)))
    by_cases h3 : I64 (w * 604800)
    · rw [smallV_in h3, if_pos h3]
      refine Ev.pos rfl (Ev.bind c1 (Ev.bind p1 (Ev.bind (Small_is p2 (by decide)) ?_)))
      by_cases h4 : I64 (w * 604800 + s)
      · rw [smallV_in h4, if_pos h4]
        refine Ev.pos rfl (Ev.bind rbegin_is (Ev.bind d1 (Ev.bind q1 (Ev.bind (Small_is q2 (by decide)) (Ev.cast (Ev.now _) ?_)))))
        by_cases h5 : I64 (w * 604800 + s + 315964819)
        · rw [smallV_in h5, if_pos h5]; rfl
        · rw [smallV_out h5, if_neg h5]; rfl
      · rw [smallV_out h4, if_neg h4]
        exact Ev.neg (by decide) (Ev.now _)
    · rw [smallV_out h3, if_neg h3]
      exact Ev.neg (by decide) (Ev.now _)
theorem rgof_is (t : Int) (ht : I64 t) : Ev (fun k => horologeref14_Of.f k t) ((weekV t).1, (weekV t).2.1, en (weekV t).2.2) := by
  unfold horologeref14_Of.f weekV
  obtain ⟨a, a1, a2⟩ := Of_is t ht
  obtain ⟨b, b1, b2⟩ := Of_is 315964819 (by unfold I64; omega)
  obtain ⟨m, m1, m2⟩ := Minus_is b2
  obtain ⟨p, p1, p2⟩ := Plus_is a2 m2 (by decide) (by decide)
  have e : t + -315964819 = t - 315964819 := by omega
  rw [e] at p2
  refine Ev.bind a1 (Ev.bind rbegin_is (Ev.bind b1 (Ev.bindc m1 (Ev.bind p1 (Ev.bind (Small_is p2 (by decide)) ?_)))))
  by_cases h : I64 (t - 315964819)
  · rw [smallV_in h, if_pos h]
    refine Ev.pos rfl ?_
    unfold I64 at h
    have tb := tmod_is (t - 315964819) 604800
    have td := tdiv_is (t - 315964819) 604800
    simp only [tb, td]
    by_cases hn : t - 315964819 < 0
    · simp only [if_pos hn]
      refine Ev.ite (fun q => ?_) (fun q => ?_)
      · rw [wr (n := -(-(t - 315964819) / 604800)) (by omega), wr (n := -(-(t - 315964819) / 604800) - 1) (by omega), wr (by omega)]
        refine Ev.cast (Ev.now _) ?_
        rw [show -(-(t - 315964819) / 604800) - 1 = (t - 315964819) / 604800 by omega, show -(-(t - 315964819) % 604800) + 604800 = (t - 315964819) % 604800 by omega]
        rfl
      · rw [wr (by omega)]
        refine Ev.cast (Ev.now _) ?_
        rw [show -(-(t - 315964819) / 604800) = (t - 315964819) / 604800 by omega, show -(-(t - 315964819) % 604800) = (t - 315964819) % 604800 by omega]
        rfl
    · simp only [if_neg hn]
      refine Ev.neg (by omega) ?_
      rw [wr (by omega)]
      exact Ev.now _
  · rw [smallV_out h, if_neg h]
    exact Ev.neg (by decide) (Ev.now _)
theorem fold_l0 (t n : Int) (hn : n ≤ 62) (ht : I64 t) (m : Nat) : ∀ (i : Nat), (i : Int) + m = n → Ev (fun k => horologeref13_Fold.l0 k t n (2 ^ i) i) (t % 2 ^ n.toNat) := by
  induction m with
  | zero =>
    intro i hi
    have p62 := pow62 (n := i) (by omega)
    have pp := pow_pos2 i
    rw [show n.toNat = i by omega]
    have e0 := Int.emod_nonneg t (Int.ne_of_gt pp)
    have e1 := Int.emod_lt_of_pos t pp
    have hm : Int.tmod t (2 ^ i) = t % 2 ^ i ∨ (Int.tmod t (2 ^ i) < 0 ∧ Int.tmod t (2 ^ i) + 2 ^ i = t % 2 ^ i) := by
      by_cases h : 0 ≤ t
      · exact Or.inl (Int.tmod_eq_emod_of_nonneg h)
      · have e : t = -(-t) := by omega
        have e2 : Int.tmod t (2 ^ i) = -((-t) % 2 ^ i) := by rw [e, Int.neg_tmod, Int.tmod_eq_emod_of_nonneg (by omega), ← e]
        have a0 := Int.emod_nonneg (-t) (Int.ne_of_gt pp)
        have a1 := Int.emod_lt_of_pos (-t) pp
        by_cases hz : (-t) % 2 ^ i = 0
        · refine Or.inl ?_
          rw [e2, hz]
          have := Int.dvd_of_emod_eq_zero hz
          exact (Int.emod_eq_zero_of_dvd ((Int.dvd_neg).mp this)).symm
        · refine Or.inr ⟨by omega, ?_⟩
          rw [e2]
          have d1 := Int.emod_def (-t) (2 ^ i)
          have d2 : t = (2 ^ i - (-t) % 2 ^ i) + 2 ^ i * (-((-t) / 2 ^ i) - 1) := by
            rw [Int.mul_sub, Int.mul_neg, Int.mul_one]; omega
          have d3 := congrArg (fun z => z % (2 : Int) ^ i) d2
          simp only [Int.add_mul_emod_self_left] at d3
          rw [d3, Int.emod_eq_of_lt (a := 2 ^ i - (-t) % 2 ^ i) (b := 2 ^ i) (by omega) (by omega)]; omega
    refine Ev.up ?_
    simp only [horologeref13_Fold.l0]
    refine Ev.neg (by omega) (Ev.neg (by omega) ?_)
    rcases hm with h | ⟨h1, h2⟩
    · refine Ev.neg (by omega) ?_
      rw [h]; exact Ev.now _
    · refine Ev.pos h1 ?_
      rw [h2, wrap64_id (by unfold I64; omega)]; exact Ev.now _
  | succ m ih =>
    intro i hi
    have p62 := pow62 (n := i + 1) (by omega)
    have pp := pow_pos2 i
    rw [pow_succ2] at p62
    refine Ev.up ?_
    simp only [horologeref13_Fold.l0]
    refine Ev.pos (by omega) ?_
    have := ih (i + 1) (by omega)
    rw [wrap64_id (n := 2 ^ i * 2) (by unfold I64; omega), wrap64_id (n := (i : Int) + 1) (by unfold I64; omega)]
    rw [pow_succ2] at this
    rw [Int.mul_comm (2 ^ i) 2]
    exact this
theorem ref_fold_is (t n : Int) (h0 : 0 ≤ n) (hn : n ≤ 62) (ht : I64 t) : Ev (fun k => horologeref13_Fold.f k t n) (t % 2 ^ n.toNat) :=
  fold_l0 t n hn ht n.toNat 0 (by omega)
theorem short_is (t : Int) : gps_Short.f t = some (t % 1024) := by
  unfold gps_Short.f
  rw [wrap_u64, tmod_is, if_neg (by omega), wr (by omega)]
  congr 1; omega
/-- The text of a week's second. -/
def gtext (w s : Int) : List Int := putV w 4 ++ ([58] ++ rawV s.toNat 6)
theorem putV_len (n : Int) (hn : I64 n) (w : Nat) (hw : w ≤ 20) : (putV n w).length ≤ 25 := by
  unfold I64 at hn
  unfold putV
  split
  · have := digs_len (-n).toNat 20 (by omega)
    rw [List.length_cons, rawV_len]; omega
  · have := digs_len n.toNat 20 (by omega)
    rw [rawV_len]; omega
theorem gput_is (w s : Int) (hw : I64 w) (hs : 0 ≤ s ∧ s ≤ 604799) : Ev (fun k => gps_put.f k w s) (strOfNums (gtext w s), none) := by
  unfold gps_put.f
  have l := putV_len w hw 4 (by decide)
  have h6 := put_is s 6 (by unfold I64; omega) (by omega)
  have e6 : putV s (6 : Int).toNat = rawV s.toNat 6 := by unfold putV; rw [if_neg (by omega)]; rfl
  rw [e6] at h6
  have l6 : (rawV s.toNat 6).length ≤ 30 := by
    have := digs_len s.toNat 20 (by omega)
    rw [rawV_len]; omega
  refine Ev.bind (put_is w 4 hw (by omega)) (Ev.pos rfl (Ev.bind h6 (Ev.pos rfl (Ev.pos ?_ (Ev.pos ?_ ?_)))))
  · rw [son_size]; show (putV w 4).length + 1 ≤ _; omega
  · rw [son_size, son_size]; show (putV w 4).length + 1 + _ ≤ _; omega
  · rw [show (⟨#[58]⟩ : ByteArray) = strOfNums [58] from rfl, son_append, son_append, List.append_assoc]
    exact Ev.now _
theorem rgput_is (w s : Int) (hw : I64 w) (hm : w ≠ -9223372036854775808) (hs : 0 ≤ s ∧ s ≤ 604799) : Ev (fun k => horologeref14_Put.f k w s) (strOfNums (gtext w s)) := by
  unfold horologeref14_Put.f
  have l := putV_len w hw 4 (by decide)
  have h6 := rraw_is s.toNat 6 (by omega) (by omega)
  rw [show ((s.toNat : Nat) : Int) = s by omega] at h6
  have l6 : (rawV s.toNat 6).length ≤ 30 := by
    have := digs_len s.toNat 20 (by omega)
    rw [rawV_len]; omega
  refine Ev.bind (rput_is w 4 hw hm (by omega)) (Ev.pos ?_ (Ev.bind h6 (Ev.pos ?_ ?_)))
  · rw [son_size]; show (putV w 4).length + 1 ≤ _; omega
  · rw [son_size, son_size]; show (putV w 4).length + 1 + (rawV s.toNat 6).length ≤ _; omega
  · rw [show (⟨#[58]⟩ : ByteArray) = strOfNums [58] from rfl, son_append, son_append, List.append_assoc]
    exact Ev.now _
theorem gPut_is (t : Int) (ht : I64 t) : Ev (fun k => gps_Put.f k t) (if I64 (t - 315964819) then (strOfNums (gtext ((t - 315964819) / 604800) ((t - 315964819) % 604800)), none) else (strOfNums [], some 5)) := by
  unfold gps_Put.f
  refine Ev.bind (gof_is t ht) ?_
  unfold weekV
  by_cases h : I64 (t - 315964819)
  · have h' := h
    unfold I64 at h'
    simp only [if_pos h, Option.isNone_none, if_true]
    exact Ev.bind (gput_is _ _ (by unfold I64; omega) (by omega)) (Ev.now _)
  · simp only [if_neg h]; exact Ev.now _
theorem alive_is : Ev (fun k => horologelaw14_alive.f k) true := Ev.of (fun k => horologelaw14_alive.mono k) (k := 10) (by kernel_rfl)
theorem num_en (e : Option Int) (h : e ≠ some 0) : horologenum_Num.f e = some (en e) := by
  rw [num_is]
  cases e with
  | none => rfl
  | some c =>
    have : c ≠ 0 := fun q => h (by rw [q])
    simp [en, this]
end Go.Proofs.Ytjameiglfecagaa.MGpsWeeks
namespace Go.Proofs.Ytjameiglfecagaa.Pure
open Go.RowKit Go.Proofs.Ytjameiglfecagaa.MGpsWeeks Go.Proofs.YtjameiglfecagaaW.PrintWords Go.Proofs.YtjameiglfecagaaW.PrintLast Go.Proofs.Ytjameiglfecagaa.Base
set_option linter.unusedVariables false
set_option linter.unusedSimpArgs false
theorem GpsWeeks : horologelaw14_GpsWeeks.Pure := by
  intro t w s ht hw hs
  replace ht := i64_of ht
  replace hw := i64_of hw
  replace hs := i64_of hs
  refine Ev.ok (g := fun k => horologelaw14_GpsWeeks.f k t w s) ?_
  unfold horologelaw14_GpsWeeks.f
  refine Ev.bind alive_is (Ev.pos rfl (Ev.bind (gof_is t ht) (Ev.bind (gPut_is t ht) (Ev.bind (rgof_is t ht) ?_))))
  have h1 : Ev (fun k => horologelaw14_GpsWeeks.j1 k w s false) true := by
    refine Ev.up ?_
    simp only [horologelaw14_GpsWeeks.j1, Bool.false_eq_true, if_false]
    refine Ev.bind (tai_is w s hw hs) (Ev.bind (rtai_is w s hw hs) (Ev.pos rfl (Ev.bindc (num_en _ ?_) (Ev.pos rfl (Ev.bindc (short_is w) (Ev.bind (ref_fold_is w 10 (by decide) (by decide) hw) (Ev.cast (Ev.now _) ?_)))))))
    · unfold taiV
      repeat' split
      all_goals simp
    · show (w % 1024 == w % 1024) = true
      exact beq_self_eq_true _
  unfold weekV
  by_cases h : I64 (t - 315964819)
  · have h' := h
    unfold I64 at h'
    simp only [if_pos h]
    refine Ev.pos rfl (Ev.bind (rgput_is _ _ (by unfold I64; omega) (by omega) (by omega)) ?_)
    refine Ev.up ?_
    simp only [horologelaw14_GpsWeeks.j0, if_true]
    refine Ev.bindc (num_en none (by simp)) (Ev.pos rfl (Ev.bindc (num_en none (by simp)) ?_))
    rw [show (en none != en none) = false from rfl]
    exact h1
  · simp only [if_neg h]
    refine Ev.neg (by decide) ?_
    refine Ev.up ?_
    simp only [horologelaw14_GpsWeeks.j0, if_true]
    refine Ev.pos rfl (Ev.bindc (num_en (some 5) (by simp)) (Ev.pos rfl (Ev.bindc (num_en (some 5) (by simp)) ?_)))
    rw [show (en (some 5) != en (some 5)) = false from rfl]
    exact h1
end Go.Proofs.Ytjameiglfecagaa.Pure
