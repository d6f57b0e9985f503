/- GpsShorts: any short week by any pivot, and the moment of its second about another one, are the document's. For every input of Go's kinds; no further condition. -/
import Derived.Test.YtjameiglfecagaaTGpsShortsBig4
import Derived.Test.YtjameiglfecagaaCalBase
namespace Go.Proofs.Ytjameiglfecagaa.MGpsShorts
open Go.RowKit Go.Proofs.YtjameiglfecagaaW.PrintWords Go.Proofs.YtjameiglfecagaaW.PrintLast Go.Proofs.YtjameiglfecagaaW.PrintMore Go.Proofs.Ytjameiglfecagaa.Base
set_option linter.unusedVariables false
set_option linter.unusedSimpArgs false

theorem add_is (a b : Int) (ha : I64 a) (hb : I64 b) : num_Add.f a b = some (ovf (a + b)) := by
  unfold I64 at ha hb
  unfold num_Add.f ovf
  by_cases h : I64 (a + b)
  · have w := wrap64_id h
    unfold I64 at h
    rw [w, if_pos (show I64 (a + b) from h)]
    repeat' split
    all_goals first | rfl | omega
  · rw [if_neg h]
    unfold I64 at h
    unfold wrap64
    repeat' split
    all_goals first | rfl | (exfalso; omega)
theorem sub_is (a b : Int) (ha : I64 a) (hb : I64 b) : num_Sub.f a b = some (ovf (a - b)) := by
  unfold I64 at ha hb
  unfold num_Sub.f ovf
  by_cases h : I64 (a - b)
  · have w := wrap64_id h
    unfold I64 at h
    rw [w, if_pos (show I64 (a - b) from h)]
    repeat' split
    all_goals first | rfl | omega
  · rw [if_neg h]
    unfold I64 at h
    unfold wrap64
    repeat' split
    all_goals first | rfl | (exfalso; omega)
theorem and32 {x : Int} (h0 : 0 ≤ x) (h : x < 18446744073709551616) : Go.bits .and .u64 x 4294967295 = x % 4294967296 := and_mask h0 h (n := 32) (by decide)
theorem mul64_is (a b : Int) (ha : 0 ≤ a ∧ a < 18446744073709551616) (hb : 0 ≤ b ∧ b < 18446744073709551616) :
    bits_Mul64.f a b = some (a * b / 18446744073709551616, a * b % 18446744073709551616) := by
  unfold bits_Mul64.f
  rw [and32 ha.1 ha.2, and32 hb.1 hb.2]
  have hp : ∀ x y : Int, 0 ≤ x → x ≤ 4294967295 → 0 ≤ y → y ≤ 4294967295 → 0 ≤ x * y ∧ x * y ≤ 18446744065119617025 := fun x y h1 h2 h3 h4 =>
    ⟨Int.mul_nonneg h1 h3, by have := Int.mul_le_mul h2 h4 h3 (by decide); omega⟩
  have e : a * b = 18446744073709551616 * ((a / 4294967296) * (b / 4294967296)) + 4294967296 * ((a / 4294967296) * (b % 4294967296) + (a % 4294967296) * (b / 4294967296)) + (a % 4294967296) * (b % 4294967296) := by
    have ea : a = 4294967296 * (a / 4294967296) + a % 4294967296 := by omega
    have eb : b = 4294967296 * (b / 4294967296) + b % 4294967296 := by omega
    generalize a / 4294967296 = a1 at *
    generalize a % 4294967296 = a0 at *
    generalize b / 4294967296 = b1 at *
    generalize b % 4294967296 = b0 at *
    subst ea eb
    simp only [Int.mul_add, Int.add_mul, Int.mul_assoc, Int.mul_left_comm a1 4294967296, Int.mul_left_comm a0 4294967296]
    omega
  have h11 := hp (a / 4294967296) (b / 4294967296) (by omega) (by omega) (by omega) (by omega)
  have h10 := hp (a / 4294967296) (b % 4294967296) (by omega) (by omega) (by omega) (by omega)
  have h01 := hp (a % 4294967296) (b / 4294967296) (by omega) (by omega) (by omega) (by omega)
  have h00 := hp (a % 4294967296) (b % 4294967296) (by omega) (by omega) (by omega) (by omega)
  rw [e]
  clear hp e
  generalize (a / 4294967296) * (b / 4294967296) = p11 at *
  generalize (a / 4294967296) * (b % 4294967296) = p10 at *
  generalize (a % 4294967296) * (b / 4294967296) = p01 at *
  generalize (a % 4294967296) * (b % 4294967296) = p00 at *
  clear ha hb
  have w11 : IntKind.u64.wrap p11 = p11 := by rw [wrap_u64]; omega
  have w10 : IntKind.u64.wrap p10 = p10 := by rw [wrap_u64]; omega
  have w01 : IntKind.u64.wrap p01 = p01 := by rw [wrap_u64]; omega
  have w00 : IntKind.u64.wrap p00 = p00 := by rw [wrap_u64]; omega
  have wt : IntKind.u64.wrap (p10 + p00 / 4294967296) = p10 + p00 / 4294967296 := by rw [wrap_u64]; omega
  rw [w11, w10, w01, w00, wt, and32 (by omega) (by omega)]
  rw [wrap_u64, wrap_u64, wrap_u64, wrap_u64]
  congr 2
  omega
theorem size_is (a : Int) (ha : I64 a) : num_size.f a = some (if a < 0 then -a else a) := by
  unfold I64 at ha
  unfold num_size.f
  split
  · rw [wrap_u64, wrap_u64]; congr 1; omega
  · rw [wrap_u64]; congr 1; omega
theorem signed_is (n : Int) (below : Bool) (h0 : 0 ≤ n) (h : n < 18446744073709551616) : Ev (fun k => num_signed.f k n below) (ovf (if below = true then -n else n)) := by
  unfold num_signed.f
  cases below with
  | true =>
    simp only [if_true]
    refine Ev.up ?_
    simp only [num_signed.j0]
    refine Ev.ite (fun q => ?_) (fun q => ?_)
    · have := of_decide_eq_true q
      rw [ovf_in (by unfold I64; omega)]
      refine Ev.cast (Ev.now _) ?_
      rw [wrap_u64]
      congr 1
      unfold wrap64; omega
    · have : ¬ n ≤ 9223372036854775808 := fun h => q (decide_eq_true h)
      rw [ovf_out (by unfold I64; omega)]
      simp only [if_true]
      exact Ev.now _
  | false =>
    simp only [Bool.false_eq_true, if_false]
    refine Ev.up ?_
    simp only [num_signed.j0, Bool.false_eq_true, if_false]
    refine Ev.ite (fun q => ?_) (fun q => ?_)
    · rw [ovf_in (by unfold I64; omega), wrap64_id (by unfold I64; omega)]
      exact Ev.now _
    · rw [ovf_out (by unfold I64; omega)]
      exact Ev.now _
theorem mul_is (a b : Int) (ha : I64 a) (hb : I64 b) : Ev (fun k => num_Mul.f k a b) (ovf (a * b)) := by
  have ha' := ha
  have hb' := hb
  unfold I64 at ha' hb'
  have hsa : 0 ≤ (if a < 0 then -a else a) ∧ (if a < 0 then -a else a) ≤ 9223372036854775808 := by split <;> omega
  have hsb : 0 ≤ (if b < 0 then -b else b) ∧ (if b < 0 then -b else b) ≤ 9223372036854775808 := by split <;> omega
  have hp := Int.mul_nonneg hsa.1 hsb.1
  have hs : a * b = (if ((decide (a < 0)) != (decide (b < 0))) = true then -((if a < 0 then -a else a) * (if b < 0 then -b else b)) else (if a < 0 then -a else a) * (if b < 0 then -b else b)) := by
    by_cases h1 : a < 0
    · by_cases h2 : b < 0
      · simp only [if_pos h1, if_pos h2, decide_eq_true h1, decide_eq_true h2, bne_self_eq_false, Bool.false_eq_true, if_false, Int.neg_mul_neg]
      · simp only [if_pos h1, if_neg h2, decide_eq_true h1, decide_eq_false h2, Bool.bne_false, if_true, Int.neg_mul, Int.neg_neg]
    · by_cases h2 : b < 0
      · simp only [if_neg h1, if_pos h2, decide_eq_false h1, decide_eq_true h2, Bool.bne_true, Bool.not_false, if_true, Int.mul_neg, Int.neg_neg]
      · simp only [if_neg h1, if_neg h2, decide_eq_false h1, decide_eq_false h2, bne_self_eq_false, Bool.false_eq_true, if_false]
  unfold num_Mul.f
  refine Ev.bindc (size_is a ha) (Ev.bindc (size_is b hb) (Ev.bindc (mul64_is _ _ (by omega) (by omega)) ?_))
  rw [hs]
  generalize (if a < 0 then -a else a) * (if b < 0 then -b else b) = p at *
  generalize ((decide (a < 0)) != (decide (b < 0))) = s at *
  clear hs hsa hsb
  refine Ev.ite (fun q => ?_) (fun q => ?_)
  · rw [show p % 18446744073709551616 = p by omega]
    exact Ev.bind (signed_is p s hp (by omega)) (Ev.now _)
  · rw [ovf_out (by unfold I64; split <;> omega)]
    exact Ev.now _
theorem num_is (e : Option Int) : horologenum_Num.f e = some (match e with | none => 0 | some c => if c = 0 then -1 else c) := by
  unfold horologenum_Num.f
  cases e <;> simp
  split <;> rfl
/-- A quotient and its rest. -/
structure DM (a b q r : Int) : Prop where
  eq : a = b * q + r
  pos : 0 < b → 0 ≤ r ∧ r < b
  neg : b < 0 → b < r ∧ r ≤ 0
  iq : I64 q
theorem tdm (a b : Int) : b * Int.tdiv a b + Int.tmod a b = a := Int.mul_tdiv_add_tmod a b
theorem tmod_bd (a b : Int) (hb : b ≠ 0) : (0 ≤ a → 0 ≤ Int.tmod a b) ∧ (a ≤ 0 → Int.tmod a b ≤ 0) ∧ (0 < b → -b < Int.tmod a b ∧ Int.tmod a b < b) ∧ (b < 0 → b < Int.tmod a b ∧ Int.tmod a b < -b) := by
  rw [tmod_is]
  by_cases h : a < 0
  · rw [if_pos h]
    have e0 := Int.emod_nonneg (-a) hb
    refine ⟨fun _ => by omega, fun _ => by omega, fun p => ?_, fun p => ?_⟩
    · have := Int.emod_lt_of_pos (-a) p; omega
    · have := Int.emod_lt_of_pos (-a) (show 0 < -b by omega); rw [Int.emod_neg] at this; omega
  · rw [if_neg h]
    have e0 := Int.emod_nonneg a hb
    refine ⟨fun _ => e0, fun q => ?_, fun p => ?_, fun p => ?_⟩
    · have : a = 0 := by omega
      subst this; simp
    · have := Int.emod_lt_of_pos a p; omega
    · have := Int.emod_lt_of_pos a (show 0 < -b by omega); rw [Int.emod_neg] at this; omega
theorem tdiv_bd (a b : Int) (ha : I64 a) (hb : b ≠ 0) (hx : ¬ (a = -9223372036854775808 ∧ b = -1)) : I64 (Int.tdiv a b) ∧ (Int.tmod a b ≠ 0 → ((a < 0 ∧ 0 < b) ∨ (0 ≤ a ∧ b < 0)) → I64 (Int.tdiv a b - 1)) := by
  have e := tdm a b
  obtain ⟨t1, t2, t3, t4⟩ := tmod_bd a b hb
  unfold I64 at *
  generalize Int.tdiv a b = u at *
  generalize Int.tmod a b = t at *
  by_cases hu0 : u = 0
  · subst hu0
    constructor
    · omega
    · intro z s; omega
  rcases Int.lt_or_gt_of_ne hb with h | h
  · have t4 := t4 h
    rcases Int.lt_or_le u 0 with hu | hu
    · have m := Int.mul_le_mul_of_nonpos_right (show b ≤ -1 by omega) (show u ≤ 0 by omega)
      have m' := Int.mul_le_mul_of_nonpos_left (show b ≤ 0 by omega) (show u ≤ -1 by omega)
      constructor
      · omega
      · intro z s; omega
    · have m := Int.mul_le_mul_of_nonneg_right (show b ≤ -1 by omega) hu
      have m' := Int.mul_le_mul_of_nonpos_left (show b ≤ 0 by omega) (show 1 ≤ u by omega)
      by_cases hb1 : b = -1
      · subst hb1
        constructor
        · omega
        · intro z s; omega
      · have m2 := Int.mul_le_mul_of_nonneg_right (show b ≤ -2 by omega) hu
        constructor
        · omega
        · intro z s; omega
  · have t3 := t3 h
    rcases Int.lt_or_le u 0 with hu | hu
    · have m := Int.mul_le_mul_of_nonpos_right (show 1 ≤ b by omega) (show u ≤ 0 by omega)
      have m' := Int.mul_le_mul_of_nonneg_left (show u ≤ -1 by omega) (show 0 ≤ b by omega)
      constructor
      · omega
      · intro z s; omega
    · have m := Int.mul_le_mul_of_nonneg_right (show 1 ≤ b by omega) hu
      have m' := Int.mul_le_mul_of_nonneg_left (show 1 ≤ u by omega) (show 0 ≤ b by omega)
      constructor
      · omega
      · intro z s; omega
theorem div_mod (a b : Int) (ha : I64 a) (hbb : I64 b) (hb : b ≠ 0) (hx : ¬ (a = -9223372036854775808 ∧ b = -1)) :
    ∃ q r, Ev (fun k => num_Div.f k a b) (q, none) ∧ num_Mod.f a b = some (r, none) ∧ DM a b q r := by
  have e := tdm a b
  have bd := tmod_bd a b hb
  obtain ⟨t1, t2, t3, t4⟩ := bd
  obtain ⟨i1, i2⟩ := tdiv_bd a b ha hb hx
  have hd : ∀ v, Ev (fun k => num_Div.j0 k a b false) v → Ev (fun k => num_Div.f k a b) v := by
    intro v h
    unfold num_Div.f
    refine Ev.neg hb (Ev.ite (fun q => ?_) (fun _ => h))
    rw [beq_eq_false_iff_ne.mpr (fun z => hx ⟨q, z⟩)]
    exact h
  unfold num_Mod.f
  rw [if_neg hb]
  by_cases hz : Int.tmod a b = 0
  · refine ⟨Int.tdiv a b, 0, hd _ (Ev.up ?_), ?_, ⟨by omega, fun _ => by omega, fun _ => by omega, i1⟩⟩
    · simp only [num_Div.j0, Bool.false_eq_true, if_false]
      rw [wrap64_id i1]
      exact Ev.neg hb (Ev.pos hz (Ev.now _))
    · by_cases hm : b = -1
      · rw [if_pos hm]
      · rw [if_neg hm, if_pos hz, hz]
  · have hm : b ≠ -1 := by
      intro h
      have := t4 (by omega)
      omega
    rw [if_neg hm, if_neg hz]
    by_cases hs : (a < 0 ∧ 0 < b) ∨ (0 ≤ a ∧ b < 0)
    · have i2 := i2 hz hs
      refine ⟨Int.tdiv a b - 1, Int.tmod a b + b, hd _ (Ev.up ?_), ?_, ⟨by rw [Int.mul_sub, Int.mul_one]; omega, fun _ => by omega, fun _ => by omega, i2⟩⟩
      · simp only [num_Div.j0, Bool.false_eq_true, if_false]
        rw [wrap64_id i1, wrap64_id i2]
        refine Ev.neg hb (Ev.neg hz (Ev.pos ?_ (Ev.now _)))
        rcases hs with ⟨p, q⟩ | ⟨p, q⟩
        · rw [decide_eq_true p, decide_eq_false (by omega)]; rfl
        · rw [decide_eq_false (by omega), decide_eq_true q]; rfl
      · have w : wrap64 (Int.tmod a b + b) = Int.tmod a b + b := wrap64_id (by unfold I64 at *; omega)
        rw [w, if_pos]
        rcases hs with ⟨p, q⟩ | ⟨p, q⟩
        · rw [decide_eq_true (by omega), decide_eq_false (by omega)]; rfl
        · rw [decide_eq_false (by omega), decide_eq_true q]; rfl
    · refine ⟨Int.tdiv a b, Int.tmod a b, hd _ (Ev.up ?_), ?_, ⟨by omega, fun _ => by omega, fun _ => by omega, i1⟩⟩
      · simp only [num_Div.j0, Bool.false_eq_true, if_false]
        rw [wrap64_id i1]
        refine Ev.neg hb (Ev.neg hz (Ev.neg ?_ (Ev.now _)))
        by_cases p : a < 0
        · rw [decide_eq_true p, decide_eq_true (by omega)]; decide
        · rw [decide_eq_false p, decide_eq_false (by omega)]; decide
      · rw [if_neg]
        by_cases p : a < 0
        · rw [decide_eq_true (by omega), decide_eq_true (by omega)]; decide
        · rw [decide_eq_false (by omega), decide_eq_false (by omega)]; decide
/-- The sum of numbers, from one on; too great as soon as a sum on the way is. -/
def sumV : Int → List Int → Int × Option Int
  | v, [] => (v, none)
  | v, x :: xs => if I64 (v + x) then sumV (v + x) xs else (0, some 5)
theorem rd_drop {l : List Int} {i : Nat} (h : i < l.length) : l.drop i = rd l i :: l.drop (i + 1) := by
  unfold rd
  rw [List.drop_eq_getElem_cons h]
  simp [h]
theorem sum_l0 (l : List Int) (hl : ∀ x ∈ l, I64 x) (hn : l.length ≤ 1000) (m : Nat) : ∀ (i : Nat) (v : Int), I64 v → i + m = l.length → Ev (fun k => num_Sum.l0 k v l (l.length : Int) i) (sumV v (l.drop i)) := by
  induction m with
  | zero =>
    intro i v hv hi
    rw [List.drop_eq_nil_of_le (by omega)]
    refine Ev.up ?_
    simp only [num_Sum.l0, sumV]
    exact Ev.neg (by omega) (Ev.now _)
  | succ m ih =>
    intro i v hv hi
    have hd := rd_drop (l := l) (i := i) (by omega)
    have hx : I64 (rd l i) := hl _ (List.mem_of_mem_drop (hd ▸ List.mem_cons_self))
    rw [hd]
    refine Ev.up ?_
    simp only [num_Sum.l0, sumV]
    refine Ev.pos (by omega) (Ev.pos (by omega) (Ev.pos (by omega) (Ev.bindc (add_is v _ hv hx) ?_)))
    by_cases h : I64 (v + rd l i)
    · rw [ovf_in h, if_pos h, wr (n := (i : Int) + 1) (by omega)]
      exact Ev.pos rfl (ih (i + 1) _ h (by omega))
    · rw [ovf_out h, if_neg h]
      exact Ev.neg (by simp) (Ev.now _)
theorem rleap_is (y : Int) : horologeref05_Leap.f y = some (decide (lp y = 1)) := by
  have t4 : Int.tmod y 4 = 0 ↔ y % 4 = 0 := by rw [tmod_is]; split <;> omega
  have t100 : Int.tmod y 100 = 0 ↔ y % 100 = 0 := by rw [tmod_is]; split <;> omega
  have t400 : Int.tmod y 400 = 0 ↔ y % 400 = 0 := by rw [tmod_is]; split <;> omega
  have b100 : (Int.tmod y 100 != 0) = !decide (y % 100 = 0) := by rw [← decide_eq_decide.mpr t100]; rfl
  unfold horologeref05_Leap.f lp
  simp only [t4, t400, b100]
  by_cases p400 : y % 400 = 0
  · have p4 : y % 4 = 0 := by omega
    simp [p4, p400]
  · by_cases p4 : y % 4 = 0 <;> by_cases p100 : y % 100 = 0 <;> simp [p4, p100, p400]
theorem rdays_is (y : Int) : horologeref05_Days.f y = some (365 + lp y) := by
  unfold horologeref05_Days.f
  have l := lp_01 y
  rw [rleap_is]
  simp only [Option.bind_some]
  by_cases h : lp y = 1
  · rw [if_pos (decide_eq_true h), h]; rfl
  · rw [if_neg (by rw [decide_eq_false h]; decide), show lp y = 0 by omega]; rfl
theorem rmonth_is (y m : Int) (h1 : 1 ≤ m) (h2 : m ≤ 12) : horologeref05_Month.f y m = some (ml y m) := by
  unfold horologeref05_Month.f
  simp only [Option.bind_some, rleap_is]
  have l := lp_01 y
  have w : wrap64 (m - 1) = m - 1 := wr (by omega)
  have hr : m ≠ 2 ∨ lp y = 0 → rd [31, 28, 31, 30, 31, 30, 31, 31, 30, 31, 30, 31] (m - 1) = ml y m := by
    intro h
    unfold ml
    have := m12 h1 h2
    rcases this with e | e | e | e | e | e | e | e | e | e | e | e <;> subst e
    all_goals first
      | (rw [if_neg (by decide)]; decide)
      | (rw [if_pos (by decide), h.resolve_left (by decide)]; decide)
  rw [w]
  by_cases h : m = 2
  · rw [if_pos h]
    by_cases q : lp y = 1
    · rw [if_pos (decide_eq_true q)]
      unfold ml
      rw [if_pos h, q]; rfl
    · rw [if_neg (by rw [decide_eq_false q]; decide), if_pos (by omega), if_pos (by simp; omega), hr (by omega)]
  · rw [if_neg h, if_pos (by omega), if_pos (by simp; omega), hr (by omega)]
theorem rstart_l2 (y n : Int) (hn : -100000000 ≤ n ∧ n ≤ 100000000) (m : Nat) : ∀ x : Int, 1970 ≤ x → x + m = y → y ≤ 2400 → Ev (fun k => horologeref05_Start.l2 k y (n + S x) x) (n + S y) := by
  induction m with
  | zero =>
    intro x h1 h2 h3
    refine Ev.up ?_
    simp only [horologeref05_Start.l2]
    rw [show x = y by omega]
    exact Ev.neg (by omega) (Ev.now _)
  | succ m ih =>
    intro x h1 h2 h3
    have l := lp_01 x
    have s := S_succ x
    have b1 := S_mono h1
    have b2 := S_mono (show x ≤ 2400 by omega)
    have e1 : S 2400 = 157054 := by decide
    have e0 := S_1970
    refine Ev.up ?_
    simp only [horologeref05_Start.l2, rdays_is, Option.bind_some]
    rw [wr (n := x + 1) (by omega), wr (n := n + S x + (365 + lp x)) (by omega)]
    have := ih (x + 1) (by omega) (by omega) h3
    rw [s] at this
    refine Ev.pos (by omega) ?_
    rw [show n + S x + (365 + lp x) = n + (S x + 365 + lp x) by omega]
    exact this
theorem rstart_l1 (m : Nat) : ∀ y n : Int, 1970 ≤ y → y < 2370 + 400 * m → m ≤ 80 → -50000000 ≤ n → n ≤ 50000000 - 146097 * m → Ev (fun k => horologeref05_Start.l1 k y n) (n + S y) := by
  induction m with
  | zero =>
    intro y n h1 h2 h3 h4 h5
    refine Ev.up ?_
    simp only [horologeref05_Start.l1]
    refine Ev.neg (by omega) ?_
    have := rstart_l2 y n (by omega) (y - 1970).toNat 1970 (by decide) (by omega) (by omega)
    rw [S_1970, Int.add_zero] at this
    exact this
  | succ m ih =>
    intro y n h1 h2 h3 h4 h5
    by_cases h : y ≥ 2370
    · refine Ev.up ?_
      simp only [horologeref05_Start.l1]
      refine Ev.pos h ?_
      rw [wr (n := y - 400) (by omega), wr (n := n + 146097) (by omega)]
      have := ih (y - 400) (n + 146097) (by omega) (by omega) (by omega) (by omega) (by omega)
      have e := S_400 (y - 400)
      rw [show y - 400 + 400 = y by omega] at e
      rw [show n + S y = n + 146097 + S (y - 400) by omega]
      exact this
    · exact ih y n h1 (by omega) (by omega) h4 (by omega)
theorem rstart_l0 (m : Nat) : ∀ y n : Int, 1970 - 400 * m ≤ y → y ≤ 30000 → m ≤ 80 → -50000000 + 146097 * m ≤ n → n ≤ 30000000 → Ev (fun k => horologeref05_Start.l0 k y n) (n + S y) := by
  induction m with
  | zero =>
    intro y n h1 h2 h3 h4 h5
    refine Ev.up ?_
    simp only [horologeref05_Start.l0]
    exact Ev.neg (by omega) (rstart_l1 80 y n (by omega) (by omega) (by omega) (by omega) (by omega))
  | succ m ih =>
    intro y n h1 h2 h3 h4 h5
    by_cases h : y < 1970
    · refine Ev.up ?_
      simp only [horologeref05_Start.l0]
      refine Ev.pos h ?_
      rw [wr (n := y + 400) (by omega), wr (n := n - 146097) (by omega)]
      have := ih (y + 400) (n - 146097) (by omega) (by omega) (by omega) (by omega) (by omega)
      rw [S_400] at this
      rw [show n + S y = n - 146097 + (S y + 146097) by omega]
      exact this
    · exact ih y n (by omega) h2 (by omega) (by omega) h5
theorem rstart_is (y : Int) (h1 : -30000 ≤ y) (h2 : y ≤ 30000) : Ev (fun k => horologeref05_Start.f k y) (S y) := by
  have := rstart_l0 80 y 0 (by omega) h2 (by omega) (by omega) (by omega)
  rw [Int.zero_add] at this
  exact this
theorem rof_l0 (y m n : Int) (h2 : m ≤ 12) (hn : -100000000 ≤ n ∧ n ≤ 100000000) (j : Nat) : ∀ x : Int, 1 ≤ x → x + j = m → Ev (fun k => horologeref05_Of.l0 k y m (n + cm y x) x) (n + cm y m) := by
  induction j with
  | zero =>
    intro x h1 h2
    refine Ev.up ?_
    simp only [horologeref05_Of.l0]
    rw [show x = m by omega]
    exact Ev.neg (by omega) (Ev.now _)
  | succ j ih =>
    intro x h1 h3
    have c := cm_succ y x h1 (by omega)
    have b := cm_bd y x h1 (by omega)
    have l := ml_bd y x
    refine Ev.up ?_
    simp only [horologeref05_Of.l0, rmonth_is y x h1 (by omega), Option.bind_some]
    rw [wr (n := x + 1) (by omega), wr (n := n + cm y x + ml y x) (by omega)]
    have := ih (x + 1) (by omega) (by omega)
    rw [c] at this
    refine Ev.pos (by omega) ?_
    rw [show n + cm y x + ml y x = n + (cm y x + ml y x) by omega]
    exact this
theorem rof_is (y m d : Int) (hy : -9999 ≤ y ∧ y ≤ 9999) (ho : ok y m d) : Ev (fun k => horologeref05_Of.f k y m d) (nm y m d) := by
  obtain ⟨h1, h2, h3, h4⟩ := ho
  have := ml_bd y m
  have b1 := S_mono (show y ≤ 10000 by omega)
  have b2 := S_mono (show -10000 ≤ y by omega)
  have e1 : S 10000 = 2932897 := by decide
  have e2 : S (-10000) = -4371953 := by decide
  unfold horologeref05_Of.f
  refine Ev.bind (rstart_is y (by omega) (by omega)) ?_
  rw [wr (n := S y + d) (by omega), wr (n := S y + d - 1) (by omega)]
  have := rof_l0 y m (S y + d - 1) h2 (by omega) (m - 1).toNat 1 (by decide) (by omega)
  rw [cm_one, Int.add_zero] at this
  rw [show nm y m d = S y + d - 1 + cm y m by unfold nm; omega]
  exact this
theorem Minus_is {a : Bool × List Int} {x : Int} {n : Nat} (ha : Is a x n) : ∃ r, horologeref01_Minus.f a.1 a.2 = some r ∧ Is r (-x) n := by
  have va := ha.abs
  have na := ha.neg
  unfold horologeref01_Minus.f
  by_cases h : a.1 = true
  · refine ⟨(false, a.2), by rw [if_pos h], Is.mk' ha.dg ha.tr ?_ ?_ ha.le⟩
    · have := na.mp h; rw [decide_eq_false (by omega)]
    · have := na.mp h; rw [va, if_pos this, if_neg (by omega)]
  · have hx : ¬ x < 0 := fun q => h (na.mpr q)
    rw [if_neg hx] at va
    refine ⟨(decide (0 < a.2.length), a.2), by rw [if_neg h], Is.mk' ha.dg ha.tr ?_ ?_ ha.le⟩
    · rw [len_pos ha.dg ha.tr, va]; exact decide_eq_decide.mpr ⟨fun _ => by omega, fun _ => by omega⟩
    · rw [va]; split <;> omega
theorem right_is (n : Int) : era_right.f n = some (decide (1 ≤ n ∧ n ≤ 62)) := by
  unfold era_right.f
  split
  · congr 1; simp; omega
  · congr 1; simp; omega
theorem mask_is (n : Int) (h0 : 0 ≤ n) (h : n ≤ 62) : era_mask.f n = some (2 ^ n.toNat - 1) := by
  unfold era_mask.f
  have := pow62 (n := n.toNat) (by omega)
  have := pow_pos2 n.toNat
  rw [if_pos h0, shl_u64 h0 h, wrap_u64]
  congr 1; omega

/-- The rest that is nearest to 0 of a number by 2 to n, the greater half below 0. -/
def near (x : Int) (n : Nat) : Int := if 2 ^ (n - 1) ≤ x % 2 ^ n then x % 2 ^ n - 2 ^ n else x % 2 ^ n
theorem near_bd (x : Int) {n : Nat} (h : 1 ≤ n) : -(2 ^ (n - 1)) ≤ near x n ∧ near x n < 2 ^ (n - 1) := by
  have e : (2 : Int) ^ n = 2 * 2 ^ (n - 1) := by rw [← pow_succ2, Nat.sub_add_cancel h]
  have p := pow_pos2 n
  have a := Int.emod_nonneg x (Int.ne_of_gt p)
  have b := Int.emod_lt_of_pos x p
  unfold near
  split <;> omega
theorem near_mod (x : Int) (n : Nat) : ∃ q, near x n = x - 2 ^ n * q := by
  have e := Int.emod_def x (2 ^ n)
  unfold near
  split
  · exact ⟨x / 2 ^ n + 1, by rw [e, Int.mul_add]; omega⟩
  · exact ⟨x / 2 ^ n, e⟩
theorem near_uniq {x y : Int} {n : Nat} (h : 1 ≤ n) (q : Int) (e : y = x - 2 ^ n * q) (hl : -(2 ^ (n - 1)) ≤ y) (hu : y < 2 ^ (n - 1)) : near x n = y := by
  obtain ⟨q', e'⟩ := near_mod x n
  have b := near_bd x h
  have p := pow_pos2 (n - 1)
  have e2 : (2 : Int) ^ n = 2 * 2 ^ (n - 1) := by rw [← pow_succ2, Nat.sub_add_cancel h]
  have d : near x n - y = 2 ^ n * (q - q') := by rw [e', e, Int.mul_sub]; omega
  have : q - q' = 0 := by
    rcases Int.lt_trichotomy (q - q') 0 with h1 | h1 | h1
    · have := Int.mul_le_mul_of_nonneg_left (show q - q' ≤ -1 by omega) (Int.le_of_lt (pow_pos2 n)); omega
    · exact h1
    · have := Int.mul_le_mul_of_nonneg_left (show 1 ≤ q - q' by omega) (Int.le_of_lt (pow_pos2 n)); omega
  rw [this] at d; omega

/-- What Bits answers. -/
def bitsV (word n pivot : Int) : Int × Option Int := if 1 ≤ n ∧ n ≤ 62 ∧ word < 2 ^ n.toNat then ovf (pivot + near (word - pivot) n.toNat) else (0, some 1)
theorem bits_is (word n pivot : Int) (hw : 0 ≤ word ∧ word ≤ 18446744073709551615) (hn : I64 n) (hp : I64 pivot) : Ev (fun k => era_Bits.f k word n pivot) (bitsV word n pivot) := by
  unfold era_Bits.f bitsV
  refine Ev.bindc (right_is n) ?_
  by_cases hr : 1 ≤ n ∧ n ≤ 62
  · have hm := mask_is n (by omega) hr.2
    have p62 := pow62 (n := n.toNat) (by omega)
    have pp := pow_pos2 n.toNat
    simp only [decide_eq_true hr, if_true]
    refine Ev.bindc hm ?_
    refine Ev.up ?_
    by_cases hw2 : word < 2 ^ n.toNat
    · rw [if_pos ⟨hr.1, hr.2, hw2⟩]
      have hd : decide (word > 2 ^ n.toNat - 1) = false := decide_eq_false (by omega)
      simp only [hd, era_Bits.j0, Bool.false_eq_true, if_false]
      refine Ev.bindc hm ?_
      have w1 : wrap64 (n - 1) = n - 1 := wrap64_id (by unfold I64 at *; omega)
      have em : Go.bits .and .u64 (IntKind.u64.wrap (word - IntKind.u64.wrap pivot)) (2 ^ n.toNat - 1) = (word - pivot) % 2 ^ n.toNat := by
        rw [and_mask (by rw [wrap_u64]; omega) (by rw [wrap_u64]; omega) (by omega), wrap_u64, mod_mod64 _ (by omega), wrap_u64, Int.sub_emod, mod_mod64 _ (by omega), ← Int.sub_emod]
      have b0 := Int.emod_nonneg (word - pivot) (Int.ne_of_gt pp)
      have b1 := Int.emod_lt_of_pos (word - pivot) pp
      have w2 : wrap64 ((word - pivot) % 2 ^ n.toNat) = (word - pivot) % 2 ^ n.toNat := wrap64_id (by unfold I64; omega)
      have e2 : (2 : Int) ^ n.toNat = 2 * 2 ^ (n.toNat - 1) := by rw [← pow_succ2, Nat.sub_add_cancel (by omega)]
      rw [em, w2, w1, shl_i64 (by omega) (by omega), shl_i64 (by omega) (by omega), if_pos (show 0 ≤ n - 1 by omega), show (n - 1).toNat = n.toNat - 1 by omega]
      unfold near
      by_cases hh : (2 : Int) ^ (n.toNat - 1) ≤ (word - pivot) % 2 ^ n.toNat
      · rw [if_pos hh, if_pos hh, if_pos (show 0 ≤ n by omega)]
        rw [wrap64_id (n := (word - pivot) % 2 ^ n.toNat - 2 ^ n.toNat) (by unfold I64; omega)]
        exact Ev.bindc (add_is _ _ hp (by unfold I64; omega)) (Ev.now _)
      · rw [if_neg hh, if_neg hh]
        exact Ev.bindc (add_is _ _ hp (by unfold I64; omega)) (Ev.now _)
    · rw [if_neg (by omega)]
      have hd : decide (word > 2 ^ n.toNat - 1) = true := decide_eq_true (by omega)
      simp only [hd, era_Bits.j0, if_true]
      exact Ev.now _
  · rw [if_neg (by omega)]
    simp only [decide_eq_false hr, Bool.false_eq_true, if_false]
    refine Ev.up ?_
    simp only [era_Bits.j0, if_true]
    exact Ev.now _
theorem fold_l0 (t n : Int) (hn : n ≤ 62) (ht : I64 t) (m : Nat) : ∀ (i : Nat), (i : Int) + m = n → Ev (fun k => horologeref13_Fold.l0 k t n (2 ^ i) i) (t % 2 ^ n.toNat) := by
  induction m with
  | zero =>
    intro i hi
    have p62 := pow62 (n := i) (by omega)
    have pp := pow_pos2 i
    rw [show n.toNat = i by omega]
    have e0 := Int.emod_nonneg t (Int.ne_of_gt pp)
    have e1 := Int.emod_lt_of_pos t pp
    have hm : Int.tmod t (2 ^ i) = t % 2 ^ i ∨ (Int.tmod t (2 ^ i) < 0 ∧ Int.tmod t (2 ^ i) + 2 ^ i = t % 2 ^ i) := by
      by_cases h : 0 ≤ t
      · exact Or.inl (Int.tmod_eq_emod_of_nonneg h)
      · have e : t = -(-t) := by omega
        have e2 : Int.tmod t (2 ^ i) = -((-t) % 2 ^ i) := by rw [e, Int.neg_tmod, Int.tmod_eq_emod_of_nonneg (by omega), ← e]
        have a0 := Int.emod_nonneg (-t) (Int.ne_of_gt pp)
        have a1 := Int.emod_lt_of_pos (-t) pp
        by_cases hz : (-t) % 2 ^ i = 0
        · refine Or.inl ?_
          rw [e2, hz]
          have := Int.dvd_of_emod_eq_zero hz
          exact (Int.emod_eq_zero_of_dvd ((Int.dvd_neg).mp this)).symm
        · refine Or.inr ⟨by omega, ?_⟩
          rw [e2]
          have d1 := Int.emod_def (-t) (2 ^ i)
          have d2 : t = (2 ^ i - (-t) % 2 ^ i) + 2 ^ i * (-((-t) / 2 ^ i) - 1) := by
            rw [Int.mul_sub, Int.mul_neg, Int.mul_one]; omega
          have d3 := congrArg (fun z => z % (2 : Int) ^ i) d2
          simp only [Int.add_mul_emod_self_left] at d3
          rw [d3, Int.emod_eq_of_lt (a := 2 ^ i - (-t) % 2 ^ i) (b := 2 ^ i) (by omega) (by omega)]; omega
    refine Ev.up ?_
    simp only [horologeref13_Fold.l0]
    refine Ev.neg (by omega) (Ev.neg (by omega) ?_)
    rcases hm with h | ⟨h1, h2⟩
    · refine Ev.neg (by omega) ?_
      rw [h]; exact Ev.now _
    · refine Ev.pos h1 ?_
      rw [h2, wrap64_id (by unfold I64; omega)]; exact Ev.now _
  | succ m ih =>
    intro i hi
    have p62 := pow62 (n := i + 1) (by omega)
    have pp := pow_pos2 i
    rw [pow_succ2] at p62
    refine Ev.up ?_
    simp only [horologeref13_Fold.l0]
    refine Ev.pos (by omega) ?_
    have := ih (i + 1) (by omega)
    rw [wrap64_id (n := 2 ^ i * 2) (by unfold I64; omega), wrap64_id (n := (i : Int) + 1) (by unfold I64; omega)]
    rw [pow_succ2] at this
    rw [Int.mul_comm (2 ^ i) 2]
    exact this
theorem ref_fold_is (t n : Int) (h0 : 0 ≤ n) (hn : n ≤ 62) (ht : I64 t) : Ev (fun k => horologeref13_Fold.f k t n) (t % 2 ^ n.toNat) :=
  fold_l0 t n hn ht n.toNat 0 (by omega)
def en (e : Option Int) : Int := match e with | none => 0 | some c => c
theorem rnear_is {a b : Bool × List Int} {t p : Int} {m l : Nat} (ha : Is a t m) (hb : Is b p l) (hm : m ≤ 1000) (hl : l ≤ 1000) (n : Int) (h1 : 1 ≤ n) (h2 : n ≤ 62) :
    Ev (fun k => horologeref13_Near.f k a.1 a.2 b.1 b.2 n) (decide (-(2 ^ (n.toNat - 1)) ≤ t - p ∧ t - p < 2 ^ (n.toNat - 1))) := by
  unfold horologeref13_Near.f
  obtain ⟨h, p1, p2⟩ := Power_is (n - 1) (by omega) (by omega)
  obtain ⟨g, g1, g2⟩ := Minus_is p2
  obtain ⟨u, u1, u2⟩ := Plus_is hb g2 (by omega) (by decide)
  obtain ⟨v, v1, v2⟩ := Plus_is hb p2 (by omega) (by decide)
  rw [show (n - 1).toNat = n.toNat - 1 by omega] at *
  rw [wr (n := n - 1) (by omega)]
  refine Ev.bind p1 (Ev.bindc g1 (Ev.bind u1 (Ev.bind (Less_is ha u2 (by omega) (by omega)) (Ev.ite (fun q => ?_) (fun q => ?_)))))
  · have := of_decide_eq_true q
    rw [decide_eq_false (by omega)]; exact Ev.now _
  · have q' : ¬ t < p + -2 ^ (n.toNat - 1) := fun z => q (decide_eq_true z)
    refine Ev.bind v1 (Ev.bind (Less_is ha v2 (by omega) (by omega)) (Ev.cast (Ev.now _) ?_))
    exact decide_eq_decide.mpr ⟨fun z => ⟨by omega, by omega⟩, fun z => by omega⟩
theorem near_add (x : Int) (n : Nat) (q : Int) : near (x + 2 ^ n * q) n = near x n := by
  unfold near
  rw [Int.add_mul_emod_self_left]
theorem rbits_is (word n p : Int) (hw : 0 ≤ word ∧ word ≤ 18446744073709551615) (hn : I64 n) (hp : I64 p) : Ev (fun k => horologeref13_Bits.f k word n p) ((bitsV word n p).1, en (bitsV word n p).2) := by
  unfold horologeref13_Bits.f
  have bad : ¬ (1 ≤ n ∧ n ≤ 62 ∧ word < 2 ^ n.toNat) → Ev (fun k => horologeref13_Bits.j0 k word n p true) ((bitsV word n p).1, en (bitsV word n p).2) := by
    intro h
    unfold bitsV
    rw [if_neg h]
    refine Ev.up ?_
    simp only [horologeref13_Bits.j0, if_true]
    exact Ev.now _
  refine Ev.ite (fun h => bad (by omega)) (fun h1 => Ev.ite (fun h => bad (by omega)) (fun h2 => ?_))
  have wn : IntKind.u64.wrap n = n := by rw [wrap_u64]; omega
  have pp := pow_pos2 n.toNat
  have p62 := pow62 (n := n.toNat) (by omega)
  simp only [wn]
  rw [shl_u64 (by omega) (by omega)]
  refine Ev.pos (by omega) ?_
  by_cases hw2 : word ≥ 2 ^ n.toNat
  · rw [decide_eq_true hw2]; exact bad (by omega)
  · rw [decide_eq_false hw2]
    unfold bitsV
    rw [if_pos ⟨by omega, by omega, by omega⟩]
    have e2 : (2 : Int) ^ n.toNat = 2 * 2 ^ (n.toNat - 1) := by rw [← pow_succ2, Nat.sub_add_cancel (by omega)]
    have hh := pow_pos2 (n.toNat - 1)
    have f0 := Int.emod_nonneg p (Int.ne_of_gt pp)
    have f1 := Int.emod_lt_of_pos p pp
    obtain ⟨a, a1, a2⟩ := Of_is p hp
    obtain ⟨f, g1, g2⟩ := Of_is (p % 2 ^ n.toNat) (by unfold I64; omega)
    obtain ⟨m, m1, m2⟩ := Minus_is g2
    obtain ⟨u, u1, u2⟩ := Plus_is a2 m2 (by decide) (by decide)
    obtain ⟨w, w1, w2⟩ := Of_is word (by unfold I64; omega)
    obtain ⟨b, b1, b2⟩ := Plus_is u2 w2 (by decide) (by decide)
    obtain ⟨s, s1, s2⟩ := Power_is n (by omega) (by omega)
    obtain ⟨c, c1, c2⟩ := Plus_is b2 s2 (by decide) (by decide)
    obtain ⟨g, q1, q2⟩ := Minus_is s2
    obtain ⟨d, d1, d2⟩ := Plus_is b2 q2 (by decide) (by decide)
    have hd : near (word - p) n.toNat = near (word - p % 2 ^ n.toNat) n.toNat := by
      have e := Int.emod_def p (2 ^ n.toNat)
      rw [show word - p = word - p % 2 ^ n.toNat + 2 ^ n.toNat * (-(p / 2 ^ n.toNat)) by rw [Int.mul_neg]; omega, near_add]
    have hn1 : 1 ≤ n.toNat := by omega
    have fin : ∀ (x : Bool × List Int) (y : Int) (l : Nat), Is x y l → l ≤ 1000 → (near (word - p) n.toNat = y - p) → Ev (fun k => (horologeref01_Small.f k x.1 x.2).bind fun z => some (z.1, z.2)) ((ovf (p + near (word - p) n.toNat)).1, en (ovf (p + near (word - p) n.toNat)).2) := by
      intro x y l hx hl e
      refine Ev.bind (Small_is hx (by omega)) (Ev.cast (Ev.now _) ?_)
      rw [e, show p + (y - p) = y by omega]
      by_cases hi : I64 y
      · rw [smallV_in hi, ovf_in hi]; rfl
      · rw [smallV_out hi, ovf_out hi]; rfl
    refine Ev.up ?_
    simp only [horologeref13_Bits.j0, Bool.false_eq_true, if_false]
    rw [wr (n := word) (by omega)]
    refine Ev.bind a1 (Ev.bind (ref_fold_is p n (by omega) (by omega) hp) (Ev.bind g1 (Ev.bindc m1 (Ev.bind u1 (Ev.bind w1 (Ev.bind b1 (Ev.bind s1 ?_)))))))
    have hc : (-(2 ^ (n.toNat - 1)) ≤ word - p % 2 ^ n.toNat ∧ word - p % 2 ^ n.toNat < 2 ^ (n.toNat - 1)) ∨ word - p % 2 ^ n.toNat < -(2 ^ (n.toNat - 1)) ∨ 2 ^ (n.toNat - 1) ≤ word - p % 2 ^ n.toNat := by omega
    have k1 : wrap64 (0 + 1) = 1 := wr (by omega)
    have k2 : wrap64 (1 + 1) = 2 := wr (by omega)
    -- the three that are looked at
    refine Ev.up ?_
    simp only [horologeref13_Bits.l0]
    refine Ev.pos (by decide) (Ev.neg (by decide) (Ev.up ?_))
    simp only [horologeref13_Bits.j2]
    refine Ev.neg (by decide) (Ev.up ?_)
    simp only [horologeref13_Bits.j3]
    refine Ev.bind (rnear_is b2 a2 (by decide) (by decide) n (by omega) (by omega)) ?_
    refine Ev.ite (fun q => ?_) (fun q => ?_)
    · have q' := of_decide_eq_true q
      exact fin b _ _ b2 (by decide) (by rw [hd, near_uniq (y := word - p % 2 ^ n.toNat) hn1 0 (by omega) (by omega) (by omega)]; omega)
    · have q' : ¬ (-(2 ^ (n.toNat - 1)) ≤ p + -(p % 2 ^ n.toNat) + word - p ∧ p + -(p % 2 ^ n.toNat) + word - p < 2 ^ (n.toNat - 1)) := fun z => q (decide_eq_true z)
      rw [k1]
      refine Ev.up ?_
      simp only [horologeref13_Bits.l0]
      refine Ev.pos (by decide) (Ev.pos trivial (Ev.bind c1 (Ev.up ?_)))
      simp only [horologeref13_Bits.j2]
      refine Ev.neg (by decide) (Ev.up ?_)
      simp only [horologeref13_Bits.j3]
      refine Ev.bind (rnear_is c2 a2 (by decide) (by decide) n (by omega) (by omega)) ?_
      refine Ev.ite (fun r => ?_) (fun r => ?_)
      · have r' := of_decide_eq_true r
        exact fin c _ _ c2 (by decide) (by rw [hd, near_uniq (y := word - p % 2 ^ n.toNat + 2 ^ n.toNat) hn1 (-1) (by omega) (by omega) (by omega)]; omega)
      · have r' : ¬ (-(2 ^ (n.toNat - 1)) ≤ p + -(p % 2 ^ n.toNat) + word + 2 ^ n.toNat - p ∧ p + -(p % 2 ^ n.toNat) + word + 2 ^ n.toNat - p < 2 ^ (n.toNat - 1)) := fun z => r (decide_eq_true z)
        rw [k2]
        refine Ev.up ?_
        simp only [horologeref13_Bits.l0]
        refine Ev.pos (by decide) (Ev.neg (by decide) (Ev.up ?_))
        simp only [horologeref13_Bits.j2]
        refine Ev.pos trivial (Ev.bindc q1 (Ev.bind d1 (Ev.up ?_)))
        simp only [horologeref13_Bits.j3]
        refine Ev.bind (rnear_is d2 a2 (by decide) (by decide) n (by omega) (by omega)) (Ev.pos (decide_eq_true (by omega)) ?_)
        exact fin d _ _ d2 (by decide) (by rw [hd, near_uniq (y := word - p % 2 ^ n.toNat - 2 ^ n.toNat) hn1 1 (by omega) (by omega) (by omega)]; omega)
theorem split_is (a b : Int) (ha : I64 a) (hb : 0 < b) (hbb : I64 b) : Ev (fun k => num_Split.f k a b) (a / b, a % b, none) := by
  unfold num_Split.f
  obtain ⟨q, r, h1, h2, h3⟩ := div_mod a b ha hbb (by omega) (by omega)
  have p := h3.pos hb
  have e := h3.eq
  have eq : q = a / b := by
    rw [e, Int.add_comm, Int.add_mul_ediv_left _ _ (by omega), Int.ediv_eq_zero_of_lt p.1 p.2]; omega
  have er : r = a % b := by
    rw [e, Int.add_comm, Int.add_mul_emod_self_left, Int.emod_eq_of_lt p.1 p.2]
  rw [eq] at h1
  rw [er] at h2
  exact Ev.neg (by omega) (Ev.bind h1 (Ev.pos rfl (Ev.bindc h2 (Ev.pos rfl (Ev.now _)))))
/-- A moment's week and second. -/
def weekV (t : Int) : Int × Int × Option Int := if I64 (t - 315964819) then ((t - 315964819) / 604800, (t - 315964819) % 604800, none) else (0, 0, some 5)
theorem gof_is (t : Int) (ht : I64 t) : Ev (fun k => gps_Of.f k t) (weekV t) := by
  unfold gps_Of.f weekV
  refine Ev.bindc (sub_is t 315964819 ht (by unfold I64; omega)) ?_
  by_cases h : I64 (t - 315964819)
  · rw [ovf_in h, if_pos h]
    exact Ev.pos rfl (Ev.bind (split_is _ _ h (by decide) (by unfold I64; omega)) (Ev.now _))
  · rw [ovf_out h, if_neg h]
    exact Ev.neg (by simp) (Ev.now _)
/-- The moment of a week's second. -/
def taiV (w s : Int) : Int × Option Int := if 0 ≤ s ∧ s ≤ 604799 then (if I64 (w * 604800) then (if I64 (w * 604800 + s) then (if I64 (w * 604800 + s + 315964819) then (w * 604800 + s + 315964819, none) else (0, some 5)) else (0, some 5)) else (0, some 5)) else (0, some 1)
theorem tai_is (w s : Int) (hw : I64 w) (hs : I64 s) : Ev (fun k => gps_Tai.f k w s) (taiV w s) := by
  unfold gps_Tai.f taiV
  have bad : ¬ (0 ≤ s ∧ s ≤ 604799) → Ev (fun k => gps_Tai.j0 k w s true) (if 0 ≤ s ∧ s ≤ 604799 then (if I64 (w * 604800) then (if I64 (w * 604800 + s) then (if I64 (w * 604800 + s + 315964819) then (w * 604800 + s + 315964819, none) else (0, some 5)) else (0, some 5)) else (0, some 5)) else (0, some 1)) := by
    intro h
    rw [if_neg h]
    refine Ev.up ?_
    simp only [gps_Tai.j0, if_true]
    exact Ev.now _
  refine Ev.ite (fun h => bad (by omega)) (fun h => ?_)
  by_cases h2 : s ≥ 604800
  · rw [decide_eq_true h2]; exact bad (by omega)
  · rw [decide_eq_false h2, if_pos (by omega)]
    refine Ev.up ?_
    simp only [gps_Tai.j0, Bool.false_eq_true, if_false]
    refine Ev.bind (mul_is w 604800 hw (by unfold I64; omega)) ?_
    by_cases h3 : I64 (w * 604800)
    · rw [ovf_in h3, if_pos h3]
      have hl : ∀ x ∈ [w * 604800, s, 315964819], I64 x := by
        intro x hx
        rcases List.mem_cons.mp hx with e | hx
        · rw [e]; exact h3
        · rcases List.mem_cons.mp hx with e | hx
          · rw [e]; exact hs
          · rw [List.mem_singleton.mp hx]; unfold I64; omega
      have hsum := sum_l0 [w * 604800, s, 315964819] hl (by simp) 3 0 0 (by unfold I64; omega) rfl
      refine Ev.pos rfl (Ev.bind (a := if I64 (w * 604800 + s) then (if I64 (w * 604800 + s + 315964819) then (w * 604800 + s + 315964819, none) else (0, some 5)) else (0, some 5)) ?_ (Ev.now _))
      unfold num_Sum.f
      refine Ev.cast hsum ?_
      rw [List.drop_zero]
      simp only [sumV, Int.zero_add, if_pos h3]
    · rw [ovf_out h3, if_neg h3]
      exact Ev.neg (by simp) (Ev.now _)
theorem rbegin_is : Ev (fun k => horologeref14_Begin.f k) 315964819 := by
  unfold horologeref14_Begin.f
  refine Ev.bind (rof_is 1980 1 6 (by decide) (by decide)) (Ev.cast (Ev.now _) ?_)
  rw [show nm 1980 1 6 = 3657 by decide]
  rw [wr (n := 3657 * 86400) (by omega), wr (by omega)]
  rfl
theorem rtai_is (w s : Int) (hw : I64 w) (hs : I64 s) : Ev (fun k => horologeref14_Tai.f k w s) ((taiV w s).1, en (taiV w s).2) := by
  unfold horologeref14_Tai.f taiV
  have bad : ¬ (0 ≤ s ∧ s ≤ 604799) → Ev (fun k => horologeref14_Tai.j0 k w s true) (((if 0 ≤ s ∧ s ≤ 604799 then (if I64 (w * 604800) then (if I64 (w * 604800 + s) then (if I64 (w * 604800 + s + 315964819) then (w * 604800 + s + 315964819, none) else (0, some 5)) else (0, some 5)) else (0, some 5)) else (0, some 1)) : Int × Option Int).1, en ((if 0 ≤ s ∧ s ≤ 604799 then (if I64 (w * 604800) then (if I64 (w * 604800 + s) then (if I64 (w * 604800 + s + 315964819) then (w * 604800 + s + 315964819, none) else (0, some 5)) else (0, some 5)) else (0, some 5)) else (0, some 1)) : Int × Option Int).2) := by
    intro h
    rw [if_neg h]
    refine Ev.up ?_
    simp only [horologeref14_Tai.j0, if_true]
    exact Ev.now _
  refine Ev.ite (fun h => bad (by omega)) (fun h => ?_)
  by_cases h2 : s > 604799
  · rw [decide_eq_true h2]; exact bad (by omega)
  · rw [decide_eq_false h2, if_pos (by omega)]
    refine Ev.up ?_
    simp only [horologeref14_Tai.j0, Bool.false_eq_true, if_false]
    obtain ⟨a, a1, a2⟩ := Of_is w hw
    obtain ⟨b, b1, b2⟩ := Of_is 604800 (by unfold I64; omega)
    obtain ⟨m, m1, m2⟩ := Times_is a2 b2 (by decide) (by decide)
    obtain ⟨c, c1, c2⟩ := Of_is s hs
    obtain ⟨p, p1, p2⟩ := Plus_is m2 c2 (by decide) (by decide)
    obtain ⟨d, d1, d2⟩ := Of_is 315964819 (by unfold I64; omega)
    obtain ⟨q, q1, q2⟩ := Plus_is p2 d2 (by decide) (by decide)
    refine Ev.bind a1 (Ev.bind b1 (Ev.bind m1 (Ev.bind (Small_is m2 (by decide)) ?_)))
    by_cases h3 : I64 (w * 604800)
    · rw [smallV_in h3, if_pos h3]
      refine Ev.pos rfl (Ev.bind c1 (Ev.bind p1 (Ev.bind (Small_is p2 (by decide)) ?_)))
      by_cases h4 : I64 (w * 604800 + s)
      · rw [smallV_in h4, if_pos h4]
        refine Ev.pos rfl (Ev.bind rbegin_is (Ev.bind d1 (Ev.bind q1 (Ev.bind (Small_is q2 (by decide)) (Ev.cast (Ev.now _) ?_)))))
        by_cases h5 : I64 (w * 604800 + s + 315964819)
        · rw [smallV_in h5, if_pos h5]; rfl
        · rw [smallV_out h5, if_neg h5]; rfl
      · rw [smallV_out h4, if_neg h4]
        exact Ev.neg (by decide) (Ev.now _)
    · rw [smallV_out h3, if_neg h3]
      exact Ev.neg (by decide) (Ev.now _)
theorem rgof_is (t : Int) (ht : I64 t) : Ev (fun k => horologeref14_Of.f k t) ((weekV t).1, (weekV t).2.1, en (weekV t).2.2) := by
  unfold horologeref14_Of.f weekV
  obtain ⟨a, a1, a2⟩ := Of_is t ht
  obtain ⟨b, b1, b2⟩ := Of_is 315964819 (by unfold I64; omega)
  obtain ⟨m, m1, m2⟩ := Minus_is b2
  obtain ⟨p, p1, p2⟩ := Plus_is a2 m2 (by decide) (by decide)
  have e : t + -315964819 = t - 315964819 := by omega
  rw [e] at p2
  refine Ev.bind a1 (Ev.bind rbegin_is (Ev.bind b1 (Ev.bindc m1 (Ev.bind p1 (Ev.bind (Small_is p2 (by decide)) ?_)))))
  by_cases h : I64 (t - 315964819)
  · rw [smallV_in h, if_pos h]
    refine Ev.pos rfl ?_
    unfold I64 at h
    have tb := tmod_is (t - 315964819) 604800
    have td := tdiv_is (t - 315964819) 604800
    simp only [tb, td]
    by_cases hn : t - 315964819 < 0
    · simp only [if_pos hn]
      refine Ev.ite (fun q => ?_) (fun q => ?_)
      · rw [wr (n := -(-(t - 315964819) / 604800)) (by omega), wr (n := -(-(t - 315964819) / 604800) - 1) (by omega), wr (by omega)]
        refine Ev.cast (Ev.now _) ?_
        rw [show -(-(t - 315964819) / 604800) - 1 = (t - 315964819) / 604800 by omega, show -(-(t - 315964819) % 604800) + 604800 = (t - 315964819) % 604800 by omega]
        rfl
      · rw [wr (by omega)]
        refine Ev.cast (Ev.now _) ?_
        rw [show -(-(t - 315964819) / 604800) = (t - 315964819) / 604800 by omega, show -(-(t - 315964819) % 604800) = (t - 315964819) % 604800 by omega]
        rfl
    · simp only [if_neg hn]
      refine Ev.neg (by omega) ?_
      rw [wr (by omega)]
      exact Ev.now _
  · rw [smallV_out h, if_neg h]
    exact Ev.neg (by decide) (Ev.now _)
/-- A short week, brought back. -/
def glongV (s p : Int) : Int × Option Int := if s < 0 then (0, some 1) else bitsV s 10 p
theorem glong_is (s p : Int) (hs : I64 s) (hp : I64 p) : Ev (fun k => gps_Long.f k s p) (glongV s p) := by
  unfold gps_Long.f glongV
  have hs' := hs
  unfold I64 at hs'
  refine Ev.ite (fun h => ?_) (fun h => ?_)
  · rw [if_pos h]; exact Ev.now _
  · rw [if_neg h, show IntKind.u64.wrap s = s by rw [wrap_u64]; omega]
    exact Ev.bind (bits_is s 10 p (by omega) (by unfold I64; omega) hp) (Ev.now _)
theorem rglong_is (s p : Int) (hs : I64 s) (hp : I64 p) : Ev (fun k => horologeref14_Long.f k s p) ((glongV s p).1, en (glongV s p).2) := by
  unfold horologeref14_Long.f glongV
  have hs' := hs
  unfold I64 at hs'
  have e10 : (2 : Int) ^ (10 : Int).toNat = 1024 := by decide
  refine Ev.ite (fun h => ?_) (fun h => Ev.ite (fun h2 => ?_) (fun h2 => ?_))
  · rw [if_pos h]; exact Ev.now _
  · rw [if_neg h]
    unfold bitsV
    rw [e10, if_neg (by omega)]
    exact Ev.now _
  · rw [if_neg h, show IntKind.u64.wrap s = s by rw [wrap_u64]; omega]
    exact Ev.bind (rbits_is s 10 p (by omega) (by unfold I64; omega) hp) (Ev.now _)
theorem glongV_cases (s p : Int) : (∃ l, glongV s p = (l, none) ∧ I64 l) ∨ (∃ q, glongV s p = (0, some q) ∧ q ≠ 0) := by
  unfold glongV
  by_cases h : s < 0
  · rw [if_pos h]; exact Or.inr ⟨1, rfl, by decide⟩
  · rw [if_neg h]
    unfold bitsV
    by_cases h2 : 1 ≤ (10 : Int) ∧ (10 : Int) ≤ 62 ∧ s < 2 ^ (10 : Int).toNat
    · rw [if_pos h2]
      by_cases h3 : I64 (p + near (s - p) (10 : Int).toNat)
      · exact Or.inl ⟨_, ovf_in h3, h3⟩
      · exact Or.inr ⟨5, ovf_out h3, by decide⟩
    · rw [if_neg h2]; exact Or.inr ⟨1, rfl, by decide⟩
theorem alive_is : Ev (fun k => horologelaw14_alive.f k) true := Ev.of (fun k => horologelaw14_alive.mono k) (k := 10) (by kernel_rfl)
theorem num_en (e : Option Int) (h : e ≠ some 0) : horologenum_Num.f e = some (en e) := by
  rw [num_is]
  cases e with
  | none => rfl
  | some c =>
    have : c ≠ 0 := fun q => h (by rw [q])
    simp [en, this]
theorem taiV_err (w s : Int) : (taiV w s).2 ≠ some 0 := by
  unfold taiV
  repeat' split
  all_goals simp
def nearV (s n p : Int) : Int × Option Int :=
  match weekV p with
  | (_, _, some q) => (0, some q)
  | (w, _, none) => match glongV s w with
    | (_, some q) => (0, some q)
    | (l, none) => taiV l n
theorem weekV_cases (t : Int) (ht : I64 t) : (∃ w s, weekV t = (w, s, none) ∧ I64 w) ∨ weekV t = (0, 0, some 5) := by
  unfold weekV
  by_cases h : I64 (t - 315964819)
  · rw [if_pos h]
    unfold I64 at h
    exact Or.inl ⟨_, _, rfl, by unfold I64; omega⟩
  · rw [if_neg h]; exact Or.inr rfl
theorem gnear_is (s n p : Int) (hs : I64 s) (hn : I64 n) (hp : I64 p) : Ev (fun k => gps_Near.f k s n p) (nearV s n p) := by
  unfold gps_Near.f nearV
  refine Ev.bind (gof_is p hp) ?_
  rcases weekV_cases p hp with ⟨w, x, e, hw⟩ | e
  · rw [e]
    refine Ev.pos rfl (Ev.bind (glong_is s w hs hw) ?_)
    simp only []
    rcases glongV_cases s w with ⟨l, e2, hl⟩ | ⟨q, e2, hq⟩
    · rw [e2]
      exact Ev.pos rfl (Ev.bind (tai_is l n hl hn) (Ev.now _))
    · rw [e2]
      exact Ev.neg (by simp) (Ev.now _)
  · rw [e]
    exact Ev.neg (by simp) (Ev.now _)
end Go.Proofs.Ytjameiglfecagaa.MGpsShorts
namespace Go.Proofs.Ytjameiglfecagaa.Pure
open Go.RowKit Go.Proofs.Ytjameiglfecagaa.MGpsShorts Go.Proofs.YtjameiglfecagaaW.PrintWords Go.Proofs.YtjameiglfecagaaW.PrintLast Go.Proofs.Ytjameiglfecagaa.Base
set_option linter.unusedVariables false
set_option linter.unusedSimpArgs false
theorem GpsShorts : horologelaw14_GpsShorts.Pure := by
  intro s n p hs hn hp
  replace hs := i64_of hs
  replace hn := i64_of hn
  replace hp := i64_of hp
  refine Ev.ok (g := fun k => horologelaw14_GpsShorts.f k s n p) ?_
  unfold horologelaw14_GpsShorts.f
  have ne : ∀ w, (glongV s w).2 ≠ some 0 := by
    intro w
    rcases glongV_cases s w with ⟨l, e, _⟩ | ⟨q, e, hq⟩
    · rw [e]; simp
    · rw [e]; intro h; exact hq (Option.some.inj h)
  refine Ev.bind alive_is (Ev.pos rfl (Ev.bind (glong_is s p hs hp) (Ev.bind (rglong_is s p hs hp) (Ev.pos rfl (Ev.bindc (num_en _ (ne p)) ?_)))))
  rw [bne_self_eq_false]
  refine Ev.up ?_
  simp only [horologelaw14_GpsShorts.j0, Bool.false_eq_true, if_false]
  refine Ev.bind (gnear_is s n p hs hn hp) (Ev.bind (rgof_is p hp) ?_)
  unfold nearV
  rcases weekV_cases p hp with ⟨w, x, e, hw⟩ | e
  · rw [e]
    refine Ev.pos rfl (Ev.bind (rglong_is s w hs hw) ?_)
    simp only []
    rcases glongV_cases s w with ⟨l, e2, hl⟩ | ⟨q, e2, hq⟩
    · rw [e2]
      refine Ev.up ?_
      simp only [horologelaw14_GpsShorts.j1]
      exact Ev.pos rfl (Ev.bind (rtai_is l n hl hn) (Ev.pos rfl (Ev.bindc (num_en _ (taiV_err l n)) (Ev.cast (Ev.now _) (beq_self_eq_true _)))))
    · rw [e2]
      refine Ev.up ?_
      simp only [horologelaw14_GpsShorts.j1]
      refine Ev.neg hq (Ev.pos trivial (Ev.bindc (num_en (some q) (fun h => hq (Option.some.inj h))) (Ev.cast (Ev.now _) (beq_self_eq_true _))))
  · rw [e]
    refine Ev.neg (by decide) (Ev.up ?_)
    simp only [horologelaw14_GpsShorts.j1]
    exact Ev.neg (by decide) (Ev.pos trivial (Ev.bindc (num_en (some 5) (by simp)) (Ev.cast (Ev.now _) (beq_self_eq_true _))))
end Go.Proofs.Ytjameiglfecagaa.Pure
