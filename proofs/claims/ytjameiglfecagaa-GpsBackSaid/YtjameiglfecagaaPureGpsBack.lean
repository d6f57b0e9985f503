/- GpsBack: weeks and seconds, texts and short weeks undo one another. For every input of Go's kinds; no further condition. -/
import Derived.Test.YtjameiglfecagaaMGpsBackx
import Derived.Test.YtjameiglfecagaaScanBase
namespace Go.Proofs.Ytjameiglfecagaa.MGpsBack
open Go.RowKit Go.Proofs.YtjameiglfecagaaW.PrintWords Go.Proofs.YtjameiglfecagaaW.PrintLast Go.Proofs.YtjameiglfecagaaW.PrintMore Go.Proofs.Ytjameiglfecagaa.Base
set_option linter.unusedVariables false
set_option linter.unusedSimpArgs false

theorem sub_is (a b : Int) (ha : I64 a) (hb : I64 b) : num_Sub.f a b = some (ovf (a - b)) := by
  unfold I64 at ha hb
  unfold num_Sub.f ovf
  by_cases h : I64 (a - b)
  · have w := wrap64_id h
    unfold I64 at h
    rw [w, if_pos (show I64 (a - b) from h)]
    repeat' split
    all_goals first | rfl | omega
  · rw [if_neg h]
    unfold I64 at h
    unfold wrap64
    repeat' split
    all_goals first | rfl | (exfalso; omega)
theorem add_is (a b : Int) (ha : I64 a) (hb : I64 b) : num_Add.f a b = some (ovf (a + b)) := by
  unfold I64 at ha hb
  unfold num_Add.f ovf
  by_cases h : I64 (a + b)
  · have w := wrap64_id h
    unfold I64 at h
    rw [w, if_pos (show I64 (a + b) from h)]
    repeat' split
    all_goals first | rfl | omega
  · rw [if_neg h]
    unfold I64 at h
    unfold wrap64
    repeat' split
    all_goals first | rfl | (exfalso; omega)
theorem num_is (e : Option Int) : horologenum_Num.f e = some (match e with | none => 0 | some c => if c = 0 then -1 else c) := by
  unfold horologenum_Num.f
  cases e <;> simp
  split <;> rfl
theorem and32 {x : Int} (h0 : 0 ≤ x) (h : x < 18446744073709551616) : Go.bits .and .u64 x 4294967295 = x % 4294967296 := and_mask h0 h (n := 32) (by decide)
theorem mul64_is (a b : Int) (ha : 0 ≤ a ∧ a < 18446744073709551616) (hb : 0 ≤ b ∧ b < 18446744073709551616) :
    bits_Mul64.f a b = some (a * b / 18446744073709551616, a * b % 18446744073709551616) := by
  unfold bits_Mul64.f
  rw [and32 ha.1 ha.2, and32 hb.1 hb.2]
  have hp : ∀ x y : Int, 0 ≤ x → x ≤ 4294967295 → 0 ≤ y → y ≤ 4294967295 → 0 ≤ x * y ∧ x * y ≤ 18446744065119617025 := fun x y h1 h2 h3 h4 =>
    ⟨Int.mul_nonneg h1 h3, by have := Int.mul_le_mul h2 h4 h3 (by decide); omega⟩
  have e : a * b = 18446744073709551616 * ((a / 4294967296) * (b / 4294967296)) + 4294967296 * ((a / 4294967296) * (b % 4294967296) + (a % 4294967296) * (b / 4294967296)) + (a % 4294967296) * (b % 4294967296) := by
    have ea : a = 4294967296 * (a / 4294967296) + a % 4294967296 := by omega
    have eb : b = 4294967296 * (b / 4294967296) + b % 4294967296 := by omega
    generalize a / 4294967296 = a1 at *
    generalize a % 4294967296 = a0 at *
    generalize b / 4294967296 = b1 at *
    generalize b % 4294967296 = b0 at *
    subst ea eb
    simp only [Int.mul_add, Int.add_mul, Int.mul_assoc, Int.mul_left_comm a1 4294967296, Int.mul_left_comm a0 4294967296]
    omega
  have h11 := hp (a / 4294967296) (b / 4294967296) (by omega) (by omega) (by omega) (by omega)
  have h10 := hp (a / 4294967296) (b % 4294967296) (by omega) (by omega) (by omega) (by omega)
  have h01 := hp (a % 4294967296) (b / 4294967296) (by omega) (by omega) (by omega) (by omega)
  have h00 := hp (a % 4294967296) (b % 4294967296) (by omega) (by omega) (by omega) (by omega)
  rw [e]
  clear hp e
  generalize (a / 4294967296) * (b / 4294967296) = p11 at *
  generalize (a / 4294967296) * (b % 4294967296) = p10 at *
  generalize (a % 4294967296) * (b / 4294967296) = p01 at *
  generalize (a % 4294967296) * (b % 4294967296) = p00 at *
  clear ha hb
  have w11 : IntKind.u64.wrap p11 = p11 := by rw [wrap_u64]; omega
  have w10 : IntKind.u64.wrap p10 = p10 := by rw [wrap_u64]; omega
  have w01 : IntKind.u64.wrap p01 = p01 := by rw [wrap_u64]; omega
  have w00 : IntKind.u64.wrap p00 = p00 := by rw [wrap_u64]; omega
  have wt : IntKind.u64.wrap (p10 + p00 / 4294967296) = p10 + p00 / 4294967296 := by rw [wrap_u64]; omega
  rw [w11, w10, w01, w00, wt, and32 (by omega) (by omega)]
  rw [wrap_u64, wrap_u64, wrap_u64, wrap_u64]
  congr 2
  omega
theorem size_is (a : Int) (ha : I64 a) : num_size.f a = some (if a < 0 then -a else a) := by
  unfold I64 at ha
  unfold num_size.f
  split
  · rw [wrap_u64, wrap_u64]; congr 1; omega
  · rw [wrap_u64]; congr 1; omega
theorem signed_is (n : Int) (below : Bool) (h0 : 0 ≤ n) (h : n < 18446744073709551616) : Ev (fun k => num_signed.f k n below) (ovf (if below = true then -n else n)) := by
  unfold num_signed.f
  cases below with
  | true =>
    simp only [if_true]
    refine Ev.up ?_
    simp only [num_signed.j0]
    refine Ev.ite (fun q => ?_) (fun q => ?_)
    · have := of_decide_eq_true q
      rw [ovf_in (by unfold I64; omega)]
      refine Ev.cast (Ev.now _) ?_
      rw [wrap_u64]
      congr 1
      unfold wrap64; omega
    · have : ¬ n ≤ 9223372036854775808 := fun h => q (decide_eq_true h)
      rw [ovf_out (by unfold I64; omega)]
      simp only [if_true]
      exact Ev.now _
  | false =>
    simp only [Bool.false_eq_true, if_false]
    refine Ev.up ?_
    simp only [num_signed.j0, Bool.false_eq_true, if_false]
    refine Ev.ite (fun q => ?_) (fun q => ?_)
    · rw [ovf_in (by unfold I64; omega), wrap64_id (by unfold I64; omega)]
      exact Ev.now _
    · rw [ovf_out (by unfold I64; omega)]
      exact Ev.now _
theorem mul_is (a b : Int) (ha : I64 a) (hb : I64 b) : Ev (fun k => num_Mul.f k a b) (ovf (a * b)) := by
  have ha' := ha
  have hb' := hb
  unfold I64 at ha' hb'
  have hsa : 0 ≤ (if a < 0 then -a else a) ∧ (if a < 0 then -a else a) ≤ 9223372036854775808 := by split <;> omega
  have hsb : 0 ≤ (if b < 0 then -b else b) ∧ (if b < 0 then -b else b) ≤ 9223372036854775808 := by split <;> omega
  have hp := Int.mul_nonneg hsa.1 hsb.1
  have hs : a * b = (if ((decide (a < 0)) != (decide (b < 0))) = true then -((if a < 0 then -a else a) * (if b < 0 then -b else b)) else (if a < 0 then -a else a) * (if b < 0 then -b else b)) := by
    by_cases h1 : a < 0
    · by_cases h2 : b < 0
      · simp only [if_pos h1, if_pos h2, decide_eq_true h1, decide_eq_true h2, bne_self_eq_false, Bool.false_eq_true, if_false, Int.neg_mul_neg]
      · simp only [if_pos h1, if_neg h2, decide_eq_true h1, decide_eq_false h2, Bool.bne_false, if_true, Int.neg_mul, Int.neg_neg]
    · by_cases h2 : b < 0
      · simp only [if_neg h1, if_pos h2, decide_eq_false h1, decide_eq_true h2, Bool.bne_true, Bool.not_false, if_true, Int.mul_neg, Int.neg_neg]
      · simp only [if_neg h1, if_neg h2, decide_eq_false h1, decide_eq_false h2, bne_self_eq_false, Bool.false_eq_true, if_false]
  unfold num_Mul.f
  refine Ev.bindc (size_is a ha) (Ev.bindc (size_is b hb) (Ev.bindc (mul64_is _ _ (by omega) (by omega)) ?_))
  rw [hs]
  generalize (if a < 0 then -a else a) * (if b < 0 then -b else b) = p at *
  generalize ((decide (a < 0)) != (decide (b < 0))) = s at *
  clear hs hsa hsb
  refine Ev.ite (fun q => ?_) (fun q => ?_)
  · rw [show p % 18446744073709551616 = p by omega]
    exact Ev.bind (signed_is p s hp (by omega)) (Ev.now _)
  · rw [ovf_out (by unfold I64; split <;> omega)]
    exact Ev.now _
/-- The sum of numbers, from one on; too great as soon as a sum on the way is. -/
def sumV : Int → List Int → Int × Option Int
  | v, [] => (v, none)
  | v, x :: xs => if I64 (v + x) then sumV (v + x) xs else (0, some 5)
theorem rd_drop {l : List Int} {i : Nat} (h : i < l.length) : l.drop i = rd l i :: l.drop (i + 1) := by
  unfold rd
  rw [List.drop_eq_getElem_cons h]
  simp [h]
theorem sum_l0 (l : List Int) (hl : ∀ x ∈ l, I64 x) (hn : l.length ≤ 1000) (m : Nat) : ∀ (i : Nat) (v : Int), I64 v → i + m = l.length → Ev (fun k => num_Sum.l0 k v l (l.length : Int) i) (sumV v (l.drop i)) := by
  induction m with
  | zero =>
    intro i v hv hi
    rw [List.drop_eq_nil_of_le (by omega)]
    refine Ev.up ?_
    simp only [num_Sum.l0, sumV]
    exact Ev.neg (by omega) (Ev.now _)
  | succ m ih =>
    intro i v hv hi
    have hd := rd_drop (l := l) (i := i) (by omega)
    have hx : I64 (rd l i) := hl _ (List.mem_of_mem_drop (hd ▸ List.mem_cons_self))
    rw [hd]
    refine Ev.up ?_
    simp only [num_Sum.l0, sumV]
    refine Ev.pos (by omega) (Ev.pos (by omega) (Ev.pos (by omega) (Ev.bindc (add_is v _ hv hx) ?_)))
    by_cases h : I64 (v + rd l i)
    · rw [ovf_in h, if_pos h, wr (n := (i : Int) + 1) (by omega)]
      exact Ev.pos rfl (ih (i + 1) _ h (by omega))
    · rw [ovf_out h, if_neg h]
      exact Ev.neg (by simp) (Ev.now _)
/-- A quotient and its rest. -/
structure DM (a b q r : Int) : Prop where
  eq : a = b * q + r
  pos : 0 < b → 0 ≤ r ∧ r < b
  neg : b < 0 → b < r ∧ r ≤ 0
  iq : I64 q
theorem tdm (a b : Int) : b * Int.tdiv a b + Int.tmod a b = a := Int.mul_tdiv_add_tmod a b
theorem tmod_bd (a b : Int) (hb : b ≠ 0) : (0 ≤ a → 0 ≤ Int.tmod a b) ∧ (a ≤ 0 → Int.tmod a b ≤ 0) ∧ (0 < b → -b < Int.tmod a b ∧ Int.tmod a b < b) ∧ (b < 0 → b < Int.tmod a b ∧ Int.tmod a b < -b) := by
  rw [tmod_is]
  by_cases h : a < 0
  · rw [if_pos h]
    have e0 := Int.emod_nonneg (-a) hb
    refine ⟨fun _ => by omega, fun _ => by omega, fun p => ?_, fun p => ?_⟩
    · have := Int.emod_lt_of_pos (-a) p; omega
    · have := Int.emod_lt_of_pos (-a) (show 0 < -b by omega); rw [Int.emod_neg] at this; omega
  · rw [if_neg h]
    have e0 := Int.emod_nonneg a hb
    refine ⟨fun _ => e0, fun q => ?_, fun p => ?_, fun p => ?_⟩
    · have : a = 0 := by omega
      subst this; simp
    · have := Int.emod_lt_of_pos a p; omega
    · have := Int.emod_lt_of_pos a (show 0 < -b by omega); rw [Int.emod_neg] at this; omega
theorem tdiv_bd (a b : Int) (ha : I64 a) (hb : b ≠ 0) (hx : ¬ (a = -9223372036854775808 ∧ b = -1)) : I64 (Int.tdiv a b) ∧ (Int.tmod a b ≠ 0 → ((a < 0 ∧ 0 < b) ∨ (0 ≤ a ∧ b < 0)) → I64 (Int.tdiv a b - 1)) := by
  have e := tdm a b
  obtain ⟨t1, t2, t3, t4⟩ := tmod_bd a b hb
  unfold I64 at *
  generalize Int.tdiv a b = u at *
  generalize Int.tmod a b = t at *
  by_cases hu0 : u = 0
  · subst hu0
    constructor
    · omega
    · intro z s; omega
  rcases Int.lt_or_gt_of_ne hb with h | h
  · have t4 := t4 h
    rcases Int.lt_or_le u 0 with hu | hu
    · have m := Int.mul_le_mul_of_nonpos_right (show b ≤ -1 by omega) (show u ≤ 0 by omega)
      have m' := Int.mul_le_mul_of_nonpos_left (show b ≤ 0 by omega) (show u ≤ -1 by omega)
      constructor
      · omega
      · intro z s; omega
    · have m := Int.mul_le_mul_of_nonneg_right (show b ≤ -1 by omega) hu
      have m' := Int.mul_le_mul_of_nonpos_left (show b ≤ 0 by omega) (show 1 ≤ u by omega)
      by_cases hb1 : b = -1
      · subst hb1
        constructor
        · omega
        · intro z s; omega
      · have m2 := Int.mul_le_mul_of_nonneg_right (show b ≤ -2 by omega) hu
        constructor
        · omega
        · intro z s; omega
  · have t3 := t3 h
    rcases Int.lt_or_le u 0 with hu | hu
    · have m := Int.mul_le_mul_of_nonpos_right (show 1 ≤ b by omega) (show u ≤ 0 by omega)
      have m' := Int.mul_le_mul_of_nonneg_left (show u ≤ -1 by omega) (show 0 ≤ b by omega)
      constructor
      · omega
      · intro z s; omega
    · have m := Int.mul_le_mul_of_nonneg_right (show 1 ≤ b by omega) hu
      have m' := Int.mul_le_mul_of_nonneg_left (show 1 ≤ u by omega) (show 0 ≤ b by omega)
      constructor
      · omega
      · intro z s; omega
theorem div_mod (a b : Int) (ha : I64 a) (hbb : I64 b) (hb : b ≠ 0) (hx : ¬ (a = -9223372036854775808 ∧ b = -1)) :
    ∃ q r, Ev (fun k => num_Div.f k a b) (q, none) ∧ num_Mod.f a b = some (r, none) ∧ DM a b q r := by
  have e := tdm a b
  have bd := tmod_bd a b hb
  obtain ⟨t1, t2, t3, t4⟩ := bd
  obtain ⟨i1, i2⟩ := tdiv_bd a b ha hb hx
  have hd : ∀ v, Ev (fun k => num_Div.j0 k a b false) v → Ev (fun k => num_Div.f k a b) v := by
    intro v h
    unfold num_Div.f
    refine Ev.neg hb (Ev.ite (fun q => ?_) (fun _ => h))
    rw [beq_eq_false_iff_ne.mpr (fun z => hx ⟨q, z⟩)]
    exact h
  unfold num_Mod.f
  rw [if_neg hb]
  by_cases hz : Int.tmod a b = 0
  · refine ⟨Int.tdiv a b, 0, hd _ (Ev.up ?_), ?_, ⟨by omega, fun _ => by omega, fun _ => by omega, i1⟩⟩
    · simp only [num_Div.j0, Bool.false_eq_true, if_false]
      rw [wrap64_id i1]
      exact Ev.neg hb (Ev.pos hz (Ev.now _))
    · by_cases hm : b = -1
      · rw [if_pos hm]
      · rw [if_neg hm, if_pos hz, hz]
  · have hm : b ≠ -1 := by
      intro h
      have := t4 (by omega)
      omega
    rw [if_neg hm, if_neg hz]
    by_cases hs : (a < 0 ∧ 0 < b) ∨ (0 ≤ a ∧ b < 0)
    · have i2 := i2 hz hs
      refine ⟨Int.tdiv a b - 1, Int.tmod a b + b, hd _ (Ev.up ?_), ?_, ⟨by rw [Int.mul_sub, Int.mul_one]; omega, fun _ => by omega, fun _ => by omega, i2⟩⟩
      · simp only [num_Div.j0, Bool.false_eq_true, if_false]
        rw [wrap64_id i1, wrap64_id i2]
        refine Ev.neg hb (Ev.neg hz (Ev.pos ?_ (Ev.now _)))
        rcases hs with ⟨p, q⟩ | ⟨p, q⟩
        · rw [decide_eq_true p, decide_eq_false (by omega)]; rfl
        · rw [decide_eq_false (by omega), decide_eq_true q]; rfl
      · have w : wrap64 (Int.tmod a b + b) = Int.tmod a b + b := wrap64_id (by unfold I64 at *; omega)
        rw [w, if_pos]
        rcases hs with ⟨p, q⟩ | ⟨p, q⟩
        · rw [decide_eq_true (by omega), decide_eq_false (by omega)]; rfl
        · rw [decide_eq_false (by omega), decide_eq_true q]; rfl
    · refine ⟨Int.tdiv a b, Int.tmod a b, hd _ (Ev.up ?_), ?_, ⟨by omega, fun _ => by omega, fun _ => by omega, i1⟩⟩
      · simp only [num_Div.j0, Bool.false_eq_true, if_false]
        rw [wrap64_id i1]
        refine Ev.neg hb (Ev.neg hz (Ev.neg ?_ (Ev.now _)))
        by_cases p : a < 0
        · rw [decide_eq_true p, decide_eq_true (by omega)]; decide
        · rw [decide_eq_false p, decide_eq_false (by omega)]; decide
      · rw [if_neg]
        by_cases p : a < 0
        · rw [decide_eq_true (by omega), decide_eq_true (by omega)]; decide
        · rw [decide_eq_false (by omega), decide_eq_false (by omega)]; decide
theorem div_zero (a : Int) : Ev (fun k => num_Div.f k a 0) (0, some 1) ∧ num_Mod.f a 0 = some (0, some 1) := by
  constructor
  · unfold num_Div.f
    exact Ev.pos rfl (Ev.now _)
  · rfl
theorem div_over : Ev (fun k => num_Div.f k (-9223372036854775808) (-1)) (0, some 5) ∧ num_Mod.f (-9223372036854775808) (-1) = some (0, none) := by
  constructor
  · unfold num_Div.f
    refine Ev.neg (by decide) (Ev.pos rfl (Ev.up ?_))
    simp only [num_Div.j0, BEq.rfl, if_true]
    exact Ev.now _
  · rfl
theorem split_is (a b : Int) (ha : I64 a) (hb : 0 < b) (hbb : I64 b) : Ev (fun k => num_Split.f k a b) (a / b, a % b, none) := by
  unfold num_Split.f
  obtain ⟨q, r, h1, h2, h3⟩ := div_mod a b ha hbb (by omega) (by omega)
  have p := h3.pos hb
  have e := h3.eq
  have eq : q = a / b := by
    rw [e, Int.add_comm, Int.add_mul_ediv_left _ _ (by omega), Int.ediv_eq_zero_of_lt p.1 p.2]; omega
  have er : r = a % b := by
    rw [e, Int.add_comm, Int.add_mul_emod_self_left, Int.emod_eq_of_lt p.1 p.2]
  rw [eq] at h1
  rw [er] at h2
  exact Ev.neg (by omega) (Ev.bind h1 (Ev.pos rfl (Ev.bindc h2 (Ev.pos rfl (Ev.now _)))))
/-- A moment's week and second. -/
def weekV (t : Int) : Int × Int × Option Int := if I64 (t - 315964819) then ((t - 315964819) / 604800, (t - 315964819) % 604800, none) else (0, 0, some 5)
theorem gof_is (t : Int) (ht : I64 t) : Ev (fun k => gps_Of.f k t) (weekV t) := by
  unfold gps_Of.f weekV
  refine Ev.bindc (sub_is t 315964819 ht (by unfold I64; omega)) ?_
  by_cases h : I64 (t - 315964819)
  · rw [ovf_in h, if_pos h]
    exact Ev.pos rfl (Ev.bind (split_is _ _ h (by decide) (by unfold I64; omega)) (Ev.now _))
  · rw [ovf_out h, if_neg h]
    exact Ev.neg (by simp) (Ev.now _)
/-- The moment of a week's second. -/
def taiV (w s : Int) : Int × Option Int := if 0 ≤ s ∧ s ≤ 604799 then (if I64 (w * 604800) then (if I64 (w * 604800 + s) then (if I64 (w * 604800 + s + 315964819) then (w * 604800 + s + 315964819, none) else (0, some 5)) else (0, some 5)) else (0, some 5)) else (0, some 1)
theorem tai_is (w s : Int) (hw : I64 w) (hs : I64 s) : Ev (fun k => gps_Tai.f k w s) (taiV w s) := by
  unfold gps_Tai.f taiV
  have bad : ¬ (0 ≤ s ∧ s ≤ 604799) → Ev (fun k => gps_Tai.j0 k w s true) (if 0 ≤ s ∧ s ≤ 604799 then (if I64 (w * 604800) then (if I64 (w * 604800 + s) then (if I64 (w * 604800 + s + 315964819) then (w * 604800 + s + 315964819, none) else (0, some 5)) else (0, some 5)) else (0, some 5)) else (0, some 1)) := by
    intro h
    rw [if_neg h]
    refine Ev.up ?_
    simp only [gps_Tai.j0, if_true]
    exact Ev.now _
  refine Ev.ite (fun h => bad (by omega)) (fun h => ?_)
  by_cases h2 : s ≥ 604800
  · rw [decide_eq_true h2]; exact bad (by omega)
  · rw [decide_eq_false h2, if_pos (by omega)]
    refine Ev.up ?_
    simp only [gps_Tai.j0, Bool.false_eq_true, if_false]
    refine Ev.bind (mul_is w 604800 hw (by unfold I64; omega)) ?_
    by_cases h3 : I64 (w * 604800)
    · rw [ovf_in h3, if_pos h3]
      have hl : ∀ x ∈ [w * 604800, s, 315964819], I64 x := by
        intro x hx
        rcases List.mem_cons.mp hx with e | hx
        · rw [e]; exact h3
        · rcases List.mem_cons.mp hx with e | hx
          · rw [e]; exact hs
          · rw [List.mem_singleton.mp hx]; unfold I64; omega
      have hsum := sum_l0 [w * 604800, s, 315964819] hl (by simp) 3 0 0 (by unfold I64; omega) rfl
      refine Ev.pos rfl (Ev.bind (a := if I64 (w * 604800 + s) then (if I64 (w * 604800 + s + 315964819) then (w * 604800 + s + 315964819, none) else (0, some 5)) else (0, some 5)) ?_ (Ev.now _))
      unfold num_Sum.f
      refine Ev.cast hsum ?_
      rw [List.drop_zero]
      simp only [sumV, Int.zero_add, if_pos h3]
    · rw [ovf_out h3, if_neg h3]
      exact Ev.neg (by simp) (Ev.now _)
theorem right_is (n : Int) : era_right.f n = some (decide (1 ≤ n ∧ n ≤ 62)) := by
  unfold era_right.f
  split
  · congr 1; simp; omega
  · congr 1; simp; omega
theorem mask_is (n : Int) (h0 : 0 ≤ n) (h : n ≤ 62) : era_mask.f n = some (2 ^ n.toNat - 1) := by
  unfold era_mask.f
  have := pow62 (n := n.toNat) (by omega)
  have := pow_pos2 n.toNat
  rw [if_pos h0, shl_u64 h0 h, wrap_u64]
  congr 1; omega

/-- The rest that is nearest to 0 of a number by 2 to n, the greater half below 0. -/
def near (x : Int) (n : Nat) : Int := if 2 ^ (n - 1) ≤ x % 2 ^ n then x % 2 ^ n - 2 ^ n else x % 2 ^ n
theorem near_bd (x : Int) {n : Nat} (h : 1 ≤ n) : -(2 ^ (n - 1)) ≤ near x n ∧ near x n < 2 ^ (n - 1) := by
  have e : (2 : Int) ^ n = 2 * 2 ^ (n - 1) := by rw [← pow_succ2, Nat.sub_add_cancel h]
  have p := pow_pos2 n
  have a := Int.emod_nonneg x (Int.ne_of_gt p)
  have b := Int.emod_lt_of_pos x p
  unfold near
  split <;> omega
theorem near_mod (x : Int) (n : Nat) : ∃ q, near x n = x - 2 ^ n * q := by
  have e := Int.emod_def x (2 ^ n)
  unfold near
  split
  · exact ⟨x / 2 ^ n + 1, by rw [e, Int.mul_add]; omega⟩
  · exact ⟨x / 2 ^ n, e⟩
theorem near_uniq {x y : Int} {n : Nat} (h : 1 ≤ n) (q : Int) (e : y = x - 2 ^ n * q) (hl : -(2 ^ (n - 1)) ≤ y) (hu : y < 2 ^ (n - 1)) : near x n = y := by
  obtain ⟨q', e'⟩ := near_mod x n
  have b := near_bd x h
  have p := pow_pos2 (n - 1)
  have e2 : (2 : Int) ^ n = 2 * 2 ^ (n - 1) := by rw [← pow_succ2, Nat.sub_add_cancel h]
  have d : near x n - y = 2 ^ n * (q - q') := by rw [e', e, Int.mul_sub]; omega
  have : q - q' = 0 := by
    rcases Int.lt_trichotomy (q - q') 0 with h1 | h1 | h1
    · have := Int.mul_le_mul_of_nonneg_left (show q - q' ≤ -1 by omega) (Int.le_of_lt (pow_pos2 n)); omega
    · exact h1
    · have := Int.mul_le_mul_of_nonneg_left (show 1 ≤ q - q' by omega) (Int.le_of_lt (pow_pos2 n)); omega
  rw [this] at d; omega

/-- What Bits answers. -/
def bitsV (word n pivot : Int) : Int × Option Int := if 1 ≤ n ∧ n ≤ 62 ∧ word < 2 ^ n.toNat then ovf (pivot + near (word - pivot) n.toNat) else (0, some 1)
theorem bits_is (word n pivot : Int) (hw : 0 ≤ word ∧ word ≤ 18446744073709551615) (hn : I64 n) (hp : I64 pivot) : Ev (fun k => era_Bits.f k word n pivot) (bitsV word n pivot) := by
  unfold era_Bits.f bitsV
  refine Ev.bindc (right_is n) ?_
  by_cases hr : 1 ≤ n ∧ n ≤ 62
  · have hm := mask_is n (by omega) hr.2
    have p62 := pow62 (n := n.toNat) (by omega)
    have pp := pow_pos2 n.toNat
    simp only [decide_eq_true hr, if_true]
    refine Ev.bindc hm ?_
    refine Ev.up ?_
    by_cases hw2 : word < 2 ^ n.toNat
    · rw [if_pos ⟨hr.1, hr.2, hw2⟩]
      have hd : decide (word > 2 ^ n.toNat - 1) = false := decide_eq_false (by omega)
      simp only [hd, era_Bits.j0, Bool.false_eq_true, if_false]
      refine Ev.bindc hm ?_
      have w1 : wrap64 (n - 1) = n - 1 := wrap64_id (by unfold I64 at *; omega)
      have em : Go.bits .and .u64 (IntKind.u64.wrap (word - IntKind.u64.wrap pivot)) (2 ^ n.toNat - 1) = (word - pivot) % 2 ^ n.toNat := by
        rw [and_mask (by rw [wrap_u64]; omega) (by rw [wrap_u64]; omega) (by omega), wrap_u64, mod_mod64 _ (by omega), wrap_u64, Int.sub_emod, mod_mod64 _ (by omega), ← Int.sub_emod]
      have b0 := Int.emod_nonneg (word - pivot) (Int.ne_of_gt pp)
      have b1 := Int.emod_lt_of_pos (word - pivot) pp
      have w2 : wrap64 ((word - pivot) % 2 ^ n.toNat) = (word - pivot) % 2 ^ n.toNat := wrap64_id (by unfold I64; omega)
      have e2 : (2 : Int) ^ n.toNat = 2 * 2 ^ (n.toNat - 1) := by rw [← pow_succ2, Nat.sub_add_cancel (by omega)]
      rw [em, w2, w1, shl_i64 (by omega) (by omega), shl_i64 (by omega) (by omega), if_pos (show 0 ≤ n - 1 by omega), show (n - 1).toNat = n.toNat - 1 by omega]
      unfold near
      by_cases hh : (2 : Int) ^ (n.toNat - 1) ≤ (word - pivot) % 2 ^ n.toNat
      · rw [if_pos hh, if_pos hh, if_pos (show 0 ≤ n by omega)]
        rw [wrap64_id (n := (word - pivot) % 2 ^ n.toNat - 2 ^ n.toNat) (by unfold I64; omega)]
        exact Ev.bindc (add_is _ _ hp (by unfold I64; omega)) (Ev.now _)
      · rw [if_neg hh, if_neg hh]
        exact Ev.bindc (add_is _ _ hp (by unfold I64; omega)) (Ev.now _)
    · rw [if_neg (by omega)]
      have hd : decide (word > 2 ^ n.toNat - 1) = true := decide_eq_true (by omega)
      simp only [hd, era_Bits.j0, if_true]
      exact Ev.now _
  · rw [if_neg (by omega)]
    simp only [decide_eq_false hr, Bool.false_eq_true, if_false]
    refine Ev.up ?_
    simp only [era_Bits.j0, if_true]
    exact Ev.now _
theorem short_is (t : Int) : gps_Short.f t = some (t % 1024) := by
  unfold gps_Short.f
  rw [wrap_u64, tmod_is, if_neg (by omega), wr (by omega)]
  congr 1; omega
theorem long_is (t p : Int) (ht : -1152921504606846976 ≤ t ∧ t ≤ 1152921504606846976) (hp : -1152921504606846976 ≤ p ∧ p ≤ 1152921504606846976) :
    Ev (fun k => gps_Long.f k (t % 1024) p) (p + near (t % 1024 - p) 10, none) := by
  unfold gps_Long.f
  have nb := near_bd (t % 1024 - p) (n := 10) (by decide)
  have e31 : (2 : Int) ^ (10 - 1) = 512 := by decide
  rw [e31] at nb
  have hb := bits_is (t % 1024) 10 p (by omega) (by unfold I64; omega) (by unfold I64; omega)
  have e : bitsV (t % 1024) 10 p = (p + near (t % 1024 - p) 10, none) := by
    unfold bitsV
    rw [if_pos ⟨by decide, by decide, by show t % 1024 < 1024; omega⟩]
    exact ovf_in (by unfold I64; show _ ≤ p + near (t % 1024 - p) 10 ∧ p + near (t % 1024 - p) 10 ≤ _; omega)
  rw [e] at hb
  rw [show IntKind.u64.wrap (t % 1024) = t % 1024 by rw [wrap_u64]; omega]
  exact Ev.neg (by omega) (Ev.bind hb (Ev.now _))
/-- What is left of a text from a place on: nothing behind an error. -/
def leftV (l : List Int) (i : Nat) (e : Option Int) : List Int := if e.isNone = true then l.drop i else []
theorem leftV_none (l : List Int) (i : Nat) : leftV l i none = l.drop i := rfl
theorem leftV_some (l : List Int) (i : Nat) (c : Int) : leftV l i (some c) = [] := rfl
theorem leftV_byt {l : List Int} (h : Byt l) (i : Nat) (e : Option Int) : Byt (leftV l i e) := by
  unfold leftV; split
  · exact h.drop i
  · intro x hx; cases hx
theorem leftV_len (l : List Int) (i : Nat) (e : Option Int) : (leftV l i e).length ≤ l.length := by
  unfold leftV; split
  · simp
  · simp
theorem sroom {n : Nat} (h : n ≤ 140737488351232) : n ≤ 140737488355327 := by omega
theorem srest_is (l : List Int) (i : Nat) (e : Option Int) (hi : i ≤ l.length) : scan_Scanner_string_rest.f (strOfNums l) i e = some (strOfNums (leftV l i e), strOfNums l, (i : Int), e) := by
  unfold scan_Scanner_string_rest.f
  cases e with
  | none =>
    rw [if_pos (show (none : Option Int).isNone = true from rfl), if_pos (by omega), if_pos (by rw [son_size]; omega), Int.toNat_natCast, son_cut]; rfl
  | some c => rfl
theorem sclone_is (l : List Int) (hl : l.length ≤ 140737488351232) : strings_Clone.f (strOfNums l) = some (strOfNums l) := by
  unfold strings_Clone.f stringslite_Clone.f
  rw [if_pos (by rw [son_size]; omega)]; rfl
theorem stake_is (l : List Int) (i : Nat) (e : Option Int) (n : Nat) (hi : i ≤ l.length) (hl : l.length ≤ 140737488351232) (hn : n ≤ (leftV l i e).length) :
    scan_Scanner_string_take.f (strOfNums l) i e n = some (strOfNums ((leftV l i e).take n), strOfNums l, ((i + n : Nat) : Int), e) := by
  have hb := leftV_len l i e
  unfold scan_Scanner_string_take.f
  rw [srest_is l i e hi]
  simp only [Option.bind_some]
  rw [if_pos (by omega), if_pos (by rw [son_size]; omega), Int.toNat_natCast, son_first, sclone_is _ (by rw [List.length_take]; omega)]
  by_cases h : n = 0
  · subst h; rfl
  · rw [if_pos (by omega)]
    show some (_, _, wrap64 ((i : Int) + (n : Int)), _) = _
    have hn2 : i + n ≤ l.length ∨ n = 0 := by
      unfold leftV at hn; split at hn
      · rw [List.length_drop] at hn; omega
      · simp at hn; omega
    rw [wr (by omega)]
    congr 1
theorem speek_is (l : List Int) (hb : Byt l) (i : Nat) (e : Option Int) (hi : i ≤ l.length) : scan_Scanner_string_Peek.f (strOfNums l) i e = some ((leftV l i e).headD 0, decide (leftV l i e ≠ []), strOfNums l, (i : Int), e) := by
  unfold scan_Scanner_string_Peek.f
  rw [srest_is l i e hi]
  simp only [Option.bind_some]
  have hb2 := leftV_byt hb i e
  generalize leftV l i e = r at *
  cases r with
  | nil => rw [if_pos (by rw [son_toList]; rfl)]; rfl
  | cons x r =>
    rw [if_neg (by rw [son_toList]; simp), if_pos (by rw [son_size]; simp)]
    have := bt_at_son hb2 (i := 0) (by simp)
    rw [show bt (strOfNums (x :: r)) 0 = x from this]
    simp
/-- Does a byte come? -/
def comesV (r : List Int) (c : Int) : Bool := r.head? == some c
theorem sTake_is (l : List Int) (hb : Byt l) (i : Nat) (e : Option Int) (c : Int) (hi : i ≤ l.length) (hl : l.length ≤ 140737488351232) :
    scan_Scanner_string_Take.f (strOfNums l) i e c = some (comesV (leftV l i e) c, strOfNums l, (if comesV (leftV l i e) c = true then ((i + 1 : Nat) : Int) else (i : Int)), e) := by
  unfold scan_Scanner_string_Take.f
  rw [speek_is l hb i e hi]
  simp only [Option.bind_some]
  have ht := fun h => stake_is l i e 1 hi hl h
  generalize leftV l i e = r at *
  cases r with
  | nil => rfl
  | cons x r =>
    rw [if_pos (by simp)]
    unfold comesV
    by_cases h : x = c
    · subst h
      rw [if_pos (show (x :: r).headD 0 = x from rfl)]
      rw [show scan_Scanner_string_take.f (strOfNums l) (↑i) e 1 = _ from ht (by simp)]
      simp
    · rw [if_neg (show ¬ (x :: r).headD 0 = c from h)]
      have : ((x :: r).head? == some c) = false := by simpa using h
      rw [this]; rfl
theorem sidx_is (l : List Int) (h : Byt l) (c : Int) (hc : 0 ≤ c ∧ c ≤ 255) : strings_IndexByte.f (strOfNums l) c = some (if (l.takeWhile (fun x => x != c)).length < l.length then ((l.takeWhile (fun x => x != c)).length : Int) else -1) := by
  unfold strings_IndexByte.f stringslite_IndexByte.f idxb
  rw [idx_is l h c hc]; rfl
theorem tw_take {p : Int → Bool} (r : List Int) : r.take (r.takeWhile p).length = r.takeWhile p := (List.prefix_iff_eq_take.mp (List.takeWhile_prefix p)).symm
theorem tw_len {p : Int → Bool} (r : List Int) : (r.takeWhile p).length ≤ r.length := (List.takeWhile_prefix p).length_le
theorem sUntil_is (l : List Int) (hb : Byt l) (i : Nat) (e : Option Int) (c : Int) (hc : 0 ≤ c ∧ c ≤ 255) (hi : i ≤ l.length) (hl : l.length ≤ 140737488351232) :
    scan_Scanner_string_Until.f (strOfNums l) i e c = some (strOfNums ((leftV l i e).takeWhile (fun x => x != c)), strOfNums l, ((i + ((leftV l i e).takeWhile (fun x => x != c)).length : Nat) : Int), e) := by
  unfold scan_Scanner_string_Until.f
  rw [srest_is l i e hi]
  simp only [Option.bind_some]
  rw [sidx_is _ (leftV_byt hb i e) c hc]
  simp only [Option.bind_some]
  have ht := fun n h => stake_is l i e n hi hl h
  have hq := tw_take (p := fun x => x != c) (leftV l i e)
  have hle := tw_len (p := fun x => x != c) (leftV l i e)
  by_cases h : ((leftV l i e).takeWhile (fun x => x != c)).length < (leftV l i e).length
  · rw [if_pos h, if_neg (by omega), ht _ hle, hq]; rfl
  · rw [if_neg h, if_pos (by decide), son_size, ht _ (Nat.le_refl _), List.take_of_length_le (Nat.le_refl _)]
    have : (leftV l i e).takeWhile (fun x => x != c) = leftV l i e := (List.takeWhile_prefix _).eq_of_length_le (by omega)
    rw [this]; rfl
theorem sErr_is (s : ByteArray) (i : Int) (e : Option Int) : scan_Scanner_string_Err.f s i e = some (e, s, i, e) := rfl
theorem sLeft_is (l : List Int) (i : Nat) (e : Option Int) (hi : i ≤ l.length) : scan_Scanner_string_Left.f (strOfNums l) i e = some (((leftV l i e).length : Int), strOfNums l, (i : Int), e) := by
  unfold scan_Scanner_string_Left.f
  rw [srest_is l i e hi]
  simp only [Option.bind_some, son_size]
/-- The error at the end. -/
def endV (l : List Int) (i : Nat) (e : Option Int) : Option Int := match e with | some c => some c | none => if i < l.length then some 2 else none
theorem sEnd_is (l : List Int) (i : Nat) (e : Option Int) (hi : i ≤ l.length) : scan_Scanner_string_End.f (strOfNums l) i e = some (endV l i e, strOfNums l, (i : Int), e) := by
  unfold scan_Scanner_string_End.f
  rw [sErr_is]
  cases e with
  | some c => rfl
  | none =>
    simp only [Option.bind_some]
    rw [if_pos (show (none : Option Int).isNone = true from rfl), sLeft_is l i none hi]
    simp only [Option.bind_some, leftV_none, List.length_drop]
    unfold endV
    by_cases h : i < l.length
    · rw [if_pos (by omega)]; simp only [if_pos h]
    · rw [if_neg (by omega)]; simp only [if_neg h]
theorem smem_is (l : List Int) (h : Byt l) (c : Int) (hc : 0 ≤ c ∧ c ≤ 255) : ∃ t, strings_IndexByte.f (strOfNums l) c = some t ∧ (t ≥ 0 ↔ c ∈ l) := by
  refine ⟨_, sidx_is l h c hc, ?_⟩
  have := idx_mem l h c hc
  rwa [idx_is l h c hc] at this
theorem sRun_l0 (l set : List Int) (hb : Byt l) (hs : Byt set) (i : Nat) (e : Option Int) (hi : i ≤ l.length) (hl : l.length ≤ 140737488351232) (m : Nat) :
    ∀ j : Nat, j + m = (leftV l i e).length → (∀ q : Nat, q < j → ∀ h : q < (leftV l i e).length, (leftV l i e)[q] ∈ set) →
    Ev (fun k => scan_Scanner_string_Run.l0 k (strOfNums set) (strOfNums (leftV l i e)) j (strOfNums l) i e) (strOfNums ((leftV l i e).takeWhile (fun x => decide (x ∈ set))), strOfNums l, ((i + ((leftV l i e).takeWhile (fun x => decide (x ∈ set))).length : Nat) : Int), e) := by
  have ht := fun n h => stake_is l i e n hi hl h
  have hlen := leftV_len l i e
  have hbr := leftV_byt hb i e
  have stop : ∀ j : Nat, j ≤ (leftV l i e).length → (∀ q : Nat, q < j → ∀ h : q < (leftV l i e).length, (leftV l i e)[q] ∈ set) → (∀ h : j < (leftV l i e).length, (leftV l i e)[j] ∉ set) → ((leftV l i e).takeWhile (fun x => decide (x ∈ set))).length = j := by
    intro j hj hin hout
    generalize leftV l i e = r at *
    have e1 : r = r.take j ++ r.drop j := (List.take_append_drop j r).symm
    have hall : ∀ x ∈ r.take j, (fun x => decide (x ∈ set)) x = true := by
      intro x hx
      obtain ⟨q, hq, rfl⟩ := List.getElem_of_mem hx
      rw [List.length_take] at hq
      rw [List.getElem_take]
      exact decide_eq_true (hin q (by omega) (by omega))
    have e2 : r.takeWhile (fun x => decide (x ∈ set)) = r.take j ++ (r.drop j).takeWhile (fun x => decide (x ∈ set)) := by
      conv => lhs; rw [e1]
      exact List.takeWhile_append_of_pos hall
    have e3 : (r.drop j).takeWhile (fun x => decide (x ∈ set)) = [] := by
      by_cases h : j < r.length
      · rw [List.drop_eq_getElem_cons h, List.takeWhile_cons, if_neg (by simpa using hout h)]
      · rw [List.drop_of_length_le (by omega)]; rfl
    rw [e2, e3, List.append_nil, List.length_take]; omega
  induction m with
  | zero =>
    intro j hj hin
    have hs_ := stop j (by omega) hin (fun h => by omega)
    refine Ev.up ?_
    simp only [scan_Scanner_string_Run.l0]
    refine Ev.neg (by rw [son_size]; omega) (Ev.bindc (ht j (by omega)) (Ev.cast (Ev.now _) ?_))
    rw [← hs_, tw_take]
  | succ m ih =>
    intro j hj hin
    have hx := bt_at_son hbr (i := j) (by omega)
    have hr := hbr _ (List.getElem_mem (l := leftV l i e) (n := j) (by omega))
    obtain ⟨t, h1, h2⟩ := smem_is set hs _ hr
    refine Ev.up ?_
    simp only [scan_Scanner_string_Run.l0]
    rw [hx]
    refine Ev.pos (by rw [son_size]; omega) (Ev.pos (by omega) (Ev.bindc h1 (Ev.ite (fun h => ?_) (fun h => ?_))))
    · rw [show wrap64 ((j : Int) + 1) = ((j + 1 : Nat) : Int) from wr (by omega)]
      refine ih (j + 1) (by omega) ?_
      intro q hq hql
      by_cases e : q = j
      · subst e; exact h2.mp h
      · exact hin q (by omega) hql
    · have hs_ := stop j (by omega) hin (fun _ hm => h (h2.mpr hm))
      refine Ev.bindc (ht j (by omega)) (Ev.cast (Ev.now _) ?_)
      rw [← hs_, tw_take]
theorem sRun_is (l set : List Int) (hb : Byt l) (hs : Byt set) (i : Nat) (e : Option Int) (hi : i ≤ l.length) (hl : l.length ≤ 140737488351232) :
    Ev (fun k => scan_Scanner_string_Run.f k (strOfNums l) i e (strOfNums set)) (strOfNums ((leftV l i e).takeWhile (fun x => decide (x ∈ set))), strOfNums l, ((i + ((leftV l i e).takeWhile (fun x => decide (x ∈ set))).length : Nat) : Int), e) := by
  unfold scan_Scanner_string_Run.f
  exact Ev.bindc (srest_is l i e hi) (sRun_l0 l set hb hs i e hi hl (leftV l i e).length 0 (by omega) (fun q hq => by omega))
theorem is_is (c : Int) : figures_Is.f c = some (decide (figb c)) := by
  unfold figures_Is.f
  split
  · congr 1; exact decide_eq_decide.mpr ⟨fun q => ⟨by omega, q⟩, fun q => q.2⟩
  · congr 1; exact (decide_eq_false (fun q => by unfold figb at q; omega)).symm
theorem mn_nat (a : Nat) (m : Int) (hm : 0 ≤ m) : mn (a : Int) m = ((min m.toNat a : Nat) : Int) := by unfold mn; split <;> omega
theorem run_l0 (s : ByteArray) (m : Int) (hm : 0 ≤ m) (hs : s.size ≤ 140737488351232) (f : Nat) : ∀ i : Nat, i + f = min m.toNat s.size → Ev (fun k => figures_run.l0 k s m i) ((runG s i f : Nat) : Int) := by
  induction f with
  | zero =>
    intro i hi
    refine Ev.up ?_
    simp only [figures_run.l0, mn_nat _ _ hm, runG]
    exact Ev.neg (by omega) (Ev.now _)
  | succ f ih =>
    intro i hi
    refine Ev.up ?_
    simp only [figures_run.l0, mn_nat _ _ hm, is_is, Option.bind_some]
    refine Ev.pos (by omega) (Ev.pos (by omega) (Ev.pos (by omega) (Ev.ite (fun h => ?_) (fun h => ?_))))
    · rw [wr (n := (i : Int) + 1) (by omega)]
      unfold runG
      rw [if_pos (of_decide_eq_true h)]
      exact ih (i + 1) (by omega)
    · unfold runG
      rw [if_neg (fun q => h (decide_eq_true q))]
      exact Ev.now _
theorem run_is (s : ByteArray) (m : Int) (hm : 0 ≤ m) (hs : s.size ≤ 140737488351232) : Ev (fun k => figures_run.f k s m) ((runV s m.toNat : Nat) : Int) := by
  unfold figures_run.f
  exact run_l0 s m hm hs _ 0 (by omega)
theorem value_l0 (s : ByteArray) (L : Int) (hL : 100 ≤ L ∧ L ≤ 18446744073709551615) (hs : s.size ≤ 140737488351232) (hf : ∀ i : Nat, i < s.size → figb (bt s i)) (m : Nat) : ∀ i : Nat, i + m = s.size → nv s i ≤ L →
    Ev (fun k => figures_value.l0 k s L (nv s i) (s.size : Int) i) (if nv s s.size > L then (0, some 5) else (nv s s.size, none)) := by
  induction m with
  | zero =>
    intro i hi hv
    rw [show s.size = i by omega]
    refine Ev.up ?_
    simp only [figures_value.l0]
    rw [if_neg (by omega)]
    exact Ev.neg (by omega) (Ev.now _)
  | succ m ih =>
    intro i hi hv
    have hd := hf i (by omega)
    unfold figb at hd
    have h0 := nv_nonneg s i (fun j hj => hf j (by omega))
    have w1 : (bt s i - 48) % 256 = bt s i - 48 := by omega
    have w2 : IntKind.u64.wrap (Int.tdiv (IntKind.u64.wrap (L - (bt s i - 48))) 10) = (L - (bt s i - 48)) / 10 := by rw [wrap_u64 (L - _), tdiv_is, if_neg (by omega), wrap_u64]; omega
    refine Ev.up ?_
    simp only [figures_value.l0, w1, w2]
    refine Ev.pos (by omega) (Ev.pos (by omega) (Ev.pos (by omega) (Ev.ite (fun h => ?_) (fun h => ?_))))
    · have hm : nv s (i + 1) ≤ nv s s.size := nv_mono s (fun j hj => hf j hj) (by omega)
      simp only [nv] at hm
      rw [if_pos (by omega)]
      exact Ev.now _
    · have w3 : IntKind.u64.wrap (IntKind.u64.wrap (nv s i * 10) + (bt s i - 48)) = nv s (i + 1) := by simp only [nv]; rw [wrap_u64, wrap_u64]; omega
      rw [w3, wr (n := (i : Int) + 1) (by omega)]
      exact ih (i + 1) (by omega) (by simp only [nv]; omega)
theorem value_is (s : ByteArray) (L : Int) (hL : 100 ≤ L ∧ L ≤ 18446744073709551615) (hs : s.size ≤ 140737488351232) (hf : ∀ i : Nat, i < s.size → figb (bt s i)) :
    Ev (fun k => figures_value.f k s L) (if nv s s.size > L then (0, some 5) else (nv s s.size, none)) := by
  unfold figures_value.f
  have := value_l0 s L hL hs hf s.size 0 (by omega) (by simp only [nv]; omega)
  simpa [nv] using this
theorem runV_figs (s : ByteArray) (m : Nat) : ∀ i : Nat, i < runV s m → figb (bt s i) := fun i hi => runG_figs s _ 0 i (by omega) hi
/-- What the figures that a text begins with come to. -/
def takeV (s : ByteArray) (least most L : Int) : Int × Int × Option Int :=
  if least < 1 ∨ least > most ∨ most > 20 then (0, 0, some 1)
  else if (runV s most.toNat : Int) < least then (0, 0, some 2)
  else if nv s (runV s most.toNat) > L then (0, 0, some 5)
  else (nv s (runV s most.toNat), runV s most.toNat, none)
theorem take_is (s : ByteArray) (least most L : Int) (hL : 100 ≤ L ∧ L ≤ 18446744073709551615) (hs : s.size ≤ 140737488351232) : Ev (fun k => figures_take.f k s least most L) (takeV s least most L) := by
  unfold figures_take.f takeV
  have bad : (least < 1 ∨ least > most ∨ most > 20) → Ev (fun k => figures_take.j0 k s least most L true) (if least < 1 ∨ least > most ∨ most > 20 then (0, 0, some 1) else if (runV s most.toNat : Int) < least then (0, 0, some 2) else if nv s (runV s most.toNat) > L then (0, 0, some 5) else (nv s (runV s most.toNat), ((runV s most.toNat : Nat) : Int), none)) := by
    intro h
    rw [if_pos h]
    refine Ev.up ?_
    simp only [figures_take.j0, if_true]
    exact Ev.now _
  refine Ev.ite (fun h => bad (Or.inl h)) (fun h1 => Ev.ite (fun h => bad (Or.inr (Or.inl h))) (fun h2 => ?_))
  by_cases h3 : most > 20
  · rw [decide_eq_true h3]; exact bad (Or.inr (Or.inr h3))
  · rw [decide_eq_false h3, if_neg (by omega)]
    refine Ev.up ?_
    simp only [figures_take.j0, Bool.false_eq_true, if_false]
    refine Ev.bind (run_is s most (by omega) hs) (Ev.ite (fun h => ?_) (fun h => ?_))
    · rw [if_pos h]; exact Ev.now _
    · rw [if_neg h]
      have rb := runV_bd s most.toNat
      have hx : (s.extract 0 ((runV s most.toNat : Nat) : Int).toNat).size = runV s most.toNat := size_extract s _ rb.2
      have hv := value_is (s.extract 0 ((runV s most.toNat : Nat) : Int).toNat) L hL (by rw [hx]; omega) (by
        rw [hx]
        intro i hi
        rw [Int.toNat_natCast, bt_extract s _ i hi rb.2]
        exact runV_figs s _ i hi)
      rw [hx] at hv
      rw [show nv (s.extract 0 ((runV s most.toNat : Nat) : Int).toNat) (runV s most.toNat) = nv s (runV s most.toNat) from nv_extract s _ rb.2 _ (Nat.le_refl _)] at hv
      refine Ev.pos (by omega) (Ev.pos (by omega) (Ev.bind hv ?_))
      by_cases hg : nv s (runV s most.toNat) > L
      · rw [if_pos hg, if_pos hg]; exact Ev.now _
      · rw [if_neg hg, if_neg hg]; exact Ev.now _
theorem sgoing_is (s : ByteArray) (i : Int) (e : Option Int) : scan_Scanner_string_going.f s i e = some (e.isNone, s, i, e) := by
  unfold scan_Scanner_string_going.f
  cases e <;> rfl
theorem tTake_is (s : ByteArray) (least most : Int) (hs : s.size ≤ 140737488351232) : Ev (fun k => figures_Take.f k s least most) (takeV s least most 9223372036854775807) := by
  unfold figures_Take.f
  refine Ev.bind (take_is s least most 9223372036854775807 (by omega) hs) (Ev.cast (Ev.now _) ?_)
  have hI : I64 (takeV s least most 9223372036854775807).1 := by
    unfold takeV I64
    have := nv_nonneg s (runV s most.toNat) (runV_figs s _)
    repeat' split
    all_goals (simp only; omega)
  rw [wrap64_id hI]
/-- Figures taken: the number, the place behind them, the error. -/
def sfigV (l : List Int) (i : Nat) (e : Option Int) (least most : Int) : Int × Int × Option Int :=
  match e with
  | some c => (0, i, some c)
  | none => match takeV (strOfNums (l.drop i)) least most 9223372036854775807 with
    | (n, m, none) => (n, i + m, none)
    | (_, _, some q) => (0, i, some q)
theorem takeV_le (s : ByteArray) (least most L : Int) : 0 ≤ (takeV s least most L).2.1 ∧ (takeV s least most L).2.1 ≤ s.size := by
  have := runV_bd s most.toNat
  unfold takeV
  repeat' split
  all_goals (simp only; omega)
theorem sFigures_is (l : List Int) (hb : Byt l) (i : Nat) (e : Option Int) (least most : Int) (hi : i ≤ l.length) (hl : l.length ≤ 140737488351232) :
    Ev (fun k => scan_Scanner_string_Figures.f k (strOfNums l) i e least most) ((sfigV l i e least most).1, strOfNums l, (sfigV l i e least most).2.1, (sfigV l i e least most).2.2) := by
  unfold scan_Scanner_string_Figures.f
  refine Ev.bindc (sgoing_is _ _ _) ?_
  cases e with
  | some c => exact Ev.neg (by simp) (Ev.now _)
  | none =>
    refine Ev.pos rfl (Ev.bindc (srest_is l i none hi) ?_)
    simp only [leftV_none]
    refine Ev.bind (tTake_is _ least most (by rw [son_size, List.length_drop]; omega)) ?_
    unfold sfigV
    have hle := takeV_le (strOfNums (l.drop i)) least most 9223372036854775807
    rw [son_size, List.length_drop] at hle
    rcases hq : takeV (strOfNums (l.drop i)) least most 9223372036854775807 with ⟨n, m, q⟩
    rw [hq] at hle
    simp only at hle
    cases q with
    | some q => exact Ev.neg (by simp) (Ev.now _)
    | none =>
      obtain ⟨m', rfl⟩ : ∃ m' : Nat, m = (m' : Int) := ⟨m.toNat, by omega⟩
      refine Ev.pos rfl (Ev.bindc (stake_is l i none m' hi hl (by rw [leftV_none, List.length_drop]; omega)) (Ev.cast (Ev.now _) ?_))
      show (n, strOfNums l, ((i + m' : Nat) : Int), (none : Option Int)) = (n, strOfNums l, (i : Int) + m', none)
      rw [show ((i + m' : Nat) : Int) = (i : Int) + m' by omega]
theorem toList1 (s : ByteArray) (h : 0 < s.size) : (s.extract 0 1).toList = [s[0]] := by
  rw [ByteArray.toList_eq]
  apply List.ext_getElem
  · have : (s.extract 0 1).size = 1 := size_extract s 1 h
    simpa using this
  · intro i h1 h2
    have : i = 0 := by simp at h2; omega
    subst this
    simp
    rfl
theorem prefix_is (s : ByteArray) (c : UInt8) : stringslite_HasPrefix.f s (⟨#[c]⟩ : ByteArray) = some (decide (0 < s.size ∧ bt s 0 = c.toNat)) := by
  have h1 : (⟨#[c]⟩ : ByteArray).size = 1 := rfl
  have h2 : (⟨#[c]⟩ : ByteArray).toList = [c] := by rw [ByteArray.toList_eq]
  unfold stringslite_HasPrefix.f
  rw [h1, h2]
  by_cases h : 0 < s.size
  · rw [if_pos (by omega), if_pos (by omega), if_pos (by omega)]
    rw [show (((1 : Nat) : Int)).toNat = 1 from rfl, toList1 s h]
    congr 1
    have hb : bt s 0 = (s[0]).toNat := by unfold bt; rw [dif_pos (show (0 : Int).toNat < s.size from h)]; rfl
    rw [hb, Bool.eq_iff_iff, beq_iff_eq]
    constructor
    · intro q
      have : s[0] = c := by simpa using q
      rw [this]; simp [h]
    · intro q
      have := (of_decide_eq_true q).2
      have : s[0] = c := UInt8.toNat_inj.mp (by exact_mod_cast this)
      rw [this]
  · rw [if_neg (by omega), decide_eq_false (fun q => h q.1)]
/-- A sign ahead of figures: is it a minus; what is behind it. -/
def minusB (s : ByteArray) : Prop := 0 < s.size ∧ bt s 0 = 45
def plusB (s : ByteArray) : Prop := 0 < s.size ∧ bt s 0 = 43
instance (s : ByteArray) : Decidable (minusB s) := inferInstanceAs (Decidable (_ ∧ _))
instance (s : ByteArray) : Decidable (plusB s) := inferInstanceAs (Decidable (_ ∧ _))
def restB (s : ByteArray) : ByteArray := if minusB s ∨ plusB s then s.extract 1 s.size else s
def limB (s : ByteArray) : Int := if minusB s then 9223372036854775808 else 9223372036854775807
theorem restB_size (s : ByteArray) : (restB s).size ≤ s.size := by
  unfold restB
  split
  · simp
  · exact Nat.le_refl _
def wholeL (s : ByteArray) (least most L : Int) : Int × Option Int :=
  match takeV s least most L with
  | (n, m, none) => if m < (s.size : Int) then (0, some 2) else (n, none)
  | (_, _, some e) => (0, some e)
theorem wholel_is (s : ByteArray) (least most L : Int) (hL : 100 ≤ L ∧ L ≤ 18446744073709551615) (hs : s.size ≤ 140737488351232) : Ev (fun k => figures_whole.f k s least most L) (wholeL s least most L) := by
  unfold figures_whole.f wholeL
  refine Ev.bind (take_is s least most L hL hs) ?_
  rcases takeV s least most L with ⟨n, m, e⟩
  cases e with
  | none =>
    simp only [Option.isNone_none, if_true]
    refine Ev.ite (fun h => ?_) (fun h => ?_)
    · rw [if_pos h]; exact Ev.now _
    · rw [if_neg h]; exact Ev.now _
  | some e => exact Ev.now _
def signedV (s : ByteArray) (most : Int) : Int × Option Int :=
  match wholeL (restB s) 1 most (limB s) with
  | (n, none) => (if minusB s then -n else n, none)
  | (_, some e) => (0, some e)
theorem takeV_bd (s : ByteArray) (least most L : Int) (hL : 0 ≤ L) : 0 ≤ (takeV s least most L).1 ∧ (takeV s least most L).1 ≤ L := by
  unfold takeV
  have := nv_nonneg s (runV s most.toNat) (runV_figs s _)
  repeat' split
  all_goals (simp only; omega)
theorem wholeL_bd (s : ByteArray) (least most L : Int) (hL : 0 ≤ L) : 0 ≤ (wholeL s least most L).1 ∧ (wholeL s least most L).1 ≤ L := by
  have h := takeV_bd s least most L hL
  unfold wholeL
  rcases hq : takeV s least most L with ⟨n, m, e⟩
  rw [hq] at h
  simp only at h
  cases e with
  | none => simp only; split <;> simp only <;> omega
  | some e => simp only; omega
theorem fsigned_is (s : ByteArray) (most : Int) (hs : s.size ≤ 140737488351232) : Ev (fun k => figures_Signed.f k s most) (signedV s most) := by
  have rs := restB_size s
  unfold figures_Signed.f signedV
  have cut : strings_CutPrefix.f s (⟨#[45]⟩ : ByteArray) = some (if minusB s then s.extract 1 s.size else s, decide (minusB s)) := by
    unfold strings_CutPrefix.f stringslite_CutPrefix.f
    rw [show stringslite_HasPrefix.f s (⟨#[45]⟩ : ByteArray) = some (decide (minusB s)) from (prefix_is s 45).trans rfl]
    simp only [Option.bind_some]
    by_cases h : minusB s
    · have h' := h
      unfold minusB at h'
      rw [if_pos (decide_eq_true h), if_pos h, decide_eq_true h]
      rw [if_pos (by simp [ByteArray.size]), if_pos (by show ((1 : Nat) : Int) ≤ _; omega)]
      rfl
    · rw [if_neg (by rw [decide_eq_false h]; decide), if_neg h, decide_eq_false h]; rfl
  have trim : strings_TrimPrefix.f s (⟨#[43]⟩ : ByteArray) = some (if plusB s then s.extract 1 s.size else s) := by
    unfold strings_TrimPrefix.f stringslite_TrimPrefix.f
    rw [show stringslite_HasPrefix.f s (⟨#[43]⟩ : ByteArray) = some (decide (plusB s)) from (prefix_is s 43).trans rfl]
    simp only [Option.bind_some]
    by_cases h : plusB s
    · have h' := h
      unfold plusB at h'
      rw [if_pos (decide_eq_true h), if_pos h]
      rw [if_pos (by simp [ByteArray.size]), if_pos (by show ((1 : Nat) : Int) ≤ _; omega)]
      rfl
    · rw [if_neg (by rw [decide_eq_false h]; decide), if_neg h]; rfl
  refine Ev.bindc cut ?_
  have bd := wholeL_bd (restB s) 1 most (limB s) (by unfold limB; split <;> omega)
  have hw := wholel_is (restB s) 1 most (limB s) (by unfold limB; split <;> omega) (by omega)
  by_cases hm : minusB s
  · have er : restB s = s.extract 1 s.size := by unfold restB; rw [if_pos (Or.inl hm)]
    have el : limB s = 9223372036854775808 := by unfold limB; rw [if_pos hm]
    rw [if_pos hm]
    refine Ev.pos (decide_eq_true hm) (Ev.up ?_)
    simp only [figures_Signed.j0, decide_eq_true hm]
    rw [er, el] at hw bd
    rw [er, el]
    refine Ev.bind hw ?_
    rcases hq : wholeL (s.extract 1 s.size) 1 most 9223372036854775808 with ⟨n, e⟩
    rw [hq] at bd
    cases e with
    | none =>
      simp only at bd
      simp only [Option.isNone_none, if_true, if_pos hm]
      refine Ev.cast (Ev.now _) ?_
      rw [wrap_u64]
      congr 1
      unfold wrap64; omega
    | some e => exact Ev.now _
  · have el : limB s = 9223372036854775807 := by unfold limB; rw [if_neg hm]
    have er : restB s = if plusB s then s.extract 1 s.size else s := by
      unfold restB
      by_cases hp : plusB s
      · rw [if_pos (Or.inr hp), if_pos hp]
      · rw [if_neg (fun q => q.elim hm hp), if_neg hp]
    rw [if_neg hm]
    refine Ev.neg (by simp [hm]) (Ev.bindc trim (Ev.up ?_))
    simp only [figures_Signed.j0, decide_eq_false hm]
    rw [er, el] at hw bd
    rw [er, el]
    refine Ev.bind hw ?_
    rcases hq : wholeL (if plusB s then s.extract 1 s.size else s) 1 most 9223372036854775807 with ⟨n, e⟩
    rw [hq] at bd
    cases e with
    | none =>
      simp only at bd
      simp only [Option.isNone_none, if_true, if_neg hm, Bool.false_eq_true, if_false]
      refine Ev.cast (Ev.now _) ?_
      rw [wr (by omega)]
    | some e => exact Ev.now _
theorem signedV_I64 (s : ByteArray) (most : Int) : I64 (signedV s most).1 := by
  unfold signedV
  have bd := wholeL_bd (restB s) 1 most (limB s) (by unfold limB; split <;> omega)
  rcases hq : wholeL (restB s) 1 most (limB s) with ⟨n, e⟩
  rw [hq] at bd
  unfold limB at bd
  cases e with
  | none =>
    simp only at *
    unfold I64
    split <;> (rename_i h; simp only [h, if_true, if_false] at bd; omega)
  | some e => unfold I64; simp
theorem takeV_err (s : ByteArray) (least most L : Int) : (takeV s least most L).2.2 ≠ some 0 := by
  unfold takeV
  repeat' split
  all_goals simp
theorem wholeL_err (s : ByteArray) (least most L : Int) : (wholeL s least most L).2 ≠ some 0 := by
  have h := takeV_err s least most L
  unfold wholeL
  rcases hq : takeV s least most L with ⟨n, m, e⟩
  rw [hq] at h
  cases e with
  | none => simp only; split <;> simp
  | some e => exact h
theorem signedV_err (s : ByteArray) (most : Int) : (signedV s most).2 ≠ some 0 := by
  have h := wholeL_err (restB s) 1 most (limB s)
  unfold signedV
  rcases hq : wholeL (restB s) 1 most (limB s) with ⟨n, e⟩
  rw [hq] at h
  cases e with
  | none => simp
  | some e => exact h
theorem rev_l0 (l : List Int) (hn : l.length ≤ 1000000) (m : Nat) : ∀ (x : List Int) (i : Nat), x.length = l.length → 2 * i + m ≥ l.length → 2 * i ≤ l.length + 1 →
    (∀ t : Nat, t < l.length → rd x t = if t < i ∨ l.length - 1 - i < t then rd l ((l.length - 1 - t : Nat) : Int) else rd l t) →
      Ev (fun k => slices_Reverse_byte_byte.l0 k x i ((l.length : Int) - 1 - i)) l.reverse := by
  induction m with
  | zero =>
    intro x i hl hm h2 h
    refine Ev.up ?_
    simp only [slices_Reverse_byte_byte.l0]
    refine Ev.neg (by omega) ?_
    rw [← rev_of hl (fun t ht => ?_)]
    · exact Ev.now _
    · rw [h t ht]
      by_cases q : t < i ∨ l.length - 1 - i < t
      · rw [if_pos q]
      · rw [if_neg q, show l.length - 1 - t = t by omega]
  | succ m ih =>
    intro x i hl hm h2 h
    by_cases hgo : 2 * i + 1 < l.length
    · have ej : (l.length : Int) - 1 - i = ((l.length - 1 - i : Nat) : Int) := by omega
      refine Ev.up ?_
      simp only [slices_Reverse_byte_byte.l0, ej]
      refine Ev.pos (by omega) (Ev.pos (by omega) (Ev.pos (by omega) (Ev.pos (by omega) (Ev.pos (by omega) ?_))))
      rw [wr (n := (i : Int) + 1) (by omega), wr (n := ((l.length - 1 - i : Nat) : Int) - 1) (by omega)]
      have := ih ((x.set (i : Int).toNat (rd x ((l.length - 1 - i : Nat) : Int))).set ((l.length - 1 - i : Nat) : Int).toNat (rd x i)) (i + 1) (by simp [hl]) (by omega) (by omega) (by
        intro t ht
        simp only [Int.toNat_natCast]
        rw [rd_set _ _ _ (by simp; omega), rd_set _ _ _ (by omega)]
        by_cases t1 : t = l.length - 1 - i
        · rw [if_pos t1, if_pos (by omega), h i (by omega), if_neg (by omega), show l.length - 1 - t = i by omega]
        · rw [if_neg t1]
          by_cases t2 : t = i
          · rw [if_pos t2, if_pos (by omega), h _ (by omega), if_neg (by omega), t2]
          · rw [if_neg t2, h t ht]
            by_cases t3 : t < i ∨ l.length - 1 - i < t
            · rw [if_pos t3, if_pos (by omega)]
            · rw [if_neg t3, if_neg (by omega)])
      rw [show (l.length : Int) - 1 - ((i + 1 : Nat) : Int) = ((l.length - 1 - i : Nat) : Int) - 1 by omega] at this
      exact this
    · exact (by
        refine Ev.up ?_
        simp only [slices_Reverse_byte_byte.l0]
        refine Ev.neg (by omega) ?_
        rw [← rev_of hl (fun t ht => ?_)]
        · exact Ev.now _
        · rw [h t ht]
          by_cases q : t < i ∨ l.length - 1 - i < t
          · rw [if_pos q]
          · rw [if_neg q, show l.length - 1 - t = t by omega])
theorem rev_is (l : List Int) (hn : l.length ≤ 1000000) : Ev (fun k => slices_Reverse_byte_byte.f k l) l.reverse := by
  unfold slices_Reverse_byte_byte.f
  rw [wr (by omega)]
  have := rev_l0 l hn l.length l 0 rfl (by omega) (by omega) (fun t ht => by rw [if_neg (by omega)])
  simpa using this
theorem raw_pad (w : Int) (hw : 0 ≤ w ∧ w ≤ 1000) (m : Nat) : ∀ out : List Int, out.length ≤ 1000 → (max w.toNat 1 - out.length) ≤ m → Ev (fun k => figures_raw.l0 k 0 w out) (strOfNums ((out ++ List.replicate (max w.toNat 1 - out.length) 48).reverse)) := by
  have hx : mx w 1 = ((max w.toNat 1 : Nat) : Int) := by unfold mx; split <;> omega
  induction m with
  | zero =>
    intro out ho hm
    refine Ev.up ?_
    simp only [figures_raw.l0, hx]
    refine Ev.neg (by omega) (Ev.neg (by omega) (Ev.bind (rev_is out (by omega)) ?_))
    rw [show max w.toNat 1 - out.length = 0 by omega, List.replicate_zero, List.append_nil]
    exact Ev.now _
  | succ m ih =>
    intro out ho hm
    by_cases h : out.length < max w.toNat 1
    · refine Ev.up ?_
      simp only [figures_raw.l0, hx]
      have w1 : IntKind.u64.wrap (Int.tdiv 0 10) = 0 := by decide
      have w2 : (48 + Int.tmod 0 10) % 256 = 48 := by decide
      rw [w1, w2]
      refine Ev.neg (by omega) (Ev.pos (by omega) (Ev.pos (by omega) ?_))
      have := ih (out ++ [48]) (by simp; omega) (by simp; omega)
      rw [snoc_rep, show max w.toNat 1 - (out ++ [(48 : Int)]).length + 1 = max w.toNat 1 - out.length by simp; omega] at this
      exact this
    · exact ih out ho (by omega)
theorem raw_l0 (w : Int) (hw : 0 ≤ w ∧ w ≤ 100) (n : Nat) : ∀ out : List Int, n < 18446744073709551616 → out.length + (digs n).length ≤ 200 →
    Ev (fun k => figures_raw.l0 k (n : Int) w out) (strOfNums ((out ++ digs n ++ List.replicate (max w.toNat 1 - (out ++ digs n).length) 48).reverse)) := by
  induction n using Nat.strongRecOn with
  | ind n ih =>
    intro out hn ho
    by_cases h : n = 0
    · subst h
      rw [digs_zero, List.append_nil]
      exact raw_pad w (by omega) _ out (by omega) (Nat.le_refl _)
    · have e := digs_pos (show 0 < n by omega)
      refine Ev.up ?_
      simp only [figures_raw.l0]
      refine Ev.pos (by omega) (Ev.pos (by omega) ?_)
      have w1 : IntKind.u64.wrap (Int.tdiv (n : Int) 10) = ((n / 10 : Nat) : Int) := by rw [tdiv_is, if_neg (by omega), wrap_u64]; omega
      have w2 : (48 + Int.tmod (n : Int) 10) % 256 = 48 + (n : Int) % 10 := by rw [tmod_is, if_neg (by omega)]; omega
      rw [w1, w2]
      have := ih (n / 10) (by omega) (out ++ [48 + (n : Int) % 10]) (by omega) (by rw [e] at ho; simp at ho ⊢; omega)
      rw [show out ++ [48 + (n : Int) % 10] ++ digs (n / 10) = out ++ digs n by rw [e]; simp] at this
      exact this
theorem raw_is (n : Nat) (w : Int) (hn : n < 18446744073709551616) (hw : 0 ≤ w ∧ w ≤ 100) : Ev (fun k => figures_raw.f k (n : Int) w) (strOfNums (rawV n w.toNat)) := by
  have l := digs_len n 20 (by omega)
  have := raw_l0 w hw n [] hn (by simp; omega)
  rw [List.nil_append, List.reverse_append, List.reverse_replicate] at this
  exact this
/-- The text of a number with its sign. -/
def putV (n : Int) (w : Nat) : List Int := if n < 0 then 45 :: rawV (-n).toNat w else rawV n.toNat w
theorem put_is (n w : Int) (hn : I64 n) (hw : 0 ≤ w ∧ w ≤ 20) : Ev (fun k => figures_Put.f k n w) (strOfNums (putV n w.toNat), none) := by
  unfold I64 at hn
  unfold figures_Put.f
  refine Ev.neg (by omega) ?_
  rw [decide_eq_false (by omega)]
  refine Ev.up ?_
  simp only [figures_Put.j0, Bool.false_eq_true, if_false]
  unfold putV
  refine Ev.ite (fun h => ?_) (fun h => ?_)
  · rw [if_pos h, show IntKind.u64.wrap (-IntKind.u64.wrap n) = (((-n).toNat : Nat) : Int) by rw [wrap_u64, wrap_u64]; omega]
    refine Ev.bind (raw_is (-n).toNat w (by omega) (by omega)) (Ev.pos ?_ ?_)
    · rw [son_size, rawV_len]
      have := digs_len (-n).toNat 20 (by omega)
      omega
    · rw [show (⟨#[45]⟩ : ByteArray) = strOfNums [45] from rfl, son_append]
      exact Ev.now _
  · rw [if_neg h, show IntKind.u64.wrap n = ((n.toNat : Nat) : Int) by rw [wrap_u64]; omega]
    exact Ev.bind (raw_is n.toNat w (by omega) (by omega)) (Ev.now _)
/-- The figures' bytes. -/
def figset : List Int := [48, 49, 50, 51, 52, 53, 54, 55, 56, 57]
theorem figset_byt : Byt figset := by unfold Byt figset; decide
theorem figset_mem (x : Int) : x ∈ figset ↔ 48 ≤ x ∧ x ≤ 57 := by
  unfold figset
  simp only [List.mem_cons, List.mem_nil_iff, or_false]
  omega
def figrun (r : List Int) : List Int := r.takeWhile (fun x => decide (x ∈ figset))
/-- Is a text a week, formed as it should be? -/
def formR (m : Bool) (n : Nat) (i : Nat) (r : List Int) : Bool :=
  if i + r.length < n then false
  else if r.length < 4 then false
  else if r.length > 4 ∧ r.headD 0 = 48 then false
  else if m = true then decide (r ≠ [48, 48, 48, 48]) else true
def signN (a : List Int) : Nat := if comesV a 45 = true then 1 else 0
def formV (a : List Int) : Bool := formR (comesV a 45) a.length (signN a) (figrun (a.drop (signN a)))
theorem comes_len {r : List Int} {c : Int} (h : comesV r c = true) : 1 ≤ r.length := by
  unfold comesV at h
  cases r with
  | nil => simp at h
  | cons x r => simp
theorem z4_is {r : List Int} (h : Byt r) : ((strOfNums r).toList != ([48, 48, 48, 48] : List UInt8)) = decide (r ≠ [48, 48, 48, 48]) := by
  have e : ([48, 48, 48, 48] : List UInt8) = (strOfNums [48, 48, 48, 48]).toList := by rw [son_toList]; rfl
  rw [e, Bool.eq_iff_iff]
  simp only [bne_iff_ne, ne_eq, decide_eq_true_eq]
  constructor
  · intro q s; rw [s] at q; exact q rfl
  · intro q s; exact q (son_inj h (by unfold Byt; decide) s)
theorem form_tail (a : List Int) (i : Nat) (r : List Int) (hbr : Byt r) : Ev (fun _ => if (endV a (i + r.length) none).isNone = true then (if ((strOfNums r).size : Int) < 4 then (some false) else (if ((strOfNums r).size : Int) > 4 then (if 0 < ((strOfNums r).size : Int) then (if (bt (strOfNums r) 0) = 48 then (some false) else (if comesV a 45 = true then (some ((strOfNums r).toList != ([48, 48, 48, 48] : List UInt8))) else (some true))) else (none)) else (if comesV a 45 = true then (some ((strOfNums r).toList != ([48, 48, 48, 48] : List UInt8))) else (some true)))) else (some false)) (formR (comesV a 45) a.length i r) := by
  unfold endV formR
  by_cases h1 : i + r.length < a.length
  · simp only [if_pos h1]; exact Ev.neg (by simp) (Ev.now _)
  · simp only [if_neg h1, son_size]
    refine Ev.pos rfl ?_
    by_cases h2 : r.length < 4
    · rw [if_pos h2]; exact Ev.pos (by omega) (Ev.now _)
    · rw [if_neg h2]
      refine Ev.neg (by omega) ?_
      have tail : Ev (fun _ => if comesV a 45 = true then some ((strOfNums r).toList != ([48, 48, 48, 48] : List UInt8)) else some true) (if comesV a 45 = true then decide (r ≠ [48, 48, 48, 48]) else true) := by
        rw [z4_is hbr]
        refine Ev.ite (fun h => ?_) (fun h => ?_)
        · rw [if_pos h]; exact Ev.now _
        · rw [if_neg h]; exact Ev.now _
      refine Ev.ite (fun h3 => Ev.pos (by omega) ?_) (fun h3 => ?_)
      · have hd : bt (strOfNums r) 0 = r.headD 0 := by
          have := bt_at_son hbr (i := 0) (by omega)
          rw [show bt (strOfNums r) 0 = r[0]'(by omega) from this]
          cases r with
          | nil => simp at h2
          | cons x r => rfl
        rw [hd]
        refine Ev.ite (fun h4 => ?_) (fun h4 => ?_)
        · rw [if_pos ⟨by omega, h4⟩]; exact Ev.now _
        · exact Ev.cast tail (if_neg (fun q : _ ∧ _ => h4 q.2)).symm
      · exact Ev.cast tail (if_neg (fun q : _ ∧ _ => h3 (by have := q.1; omega))).symm
theorem formed_is (a : List Int) (hb : Byt a) (hl : a.length ≤ 140737488351232) : Ev (fun k => gps_formed.f k (strOfNums a)) (formV a) := by
  unfold gps_formed.f
  refine Ev.bindc (show scan_New_string.f (strOfNums a) = some (strOfNums a, ((0 : Nat) : Int), none) from rfl) (Ev.bindc (sTake_is a hb 0 none 45 (by omega) hl) ?_)
  simp only [leftV_none, List.drop_zero]
  obtain ⟨i, hi⟩ : ∃ i : Nat, i = signN a := ⟨_, rfl⟩
  have hi' : (if comesV a 45 = true then ((0 + 1 : Nat) : Int) else ((0 : Nat) : Int)) = (i : Int) := by rw [hi]; unfold signN; split <;> rfl
  have hil : i ≤ a.length := by
    rw [hi]; unfold signN; split
    · rename_i h; exact comes_len h
    · omega
  rw [hi', show (⟨#[48, 49, 50, 51, 52, 53, 54, 55, 56, 57]⟩ : ByteArray) = strOfNums figset from rfl]
  refine Ev.bind (sRun_is a figset hb figset_byt i none hil hl) ?_
  simp only [leftV_none]
  have hrl : i + ((a.drop i).takeWhile (fun x => decide (x ∈ figset))).length ≤ a.length := by
    have := tw_len (p := fun x => decide (x ∈ figset)) (a.drop i)
    rw [List.length_drop] at this; omega
  refine Ev.bindc (sEnd_is a _ none hrl) ?_
  unfold formV figrun
  rw [← hi]
  have hbr : Byt ((a.drop i).takeWhile (fun x => decide (x ∈ figset))) := fun x hx => hb x (List.mem_of_mem_drop ((List.takeWhile_prefix _).subset hx))
  exact form_tail a i _ hbr
/-- The moment that a text is. -/
def gparseV (l : List Int) : Int × Option Int :=
  let a := l.takeWhile (fun x => x != 58)
  if comesV (l.drop a.length) 58 = true ∧ formV a = true then
    let f := sfigV l (a.length + 1) none 6 6
    if endV l f.2.1.toNat f.2.2 = none then
      if a.length > 20 then (0, some 5)
      else match signedV (strOfNums a) 20 with
        | (w, none) => taiV w f.1
        | (_, some q) => (0, some q)
    else (0, some 2)
  else (0, some 2)
theorem sfigV_bd (l : List Int) (i : Nat) (least most : Int) (hi : i ≤ l.length) : (0 ≤ (sfigV l i none least most).1 ∧ (sfigV l i none least most).1 ≤ 9223372036854775807) ∧ 0 ≤ (sfigV l i none least most).2.1 ∧ (sfigV l i none least most).2.1 ≤ l.length := by
  have hle := takeV_le (strOfNums (l.drop i)) least most 9223372036854775807
  have hv := takeV_bd (strOfNums (l.drop i)) least most 9223372036854775807 (by decide)
  rw [son_size, List.length_drop] at hle
  unfold sfigV
  rcases hq : takeV (strOfNums (l.drop i)) least most 9223372036854775807 with ⟨n, m, q⟩
  rw [hq] at hle hv
  simp only at hle hv
  cases q with
  | none => simp only; omega
  | some q => simp only; omega
theorem gparse_is (l : List Int) (hb : Byt l) (hl : l.length ≤ 1000000) : Ev (fun k => gps_Parse.f k (strOfNums l)) (gparseV l) := by
  unfold gps_Parse.f
  refine Ev.bindc (show scan_New_string.f (strOfNums l) = some (strOfNums l, ((0 : Nat) : Int), none) from rfl) (Ev.bindc (sUntil_is l hb 0 none 58 (by decide) (by omega) (by omega)) ?_)
  simp only [leftV_none, List.drop_zero, Nat.zero_add]
  unfold gparseV
  have hal := tw_len (p := fun x => x != 58) l
  have hba : Byt (l.takeWhile (fun x => x != 58)) := fun x hx => hb x ((List.takeWhile_prefix _).subset hx)
  generalize l.takeWhile (fun x => x != 58) = a at *
  refine Ev.bindc (sTake_is l hb a.length none 58 (by omega) (by omega)) ?_
  rw [show leftV l a.length none = l.drop a.length from rfl]
  have bad : ∀ (s : ByteArray) (i : Int) (e : Option Int), Ev (fun k => gps_Parse.j0 k (strOfNums a) true s i e) (0, some 2) := by
    intro s i e
    refine Ev.up ?_
    simp only [gps_Parse.j0, if_true]
    exact Ev.now _
  by_cases hc : comesV (l.drop a.length) 58 = true
  · refine Ev.pos hc (Ev.bind (formed_is a hba (by omega)) ?_)
    simp only [if_pos hc]
    cases hf : formV a with
    | false => simp only [Bool.false_eq_true, and_false, if_false, Bool.not_false]; exact bad _ _ _
    | true =>
      simp only [hc, and_self, if_true, Bool.not_true]
      refine Ev.up ?_
      simp only [gps_Parse.j0, Bool.false_eq_true, if_false]
      have h1 := comes_len hc
      rw [List.length_drop] at h1
      refine Ev.bind (sFigures_is l hb (a.length + 1) none 6 6 (by omega) (by omega)) ?_
      have sb := sfigV_bd l (a.length + 1) 6 6 (by omega)
      rcases hq : sfigV l (a.length + 1) none 6 6 with ⟨n, j, e⟩
      rw [hq] at sb
      simp only at sb
      simp only
      obtain ⟨j', rfl⟩ : ∃ j' : Nat, j = (j' : Int) := ⟨j.toNat, by omega⟩
      refine Ev.bindc (sEnd_is l j' e (by omega)) ?_
      rw [Int.toNat_natCast]
      cases he : endV l j' e with
      | some q => exact Ev.neg (by simp) (Ev.cast (Ev.now _) (by simp))
      | none =>
        refine Ev.pos rfl ?_
        simp only [if_true, son_size]
        refine Ev.ite (fun h => ?_) (fun h => ?_)
        · rw [if_pos (by omega)]; exact Ev.now _
        · rw [if_neg (by omega)]
          refine Ev.bind (fsigned_is (strOfNums a) 20 (by rw [son_size]; omega)) ?_
          have hI := signedV_I64 (strOfNums a) 20
          rcases hs : signedV (strOfNums a) 20 with ⟨w, q⟩
          rw [hs] at hI
          cases q with
          | some q => exact Ev.neg (by simp) (Ev.now _)
          | none => exact Ev.pos rfl (Ev.bind (tai_is w n hI (by unfold I64; omega)) (Ev.now _))
  · refine Ev.neg hc (Ev.cast (bad _ _ _) ?_)
    exact (if_neg (fun q => hc q.1)).symm
theorem putV_len (n : Int) (w : Nat) (hn : I64 n) (hw : w ≤ 20) : (putV n w).length ≤ 30 := by
  unfold I64 at hn
  have hd := digs_len n.natAbs 20 (by have : (10 : Nat) ^ 20 = 100000000000000000000 := by decide
                                      omega)
  unfold putV
  split
  · rw [show n.natAbs = (-n).toNat by omega] at hd
    rw [List.length_cons, rawV_len]; omega
  · rw [show n.natAbs = n.toNat by omega] at hd
    rw [rawV_len]; omega
theorem gput_is (t : Int) (ht : I64 t) : Ev (fun k => gps_Put.f k t) (match weekV t with | (w, s, none) => (strOfNums (putV w 4 ++ 58 :: putV s 6), none) | (_, _, some q) => ((⟨#[]⟩ : ByteArray), some q)) := by
  unfold gps_Put.f
  refine Ev.bind (gof_is t ht) ?_
  unfold weekV
  by_cases hi : I64 (t - 315964819)
  · rw [if_pos hi]
    unfold I64 at hi
    refine Ev.pos rfl (Ev.bind (a := (strOfNums (putV ((t - 315964819) / 604800) 4 ++ 58 :: putV ((t - 315964819) % 604800) 6), none)) ?_ (Ev.now _))
    unfold gps_put.f
    have p1 := put_is ((t - 315964819) / 604800) 4 (by unfold I64; omega) (by decide)
    have p2 := put_is ((t - 315964819) % 604800) 6 (by unfold I64; omega) (by decide)
    have l1 := putV_len ((t - 315964819) / 604800) 4 (by unfold I64; omega) (by decide)
    have l2 := putV_len ((t - 315964819) % 604800) 6 (by unfold I64; omega) (by decide)
    refine Ev.bind p1 (Ev.pos rfl (Ev.bind p2 (Ev.pos rfl (Ev.pos ?_ (Ev.pos ?_ (Ev.cast (Ev.now _) ?_))))))
    · rw [son_size]; show (putV _ 4).length + 1 ≤ _; omega
    · rw [son_size, son_size]; show (putV _ 4).length + 1 + (putV _ 6).length ≤ _; omega
    · rw [show (⟨#[58]⟩ : ByteArray) = strOfNums [58] from rfl, son_append, son_append, List.append_assoc]; rfl
  · rw [if_neg hi]
    exact Ev.neg (by simp) (Ev.now _)
theorem digs_head {n : Nat} (h : 0 < n) : ∃ d t, (digs n).reverse = d :: t ∧ 49 ≤ d ∧ d ≤ 57 := by
  induction n using Nat.strongRecOn with
  | ind n ih =>
    rw [digs_pos h, List.reverse_cons]
    by_cases h10 : n < 10
    · rw [show n / 10 = 0 by omega, digs_zero]
      exact ⟨_, [], rfl, by omega, by omega⟩
    · obtain ⟨d, t, e, h1, h2⟩ := ih (n / 10) (by omega) (by omega)
      rw [e]
      exact ⟨d, t ++ [48 + (n : Int) % 10], rfl, h1, h2⟩
theorem rawV_head (n w : Nat) (hw : 1 ≤ w) (h : w < (rawV n w).length) : 49 ≤ (rawV n w).headD 0 := by
  have hl := rawV_len n w
  unfold rawV
  rw [show max w 1 - (digs n).length = 0 by omega, List.replicate_zero, List.nil_append]
  have hn : 0 < n := by
    rcases Nat.eq_zero_or_pos n with e | e
    · subst e; rw [digs_zero] at hl; simp at hl; omega
    · exact e
  obtain ⟨d, t, e, h1, _⟩ := digs_head hn
  rw [e]; exact h1
theorem figrun_all {r : List Int} (h : ∀ x ∈ r, 48 ≤ x ∧ x ≤ 57) : figrun r = r := by
  unfold figrun
  apply tw_all
  intro x hx
  exact decide_eq_true ((figset_mem x).mpr (h x hx))
theorem form_put (w : Int) : formV (putV w 4) = true := by
  unfold formV putV
  by_cases h : w < 0
  · rw [if_pos h]
    have hf := rawV_figs (-w).toNat 4
    have hl := rawV_len (-w).toNat 4
    have hc : comesV (45 :: rawV (-w).toNat 4) 45 = true := rfl
    have hs : signN (45 :: rawV (-w).toNat 4) = 1 := by unfold signN; rw [if_pos hc]
    rw [hc, hs, show (45 :: rawV (-w).toNat 4).drop 1 = rawV (-w).toNat 4 from rfl, figrun_all hf]
    have hv := lv_raw (-w).toNat 4
    have hh := rawV_head (-w).toNat 4 (by decide)
    generalize rawV (-w).toNat 4 = r at *
    unfold formR
    rw [if_neg (by simp; omega), if_neg (by omega), if_neg (fun q => by have := hh (by omega); omega), if_pos rfl]
    apply decide_eq_true
    intro e
    rw [e] at hv
    have : lv [48, 48, 48, 48] = 0 := by decide
    omega
  · rw [if_neg h]
    have hf := rawV_figs w.toNat 4
    have hl := rawV_len w.toNat 4
    have hc : comesV (rawV w.toNat 4) 45 = false := by
      unfold comesV
      cases hr : rawV w.toNat 4 with
      | nil => rfl
      | cons x r =>
        have := hf x (by rw [hr]; exact List.mem_cons_self ..)
        simp only [List.head?_cons]
        rw [beq_eq_false_iff_ne]
        intro q
        have := Option.some.inj q
        omega
    have hs : signN (rawV w.toNat 4) = 0 := by unfold signN; rw [if_neg (by simp [hc])]
    rw [hc, hs, List.drop_zero, figrun_all hf]
    have hh := rawV_head w.toNat 4 (by decide)
    generalize rawV w.toNat 4 = r at *
    unfold formR
    rw [if_neg (by omega), if_neg (by omega), if_neg (fun q => by have := hh (by omega); omega), if_neg (by simp)]
theorem putV_byt (n : Int) (w : Nat) : Byt (putV n w) := by
  intro x hx
  unfold putV at hx
  split at hx
  · rcases List.mem_cons.mp hx with e | hx
    · omega
    · have := rawV_figs _ _ x hx; omega
  · have := rawV_figs _ _ x hx; omega
theorem putV_no58 (n : Int) (w : Nat) : ∀ x ∈ putV n w, (fun x => x != 58) x = true := by
  intro x hx
  simp only [bne_iff_ne, ne_eq]
  unfold putV at hx
  split at hx
  · rcases List.mem_cons.mp hx with e | hx
    · omega
    · have := rawV_figs _ _ x hx; omega
  · have := rawV_figs _ _ x hx; omega
/-- Figures alone, read as a whole. -/
theorem wholeL_raw (n w : Nat) (most L : Int) (hm : ((rawV n w).length : Int) ≤ most) (hm2 : most ≤ 20) (hL : (n : Int) ≤ L) : wholeL (strOfNums (rawV n w)) 1 most L = ((n : Int), none) := by
  have hl := rawV_len n w
  obtain ⟨r1, r2⟩ := raw_read n w
  have hr : runV (strOfNums (rawV n w)) most.toNat = (rawV n w).length := by
    rw [runV_min, son_size, r1]; omega
  unfold wholeL takeV
  rw [if_neg (by omega), hr, if_neg (by omega), r2, if_neg (by omega)]
  simp only [son_size]
  rw [if_neg (by omega)]
theorem signed_put (n : Int) (w : Nat) (hn : -1000000000000000000 ≤ n ∧ n ≤ 1000000000000000000) (hw : w ≤ 19) : signedV (strOfNums (putV n w)) 20 = (n, none) := by
  have hd := digs_len n.natAbs 19 (by have : (10 : Nat) ^ 19 = 10000000000000000000 := by decide
                                      omega)
  unfold signedV
  by_cases h : n < 0
  · have e : putV n w = 45 :: rawV (-n).toNat w := by unfold putV; rw [if_pos h]
    have hb := putV_byt n w
    have hl := rawV_len (-n).toNat w
    rw [show n.natAbs = (-n).toNat by omega] at hd
    have hm : minusB (strOfNums (putV n w)) := by
      rw [e]
      unfold minusB
      rw [e] at hb
      refine ⟨by rw [son_size]; simp, ?_⟩
      exact bt_at_son hb (i := 0) (by simp)
    have hr : restB (strOfNums (putV n w)) = strOfNums (rawV (-n).toNat w) := by
      unfold restB
      rw [if_pos (Or.inl hm), son_cut, e]; rfl
    rw [hr, show limB (strOfNums (putV n w)) = 9223372036854775808 by unfold limB; rw [if_pos hm], wholeL_raw _ _ _ _ (by omega) (by omega) (by omega)]
    simp only [if_pos hm]
    congr 1; omega
  · have e : putV n w = rawV n.toNat w := by unfold putV; rw [if_neg h]
    have hf := rawV_figs n.toNat w
    have hb := putV_byt n w
    have hl := rawV_len n.toNat w
    rw [show n.natAbs = n.toNat by omega] at hd
    have hbt : bt (strOfNums (putV n w)) 0 ≥ 48 := by
      have h1 : 0 < (putV n w).length := by rw [e]; omega
      rw [show bt (strOfNums (putV n w)) 0 = (putV n w)[0] from bt_at_son hb (i := 0) h1]
      have := hf ((putV n w)[0]) (by rw [← e]; exact List.getElem_mem h1)
      omega
    have hm : ¬ minusB (strOfNums (putV n w)) := fun q => by unfold minusB at q; omega
    have hp : ¬ plusB (strOfNums (putV n w)) := fun q => by unfold plusB at q; omega
    have hr : restB (strOfNums (putV n w)) = strOfNums (rawV n.toNat w) := by
      unfold restB
      rw [if_neg (fun q => q.elim hm hp), e]
    rw [hr, show limB (strOfNums (putV n w)) = 9223372036854775807 by unfold limB; rw [if_neg hm], wholeL_raw _ _ _ _ (by omega) (by omega) (by omega)]
    simp only [if_neg hm]
    congr 1; omega
theorem sfig_raw (l : List Int) (i : Nat) (n w : Nat) (hl : l.drop i = rawV n w) (hw : (rawV n w).length = w) (h0 : 1 ≤ w) (h1 : w ≤ 18) : sfigV l i none w w = ((n : Int), (i : Int) + w, none) := by
  obtain ⟨r1, r2⟩ := raw_read n w
  have hr : runV (strOfNums (rawV n w)) (w : Int).toNat = w := by
    rw [runV_min, son_size, r1, hw]; omega
  have hn : (n : Int) < 10 ^ 18 := by
    have a := digs_ge n 18
    have b := rawV_len n w
    have c : (n : Nat) < 10 ^ 18 := Nat.lt_of_not_le (fun q => by have := a q; omega)
    exact_mod_cast c
  have e18 : (10 : Int) ^ 18 = 1000000000000000000 := by decide
  rw [hw] at r2
  unfold sfigV takeV
  simp only [hl]
  rw [if_neg (by omega), hr, if_neg (by omega), r2, if_neg (by omega)]
theorem putparse_is (w s : Int) (hw : -100000000000000 ≤ w ∧ w ≤ 100000000000000) (hs : 0 ≤ s ∧ s ≤ 604799) : Ev (fun k => gps_Parse.f k (strOfNums (putV w 4 ++ 58 :: putV s 6))) (taiV w s) := by
  have l1 := putV_len w 4 (by unfold I64; omega) (by decide)
  have l2 := putV_len s 6 (by unfold I64; omega) (by decide)
  have es : putV s 6 = rawV s.toNat 6 := by unfold putV; rw [if_neg (by omega)]
  have hd := digs_len s.toNat 6 (by have : (10 : Nat) ^ 6 = 1000000 := by decide
                                    omega)
  have l6 : (rawV s.toNat 6).length = 6 := by rw [rawV_len]; omega
  have hb : Byt (putV w 4 ++ 58 :: putV s 6) := by
    intro x hx
    rcases List.mem_append.mp hx with h | h
    · exact putV_byt w 4 x h
    · rcases List.mem_cons.mp h with e | h
      · omega
      · exact putV_byt s 6 x h
  refine Ev.cast (gparse_is _ hb (by simp; omega)) ?_
  have ha : (putV w 4 ++ 58 :: putV s 6).takeWhile (fun x => x != 58) = putV w 4 := by
    rw [List.takeWhile_append_of_pos (putV_no58 w 4), List.takeWhile_cons, if_neg (by simp), List.append_nil]
  unfold gparseV
  rw [ha]
  simp only []
  rw [if_pos ⟨by rw [List.drop_left]; rfl, form_put w⟩]
  have hdl : (putV w 4 ++ 58 :: putV s 6).drop ((putV w 4).length + 1) = rawV s.toNat 6 := by
    rw [← List.drop_drop, List.drop_left, es]; rfl
  rw [show sfigV (putV w 4 ++ 58 :: putV s 6) ((putV w 4).length + 1) none 6 6 = _ from sfig_raw _ _ s.toNat 6 hdl l6 (by decide) (by decide)]
  simp only []
  have hend : endV (putV w 4 ++ 58 :: putV s 6) (((((putV w 4).length + 1 : Nat) : Int) + ((6 : Nat) : Int)).toNat) none = none := by
    unfold endV
    rw [if_neg (by simp only [List.length_append, List.length_cons, es, l6]; omega)]
  rw [if_pos hend]
  have l3 : (putV w 4).length ≤ 20 := by
    have hd := digs_len w.natAbs 15 (by have : (10 : Nat) ^ 15 = 1000000000000000 := by decide
                                        omega)
    unfold putV
    split
    · rw [show w.natAbs = (-w).toNat by omega] at hd
      rw [List.length_cons, rawV_len]; omega
    · rw [show w.natAbs = w.toNat by omega] at hd
      rw [rawV_len]; omega
  rw [if_neg (by omega), signed_put w 4 (by omega) (by decide)]
  simp only []
  congr 1; omega
theorem back_near (t p : Int) (n : Nat) (h : 1 ≤ n) (h1 : -(2 ^ (n - 1)) ≤ t - p) (h2 : t - p < 2 ^ (n - 1)) : p + near (t % 2 ^ n - p) n = t := by
  have d := Int.emod_def t (2 ^ n)
  rw [near_uniq (y := t - p) h (-(t / 2 ^ n)) (by rw [Int.mul_neg]; omega) h1 h2]
  omega
theorem near_is (w s p : Int) (hw : -100000000000000 ≤ w ∧ w ≤ 100000000000000) (hs : I64 s) (v : Int) (hp : I64 v) (hv : I64 (v - 315964819)) (h1 : -512 ≤ w - (v - 315964819) / 604800) (h2 : w - (v - 315964819) / 604800 < 512) :
    Ev (fun k => gps_Near.f k (w % 1024) s v) (taiV w s) := by
  unfold gps_Near.f
  refine Ev.bind (gof_is v hp) ?_
  unfold weekV
  rw [if_pos hv]
  unfold I64 at hp hv
  refine Ev.pos rfl (Ev.bind (long_is w ((v - 315964819) / 604800) (by omega) (by omega)) (Ev.pos rfl ?_))
  have e10 : (2 : Int) ^ 10 = 1024 := by decide
  have e9 : (2 : Int) ^ (10 - 1) = 512 := by decide
  have hb := back_near w ((v - 315964819) / 604800) 10 (by decide) (by rw [e9]; omega) (by rw [e9]; omega)
  rw [e10] at hb
  rw [hb]
  exact Ev.bind (tai_is w s (by unfold I64; omega) hs) (Ev.now _)
end Go.Proofs.Ytjameiglfecagaa.MGpsBack
namespace Go.Proofs.Ytjameiglfecagaa.Pure
open Go.RowKit Go.Proofs.Ytjameiglfecagaa.MGpsBack Go.Proofs.YtjameiglfecagaaW.PrintWords Go.Proofs.YtjameiglfecagaaW.PrintLast Go.Proofs.Ytjameiglfecagaa.Base
set_option linter.unusedVariables false
set_option linter.unusedSimpArgs false
theorem alive_is : Ev (fun k => horologelaw14_alive.f k) true := Ev.of (fun k => horologelaw14_alive.mono k) (k := 10) (by kernel_rfl)
theorem num_same (e : Option Int) : horologenum_Num.f e = horologenum_Num.f e := rfl
theorem GpsBack : horologelaw14_GpsBack.Pure := by
  intro t p ht hp
  replace ht := i64_of ht
  replace hp := i64_of hp
  refine Ev.ok (g := fun k => horologelaw14_GpsBack.f k t p) ?_
  unfold horologelaw14_GpsBack.f
  refine Ev.bind alive_is (Ev.pos rfl (Ev.bind (gof_is t ht) ?_))
  unfold weekV
  by_cases hi : I64 (t - 315964819)
  · rw [if_pos hi]
    have hi' := hi
    unfold I64 at hi' ht
    obtain ⟨w, hw⟩ : ∃ w, w = (t - 315964819) / 604800 := ⟨_, rfl⟩
    obtain ⟨s, hs⟩ : ∃ s, s = (t - 315964819) % 604800 := ⟨_, rfl⟩
    have hws : t = w * 604800 + s + 315964819 := by omega
    have hs0 : 0 ≤ s ∧ s ≤ 604799 := by omega
    have hw0 : -100000000000000 ≤ w ∧ w ≤ 100000000000000 := by omega
    rw [← hw, ← hs]
    refine Ev.pos rfl (Ev.bind (gput_is t ht) ?_)
    unfold weekV
    rw [if_pos hi, ← hw, ← hs]
    refine Ev.bind (tai_is w s (by unfold I64; omega) (by unfold I64; omega)) (Ev.bind (putparse_is w s hw0 hs0) (Ev.pos rfl (Ev.bindc (num_is _) (Ev.bindc (num_is _) ?_))))
    rw [bne_self_eq_false]
    refine Ev.up ?_
    simp only [horologelaw14_GpsBack.j0, Bool.false_eq_true, if_false]
    have last : ∀ x, (x = true ∨ (taiV w s = (t, none) ∧ I64 (p - 315964819) ∧ -512 ≤ w - (p - 315964819) / 604800 ∧ w - (p - 315964819) / 604800 < 512)) → Ev (fun k => horologelaw14_GpsBack.j2 k t p w s x) true := by
      intro x hx
      refine Ev.up ?_
      simp only [horologelaw14_GpsBack.j2]
      refine Ev.ite (fun _ => Ev.now _) (fun hn => ?_)
      rcases hx with hx | ⟨h1, h2, h3, h4⟩
      · exact absurd hx hn
      · refine Ev.bindc (short_is w) (Ev.bind (near_is w s p hw0 (by unfold I64; omega) p hp h2 h3 h4) ?_)
        rw [h1]
        exact Ev.pos rfl (Ev.cast (Ev.now _) (by simp))
    have mid : ∀ e, (e = none → taiV w s = (t, none)) → Ev (fun k => horologelaw14_GpsBack.j1 k t p w s e false) true := by
      intro e he
      refine Ev.up ?_
      simp only [horologelaw14_GpsBack.j1, Bool.false_eq_true, if_false]
      refine Ev.bind (gof_is p hp) ?_
      unfold weekV
      by_cases hq : I64 (p - 315964819)
      · rw [if_pos hq]
        have hq' := hq
        unfold I64 at hq'
        refine Ev.pos rfl ?_
        cases e with
        | some q => exact Ev.neg (by simp) (last _ (Or.inl rfl))
        | none =>
          refine Ev.pos rfl ?_
          rw [show wrap64 ((p - 315964819) / 604800 - 512) = (p - 315964819) / 604800 - 512 from wr (by omega), show wrap64 ((p - 315964819) / 604800 + 512) = (p - 315964819) / 604800 + 512 from wr (by omega)]
          refine Ev.ite (fun _ => last _ (Or.inl rfl)) (fun h1 => ?_)
          by_cases h2 : w ≥ (p - 315964819) / 604800 + 512
          · rw [decide_eq_true h2]; exact last _ (Or.inl rfl)
          · rw [decide_eq_false h2]; exact last _ (Or.inr ⟨he rfl, hq, by omega, by omega⟩)
      · rw [if_neg hq]
        exact Ev.neg (by simp) (last _ (Or.inl rfl))
    by_cases h3 : I64 (w * 604800)
    · have e : taiV w s = (t, none) := by
        unfold taiV
        rw [if_pos hs0, if_pos h3, if_pos (by unfold I64; omega), if_pos (by unfold I64; omega), ← hws]
      rw [e]
      refine Ev.pos rfl (Ev.pos rfl ?_)
      rw [bne_self_eq_false]
      exact mid none (fun _ => e)
    · have e : taiV w s = (0, some 5) := by
        unfold taiV
        rw [if_pos hs0, if_neg h3]
      rw [e]
      exact Ev.neg (by simp) (mid _ (fun q => by simp at q))
  · rw [if_neg hi]
    exact Ev.neg (by simp) (Ev.pos rfl (Ev.cast (Ev.now _) (by simp)))
end Go.Proofs.Ytjameiglfecagaa.Pure
