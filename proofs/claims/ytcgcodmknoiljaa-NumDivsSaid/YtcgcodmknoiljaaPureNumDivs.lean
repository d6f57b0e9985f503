/- NumDivs: quotients and rests of any two numbers are the document's. For every pair of numbers of Go's kinds; no further condition. -/
import Derived.Test.YtcgcodmknoiljaaMNumDivsx
import Derived.Test.YtcgcodmknoiljaaTNumDivsBig3
namespace Go.Proofs.Ytcgcodmknoiljaa.MNumDivs
open Go.RowKit Go.Proofs.YtcgcodmknoiljaaW.PrintWords Go.Proofs.YtcgcodmknoiljaaW.PrintLast Go.Proofs.YtcgcodmknoiljaaW.PrintMore Go.Proofs.Ytcgcodmknoiljaa.Base
set_option linter.unusedVariables false
set_option linter.unusedSimpArgs false

theorem num_is (e : Option Int) : horologenum_Num.f e = some (match e with | none => 0 | some c => if c = 0 then -1 else c) := by
  unfold horologenum_Num.f
  cases e <;> simp
  split <;> rfl
theorem Minus_is {a : Bool × List Int} {x : Int} {n : Nat} (ha : Is a x n) : ∃ r, horologeref01_Minus.f a.1 a.2 = some r ∧ Is r (-x) n := by
  have va := ha.abs
  have na := ha.neg
  unfold horologeref01_Minus.f
  by_cases h : a.1 = true
  · refine ⟨(false, a.2), by rw [if_pos h], Is.mk' ha.dg ha.tr ?_ ?_ ha.le⟩
    · have := na.mp h; rw [decide_eq_false (by omega)]
    · have := na.mp h; rw [va, if_pos this, if_neg (by omega)]
  · have hx : ¬ x < 0 := fun q => h (na.mpr q)
    rw [if_neg hx] at va
    refine ⟨(decide (0 < a.2.length), a.2), by rw [if_neg h], Is.mk' ha.dg ha.tr ?_ ?_ ha.le⟩
    · rw [len_pos ha.dg ha.tr, va]; exact decide_eq_decide.mpr ⟨fun _ => by omega, fun _ => by omega⟩
    · rw [va]; split <;> omega
/-- A quotient and its rest. -/
structure DM (a b q r : Int) : Prop where
  eq : a = b * q + r
  pos : 0 < b → 0 ≤ r ∧ r < b
  neg : b < 0 → b < r ∧ r ≤ 0
  iq : I64 q
theorem tdm (a b : Int) : b * Int.tdiv a b + Int.tmod a b = a := Int.mul_tdiv_add_tmod a b
theorem tmod_bd (a b : Int) (hb : b ≠ 0) : (0 ≤ a → 0 ≤ Int.tmod a b) ∧ (a ≤ 0 → Int.tmod a b ≤ 0) ∧ (0 < b → -b < Int.tmod a b ∧ Int.tmod a b < b) ∧ (b < 0 → b < Int.tmod a b ∧ Int.tmod a b < -b) := by
  rw [tmod_is]
  by_cases h : a < 0
  · rw [if_pos h]
    have e0 := Int.emod_nonneg (-a) hb
    refine ⟨fun _ => by omega, fun _ => by omega, fun p => ?_, fun p => ?_⟩
    · have := Int.emod_lt_of_pos (-a) p; omega
    · have := Int.emod_lt_of_pos (-a) (show 0 < -b by omega); rw [Int.emod_neg] at this; omega
  · rw [if_neg h]
    have e0 := Int.emod_nonneg a hb
    refine ⟨fun _ => e0, fun q => ?_, fun p => ?_, fun p => ?_⟩
    · have : a = 0 := by omega
      subst this; simp
    · have := Int.emod_lt_of_pos a p; omega
    · have := Int.emod_lt_of_pos a (show 0 < -b by omega); rw [Int.emod_neg] at this; omega
theorem tdiv_bd (a b : Int) (ha : I64 a) (hb : b ≠ 0) (hx : ¬ (a = -9223372036854775808 ∧ b = -1)) : I64 (Int.tdiv a b) ∧ (Int.tmod a b ≠ 0 → ((a < 0 ∧ 0 < b) ∨ (0 ≤ a ∧ b < 0)) → I64 (Int.tdiv a b - 1)) := by
  have e := tdm a b
  obtain ⟨t1, t2, t3, t4⟩ := tmod_bd a b hb
  unfold I64 at *
  generalize Int.tdiv a b = u at *
  generalize Int.tmod a b = t at *
  by_cases hu0 : u = 0
  · subst hu0
    constructor
    · omega
    · intro z s; omega
  rcases Int.lt_or_gt_of_ne hb with h | h
  · have t4 := t4 h
    rcases Int.lt_or_le u 0 with hu | hu
    · have m := Int.mul_le_mul_of_nonpos_right (show b ≤ -1 by omega) (show u ≤ 0 by omega)
      have m' := Int.mul_le_mul_of_nonpos_left (show b ≤ 0 by omega) (show u ≤ -1 by omega)
      constructor
      · omega
      · intro z s; omega
    · have m := Int.mul_le_mul_of_nonneg_right (show b ≤ -1 by omega) hu
      have m' := Int.mul_le_mul_of_nonpos_left (show b ≤ 0 by omega) (show 1 ≤ u by omega)
      by_cases hb1 : b = -1
      · subst hb1
        constructor
        · omega
        · intro z s; omega
      · have m2 := Int.mul_le_mul_of_nonneg_right (show b ≤ -2 by omega) hu
        constructor
        · omega
        · intro z s; omega
  · have t3 := t3 h
    rcases Int.lt_or_le u 0 with hu | hu
    · have m := Int.mul_le_mul_of_nonpos_right (show 1 ≤ b by omega) (show u ≤ 0 by omega)
      have m' := Int.mul_le_mul_of_nonneg_left (show u ≤ -1 by omega) (show 0 ≤ b by omega)
      constructor
      · omega
      · intro z s; omega
    · have m := Int.mul_le_mul_of_nonneg_right (show 1 ≤ b by omega) hu
      have m' := Int.mul_le_mul_of_nonneg_left (show 1 ≤ u by omega) (show 0 ≤ b by omega)
      constructor
      · omega
      · intro z s; omega
theorem div_mod (a b : Int) (ha : I64 a) (hbb : I64 b) (hb : b ≠ 0) (hx : ¬ (a = -9223372036854775808 ∧ b = -1)) :
    ∃ q r, Ev (fun k => num_Div.f k a b) (q, none) ∧ num_Mod.f a b = some (r, none) ∧ DM a b q r := by
  have e := tdm a b
  have bd := tmod_bd a b hb
  obtain ⟨t1, t2, t3, t4⟩ := bd
  obtain ⟨i1, i2⟩ := tdiv_bd a b ha hb hx
  have hd : ∀ v, Ev (fun k => num_Div.j0 k a b) v → Ev (fun k => num_Div.f k a b) v := by
    intro v h
    unfold num_Div.f
    refine Ev.neg hb (Ev.ite (fun q => ?_) (fun _ => h))
    exact Ev.neg (fun z => hx ⟨q, z⟩) h
  unfold num_Mod.f
  rw [if_neg hb]
  by_cases hz : Int.tmod a b = 0
  · refine ⟨Int.tdiv a b, 0, hd _ (Ev.up ?_), ?_, ⟨by omega, fun _ => by omega, fun _ => by omega, i1⟩⟩
    · simp only [num_Div.j0]
      rw [wrap64_id i1]
      exact Ev.neg hb (Ev.pos hz (Ev.now _))
    · by_cases hm : b = -1
      · rw [if_pos hm]
      · rw [if_neg hm, if_pos hz, hz]
  · have hm : b ≠ -1 := by
      intro h
      have := t4 (by omega)
      omega
    rw [if_neg hm, if_neg hz]
    by_cases hs : (a < 0 ∧ 0 < b) ∨ (0 ≤ a ∧ b < 0)
    · have i2 := i2 hz hs
      refine ⟨Int.tdiv a b - 1, Int.tmod a b + b, hd _ (Ev.up ?_), ?_, ⟨by rw [Int.mul_sub, Int.mul_one]; omega, fun _ => by omega, fun _ => by omega, i2⟩⟩
      · simp only [num_Div.j0]
        rw [wrap64_id i1, wrap64_id i2]
        refine Ev.neg hb (Ev.neg hz (Ev.pos ?_ (Ev.now _)))
        rcases hs with ⟨p, q⟩ | ⟨p, q⟩
        · rw [decide_eq_true p, decide_eq_false (by omega)]; rfl
        · rw [decide_eq_false (by omega), decide_eq_true q]; rfl
      · have w : wrap64 (Int.tmod a b + b) = Int.tmod a b + b := wrap64_id (by unfold I64 at *; omega)
        rw [w, if_pos]
        rcases hs with ⟨p, q⟩ | ⟨p, q⟩
        · rw [decide_eq_true (by omega), decide_eq_false (by omega)]; rfl
        · rw [decide_eq_false (by omega), decide_eq_true q]; rfl
    · refine ⟨Int.tdiv a b, Int.tmod a b, hd _ (Ev.up ?_), ?_, ⟨by omega, fun _ => by omega, fun _ => by omega, i1⟩⟩
      · simp only [num_Div.j0]
        rw [wrap64_id i1]
        refine Ev.neg hb (Ev.neg hz (Ev.neg ?_ (Ev.now _)))
        by_cases p : a < 0
        · rw [decide_eq_true p, decide_eq_true (by omega)]; decide
        · rw [decide_eq_false p, decide_eq_false (by omega)]; decide
      · rw [if_neg]
        by_cases p : a < 0
        · rw [decide_eq_true (by omega), decide_eq_true (by omega)]; decide
        · rw [decide_eq_false (by omega), decide_eq_false (by omega)]; decide
theorem div_zero (a : Int) : Ev (fun k => num_Div.f k a 0) (0, some 1) ∧ num_Mod.f a 0 = some (0, some 1) := by
  constructor
  · unfold num_Div.f
    exact Ev.pos rfl (Ev.now _)
  · rfl
theorem div_over : Ev (fun k => num_Div.f k (-9223372036854775808) (-1)) (0, some 5) ∧ num_Mod.f (-9223372036854775808) (-1) = some (0, none) := by
  constructor
  · unfold num_Div.f
    exact Ev.neg (by decide) (Ev.pos rfl (Ev.pos rfl (Ev.now _)))
  · rfl
theorem alive_is : Ev (fun k => horologelaw01_alive.f k) true := Ev.of (fun k => horologelaw01_alive.mono k) (k := 10) (by kernel_rfl)
theorem quot_is {x y z : Bool × List Int} {a b q r : Int} {n m l : Nat} (hx : Is x a n) (hy : Is y b m) (hz : Is z q l) (hn : n ≤ 1000) (hm : m ≤ 1000) (hl : l ≤ 1000) (e : b * q + r = a) (h1 : 0 < b → 0 ≤ r ∧ r < b) (h2 : b < 0 → b < r ∧ r ≤ 0) (hb : b ≠ 0) :
    Ev (fun k => horologeref01_Quotient.f k x.1 x.2 y.1 y.2 z.1 z.2) true := by
  obtain ⟨p, p1, p2⟩ := Times_is hz hy (by omega) (by omega)
  obtain ⟨o, o1, o2⟩ := Of_is 1 (by unfold I64; omega)
  obtain ⟨s, s1, s2⟩ := Plus_is hz o2 (by omega) (by decide)
  obtain ⟨t, t1, t2⟩ := Times_is s2 hy (by omega) (by omega)
  have L1 := Less_is p2 hx (by omega) (by omega)
  have L2 := Less_is t2 hx (by omega) (by omega)
  have L3 := Less_is hx p2 (by omega) (by omega)
  have L4 := Less_is hx t2 (by omega) (by omega)
  rw [Int.add_mul, Int.one_mul] at L2 L4
  rw [Int.mul_comm q b] at L1 L2 L3 L4
  generalize b * q = u at e L1 L2 L3 L4
  unfold horologeref01_Quotient.f
  refine Ev.bind p1 (Ev.bind o1 (Ev.bind s1 (Ev.bind t1 (Ev.ite (fun g => ?_) (fun g => ?_)))))
  · have hb := h2 (hy.neg.mp g)
    refine Ev.bind L1 (Ev.neg (by rw [decide_eq_true_iff]; omega) ?_)
    rw [decide_eq_true (show u + b < a by omega)] at L2
    exact L2
  · have hg : ¬ b < 0 := fun z => g (hy.neg.mpr z)
    have hb := h1 (by omega)
    refine Ev.bind L3 (Ev.neg (by rw [decide_eq_true_iff]; omega) ?_)
    rw [decide_eq_true (show a < u + b by omega)] at L4
    exact L4
theorem is_one : horologenum_Is.f (some 1) 1 = some true := rfl
theorem split_lt (a b : Int) (h : b < 1) : Ev (fun k => num_Split.f k a b) (0, 0, some 1) := by
  unfold num_Split.f
  exact Ev.pos h (Ev.now _)
theorem split_ge (a b q r : Int) (h : ¬ b < 1) (d1 : Ev (fun k => num_Div.f k a b) (q, none)) (d2 : num_Mod.f a b = some (r, none)) : Ev (fun k => num_Split.f k a b) (q, r, none) := by
  unfold num_Split.f
  exact Ev.neg h (Ev.bind d1 (Ev.pos rfl (Ev.bindc d2 (Ev.pos rfl (Ev.now _)))))
theorem core_j1 (a b q r s t : Int) (g : Option Int) (ha : I64 a) (hb : I64 b) (hz : b ≠ 0) (dm : DM a b q r) (hs : ¬ b < 1 → s = q ∧ t = r ∧ g = none) : Ev (fun k => horologelaw01_NumDivs.j1 k a b q none r none s t g false) true := by
  obtain ⟨e, h1, h2, hq⟩ := dm
  have hr : I64 r := by
    clear e
    unfold I64 at *
    rcases Int.lt_or_gt_of_ne hz with n | n
    · have := h2 n; omega
    · have := h1 n; omega
  obtain ⟨x, x1, x2⟩ := Of_is a ha
  obtain ⟨y, y1, y2⟩ := Of_is b hb
  obtain ⟨z, z1, z2⟩ := Of_is q hq
  obtain ⟨p, p1, p2⟩ := Times_is y2 z2 (by decide) (by decide)
  obtain ⟨m, m1, m2⟩ := Minus_is p2
  obtain ⟨d, d1, d2⟩ := Plus_is x2 m2 (by decide) (by decide)
  have d3 := Small_is d2 (by decide)
  rw [show a + -(b * q) = r by omega, smallV_in hr] at d3
  refine Ev.up ?_
  simp only [horologelaw01_NumDivs.j1, Bool.false_eq_true, if_false]
  refine Ev.bind x1 (Ev.bind y1 (Ev.bind z1 (Ev.pos rfl (Ev.pos rfl (Ev.bind (quot_is x2 y2 z2 (by decide) (by decide) (by decide) e.symm h1 h2 hz) (Ev.up ?_))))))
  simp only [horologelaw01_NumDivs.j2, Bool.not_true, Bool.false_eq_true, if_false]
  refine Ev.bind p1 (Ev.bindc m1 (Ev.bind d1 (Ev.bind d3 (Ev.pos rfl (Ev.ite (fun _ => Ev.now _) (fun n => ?_))))))
  obtain ⟨rfl, rfl, rfl⟩ := hs n
  exact Ev.pos rfl (Ev.pos rfl (Ev.pos rfl (Ev.now _)))
end Go.Proofs.Ytcgcodmknoiljaa.MNumDivs
namespace Go.Proofs.Ytcgcodmknoiljaa.Pure
open Go.RowKit Go.Proofs.Ytcgcodmknoiljaa.MNumDivs Go.Proofs.YtcgcodmknoiljaaW.PrintWords Go.Proofs.YtcgcodmknoiljaaW.PrintLast Go.Proofs.Ytcgcodmknoiljaa.Base
set_option linter.unusedVariables false
set_option linter.unusedSimpArgs false
theorem NumDivs : horologelaw01_NumDivs.Pure := by
  intro a b ha hb
  replace ha := i64_of ha
  replace hb := i64_of hb
  refine Ev.ok (g := fun k => horologelaw01_NumDivs.f k a b) ?_
  unfold horologelaw01_NumDivs.f
  refine Ev.bind alive_is (Ev.pos rfl ?_)
  by_cases hz : b = 0
  · subst hz
    obtain ⟨d1, d2⟩ := div_zero a
    refine Ev.bind d1 (Ev.bindc d2 (Ev.bind (split_lt a 0 (by decide)) ?_))
    exact Ev.pos rfl (Ev.pos rfl (Ev.pos rfl (Ev.pos rfl (Ev.pos rfl (Ev.bindc is_one (Ev.pos rfl (Ev.bindc is_one (Ev.pos rfl (Ev.bindc is_one (Ev.now _))))))))))
  by_cases hx : a = -9223372036854775808 ∧ b = -1
  · obtain ⟨rfl, rfl⟩ := hx
    obtain ⟨d1, d2⟩ := div_over
    refine Ev.bind d1 (Ev.bindc d2 (Ev.bind (split_lt _ _ (by decide)) ?_))
    refine Ev.neg (by decide) (Ev.pos (by decide) (Ev.pos rfl (Ev.pos rfl (Ev.bindc is_one (Ev.up ?_)))))
    simp only [horologelaw01_NumDivs.j0]
    refine Ev.neg (by decide) (Ev.pos (by first | trivial | rfl) (Ev.up ?_))
    simp only [horologelaw01_NumDivs.j1]
    exact Ev.pos (by first | trivial | rfl) (Ev.pos (by first | trivial | rfl) (Ev.pos (by first | trivial | rfl) (Ev.pos (by first | trivial | rfl) (Ev.bindc (show horologenum_Is.f (some 5) 5 = some true from rfl) (Ev.now _)))))
  obtain ⟨q, r, d1, d2, dm⟩ := div_mod a b ha hb hz hx
  have j0 : ∀ s t g, (¬ b < 1 → s = q ∧ t = r ∧ g = none) → Ev (fun k => horologelaw01_NumDivs.j0 k a b q none r none s t g false) true := by
    intro s t g hs
    refine Ev.up ?_
    simp only [horologelaw01_NumDivs.j0]
    refine Ev.neg (by decide) (Ev.ite (fun h => ?_) (fun _ => core_j1 a b q r s t g ha hb hz dm hs))
    rw [beq_eq_false_iff_ne.mpr (fun z => hx ⟨h, z⟩)]
    exact core_j1 a b q r s t g ha hb hz dm hs
  by_cases h1 : b < 1
  · refine Ev.bind d1 (Ev.bindc d2 (Ev.bind (split_lt a b h1) ?_))
    exact Ev.neg hz (Ev.pos h1 (Ev.pos rfl (Ev.pos rfl (Ev.bindc is_one (j0 0 0 (some 1) (fun n => absurd h1 n))))))
  · refine Ev.bind d1 (Ev.bindc d2 (Ev.bind (split_ge a b q r h1 d1 d2) ?_))
    exact Ev.neg hz (Ev.neg h1 (j0 q r none (fun _ => ⟨rfl, rfl, rfl⟩)))
end Go.Proofs.Ytcgcodmknoiljaa.Pure
