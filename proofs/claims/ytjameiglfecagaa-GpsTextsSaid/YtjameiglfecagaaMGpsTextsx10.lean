-- This text was written by a program of this session (a changed scratch copy of a tool of the kit; NOTES.md tells the changes).
import Derived.Test.YtjameiglfecagaaMGpsTextsx0
import Derived.Test.YtjameiglfecagaaMGpsTextsx5
import Derived.Test.YtjameiglfecagaaMGpsTextsx8
import Derived.Test.YtjameiglfecagaaMGpsTextsx9
namespace Go.Proofs.Ytjameiglfecagaa.MGpsTexts
open Go.RowKit Go.Proofs.YtjameiglfecagaaW.PrintWords Go.Proofs.YtjameiglfecagaaW.PrintLast Go.Proofs.YtjameiglfecagaaW.PrintMore
attribute [local go_sem] max2_int min2_int max_two min_two max_three min_three max_four min_four   -- for this text's walks alone
set_option linter.unusedVariables false
set_option linter.unusedSimpArgs false

/-! ### horologeref14_Parse: function 21 -/
mutual
def horologeref14_Parse.j0 : Nat → ByteArray → Bool → Option (Int × Int)
  | 0, _, _ => none
  | k + 1, x4, x5 => if x5 = true then (if 1 ≤ (x4.size : Int) then (horologeref14_Parse.j1 k (x4.extract 1 x4.size) x5) else (none)) else (horologeref14_Parse.j1 k x4 x5)
def horologeref14_Parse.j1 : Nat → ByteArray → Bool → Option (Int × Int)
  | 0, _, _ => none
  | k + 1, x4, x5 => (horologeref02_Many.f k x4).bind fun t453 => (if t453 < 4 then (horologeref14_Parse.j2 k x4 x5 t453 true) else (if t453 > 4 then (if 0 < (x4.size : Int) then (if (bt x4 0) = 48 then (horologeref14_Parse.j2 k x4 x5 t453 true) else (if (x4.size : Int) = (wrap64 (t453 + 7)) then (if 0 ≤ t453 then (if t453 < (x4.size : Int) then (if (bt x4 t453) = 58 then (if 0 ≤ (wrap64 (t453 + 1)) then (if (wrap64 (t453 + 1)) ≤ (x4.size : Int) then ((horologeref02_Many.f k (x4.extract ((wrap64 (t453 + 1)) : Int).toNat x4.size)).bind fun t454 => (horologeref14_Parse.j2 k x4 x5 t453 (t454 != 6))) else (none)) else (none)) else (horologeref14_Parse.j2 k x4 x5 t453 true)) else (none)) else (none)) else (horologeref14_Parse.j2 k x4 x5 t453 true))) else (none)) else (if (x4.size : Int) = (wrap64 (t453 + 7)) then (if 0 ≤ t453 then (if t453 < (x4.size : Int) then (if (bt x4 t453) = 58 then (if 0 ≤ (wrap64 (t453 + 1)) then (if (wrap64 (t453 + 1)) ≤ (x4.size : Int) then ((horologeref02_Many.f k (x4.extract ((wrap64 (t453 + 1)) : Int).toNat x4.size)).bind fun t455 => (horologeref14_Parse.j2 k x4 x5 t453 (t455 != 6))) else (none)) else (none)) else (horologeref14_Parse.j2 k x4 x5 t453 true)) else (none)) else (none)) else (horologeref14_Parse.j2 k x4 x5 t453 true))))
def horologeref14_Parse.j2 : Nat → ByteArray → Bool → Int → Bool → Option (Int × Int)
  | 0, _, _, _, _ => none
  | k + 1, x4, x5, x6, x57 => if x57 = true then (some (0, 2)) else (if x5 = true then (if 0 ≤ x6 then (if x6 ≤ (x4.size : Int) then (horologeref14_Parse.j3 k x4 x5 x6 ((x4.extract 0 (x6 : Int).toNat).toList == ([48, 48, 48, 48] : List UInt8))) else (none)) else (none)) else (horologeref14_Parse.j3 k x4 x5 x6 false))
def horologeref14_Parse.j3 : Nat → ByteArray → Bool → Int → Bool → Option (Int × Int)
  | 0, _, _, _, _ => none
  | k + 1, x4, x5, x6, x64 => if x64 = true then (some (0, 2)) else (if 0 ≤ x6 then (if x6 ≤ (x4.size : Int) then ((horologeref02_Big.f k (x4.extract 0 (x6 : Int).toNat)).bind fun bt456 => (if x5 = true then ((horologeref01_Minus.f bt456.1 bt456.2).bind fun bt461 => (horologeref14_Parse.j4 k x4 x6 bt461.1 bt461.2)) else (horologeref14_Parse.j4 k x4 x6 bt456.1 bt456.2))) else (none)) else (none))
def horologeref14_Parse.j4 : Nat → ByteArray → Int → Bool → List Int → Option (Int × Int)
  | 0, _, _, _, _ => none
  | k + 1, x4, x6, x461000, x461001 => (horologeref01_Small.f k x461000 x461001).bind fun bt465 => (if bt465.2 = 0 then (if 0 ≤ (wrap64 (x6 + 1)) then (if (wrap64 (x6 + 1)) ≤ (x4.size : Int) then ((horologeref02_Whole.f k (x4.extract ((wrap64 (x6 + 1)) : Int).toNat x4.size) 6 6).bind fun bt467 => ((horologeref14_Tai.f k bt465.1 bt467.1).bind fun bt469 => (some (bt469.1, bt469.2)))) else (none)) else (none)) else (some (0, bt465.2)))
end
def horologeref14_Parse.f (k : Nat) (a0 : ByteArray) : Option (Int × Int) := if (a0.size : Int) > 0 then (if 0 < (a0.size : Int) then (horologeref14_Parse.j0 k a0 ((bt a0 0) == 45)) else (none)) else (horologeref14_Parse.j0 k a0 false)
theorem horologeref14_Parse.mono_l : ∀ k, (∀ y0 y1, LeO (horologeref14_Parse.j0 k y0 y1) (horologeref14_Parse.j0 (k + 1) y0 y1)) ∧ (∀ y0 y1, LeO (horologeref14_Parse.j1 k y0 y1) (horologeref14_Parse.j1 (k + 1) y0 y1)) ∧ (∀ y0 y1 y2 y3, LeO (horologeref14_Parse.j2 k y0 y1 y2 y3) (horologeref14_Parse.j2 (k + 1) y0 y1 y2 y3)) ∧ (∀ y0 y1 y2 y3, LeO (horologeref14_Parse.j3 k y0 y1 y2 y3) (horologeref14_Parse.j3 (k + 1) y0 y1 y2 y3)) ∧ (∀ y0 y1 y2 y3, LeO (horologeref14_Parse.j4 k y0 y1 y2 y3) (horologeref14_Parse.j4 (k + 1) y0 y1 y2 y3))
  | 0 => ⟨fun _ _ r h => by simp [horologeref14_Parse.j0] at h, fun _ _ r h => by simp [horologeref14_Parse.j1] at h, fun _ _ _ _ r h => by simp [horologeref14_Parse.j2] at h, fun _ _ _ _ r h => by simp [horologeref14_Parse.j3] at h, fun _ _ _ _ r h => by simp [horologeref14_Parse.j4] at h⟩
  | k + 1 => by
    obtain ⟨ih0, ih1, ih2, ih3, ih4⟩ := horologeref14_Parse.mono_l k
    refine ⟨?_, ?_, ?_, ?_, ?_⟩
    · intro y0 y1
      unfold horologeref14_Parse.j0
      repeat' first
      | (with_reducible exact ih0 _ _)
      | (with_reducible exact ih1 _ _)
      | (with_reducible exact ih2 _ _ _ _)
      | (with_reducible exact ih3 _ _ _ _)
      | (with_reducible exact ih4 _ _ _ _)
      | (with_reducible exact horologeref01_Small.mono _ _ _)
      | (with_reducible exact horologeref02_Big.mono _ _)
      | (with_reducible exact horologeref02_Many.mono _ _)
      | (with_reducible exact horologeref02_Whole.mono _ _ _ _)
      | (with_reducible exact horologeref14_Tai.mono _ _ _)
      | (with_reducible exact LeO.refl _)
      | (with_reducible exact LeO.none _)
      | (with_reducible refine LeO.ite ?_ ?_)
      | (with_reducible refine LeO.bind ?_ (fun _ => ?_))
      | exact ih0 _ _
      | exact ih1 _ _
      | exact ih2 _ _ _ _
      | exact ih3 _ _ _ _
      | exact ih4 _ _ _ _
      | exact horologeref01_Small.mono _ _ _
      | exact horologeref02_Big.mono _ _
      | exact horologeref02_Many.mono _ _
      | exact horologeref02_Whole.mono _ _ _ _
      | exact horologeref14_Tai.mono _ _ _
      | exact LeO.none _
      | refine LeO.ite ?_ ?_
      | refine LeO.bind ?_ (fun _ => ?_)
    · intro y0 y1
      unfold horologeref14_Parse.j1
      repeat' first
      | (with_reducible exact ih0 _ _)
      | (with_reducible exact ih1 _ _)
      | (with_reducible exact ih2 _ _ _ _)
      | (with_reducible exact ih3 _ _ _ _)
      | (with_reducible exact ih4 _ _ _ _)
      | (with_reducible exact horologeref01_Small.mono _ _ _)
      | (with_reducible exact horologeref02_Big.mono _ _)
      | (with_reducible exact horologeref02_Many.mono _ _)
      | (with_reducible exact horologeref02_Whole.mono _ _ _ _)
      | (with_reducible exact horologeref14_Tai.mono _ _ _)
      | (with_reducible exact LeO.refl _)
      | (with_reducible exact LeO.none _)
      | (with_reducible refine LeO.ite ?_ ?_)
      | (with_reducible refine LeO.bind ?_ (fun _ => ?_))
      | exact ih0 _ _
      | exact ih1 _ _
      | exact ih2 _ _ _ _
      | exact ih3 _ _ _ _
      | exact ih4 _ _ _ _
      | exact horologeref01_Small.mono _ _ _
      | exact horologeref02_Big.mono _ _
      | exact horologeref02_Many.mono _ _
      | exact horologeref02_Whole.mono _ _ _ _
      | exact horologeref14_Tai.mono _ _ _
      | exact LeO.none _
      | refine LeO.ite ?_ ?_
      | refine LeO.bind ?_ (fun _ => ?_)
    · intro y0 y1 y2 y3
      unfold horologeref14_Parse.j2
      repeat' first
      | (with_reducible exact ih0 _ _)
      | (with_reducible exact ih1 _ _)
      | (with_reducible exact ih2 _ _ _ _)
      | (with_reducible exact ih3 _ _ _ _)
      | (with_reducible exact ih4 _ _ _ _)
      | (with_reducible exact horologeref01_Small.mono _ _ _)
      | (with_reducible exact horologeref02_Big.mono _ _)
      | (with_reducible exact horologeref02_Many.mono _ _)
      | (with_reducible exact horologeref02_Whole.mono _ _ _ _)
      | (with_reducible exact horologeref14_Tai.mono _ _ _)
      | (with_reducible exact LeO.refl _)
      | (with_reducible exact LeO.none _)
      | (with_reducible refine LeO.ite ?_ ?_)
      | (with_reducible refine LeO.bind ?_ (fun _ => ?_))
      | exact ih0 _ _
      | exact ih1 _ _
      | exact ih2 _ _ _ _
      | exact ih3 _ _ _ _
      | exact ih4 _ _ _ _
      | exact horologeref01_Small.mono _ _ _
      | exact horologeref02_Big.mono _ _
      | exact horologeref02_Many.mono _ _
      | exact horologeref02_Whole.mono _ _ _ _
      | exact horologeref14_Tai.mono _ _ _
      | exact LeO.none _
      | refine LeO.ite ?_ ?_
      | refine LeO.bind ?_ (fun _ => ?_)
    · intro y0 y1 y2 y3
      unfold horologeref14_Parse.j3
      repeat' first
      | (with_reducible exact ih0 _ _)
      | (with_reducible exact ih1 _ _)
      | (with_reducible exact ih2 _ _ _ _)
      | (with_reducible exact ih3 _ _ _ _)
      | (with_reducible exact ih4 _ _ _ _)
      | (with_reducible exact horologeref01_Small.mono _ _ _)
      | (with_reducible exact horologeref02_Big.mono _ _)
      | (with_reducible exact horologeref02_Many.mono _ _)
      | (with_reducible exact horologeref02_Whole.mono _ _ _ _)
      | (with_reducible exact horologeref14_Tai.mono _ _ _)
      | (with_reducible exact LeO.refl _)
      | (with_reducible exact LeO.none _)
      | (with_reducible refine LeO.ite ?_ ?_)
      | (with_reducible refine LeO.bind ?_ (fun _ => ?_))
      | exact ih0 _ _
      | exact ih1 _ _
      | exact ih2 _ _ _ _
      | exact ih3 _ _ _ _
      | exact ih4 _ _ _ _
      | exact horologeref01_Small.mono _ _ _
      | exact horologeref02_Big.mono _ _
      | exact horologeref02_Many.mono _ _
      | exact horologeref02_Whole.mono _ _ _ _
      | exact horologeref14_Tai.mono _ _ _
      | exact LeO.none _
      | refine LeO.ite ?_ ?_
      | refine LeO.bind ?_ (fun _ => ?_)
    · intro y0 y1 y2 y3
      unfold horologeref14_Parse.j4
      repeat' first
      | (with_reducible exact ih0 _ _)
      | (with_reducible exact ih1 _ _)
      | (with_reducible exact ih2 _ _ _ _)
      | (with_reducible exact ih3 _ _ _ _)
      | (with_reducible exact ih4 _ _ _ _)
      | (with_reducible exact horologeref01_Small.mono _ _ _)
      | (with_reducible exact horologeref02_Big.mono _ _)
      | (with_reducible exact horologeref02_Many.mono _ _)
      | (with_reducible exact horologeref02_Whole.mono _ _ _ _)
      | (with_reducible exact horologeref14_Tai.mono _ _ _)
      | (with_reducible exact LeO.refl _)
      | (with_reducible exact LeO.none _)
      | (with_reducible refine LeO.ite ?_ ?_)
      | (with_reducible refine LeO.bind ?_ (fun _ => ?_))
      | exact ih0 _ _
      | exact ih1 _ _
      | exact ih2 _ _ _ _
      | exact ih3 _ _ _ _
      | exact ih4 _ _ _ _
      | exact horologeref01_Small.mono _ _ _
      | exact horologeref02_Big.mono _ _
      | exact horologeref02_Many.mono _ _
      | exact horologeref02_Whole.mono _ _ _ _
      | exact horologeref14_Tai.mono _ _ _
      | exact LeO.none _
      | refine LeO.ite ?_ ?_
      | refine LeO.bind ?_ (fun _ => ?_)
theorem horologeref14_Parse.mono : ∀ a0 k, LeO (horologeref14_Parse.f k a0) (horologeref14_Parse.f (k + 1) a0) := by
  intro a0 k
  obtain ⟨ih0, ih1, ih2, ih3, ih4⟩ := horologeref14_Parse.mono_l k
  unfold horologeref14_Parse.f
  repeat' first
      | (with_reducible exact ih0 _ _)
      | (with_reducible exact ih1 _ _)
      | (with_reducible exact ih2 _ _ _ _)
      | (with_reducible exact ih3 _ _ _ _)
      | (with_reducible exact ih4 _ _ _ _)
      | (with_reducible exact horologeref01_Small.mono _ _ _)
      | (with_reducible exact horologeref02_Big.mono _ _)
      | (with_reducible exact horologeref02_Many.mono _ _)
      | (with_reducible exact horologeref02_Whole.mono _ _ _ _)
      | (with_reducible exact horologeref14_Tai.mono _ _ _)
      | (with_reducible exact LeO.refl _)
      | (with_reducible exact LeO.none _)
      | (with_reducible refine LeO.ite ?_ ?_)
      | (with_reducible refine LeO.bind ?_ (fun _ => ?_))
      | exact ih0 _ _
      | exact ih1 _ _
      | exact ih2 _ _ _ _
      | exact ih3 _ _ _ _
      | exact ih4 _ _ _ _
      | exact horologeref01_Small.mono _ _ _
      | exact horologeref02_Big.mono _ _
      | exact horologeref02_Many.mono _ _
      | exact horologeref02_Whole.mono _ _ _ _
      | exact horologeref14_Tai.mono _ _ _
      | exact LeO.none _
      | refine LeO.ite ?_ ?_
      | refine LeO.bind ?_ (fun _ => ?_)
set_option maxHeartbeats 8000000 in
set_option maxRecDepth 100000 in
theorem horologeref14_Parse.calls (k : Nat) (a0 : ByteArray) (r1 : Int) (r2 : Int) (w : World) (h : horologeref14_Parse.f k a0 = some (r1, r2)) :
    Calls Try.prog 21 #[.string a0] w fun e w' => e = .returned (.tuple #[.int .i64 r1, .int .i64 r2]) ∧ Below w.heap.size w w' := by
  have hu56 := Try.underlying56
  have HB := Aside0.mk (Below.refl w.heap.size w)
  have H : (if (a0.size : Int) > 0 then (if 0 < (a0.size : Int) then (horologeref14_Parse.j0 k a0 ((bt a0 0) == 45)) else (none)) else (horologeref14_Parse.j0 k a0 false)) = some (r1, r2) := h
  clear h
  have HC2 := Aside0.mk H
  clear H
  go_enter Try.func21, Try.ntmps21
  go_upto_region 2 with (fail)
  go_cut [5] (fun v5 wc => ∃ (kq : Nat) (x5_1 : Bool), v5 = .bool x5_1 ∧ Aside0 (horologeref14_Parse.j0 kq a0 x5_1 = some (r1, r2)) ∧ Aside0 (kq ≤ k) ∧ Aside0 (Below w.heap.size w wc))
  case first =>
    have H := HC2.out
    clear HC2
    by_cases c3 : (a0.size : Int) > 0
    · rw [if_pos c3] at H
      have c3b0 : decide (0 < (a0.size : Int)) = true := decide_eq_true c3
      have c3b1 : decide (0 < a0.size) = true := decide_eq_true (by omega)
      clear c3
      (first | rw [c3b0] | (simp only [i64_w, i32_w]; rw [c3b0]) | skip)
      by_cases c4 : 0 < (a0.size : Int)
      · rw [if_pos c4] at H
        have c4b0 : decide (0 < (a0.size : Int)) = true := decide_eq_true c4
        have c4b1 : decide (0 < a0.size) = true := decide_eq_true (by omega)
        clear c4
        have H' := Aside0.mk H
        clear H
        have p5 : 0 ≤ (0 : Int) := (by omega)
        have q5 : 0 < a0.size := (by have : (0 : Int) < (a0.size : Int) := of_decide_eq_true (by first | (with_reducible assumption) | assumption); omega)
        have hx5 : ∀ h : 0 < a0.size, ((a0[0]'h).toNat : Int) = bt a0 0 := bt_at a0 0
        clear p5
        have qi5 : (0 < (a0.size : Int)) = True := eq_true (of_decide_eq_true (by first | (with_reducible assumption) | assumption))
        replace q5 := eq_true q5
        go_wp2
        go_meet
        case rel => exact ⟨_, (((bt a0 0) == 45)), (by first | rfl | (simp; done) | (simp [*]; done)), H', ⟨by first | omega | exact Nat.le_refl _⟩, ⟨by repeat (first | (with_reducible first | exact HB.out | apply below_alloc | apply pw_below_drewN | apply below_drew1) | exact HB.out)⟩⟩
      · rw [if_neg c4] at H
        exact absurd H (by simp)
    · rw [if_neg c3] at H
      have c3b0 : decide (0 < (a0.size : Int)) = false := decide_eq_false c3
      have c3b1 : decide (0 < a0.size) = false := decide_eq_false (by omega)
      clear c3
      (first | rw [c3b0] | (simp only [i64_w, i32_w]; rw [c3b0]) | skip)
      have H' := Aside0.mk H
      clear H
      go_wp2
      go_meet
      case rel => exact ⟨_, (false), (by first | rfl | (simp; done) | (simp [*]; done)), H', ⟨by first | omega | exact Nat.le_refl _⟩, ⟨by repeat (first | (with_reducible first | exact HB.out | apply below_alloc | apply pw_below_drewN | apply below_drew1) | exact HB.out)⟩⟩
  case rest =>
    clear HC2
    try clear c2
    try clear p2
    try clear c3
    try clear c3b0
    try clear c3b1
    try clear c4
    try clear c4b0
    try clear c4b1
    try clear p5
    try clear q5
    try clear hx5
    try clear qi5
    try clear p5
    try clear q5
    obtain ⟨kq, x5_1, rfl, HA, HJ1, HB⟩ := hcut
    cases kq with
    | zero => exact absurd HA.out (by simp [horologeref14_Parse.j0])
    | succ kj1 =>
      have H := HA.out
      clear HA
      simp only [horologeref14_Parse.j0] at H
      have HC6 := Aside0.mk H
      clear H
      go_upto_if 21 with (fail)
      go_cut [4] (fun v4 wc => ∃ (kq : Nat) (x4_5 : ByteArray), v4 = .string x4_5 ∧ Aside0 (horologeref14_Parse.j1 kq x4_5 x5_1 = some (r1, r2)) ∧ Aside0 (kq ≤ kj1) ∧ Aside0 (Below w.heap.size w wc))
      case first =>
        have H := HC6.out
        clear HC6
        by_cases c7 : x5_1 = true
        · subst c7
          have H1 : (if 1 ≤ (a0.size : Int) then (horologeref14_Parse.j1 kj1 (a0.extract 1 a0.size) true) else (none)) = some (r1, r2) := by rw [if_pos rfl] at H; exact H
          clear H
          have H := H1
          clear H1
          by_cases c8 : 1 ≤ (a0.size : Int)
          · rw [if_pos c8] at H
            have c8b0 := eq_true c8
            have c8b1 : decide (1 ≤ (a0.size : Int)) = true := decide_eq_true c8
            clear c8
            have H' := Aside0.mk H
            clear H
            go_wp2
            go_meet
            case rel => exact ⟨_, (a0.extract 1 a0.size), (by first | rfl | (simp; done) | (simp [*]; done)), H', ⟨by have := HJ1.out; first | omega | exact Nat.le_refl _⟩, ⟨by repeat (first | (with_reducible first | exact HB.out | apply below_alloc | apply pw_below_drewN | apply below_drew1) | exact HB.out)⟩⟩
          · rw [if_neg c8] at H
            exact absurd H (by simp)
        · replace c7 := Bool.eq_false_iff.mpr c7
          subst c7
          have H1 : (horologeref14_Parse.j1 kj1 a0 false) = some (r1, r2) := by rw [if_neg (show ¬ (false = true) by decide)] at H; exact H
          clear H
          have H := H1
          clear H1
          have H' := Aside0.mk H
          clear H
          go_wp2
          go_meet
          case rel => exact ⟨_, (a0), (by first | rfl | (simp; done) | (simp [*]; done)), H', ⟨by have := HJ1.out; first | omega | exact Nat.le_refl _⟩, ⟨by repeat (first | (with_reducible first | exact HB.out | apply below_alloc | apply pw_below_drewN | apply below_drew1) | exact HB.out)⟩⟩
      case rest =>
        clear HC6
        try clear c2
        try clear p2
        try clear c3
        try clear c3b0
        try clear c3b1
        try clear c4
        try clear c4b0
        try clear c4b1
        try clear p5
        try clear q5
        try clear hx5
        try clear qi5
        try clear c7
        try clear c8
        try clear c8b0
        try clear c8b1
        try clear p2
        try clear p5
        try clear q5
        obtain ⟨kq, x4_5, rfl, HA, HJ5, HB⟩ := hcut
        cases kq with
        | zero => exact absurd HA.out (by simp [horologeref14_Parse.j1])
        | succ kj5 =>
          have H := HA.out
          clear HA
          simp only [horologeref14_Parse.j1] at H
          replace H := Option.bind_eq_some_iff.mp H
          obtain ⟨t453, A90, H⟩ := H
          replace H : (if t453 < 4 then (horologeref14_Parse.j2 kj5 x4_5 x5_1 t453 true) else (if t453 > 4 then (if 0 < (x4_5.size : Int) then (if (bt x4_5 0) = 48 then (horologeref14_Parse.j2 kj5 x4_5 x5_1 t453 true) else (if (x4_5.size : Int) = (wrap64 (t453 + 7)) then (if 0 ≤ t453 then (if t453 < (x4_5.size : Int) then (if (bt x4_5 t453) = 58 then (if 0 ≤ (wrap64 (t453 + 1)) then (if (wrap64 (t453 + 1)) ≤ (x4_5.size : Int) then ((horologeref02_Many.f kj5 (x4_5.extract ((wrap64 (t453 + 1)) : Int).toNat x4_5.size)).bind fun t454 => (horologeref14_Parse.j2 kj5 x4_5 x5_1 t453 (t454 != 6))) else (none)) else (none)) else (horologeref14_Parse.j2 kj5 x4_5 x5_1 t453 true)) else (none)) else (none)) else (horologeref14_Parse.j2 kj5 x4_5 x5_1 t453 true))) else (none)) else (if (x4_5.size : Int) = (wrap64 (t453 + 7)) then (if 0 ≤ t453 then (if t453 < (x4_5.size : Int) then (if (bt x4_5 t453) = 58 then (if 0 ≤ (wrap64 (t453 + 1)) then (if (wrap64 (t453 + 1)) ≤ (x4_5.size : Int) then ((horologeref02_Many.f kj5 (x4_5.extract ((wrap64 (t453 + 1)) : Int).toNat x4_5.size)).bind fun t455 => (horologeref14_Parse.j2 kj5 x4_5 x5_1 t453 (t455 != 6))) else (none)) else (none)) else (horologeref14_Parse.j2 kj5 x4_5 x5_1 t453 true)) else (none)) else (none)) else (horologeref14_Parse.j2 kj5 x4_5 x5_1 t453 true)))) = some (r1, r2) := H
          have A9 := Aside0.mk A90
          clear A90
          have HC10 := Aside0.mk H
          clear H
          go_upto_region 6 with (first | ((with_reducible refine gate_callee (f := 44) rfl ?_); refine goesL_ (some 25) rfl rfl Try.func44 (by kernel_rfl) rfl #[.string x4_5] rfl (by (try simp only [List.map_toArray, List.map_cons, List.map_nil]); first | done | rfl | (simp only [List.length_drop, List.length_take]; rfl) | (refine congrArg (fun z_ => #[Value.int IntKind.i64 z_]) (?_ : Go.RowKit.wrap64 (IntKind.u8.wrap _) = _); rw [IntKind.wrap_u8]; unfold Go.RowKit.wrap64; omega)) ?_; (with_reducible refine (horologeref02_Many.calls kj5 x4_5 t453 _ A9.out).mono ?_); rintro e w' ⟨rfl, ⟨nd, rfl⟩⟩; refine ⟨_, rfl, ?_⟩))
          (try simp only [Act.put, List.setIfInBounds_toArray, List.set_cons_zero, List.set_cons_succ])
          go_cut [57] (fun v57 wc => ∃ (kq : Nat) (x57_9 : Bool), v57 = .bool x57_9 ∧ Aside0 (horologeref14_Parse.j2 kq x4_5 x5_1 t453 x57_9 = some (r1, r2)) ∧ Aside0 (kq ≤ kj5) ∧ Aside0 (Below w.heap.size w wc))
          case first =>
            have H := HC10.out
            clear HC10
            by_cases c11 : t453 < 4
            · rw [if_pos c11] at H
              have c11b0 : decide (t453 < 4) = true := decide_eq_true c11
              clear c11
              (first | rw [c11b0] | (simp only [i64_w, i32_w]; rw [c11b0]) | skip)
              have H' := Aside0.mk H
              clear H
              go_wp2
              go_meet
              case rel => exact ⟨_, (true), (by first | rfl | (simp; done) | (simp [*]; done)), H', ⟨by have := HJ1.out; have := HJ5.out; first | omega | exact Nat.le_refl _⟩, ⟨by repeat (first | (with_reducible first | exact HB.out | apply below_alloc | apply pw_below_drewN | apply below_drew1) | exact HB.out)⟩⟩
            · rw [if_neg c11] at H
              have c11b0 : decide (t453 < 4) = false := decide_eq_false c11
              clear c11
              (first | rw [c11b0] | (simp only [i64_w, i32_w]; rw [c11b0]) | skip)
              by_cases c12 : t453 > 4
              · rw [if_pos c12] at H
                have c12b0 : decide (4 < t453) = true := decide_eq_true c12
                clear c12
                by_cases c13 : 0 < (x4_5.size : Int)
                · rw [if_pos c13] at H
                  have c13b0 : decide (0 < (x4_5.size : Int)) = true := decide_eq_true c13
                  have c13b1 : decide (0 < x4_5.size) = true := decide_eq_true (by omega)
                  clear c13
                  by_cases c15 : (bt x4_5 0) = 48
                  · rw [if_pos c15] at H
                    have c15b0 : ((bt x4_5 0) == 48) = true := beq_iff_eq.mpr c15
                    have c15b1 : ((bt x4_5 0) != 48) = false := bne_eq_false_iff_eq.mpr c15
                    clear c15
                    have H' := Aside0.mk H
                    clear H
                    have p14 : 0 ≤ (0 : Int) := (by omega)
                    have q14 : 0 < x4_5.size := (by have : (0 : Int) < (x4_5.size : Int) := of_decide_eq_true (by first | (with_reducible assumption) | assumption); omega)
                    have hx14 : ∀ h : 0 < x4_5.size, ((x4_5[0]'h).toNat : Int) = bt x4_5 0 := bt_at x4_5 0
                    clear p14
                    have qi14 : (0 < (x4_5.size : Int)) = True := eq_true (of_decide_eq_true (by first | (with_reducible assumption) | assumption))
                    replace q14 := eq_true q14
                    go_wp2
                    go_meet
                    case rel => exact ⟨_, (true), (by first | rfl | (simp; done) | (simp [*]; done)), H', ⟨by have := HJ1.out; have := HJ5.out; first | omega | exact Nat.le_refl _⟩, ⟨by repeat (first | (with_reducible first | exact HB.out | apply below_alloc | apply pw_below_drewN | apply below_drew1) | exact HB.out)⟩⟩
                  · rw [if_neg c15] at H
                    have c15b0 : ((bt x4_5 0) == 48) = false := beq_eq_false_iff_ne.mpr c15
                    have c15b1 : ((bt x4_5 0) != 48) = true := bne_iff_ne.mpr c15
                    by_cases c16 : (x4_5.size : Int) = (wrap64 (t453 + 7))
                    · rw [if_pos c16] at H
                      have c16b0 : ((x4_5.size : Int) == (wrap64 (t453 + 7))) = true := beq_iff_eq.mpr c16
                      have c16b1 : ((x4_5.size : Int) != (wrap64 (t453 + 7))) = false := bne_eq_false_iff_eq.mpr c16
                      clear c16
                      by_cases c17 : 0 ≤ t453
                      · rw [if_pos c17] at H
                        have c17b0 : decide (0 ≤ t453) = true := decide_eq_true c17
                        clear c17
                        by_cases c18 : t453 < (x4_5.size : Int)
                        · rw [if_pos c18] at H
                          have c18b0 : decide (t453 < (x4_5.size : Int)) = true := decide_eq_true c18
                          clear c18
                          by_cases c20 : (bt x4_5 t453) = 58
                          · rw [if_pos c20] at H
                            have c20b0 : ((bt x4_5 t453) == 58) = true := beq_iff_eq.mpr c20
                            have c20b1 : ((bt x4_5 t453) != 58) = false := bne_eq_false_iff_eq.mpr c20
                            clear c20
                            obtain ⟨ji21, hji21⟩ : ∃ j_ : Int, (wrap64 (t453 + 1)) = j_ := ⟨_, rfl⟩
                            replace H : (if 0 ≤ (ji21) then (if (ji21) ≤ (x4_5.size : Int) then ((horologeref02_Many.f kj5 (x4_5.extract ((ji21) : Int).toNat x4_5.size)).bind fun t454 => (horologeref14_Parse.j2 kj5 x4_5 x5_1 t453 (t454 != 6))) else (none)) else (none)) = some (r1, r2) := by first | (rw [hji21] at H; exact H) | (simp only [hji21] at H ⊢; exact H)
                            have hji21w : (IntKind.i64.wrap (t453 + 1)) = ji21 := (i64_w _).trans hji21
                            by_cases c22 : 0 ≤ (ji21)
                            · rw [if_pos c22] at H
                              have c22b0 := eq_true c22
                              have c22b1 : decide (0 ≤ (ji21)) = true := decide_eq_true c22
                              clear c22
                              by_cases c23 : (ji21) ≤ (x4_5.size : Int)
                              · rw [if_pos c23] at H
                                have c23b0 := eq_true c23
                                have c23b1 : decide ((ji21) ≤ (x4_5.size : Int)) = true := decide_eq_true c23
                                clear c23
                                replace H := Option.bind_eq_some_iff.mp H
                                obtain ⟨t454, A240, H⟩ := H
                                replace H : (horologeref14_Parse.j2 kj5 x4_5 x5_1 t453 (t454 != 6)) = some (r1, r2) := H
                                have A24 := Aside0.mk A240
                                clear A240
                                have H' := Aside0.mk H
                                clear H
                                have p14 : 0 ≤ (0 : Int) := (by omega)
                                have q14 : 0 < x4_5.size := (by have : (0 : Int) < (x4_5.size : Int) := of_decide_eq_true (by first | (with_reducible assumption) | assumption); omega)
                                have hx14 : ∀ h : 0 < x4_5.size, ((x4_5[0]'h).toNat : Int) = bt x4_5 0 := bt_at x4_5 0
                                clear p14
                                have qi14 : (0 < (x4_5.size : Int)) = True := eq_true (of_decide_eq_true (by first | (with_reducible assumption) | assumption))
                                replace q14 := eq_true q14
                                have p19 : 0 ≤ (t453 : Int) := of_decide_eq_true (by first | (with_reducible assumption) | assumption)
                                have q19 : t453 < (x4_5.size : Int) := of_decide_eq_true (by first | (with_reducible assumption) | assumption)
                                have hx19 := bt_at x4_5 t453
                                replace p19 := eq_true p19
                                replace q19 := eq_true q19
                                go_wp2_with (first | (go_at_call 44; refine calls_of_args (args' := #[.string (x4_5.extract ((ji21) : Int).toNat x4_5.size)]) (by first | rfl | rfl) ?_; (with_reducible refine (horologeref02_Many.calls kj5 (x4_5.extract ((ji21) : Int).toNat x4_5.size) t454 _ A24.out).mono ?_); rintro e w' ⟨rfl, ⟨nd, rfl⟩⟩))
                                go_meet
                                case rel => exact ⟨_, ((t454 != 6)), (by first | rfl | (simp; done) | (simp [*]; done)), H', ⟨by have := HJ1.out; have := HJ5.out; first | omega | exact Nat.le_refl _⟩, ⟨by repeat (first | (with_reducible first | exact HB.out | apply below_alloc | apply pw_below_drewN | apply below_drew1) | exact HB.out)⟩⟩
                              · rw [if_neg c23] at H
                                exact absurd H (by simp)
                            · rw [if_neg c22] at H
                              exact absurd H (by simp)
                          · rw [if_neg c20] at H
                            have c20b0 : ((bt x4_5 t453) == 58) = false := beq_eq_false_iff_ne.mpr c20
                            have c20b1 : ((bt x4_5 t453) != 58) = true := bne_iff_ne.mpr c20
                            have H' := Aside0.mk H
                            clear H
                            have p14 : 0 ≤ (0 : Int) := (by omega)
                            have q14 : 0 < x4_5.size := (by have : (0 : Int) < (x4_5.size : Int) := of_decide_eq_true (by first | (with_reducible assumption) | assumption); omega)
                            have hx14 : ∀ h : 0 < x4_5.size, ((x4_5[0]'h).toNat : Int) = bt x4_5 0 := bt_at x4_5 0
                            clear p14
                            have qi14 : (0 < (x4_5.size : Int)) = True := eq_true (of_decide_eq_true (by first | (with_reducible assumption) | assumption))
                            replace q14 := eq_true q14
                            have p19 : 0 ≤ (t453 : Int) := of_decide_eq_true (by first | (with_reducible assumption) | assumption)
                            have q19 : t453 < (x4_5.size : Int) := of_decide_eq_true (by first | (with_reducible assumption) | assumption)
                            have hx19 := bt_at x4_5 t453
                            replace p19 := eq_true p19
                            replace q19 := eq_true q19
                            go_wp2
                            go_meet
                            case rel => exact ⟨_, (true), (by first | rfl | (simp; done) | (simp [*]; done)), H', ⟨by have := HJ1.out; have := HJ5.out; first | omega | exact Nat.le_refl _⟩, ⟨by repeat (first | (with_reducible first | exact HB.out | apply below_alloc | apply pw_below_drewN | apply below_drew1) | exact HB.out)⟩⟩
                        · rw [if_neg c18] at H
                          exact absurd H (by simp)
                      · rw [if_neg c17] at H
                        exact absurd H (by simp)
                    · rw [if_neg c16] at H
                      have c16b0 : ((x4_5.size : Int) == (wrap64 (t453 + 7))) = false := beq_eq_false_iff_ne.mpr c16
                      have c16b1 : ((x4_5.size : Int) != (wrap64 (t453 + 7))) = true := bne_iff_ne.mpr c16
                      have H' := Aside0.mk H
                      clear H
                      have p14 : 0 ≤ (0 : Int) := (by omega)
                      have q14 : 0 < x4_5.size := (by have : (0 : Int) < (x4_5.size : Int) := of_decide_eq_true (by first | (with_reducible assumption) | assumption); omega)
                      have hx14 : ∀ h : 0 < x4_5.size, ((x4_5[0]'h).toNat : Int) = bt x4_5 0 := bt_at x4_5 0
                      clear p14
                      have qi14 : (0 < (x4_5.size : Int)) = True := eq_true (of_decide_eq_true (by first | (with_reducible assumption) | assumption))
                      replace q14 := eq_true q14
                      go_wp2
                      go_meet
                      case rel => exact ⟨_, (true), (by first | rfl | (simp; done) | (simp [*]; done)), H', ⟨by have := HJ1.out; have := HJ5.out; first | omega | exact Nat.le_refl _⟩, ⟨by repeat (first | (with_reducible first | exact HB.out | apply below_alloc | apply pw_below_drewN | apply below_drew1) | exact HB.out)⟩⟩
                · rw [if_neg c13] at H
                  exact absurd H (by simp)
              · rw [if_neg c12] at H
                have c12b0 : decide (4 < t453) = false := decide_eq_false c12
                clear c12
                by_cases c25 : (x4_5.size : Int) = (wrap64 (t453 + 7))
                · rw [if_pos c25] at H
                  have c25b0 : ((x4_5.size : Int) == (wrap64 (t453 + 7))) = true := beq_iff_eq.mpr c25
                  have c25b1 : ((x4_5.size : Int) != (wrap64 (t453 + 7))) = false := bne_eq_false_iff_eq.mpr c25
                  clear c25
                  by_cases c26 : 0 ≤ t453
                  · rw [if_pos c26] at H
                    have c26b0 : decide (0 ≤ t453) = true := decide_eq_true c26
                    clear c26
                    by_cases c27 : t453 < (x4_5.size : Int)
                    · rw [if_pos c27] at H
                      have c27b0 : decide (t453 < (x4_5.size : Int)) = true := decide_eq_true c27
                      clear c27
                      by_cases c29 : (bt x4_5 t453) = 58
                      · rw [if_pos c29] at H
                        have c29b0 : ((bt x4_5 t453) == 58) = true := beq_iff_eq.mpr c29
                        have c29b1 : ((bt x4_5 t453) != 58) = false := bne_eq_false_iff_eq.mpr c29
                        clear c29
                        obtain ⟨ji30, hji30⟩ : ∃ j_ : Int, (wrap64 (t453 + 1)) = j_ := ⟨_, rfl⟩
                        replace H : (if 0 ≤ (ji30) then (if (ji30) ≤ (x4_5.size : Int) then ((horologeref02_Many.f kj5 (x4_5.extract ((ji30) : Int).toNat x4_5.size)).bind fun t455 => (horologeref14_Parse.j2 kj5 x4_5 x5_1 t453 (t455 != 6))) else (none)) else (none)) = some (r1, r2) := by first | (rw [hji30] at H; exact H) | (simp only [hji30] at H ⊢; exact H)
                        have hji30w : (IntKind.i64.wrap (t453 + 1)) = ji30 := (i64_w _).trans hji30
                        by_cases c31 : 0 ≤ (ji30)
                        · rw [if_pos c31] at H
                          have c31b0 := eq_true c31
                          have c31b1 : decide (0 ≤ (ji30)) = true := decide_eq_true c31
                          clear c31
                          by_cases c32 : (ji30) ≤ (x4_5.size : Int)
                          · rw [if_pos c32] at H
                            have c32b0 := eq_true c32
                            have c32b1 : decide ((ji30) ≤ (x4_5.size : Int)) = true := decide_eq_true c32
                            clear c32
                            replace H := Option.bind_eq_some_iff.mp H
                            obtain ⟨t455, A330, H⟩ := H
                            replace H : (horologeref14_Parse.j2 kj5 x4_5 x5_1 t453 (t455 != 6)) = some (r1, r2) := H
                            have A33 := Aside0.mk A330
                            clear A330
                            have H' := Aside0.mk H
                            clear H
                            have p28 : 0 ≤ (t453 : Int) := of_decide_eq_true (by first | (with_reducible assumption) | assumption)
                            have q28 : t453 < (x4_5.size : Int) := of_decide_eq_true (by first | (with_reducible assumption) | assumption)
                            have hx28 := bt_at x4_5 t453
                            replace p28 := eq_true p28
                            replace q28 := eq_true q28
                            go_wp2_with (first | (go_at_call 44; refine calls_of_args (args' := #[.string (x4_5.extract ((ji30) : Int).toNat x4_5.size)]) (by first | rfl | rfl) ?_; (with_reducible refine (horologeref02_Many.calls kj5 (x4_5.extract ((ji30) : Int).toNat x4_5.size) t455 _ A33.out).mono ?_); rintro e w' ⟨rfl, ⟨nd, rfl⟩⟩))
                            go_meet
                            case rel => exact ⟨_, ((t455 != 6)), (by first | rfl | (simp; done) | (simp [*]; done)), H', ⟨by have := HJ1.out; have := HJ5.out; first | omega | exact Nat.le_refl _⟩, ⟨by repeat (first | (with_reducible first | exact HB.out | apply below_alloc | apply pw_below_drewN | apply below_drew1) | exact HB.out)⟩⟩
                          · rw [if_neg c32] at H
                            exact absurd H (by simp)
                        · rw [if_neg c31] at H
                          exact absurd H (by simp)
                      · rw [if_neg c29] at H
                        have c29b0 : ((bt x4_5 t453) == 58) = false := beq_eq_false_iff_ne.mpr c29
                        have c29b1 : ((bt x4_5 t453) != 58) = true := bne_iff_ne.mpr c29
                        have H' := Aside0.mk H
                        clear H
                        have p28 : 0 ≤ (t453 : Int) := of_decide_eq_true (by first | (with_reducible assumption) | assumption)
                        have q28 : t453 < (x4_5.size : Int) := of_decide_eq_true (by first | (with_reducible assumption) | assumption)
                        have hx28 := bt_at x4_5 t453
                        replace p28 := eq_true p28
                        replace q28 := eq_true q28
                        go_wp2
                        go_meet
                        case rel => exact ⟨_, (true), (by first | rfl | (simp; done) | (simp [*]; done)), H', ⟨by have := HJ1.out; have := HJ5.out; first | omega | exact Nat.le_refl _⟩, ⟨by repeat (first | (with_reducible first | exact HB.out | apply below_alloc | apply pw_below_drewN | apply below_drew1) | exact HB.out)⟩⟩
                    · rw [if_neg c27] at H
                      exact absurd H (by simp)
                  · rw [if_neg c26] at H
                    exact absurd H (by simp)
                · rw [if_neg c25] at H
                  have c25b0 : ((x4_5.size : Int) == (wrap64 (t453 + 7))) = false := beq_eq_false_iff_ne.mpr c25
                  have c25b1 : ((x4_5.size : Int) != (wrap64 (t453 + 7))) = true := bne_iff_ne.mpr c25
                  have H' := Aside0.mk H
                  clear H
                  go_wp2
                  go_meet
                  case rel => exact ⟨_, (true), (by first | rfl | (simp; done) | (simp [*]; done)), H', ⟨by have := HJ1.out; have := HJ5.out; first | omega | exact Nat.le_refl _⟩, ⟨by repeat (first | (with_reducible first | exact HB.out | apply below_alloc | apply pw_below_drewN | apply below_drew1) | exact HB.out)⟩⟩
          case rest =>
            clear HC10
            try clear c1
            try clear p1
            try clear q1
            try clear hx1
            try clear qi1
            try clear c2
            try clear p2
            try clear q2
            try clear hx2
            try clear c3
            try clear c3b0
            try clear c3b1
            try clear c4
            try clear c4b0
            try clear c4b1
            try clear p5
            try clear q5
            try clear hx5
            try clear qi5
            try clear p6
            try clear c7
            try clear c8
            try clear c8b0
            try clear c8b1
            try clear c11
            try clear c11b0
            try clear c12
            try clear c12b0
            try clear c13
            try clear c13b0
            try clear c13b1
            try clear p14
            try clear q14
            try clear hx14
            try clear qi14
            try clear c15
            try clear c15b0
            try clear c15b1
            try clear c16
            try clear c16b0
            try clear c16b1
            try clear c17
            try clear c17b0
            try clear c18
            try clear c18b0
            try clear p19
            try clear q19
            try clear hx19
            try clear c20
            try clear c20b0
            try clear c20b1
            try clear c21
            try clear c22
            try clear c22b0
            try clear c22b1
            try clear c23
            try clear c23b0
            try clear c23b1
            try clear c25
            try clear c25b0
            try clear c25b1
            try clear c26
            try clear c26b0
            try clear c27
            try clear c27b0
            try clear p28
            try clear q28
            try clear hx28
            try clear c29
            try clear c29b0
            try clear c29b1
            try clear c31
            try clear c31b0
            try clear c31b1
            try clear c32
            try clear c32b0
            try clear c32b1
            try clear p14
            try clear p19
            try clear p2
            try clear p28
            try clear p5
            try clear q14
            try clear q19
            try clear q28
            try clear q5
            obtain ⟨kq, x57_9, rfl, HA, HJ9, HB⟩ := hcut
            cases kq with
            | zero => exact absurd HA.out (by simp [horologeref14_Parse.j2])
            | succ kj9 =>
              have H := HA.out
              clear HA
              simp only [horologeref14_Parse.j2] at H
              by_cases c34 : x57_9 = true
              · subst c34
                have H1 : (some (0, 2)) = some (r1, r2) := by rw [if_pos rfl] at H; exact H
                clear H
                have H := H1
                clear H1
                simp only [Option.some.injEq, Prod.mk.injEq] at H
                obtain ⟨rfl, rfl⟩ := H
                go_wp2
                go_ret2
                exact ⟨by first | rfl | (simp [errW_none, errW_some] <;> rfl) | (simp [*, errW_none, errW_some] <;> rfl), by repeat (first | (with_reducible first | exact HB.out | apply below_alloc | apply pw_below_drewN | apply below_drew1) | exact HB.out)⟩
              · replace c34 := Bool.eq_false_iff.mpr c34
                subst c34
                have H1 : (if x5_1 = true then (if 0 ≤ t453 then (if t453 ≤ (x4_5.size : Int) then (horologeref14_Parse.j3 kj9 x4_5 x5_1 t453 ((x4_5.extract 0 (t453 : Int).toNat).toList == ([48, 48, 48, 48] : List UInt8))) else (none)) else (none)) else (horologeref14_Parse.j3 kj9 x4_5 x5_1 t453 false)) = some (r1, r2) := by rw [if_neg (show ¬ (false = true) by decide)] at H; exact H
                clear H
                have H := H1
                clear H1
                have HC35 := Aside0.mk H
                clear H
                go_upto_region 8 with (fail)
                go_cut [64] (fun v64 wc => ∃ (kq : Nat) (x64_34 : Bool), v64 = .bool x64_34 ∧ Aside0 (horologeref14_Parse.j3 kq x4_5 x5_1 t453 x64_34 = some (r1, r2)) ∧ Aside0 (kq ≤ kj9) ∧ Aside0 (Below w.heap.size w wc))
                case first =>
                  have H := HC35.out
                  clear HC35
                  by_cases c36 : x5_1 = true
                  · subst c36
                    have H1 : (if 0 ≤ t453 then (if t453 ≤ (x4_5.size : Int) then (horologeref14_Parse.j3 kj9 x4_5 true t453 ((x4_5.extract 0 (t453 : Int).toNat).toList == ([48, 48, 48, 48] : List UInt8))) else (none)) else (none)) = some (r1, r2) := by rw [if_pos rfl] at H; exact H
                    clear H
                    have H := H1
                    clear H1
                    by_cases c37 : 0 ≤ t453
                    · rw [if_pos c37] at H
                      have c37b0 := eq_true c37
                      have c37b1 : decide (0 ≤ t453) = true := decide_eq_true c37
                      clear c37
                      by_cases c38 : t453 ≤ (x4_5.size : Int)
                      · rw [if_pos c38] at H
                        have c38b0 := eq_true c38
                        have c38b1 : decide (t453 ≤ (x4_5.size : Int)) = true := decide_eq_true c38
                        clear c38
                        have H' := Aside0.mk H
                        clear H
                        go_wp2
                        go_meet
                        case rel => exact ⟨_, (((x4_5.extract 0 (t453 : Int).toNat).toList == ([48, 48, 48, 48] : List UInt8))), (by first | rfl | (simp; done) | (simp [*]; done)), H', ⟨by have := HJ1.out; have := HJ5.out; have := HJ9.out; first | omega | exact Nat.le_refl _⟩, ⟨by repeat (first | (with_reducible first | exact HB.out | apply below_alloc | apply pw_below_drewN | apply below_drew1) | exact HB.out)⟩⟩
                      · rw [if_neg c38] at H
                        exact absurd H (by simp)
                    · rw [if_neg c37] at H
                      exact absurd H (by simp)
                  · replace c36 := Bool.eq_false_iff.mpr c36
                    subst c36
                    have H1 : (horologeref14_Parse.j3 kj9 x4_5 false t453 false) = some (r1, r2) := by rw [if_neg (show ¬ (false = true) by decide)] at H; exact H
                    clear H
                    have H := H1
                    clear H1
                    have H' := Aside0.mk H
                    clear H
                    go_wp2
                    go_meet
                    case rel => exact ⟨_, (false), (by first | rfl | (simp; done) | (simp [*]; done)), H', ⟨by have := HJ1.out; have := HJ5.out; have := HJ9.out; first | omega | exact Nat.le_refl _⟩, ⟨by repeat (first | (with_reducible first | exact HB.out | apply below_alloc | apply pw_below_drewN | apply below_drew1) | exact HB.out)⟩⟩
                case rest =>
                  clear HC35
                  try clear c1
                  try clear p1
                  try clear q1
                  try clear hx1
                  try clear qi1
                  try clear c2
                  try clear p2
                  try clear q2
                  try clear hx2
                  try clear c3
                  try clear c3b0
                  try clear c3b1
                  try clear c4
                  try clear c4b0
                  try clear c4b1
                  try clear p5
                  try clear q5
                  try clear hx5
                  try clear qi5
                  try clear p6
                  try clear c7
                  try clear c8
                  try clear c8b0
                  try clear c8b1
                  try clear c11
                  try clear c11b0
                  try clear c12
                  try clear c12b0
                  try clear c13
                  try clear c13b0
                  try clear c13b1
                  try clear p14
                  try clear q14
                  try clear hx14
                  try clear qi14
                  try clear c15
                  try clear c15b0
                  try clear c15b1
                  try clear c16
                  try clear c16b0
                  try clear c16b1
                  try clear c17
                  try clear c17b0
                  try clear c18
                  try clear c18b0
                  try clear p19
                  try clear q19
                  try clear hx19
                  try clear c20
                  try clear c20b0
                  try clear c20b1
                  try clear c21
                  try clear c22
                  try clear c22b0
                  try clear c22b1
                  try clear c23
                  try clear c23b0
                  try clear c23b1
                  try clear c25
                  try clear c25b0
                  try clear c25b1
                  try clear c26
                  try clear c26b0
                  try clear c27
                  try clear c27b0
                  try clear p28
                  try clear q28
                  try clear hx28
                  try clear c29
                  try clear c29b0
                  try clear c29b1
                  try clear c31
                  try clear c31b0
                  try clear c31b1
                  try clear c32
                  try clear c32b0
                  try clear c32b1
                  try clear c34
                  try clear c36
                  try clear c37
                  try clear c37b0
                  try clear c37b1
                  try clear c38
                  try clear c38b0
                  try clear c38b1
                  try clear p1
                  try clear p14
                  try clear p19
                  try clear p2
                  try clear p28
                  try clear p5
                  try clear p6
                  try clear q1
                  try clear q14
                  try clear q19
                  try clear q2
                  try clear q28
                  try clear q5
                  obtain ⟨kq, x64_34, rfl, HA, HJ34, HB⟩ := hcut
                  cases kq with
                  | zero => exact absurd HA.out (by simp [horologeref14_Parse.j3])
                  | succ kj34 =>
                    have H := HA.out
                    clear HA
                    simp only [horologeref14_Parse.j3] at H
                    by_cases c39 : x64_34 = true
                    · subst c39
                      have H1 : (some (0, 2)) = some (r1, r2) := by rw [if_pos rfl] at H; exact H
                      clear H
                      have H := H1
                      clear H1
                      simp only [Option.some.injEq, Prod.mk.injEq] at H
                      obtain ⟨rfl, rfl⟩ := H
                      go_wp2
                      go_ret2
                      exact ⟨by first | rfl | (simp [errW_none, errW_some] <;> rfl) | (simp [*, errW_none, errW_some] <;> rfl), by repeat (first | (with_reducible first | exact HB.out | apply below_alloc | apply pw_below_drewN | apply below_drew1) | exact HB.out)⟩
                    · replace c39 := Bool.eq_false_iff.mpr c39
                      subst c39
                      have H1 : (if 0 ≤ t453 then (if t453 ≤ (x4_5.size : Int) then ((horologeref02_Big.f kj34 (x4_5.extract 0 (t453 : Int).toNat)).bind fun bt456 => (if x5_1 = true then ((horologeref01_Minus.f bt456.1 bt456.2).bind fun bt461 => (horologeref14_Parse.j4 kj34 x4_5 t453 bt461.1 bt461.2)) else (horologeref14_Parse.j4 kj34 x4_5 t453 bt456.1 bt456.2))) else (none)) else (none)) = some (r1, r2) := by rw [if_neg (show ¬ (false = true) by decide)] at H; exact H
                      clear H
                      have H := H1
                      clear H1
                      by_cases c40 : 0 ≤ t453
                      · rw [if_pos c40] at H
                        have c40b0 := eq_true c40
                        have c40b1 : decide (0 ≤ t453) = true := decide_eq_true c40
                        clear c40
                        by_cases c41 : t453 ≤ (x4_5.size : Int)
                        · rw [if_pos c41] at H
                          have c41b0 := eq_true c41
                          have c41b1 : decide (t453 ≤ (x4_5.size : Int)) = true := decide_eq_true c41
                          clear c41
                          replace H := Option.bind_eq_some_iff.mp H
                          obtain ⟨⟨t456, t457⟩, A420, H⟩ := H
                          replace H : (if x5_1 = true then ((horologeref01_Minus.f t456 t457).bind fun bt461 => (horologeref14_Parse.j4 kj34 x4_5 t453 bt461.1 bt461.2)) else (horologeref14_Parse.j4 kj34 x4_5 t453 t456 t457)) = some (r1, r2) := H
                          have A42 := Aside0.mk A420
                          clear A420
                          have HC43 := Aside0.mk H
                          clear H
                          go_upto_if 69 with (first | ((with_reducible refine gate_callee (f := 45) rfl ?_); refine goesL_ (some 68) rfl rfl Try.func45 (by kernel_rfl) rfl #[.string (x4_5.extract 0 (t453 : Int).toNat)] rfl (by (try simp only [List.map_toArray, List.map_cons, List.map_nil]); first | done | rfl | (simp only [List.length_drop, List.length_take]; rfl) | (refine congrArg (fun z_ => #[Value.int IntKind.i64 z_]) (?_ : Go.RowKit.wrap64 (IntKind.u8.wrap _) = _); rw [IntKind.wrap_u8]; unfold Go.RowKit.wrap64; omega)) ?_; (with_reducible refine (horologeref02_Big.calls kj34 (x4_5.extract 0 (t453 : Int).toNat) t456 t457 _ A42.out).mono ?_); rintro e w44 ⟨v458, rfl, ho0, hb⟩; refine ⟨_, rfl, ?_⟩; have n0_ := Aside0.mk (Kd.V_lower (Kd.V_mono (ok' := fun k_ => True) ho0 (fun k_ hk_ => trivial)) (below_size (by repeat (first | (with_reducible first | exact HB.out | apply below_alloc | apply pw_below_drewN | apply below_drew1) | exact HB.out)))); have n1_ := Aside0.mk (below_step (by repeat (first | (with_reducible first | exact HB.out | apply below_alloc | apply pw_below_drewN | apply below_drew1) | exact HB.out)) hb); clear HB; have HO459 := n0_; have HB := n1_; clear n0_ n1_; (try clear hb); (try clear hb2); (try clear hk); (try clear hi); (try clear ho0)) | ((with_reducible refine gate_dst (N := 7) rfl ?_); (try (refine gate_guard (by rfl) ?_; dsimp only)); refine box_event ?hg (N := 7) ?hd (cs := #[.bool false, .slice none 0 0]) (t := 56) ?hr ?_; (case hd => rfl); (case hg => rfl); (case hr => first | (go_simp; done) | (go_simp; rfl)); intro gb460 hg w45 hbox hb; have n0_ := Aside0.mk (Kd.V_below (Kd.V_elderB (by (with_reducible repeat (first | apply Kd.V_alloc | apply Kd.V_drewN | apply Kd.V_drew)); exact HO459.out) gb460 (Nat.le_of_eq hg.symm)) hb); have n1_ := Aside0.mk (below_step (by repeat (first | (with_reducible first | exact HB.out | apply below_alloc | apply pw_below_drewN | apply below_drew1) | exact HB.out)) hb); have n2_ := Aside0.mk (hbox); have n3_ := Aside0.mk ((by rw [hg]; exact (below_size (by repeat (first | (with_reducible first | exact HB.out | apply below_alloc | apply pw_below_drewN | apply below_drew1) | exact HB.out))) : w.heap.size ≤ gb460)); have n4_ := Aside0.mk ((by rw [hg]; exact (below_size (by repeat (first | (with_reducible first | exact HB.out | apply below_alloc | apply pw_below_drewN | apply below_drew1) | exact HB.out))) : w.heap.size ≤ gb460)); clear HO459; clear HB; have HO459 := n0_; have HB := n1_; have BK460 := n2_; have GW460 := n3_; have GE460 := n4_; clear n0_ n1_ n2_ n3_ n4_; clear hb hbox hg; have hcz46_0 : w45.cell? ⟨gb460, 0, none⟩ = some (.bool false) := (blk_cell BK460.out 0).trans rfl; have hcz46_1 : w45.cell? ⟨gb460, 1, none⟩ = some (.slice none 0 0) := (blk_cell BK460.out 1).trans rfl; have hfz46_0 := blk_frozen BK460.out 0; have hfz46_1 := blk_frozen BK460.out 1; obtain ⟨Ao47, co47, eo47⟩ := Kd.V_slice HO459.out; subst eo47) | ((with_reducible refine gate_store (t := 56) (p := 7) rfl ?_); refine store_event (t := 56) (p := 7) (v := ?vo_w48) (w1 := ((w45.setCell ⟨gb460, 0, none⟩ (.bool t456)).setCell ⟨gb460, 1, none⟩ (.slice Ao47 t457.length co47))) ?hg ?ho ?hn ?hr ?_; (case ho => rfl); (case hg => rfl); (case hn => rfl); (case hr => first | (go_simp; done) | (go_simp; rfl)); intro w48 hw; have n0_ : Aside0 (Kd.V (Kd.int .u64) 50 w48 w.heap.size (fun k_ => k_ ≠ gb460) (.slice Ao47 t457.length co47) t457) := ⟨(by rw [hw]; exact (by (with_reducible repeat (first | apply Kd.V_alloc | apply Kd.V_drewN | apply Kd.V_drew)); exact Kd.V_mono (Kd.V_far (p := ⟨gb460, 1, none⟩) (Kd.V_far (p := ⟨gb460, 0, none⟩) (Kd.V_mono HO459.out (fun k_ hk => (⟨hk, hk.2⟩ : _ ∧ k_ ≠ gb460))) (fun _ hk => hk.2) (.bool t456)) (fun _ hk => hk.2) (.slice Ao47 t457.length co47)) (fun _ hk => hk.1.2)))⟩; have n1_ : Aside0 (w48.heap[gb460]? = some (.cells #[.bool t456, .slice Ao47 t457.length co47] 56 (0, 0))) := ⟨(by rw [hw]; exact (by (with_reducible repeat (first | refine blk_drewN ?_ _ | refine blk_drew ?_ | refine blk_alloc ?_ _)); refine blk_put (cs := #[.bool t456, .slice none 0 0]) ?_ 1 _ rfl; (with_reducible repeat (first | refine blk_drewN ?_ _ | refine blk_drew ?_ | refine blk_alloc ?_ _)); refine blk_put (cs := #[.bool false, .slice none 0 0]) ?_ 0 _ rfl; (with_reducible repeat (first | refine blk_drewN ?_ _ | refine blk_drew ?_ | refine blk_alloc ?_ _)); exact BK460.out))⟩; have n2_ : Aside0 (Below w.heap.size w w48) := ⟨(by rw [hw]; exact (by repeat (first | (with_reducible first | exact HB.out | apply below_alloc | apply pw_below_drewN | apply below_drew1 | refine below_set ?_ GE460.out) | exact HB.out)))⟩; clear hw; clear HO459; clear BK460; clear HB; have HO459 := n0_; have BK460 := n1_; have HB := n2_; clear n0_ n1_ n2_))
                          (try simp only [Act.put, List.setIfInBounds_toArray, List.set_cons_zero, List.set_cons_succ])
                          go_cut [] (fun wc => ∃ (kq : Nat) (x461000_42 : Bool) (x461001_42 : List Int) (u461001 : Value), Aside0 (horologeref14_Parse.j4 kq x4_5 t453 x461000_42 x461001_42 = some (r1, r2)) ∧ Aside0 (kq ≤ kj34) ∧ Aside0 (Kd.V (Kd.int .u64) 50 wc w.heap.size (fun k_ => k_ ≠ gb460) u461001 x461001_42) ∧ Aside0 (wc.heap[gb460]? = some (.cells #[.bool x461000_42, u461001] 56 (0, 0))) ∧ Aside0 (Below w.heap.size w wc))
                          case first =>
                            have H := HC43.out
                            clear HC43
                            by_cases c49 : x5_1 = true
                            · subst c49
                              have H1 : ((horologeref01_Minus.f t456 t457).bind fun bt461 => (horologeref14_Parse.j4 kj34 x4_5 t453 bt461.1 bt461.2)) = some (r1, r2) := by rw [if_pos rfl] at H; exact H
                              clear H
                              have H := H1
                              clear H1
                              replace H := Option.bind_eq_some_iff.mp H
                              obtain ⟨⟨t461, t462⟩, A500, H⟩ := H
                              replace H : (horologeref14_Parse.j4 kj34 x4_5 t453 t461 t462) = some (r1, r2) := H
                              have A50 := Aside0.mk A500
                              clear A500
                              have H' := Aside0.mk H
                              clear H
                              have hcz51_0 : w48.cell? ⟨gb460, 0, none⟩ = some (.bool t456) := (blk_cell BK460.out 0).trans rfl
                              have hcz51_1 : w48.cell? ⟨gb460, 1, none⟩ = some (.slice Ao47 t457.length co47) := (blk_cell BK460.out 1).trans rfl
                              have hfz51_0 := blk_frozen BK460.out 0
                              have hfz51_1 := blk_frozen BK460.out 1
                              go_wp2_with (first | ((with_reducible refine gate_callee (f := 27) rfl ?_); refine goesL_ (some 71) rfl rfl Try.func27 (by kernel_rfl) rfl #[.agg #[.bool t456, .slice Ao47 t457.length co47]] rfl (by (try simp only [List.map_toArray, List.map_cons, List.map_nil]); first | done | rfl | (simp only [List.length_drop, List.length_take]; rfl) | (refine congrArg (fun z_ => #[Value.int IntKind.i64 z_]) (?_ : Go.RowKit.wrap64 (IntKind.u8.wrap _) = _); rw [IntKind.wrap_u8]; unfold Go.RowKit.wrap64; omega)) ?_; (with_reducible refine (horologeref01_Minus.calls t456 (fun k_ => k_ ≠ gb460) _ _ t457 t461 t462 _ ?side1 A50.out).mono ?_); (case side1 => exact HO459.out); rintro e w52 ⟨v463, rfl, ho0, hb⟩; refine ⟨_, rfl, ?_⟩; have n0_ := Aside0.mk (Kd.V_below (by (with_reducible repeat (first | apply Kd.V_alloc | apply Kd.V_drewN | apply Kd.V_drew)); exact HO459.out) hb); have n1_ := Aside0.mk (Kd.V_lower (Kd.V_mono (ok' := fun k_ => k_ ≠ gb460) ho0 (fun k_ hk_ => Or.elim hk_ (fun hs_ => hs_) (fun hn_ => (Kd.freshB (g := gb460) (o := .cells #[.bool t456, .slice Ao47 t457.length co47] 56 (0, 0)) (by (with_reducible repeat (first | refine blk_drewN ?_ _ | refine blk_drew ?_ | refine blk_alloc ?_ _)); exact BK460.out) k_ hn_)))) (below_size (by repeat (first | (with_reducible first | exact HB.out | apply below_alloc | apply pw_below_drewN | apply below_drew1 | refine below_set ?_ GE460.out) | exact HB.out)))); have n2_ := Aside0.mk (blk_below (g := gb460) (o := .cells #[.bool t456, .slice Ao47 t457.length co47] 56 (0, 0)) (by (with_reducible repeat (first | refine blk_drewN ?_ _ | refine blk_drew ?_ | refine blk_alloc ?_ _)); exact BK460.out) hb); have n3_ := Aside0.mk (below_step (by repeat (first | (with_reducible first | exact HB.out | apply below_alloc | apply pw_below_drewN | apply below_drew1 | refine below_set ?_ GE460.out) | exact HB.out)) hb); clear HO459; clear BK460; clear HB; have HO459 := n0_; have HO464 := n1_; have BK460 := n2_; have HB := n3_; clear n0_ n1_ n2_ n3_; (try clear hb); (try clear hb2); (try clear hk); (try clear hi); (try clear ho0); have hcz53_0 : w52.cell? ⟨gb460, 0, none⟩ = some (.bool t456) := (blk_cell BK460.out 0).trans rfl; have hcz53_1 : w52.cell? ⟨gb460, 1, none⟩ = some (.slice Ao47 t457.length co47) := (blk_cell BK460.out 1).trans rfl; have hfz53_0 := blk_frozen BK460.out 0; have hfz53_1 := blk_frozen BK460.out 1; obtain ⟨Ao54, co54, eo54⟩ := Kd.V_slice HO464.out; subst eo54) | ((with_reducible refine gate_store (t := 56) (p := 7) rfl ?_); refine store_event (t := 56) (p := 7) (v := ?vo_w55) (w1 := ((w52.setCell ⟨gb460, 0, none⟩ (.bool t461)).setCell ⟨gb460, 1, none⟩ (.slice Ao54 t462.length co54))) ?hg ?ho ?hn ?hr ?_; (case ho => rfl); (case hg => rfl); (case hn => rfl); (case hr => first | (go_simp; done) | (go_simp; rfl)); intro w55 hw; have n0_ : Aside0 (Kd.V (Kd.int .u64) 50 w55 w.heap.size (fun k_ => k_ ≠ gb460) (.slice Ao47 t457.length co47) t457) := ⟨(by rw [hw]; exact (by (with_reducible repeat (first | apply Kd.V_alloc | apply Kd.V_drewN | apply Kd.V_drew)); exact Kd.V_mono (Kd.V_far (p := ⟨gb460, 1, none⟩) (Kd.V_far (p := ⟨gb460, 0, none⟩) (Kd.V_mono HO459.out (fun k_ hk => (⟨hk, hk⟩ : _ ∧ k_ ≠ gb460))) (fun _ hk => hk.2) (.bool t461)) (fun _ hk => hk.2) (.slice Ao54 t462.length co54)) (fun _ hk => hk.1)))⟩; have n1_ : Aside0 (Kd.V (Kd.int .u64) 50 w55 w.heap.size (fun k_ => k_ ≠ gb460) (.slice Ao54 t462.length co54) t462) := ⟨(by rw [hw]; exact (by (with_reducible repeat (first | apply Kd.V_alloc | apply Kd.V_drewN | apply Kd.V_drew)); exact Kd.V_mono (Kd.V_far (p := ⟨gb460, 1, none⟩) (Kd.V_far (p := ⟨gb460, 0, none⟩) (Kd.V_mono HO464.out (fun k_ hk => (⟨hk, hk⟩ : _ ∧ k_ ≠ gb460))) (fun _ hk => hk.2) (.bool t461)) (fun _ hk => hk.2) (.slice Ao54 t462.length co54)) (fun _ hk => hk.1)))⟩; have n2_ : Aside0 (w55.heap[gb460]? = some (.cells #[.bool t461, .slice Ao54 t462.length co54] 56 (0, 0))) := ⟨(by rw [hw]; exact (by (with_reducible repeat (first | refine blk_drewN ?_ _ | refine blk_drew ?_ | refine blk_alloc ?_ _)); refine blk_put (cs := #[.bool t461, .slice Ao47 t457.length co47]) ?_ 1 _ rfl; (with_reducible repeat (first | refine blk_drewN ?_ _ | refine blk_drew ?_ | refine blk_alloc ?_ _)); refine blk_put (cs := #[.bool t456, .slice Ao47 t457.length co47]) ?_ 0 _ rfl; (with_reducible repeat (first | refine blk_drewN ?_ _ | refine blk_drew ?_ | refine blk_alloc ?_ _)); exact BK460.out))⟩; have n3_ : Aside0 (Below w.heap.size w w55) := ⟨(by rw [hw]; exact (by repeat (first | (with_reducible first | exact HB.out | apply below_alloc | apply pw_below_drewN | apply below_drew1 | refine below_set ?_ GE460.out) | exact HB.out)))⟩; clear hw; clear HO459; clear HO464; clear BK460; clear HB; have HO459 := n0_; have HO464 := n1_; have BK460 := n2_; have HB := n3_; clear n0_ n1_ n2_ n3_))
                              go_meet
                              case rel => exact ⟨_, (t461), (t462), (.slice Ao54 t462.length co54), H', ⟨by have := HJ1.out; have := HJ5.out; have := HJ9.out; have := HJ34.out; first | omega | exact Nat.le_refl _⟩, ⟨by (with_reducible repeat (first | apply Kd.V_alloc | apply Kd.V_drewN | apply Kd.V_drew)); exact HO464.out⟩, ⟨by (with_reducible repeat (first | refine blk_drewN ?_ _ | refine blk_drew ?_ | refine blk_alloc ?_ _)); exact BK460.out⟩, ⟨by repeat (first | (with_reducible first | exact HB.out | apply below_alloc | apply pw_below_drewN | apply below_drew1 | refine below_set ?_ GE460.out) | exact HB.out)⟩⟩
                            · replace c49 := Bool.eq_false_iff.mpr c49
                              subst c49
                              have H1 : (horologeref14_Parse.j4 kj34 x4_5 t453 t456 t457) = some (r1, r2) := by rw [if_neg (show ¬ (false = true) by decide)] at H; exact H
                              clear H
                              have H := H1
                              clear H1
                              have H' := Aside0.mk H
                              clear H
                              go_wp2
                              go_meet
                              case rel => exact ⟨_, (t456), (t457), (.slice Ao47 t457.length co47), H', ⟨by have := HJ1.out; have := HJ5.out; have := HJ9.out; have := HJ34.out; first | omega | exact Nat.le_refl _⟩, ⟨by (with_reducible repeat (first | apply Kd.V_alloc | apply Kd.V_drewN | apply Kd.V_drew)); exact HO459.out⟩, ⟨by (with_reducible repeat (first | refine blk_drewN ?_ _ | refine blk_drew ?_ | refine blk_alloc ?_ _)); exact BK460.out⟩, ⟨by repeat (first | (with_reducible first | exact HB.out | apply below_alloc | apply pw_below_drewN | apply below_drew1 | refine below_set ?_ GE460.out) | exact HB.out)⟩⟩
                          case rest =>
                            clear HC43
                            try clear c1
                            try clear p1
                            try clear q1
                            try clear hx1
                            try clear qi1
                            try clear c2
                            try clear p2
                            try clear q2
                            try clear hx2
                            try clear c3
                            try clear c3b0
                            try clear c3b1
                            try clear c4
                            try clear c4b0
                            try clear c4b1
                            try clear p5
                            try clear q5
                            try clear hx5
                            try clear qi5
                            try clear p6
                            try clear c7
                            try clear c8
                            try clear c8b0
                            try clear c8b1
                            try clear c11
                            try clear c11b0
                            try clear c12
                            try clear c12b0
                            try clear c13
                            try clear c13b0
                            try clear c13b1
                            try clear p14
                            try clear q14
                            try clear hx14
                            try clear qi14
                            try clear c15
                            try clear c15b0
                            try clear c15b1
                            try clear c16
                            try clear c16b0
                            try clear c16b1
                            try clear c17
                            try clear c17b0
                            try clear c18
                            try clear c18b0
                            try clear p19
                            try clear q19
                            try clear hx19
                            try clear c20
                            try clear c20b0
                            try clear c20b1
                            try clear c21
                            try clear c22
                            try clear c22b0
                            try clear c22b1
                            try clear c23
                            try clear c23b0
                            try clear c23b1
                            try clear c25
                            try clear c25b0
                            try clear c25b1
                            try clear c26
                            try clear c26b0
                            try clear c27
                            try clear c27b0
                            try clear p28
                            try clear q28
                            try clear hx28
                            try clear c29
                            try clear c29b0
                            try clear c29b1
                            try clear c31
                            try clear c31b0
                            try clear c31b1
                            try clear c32
                            try clear c32b0
                            try clear c32b1
                            try clear c34
                            try clear c36
                            try clear c37
                            try clear c37b0
                            try clear c37b1
                            try clear c38
                            try clear c38b0
                            try clear c38b1
                            try clear c39
                            try clear c40
                            try clear c40b0
                            try clear c40b1
                            try clear c41
                            try clear c41b0
                            try clear c41b1
                            try clear c44
                            try clear c45
                            try clear c49
                            try clear hcz46_0
                            try clear hcz46_1
                            try clear hcz51_0
                            try clear hcz51_1
                            try clear hcz53_0
                            try clear hcz53_1
                            try clear hfz46_0
                            try clear hfz46_1
                            try clear hfz51_0
                            try clear hfz51_1
                            try clear hfz53_0
                            try clear hfz53_1
                            try clear p1
                            try clear p14
                            try clear p19
                            try clear p2
                            try clear p28
                            try clear p5
                            try clear p6
                            try clear q1
                            try clear q14
                            try clear q19
                            try clear q2
                            try clear q28
                            try clear q5
                            obtain ⟨kq, x461000_42, x461001_42, u461001, HA, HJ42, HO_461001, BK460, HB⟩ := hcut
                            cases kq with
                            | zero => exact absurd HA.out (by simp [horologeref14_Parse.j4])
                            | succ kj42 =>
                              have H := HA.out
                              clear HA
                              simp only [horologeref14_Parse.j4] at H
                              replace H := Option.bind_eq_some_iff.mp H
                              obtain ⟨⟨t465, t466⟩, A560, H⟩ := H
                              replace H : (if t466 = 0 then (if 0 ≤ (wrap64 (t453 + 1)) then (if (wrap64 (t453 + 1)) ≤ (x4_5.size : Int) then ((horologeref02_Whole.f kj42 (x4_5.extract ((wrap64 (t453 + 1)) : Int).toNat x4_5.size) 6 6).bind fun bt467 => ((horologeref14_Tai.f kj42 t465 bt467.1).bind fun bt469 => (some (bt469.1, bt469.2)))) else (none)) else (none)) else (some (0, t466))) = some (r1, r2) := H
                              have A56 := Aside0.mk A560
                              clear A560
                              by_cases c57 : t466 = 0
                              · rw [if_pos c57] at H
                                have c57b0 : (t466 == 0) = true := beq_iff_eq.mpr c57
                                have c57b1 : (t466 != 0) = false := bne_eq_false_iff_eq.mpr c57
                                clear c57
                                obtain ⟨ji58, hji58⟩ : ∃ j_ : Int, (wrap64 (t453 + 1)) = j_ := ⟨_, rfl⟩
                                replace H : (if 0 ≤ (ji58) then (if (ji58) ≤ (x4_5.size : Int) then ((horologeref02_Whole.f kj42 (x4_5.extract ((ji58) : Int).toNat x4_5.size) 6 6).bind fun bt467 => ((horologeref14_Tai.f kj42 t465 bt467.1).bind fun bt469 => (some (bt469.1, bt469.2)))) else (none)) else (none)) = some (r1, r2) := by first | (rw [hji58] at H; exact H) | (simp only [hji58] at H ⊢; exact H)
                                (try rw [hji58] at A56)
                                have hji58w : (IntKind.i64.wrap (t453 + 1)) = ji58 := (i64_w _).trans hji58
                                by_cases c59 : 0 ≤ (ji58)
                                · rw [if_pos c59] at H
                                  have c59b0 := eq_true c59
                                  have c59b1 : decide (0 ≤ (ji58)) = true := decide_eq_true c59
                                  clear c59
                                  by_cases c60 : (ji58) ≤ (x4_5.size : Int)
                                  · rw [if_pos c60] at H
                                    have c60b0 := eq_true c60
                                    have c60b1 : decide ((ji58) ≤ (x4_5.size : Int)) = true := decide_eq_true c60
                                    clear c60
                                    replace H := Option.bind_eq_some_iff.mp H
                                    obtain ⟨⟨t467, t468⟩, A610, H⟩ := H
                                    replace H : ((horologeref14_Tai.f kj42 t465 t467).bind fun bt469 => (some (bt469.1, bt469.2))) = some (r1, r2) := H
                                    have A61 := Aside0.mk A610
                                    clear A610
                                    replace H := Option.bind_eq_some_iff.mp H
                                    obtain ⟨⟨t469, t470⟩, A620, H⟩ := H
                                    replace H : (some (t469, t470)) = some (r1, r2) := H
                                    have A62 := Aside0.mk A620
                                    clear A620
                                    simp only [Option.some.injEq, Prod.mk.injEq] at H
                                    obtain ⟨rfl, rfl⟩ := H
                                    have hcz63_0 : wc.cell? ⟨gb460, 0, none⟩ = some (.bool x461000_42) := (blk_cell BK460.out 0).trans rfl
                                    have hcz63_1 : wc.cell? ⟨gb460, 1, none⟩ = some (u461001) := (blk_cell BK460.out 1).trans rfl
                                    have hfz63_0 := blk_frozen BK460.out 0
                                    have hfz63_1 := blk_frozen BK460.out 1
                                    obtain ⟨Ao64, co64, eo64⟩ := Kd.V_slice HO_461001.out
                                    subst eo64
                                    go_wp2_with (first | ((with_reducible refine gate_callee (f := 24) rfl ?_); refine goesL_ (some 74) rfl rfl Try.func24 (by kernel_rfl) rfl #[.agg #[.bool x461000_42, .slice Ao64 x461001_42.length co64]] rfl (by (try simp only [List.map_toArray, List.map_cons, List.map_nil]); first | done | rfl | (simp only [List.length_drop, List.length_take]; rfl) | (refine congrArg (fun z_ => #[Value.int IntKind.i64 z_]) (?_ : Go.RowKit.wrap64 (IntKind.u8.wrap _) = _); rw [IntKind.wrap_u8]; unfold Go.RowKit.wrap64; omega)) ?_; (with_reducible refine (horologeref01_Small.calls kj42 x461000_42 _ _ x461001_42 t465 t466 _ ?side1 ?side2 A56.out).mono ?_); (case side1 => repeat (first | exact (Kd.V_reads' HO_461001.out).2.2 | (with_reducible refine Kd.C_alloc ?_ _) | (with_reducible refine Kd.C_drewN ?_ _) | (with_reducible refine Kd.C_drew ?_))); (case side2 => exact (Kd.V_reads' HO_461001.out).2.1); rintro e w65 ⟨rfl, hb⟩; refine ⟨_, rfl, ?_⟩; have n0_ := Aside0.mk (Kd.V_below (by (with_reducible repeat (first | apply Kd.V_alloc | apply Kd.V_drewN | apply Kd.V_drew)); exact HO_461001.out) hb); have n1_ := Aside0.mk (blk_below (g := gb460) (o := .cells #[.bool x461000_42, .slice Ao64 x461001_42.length co64] 56 (0, 0)) (by (with_reducible repeat (first | refine blk_drewN ?_ _ | refine blk_drew ?_ | refine blk_alloc ?_ _)); exact BK460.out) hb); have n2_ := Aside0.mk (below_step (by repeat (first | (with_reducible first | exact HB.out | apply below_alloc | apply pw_below_drewN | apply below_drew1 | refine below_set ?_ GE460.out) | exact HB.out)) hb); clear HO_461001; clear BK460; clear HB; have HO_461001 := n0_; have BK460 := n1_; have HB := n2_; clear n0_ n1_ n2_; (try clear hb); (try clear hb2); (try clear hk); (try clear hi)) | ((with_reducible refine gate_callee (f := 46) rfl ?_); refine goesL_ (some 85) rfl rfl Try.func46 (by kernel_rfl) rfl #[.string (x4_5.extract ((ji58) : Int).toNat x4_5.size), .int .i64 6, .int .i64 6] rfl (by (try simp only [List.map_toArray, List.map_cons, List.map_nil]); first | done | (simp only [hji58]; rfl) | rfl | (simp only [List.length_drop, List.length_take]; rfl) | (refine congrArg (fun z_ => #[Value.int IntKind.i64 z_]) (?_ : Go.RowKit.wrap64 (IntKind.u8.wrap _) = _); rw [IntKind.wrap_u8]; unfold Go.RowKit.wrap64; omega)) ?_; (with_reducible refine (horologeref02_Whole.calls kj42 (x4_5.extract ((ji58) : Int).toNat x4_5.size) 6 6 t467 t468 _ A61.out).mono ?_); rintro e w66 ⟨rfl, hb⟩; refine ⟨_, rfl, ?_⟩; have n0_ := Aside0.mk (Kd.V_below (by (with_reducible repeat (first | apply Kd.V_alloc | apply Kd.V_drewN | apply Kd.V_drew)); exact HO_461001.out) hb); have n1_ := Aside0.mk (blk_below (g := gb460) (o := .cells #[.bool x461000_42, .slice Ao64 x461001_42.length co64] 56 (0, 0)) (by (with_reducible repeat (first | refine blk_drewN ?_ _ | refine blk_drew ?_ | refine blk_alloc ?_ _)); exact BK460.out) hb); have n2_ := Aside0.mk (below_step (by repeat (first | (with_reducible first | exact HB.out | apply below_alloc | apply pw_below_drewN | apply below_drew1 | refine below_set ?_ GE460.out) | exact HB.out)) hb); clear HO_461001; clear BK460; clear HB; have HO_461001 := n0_; have BK460 := n1_; have HB := n2_; clear n0_ n1_ n2_; (try clear hb); (try clear hb2); (try clear hk); (try clear hi)) | ((with_reducible refine gate_callee (f := 13) rfl ?_); refine goesL_ (some 90) rfl rfl Try.func13 (by kernel_rfl) rfl #[.int .i64 t465, .int .i64 t467] rfl (by (try simp only [List.map_toArray, List.map_cons, List.map_nil]); first | done | rfl | (simp only [List.length_drop, List.length_take]; rfl) | (refine congrArg (fun z_ => #[Value.int IntKind.i64 z_]) (?_ : Go.RowKit.wrap64 (IntKind.u8.wrap _) = _); rw [IntKind.wrap_u8]; unfold Go.RowKit.wrap64; omega)) ?_; (with_reducible refine (horologeref14_Tai.calls kj42 t465 t467 t469 t470 _ A62.out).mono ?_); rintro e w67 ⟨rfl, hb⟩; refine ⟨_, rfl, ?_⟩; have n0_ := Aside0.mk (Kd.V_below (by (with_reducible repeat (first | apply Kd.V_alloc | apply Kd.V_drewN | apply Kd.V_drew)); exact HO_461001.out) hb); have n1_ := Aside0.mk (blk_below (g := gb460) (o := .cells #[.bool x461000_42, .slice Ao64 x461001_42.length co64] 56 (0, 0)) (by (with_reducible repeat (first | refine blk_drewN ?_ _ | refine blk_drew ?_ | refine blk_alloc ?_ _)); exact BK460.out) hb); have n2_ := Aside0.mk (below_step (by repeat (first | (with_reducible first | exact HB.out | apply below_alloc | apply pw_below_drewN | apply below_drew1 | refine below_set ?_ GE460.out) | exact HB.out)) hb); clear HO_461001; clear BK460; clear HB; have HO_461001 := n0_; have BK460 := n1_; have HB := n2_; clear n0_ n1_ n2_; (try clear hb); (try clear hb2); (try clear hk); (try clear hi)))
                                    go_ret2
                                    exact ⟨by first | rfl | (simp [errW_none, errW_some] <;> rfl) | (simp only [← hji58]; first | rfl | (simp [errW_none, errW_some] <;> rfl)) | (simp [*, errW_none, errW_some] <;> rfl), by repeat (first | (with_reducible first | exact HB.out | apply below_alloc | apply pw_below_drewN | apply below_drew1 | refine below_set ?_ GE460.out) | exact HB.out)⟩
                                  · rw [if_neg c60] at H
                                    exact absurd H (by simp)
                                · rw [if_neg c59] at H
                                  exact absurd H (by simp)
                              · rw [if_neg c57] at H
                                have c57b0 : (t466 == 0) = false := beq_eq_false_iff_ne.mpr c57
                                have c57b1 : (t466 != 0) = true := bne_iff_ne.mpr c57
                                simp only [Option.some.injEq, Prod.mk.injEq] at H
                                obtain ⟨rfl, rfl⟩ := H
                                have hcz68_0 : wc.cell? ⟨gb460, 0, none⟩ = some (.bool x461000_42) := (blk_cell BK460.out 0).trans rfl
                                have hcz68_1 : wc.cell? ⟨gb460, 1, none⟩ = some (u461001) := (blk_cell BK460.out 1).trans rfl
                                have hfz68_0 := blk_frozen BK460.out 0
                                have hfz68_1 := blk_frozen BK460.out 1
                                obtain ⟨Ao69, co69, eo69⟩ := Kd.V_slice HO_461001.out
                                subst eo69
                                go_wp2_with (first | ((with_reducible refine gate_callee (f := 24) rfl ?_); refine goesL_ (some 74) rfl rfl Try.func24 (by kernel_rfl) rfl #[.agg #[.bool x461000_42, .slice Ao69 x461001_42.length co69]] rfl (by (try simp only [List.map_toArray, List.map_cons, List.map_nil]); first | done | rfl | (simp only [List.length_drop, List.length_take]; rfl) | (refine congrArg (fun z_ => #[Value.int IntKind.i64 z_]) (?_ : Go.RowKit.wrap64 (IntKind.u8.wrap _) = _); rw [IntKind.wrap_u8]; unfold Go.RowKit.wrap64; omega)) ?_; (with_reducible refine (horologeref01_Small.calls kj42 x461000_42 _ _ x461001_42 t465 t466 _ ?side1 ?side2 A56.out).mono ?_); (case side1 => repeat (first | exact (Kd.V_reads' HO_461001.out).2.2 | (with_reducible refine Kd.C_alloc ?_ _) | (with_reducible refine Kd.C_drewN ?_ _) | (with_reducible refine Kd.C_drew ?_))); (case side2 => exact (Kd.V_reads' HO_461001.out).2.1); rintro e w70 ⟨rfl, hb⟩; refine ⟨_, rfl, ?_⟩; have n0_ := Aside0.mk (Kd.V_below (by (with_reducible repeat (first | apply Kd.V_alloc | apply Kd.V_drewN | apply Kd.V_drew)); exact HO_461001.out) hb); have n1_ := Aside0.mk (blk_below (g := gb460) (o := .cells #[.bool x461000_42, .slice Ao69 x461001_42.length co69] 56 (0, 0)) (by (with_reducible repeat (first | refine blk_drewN ?_ _ | refine blk_drew ?_ | refine blk_alloc ?_ _)); exact BK460.out) hb); have n2_ := Aside0.mk (below_step (by repeat (first | (with_reducible first | exact HB.out | apply below_alloc | apply pw_below_drewN | apply below_drew1 | refine below_set ?_ GE460.out) | exact HB.out)) hb); clear HO_461001; clear BK460; clear HB; have HO_461001 := n0_; have BK460 := n1_; have HB := n2_; clear n0_ n1_ n2_; (try clear hb); (try clear hb2); (try clear hk); (try clear hi)))
                                go_ret2
                                exact ⟨by first | rfl | (simp [errW_none, errW_some] <;> rfl) | (simp [*, errW_none, errW_some] <;> rfl), by repeat (first | (with_reducible first | exact HB.out | apply below_alloc | apply pw_below_drewN | apply below_drew1 | refine below_set ?_ GE460.out) | exact HB.out)⟩
                        · rw [if_neg c41] at H
                          exact absurd H (by simp)
                      · rw [if_neg c40] at H
                        exact absurd H (by simp)

end Go.Proofs.Ytjameiglfecagaa.MGpsTexts
