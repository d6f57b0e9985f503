-- This text was written by a program of this session (a changed scratch copy of a tool of the kit; NOTES.md tells the changes).
import Derived.Test.YtmcicjjaneaokaaMWeekTextsx0
import Derived.Test.YtmcicjjaneaokaaMWeekTextsx4
import Derived.Test.YtmcicjjaneaokaaMWeekTextsx5
import Derived.Test.YtmcicjjaneaokaaMWeekTextsx6
import Derived.Test.YtmcicjjaneaokaaMWeekTextsx9
namespace Go.Proofs.Ytmcicjjaneaokaa.MWeekTexts
open Go.RowKit Go.Proofs.YtmcicjjaneaokaaW.PrintWords Go.Proofs.YtmcicjjaneaokaaW.PrintLast Go.Proofs.YtmcicjjaneaokaaW.PrintMore
attribute [local go_sem] max2_int min2_int max_two min_two max_three min_three max_four min_four   -- for this text's walks alone
set_option linter.unusedVariables false
set_option linter.unusedSimpArgs false

/-! ### horologeref06_Parse: function 23 -/
mutual
def horologeref06_Parse.j0 : Nat → ByteArray → Int → Bool → Option (Int × Int)
  | 0, _, _, _ => none
  | k + 1, x4, x5, x21 => if x21 = true then (if 1 ≤ (x4.size : Int) then (horologeref06_Parse.j1 k (x4.extract 1 x4.size) (-1)) else (none)) else (horologeref06_Parse.j1 k x4 x5)
def horologeref06_Parse.j1 : Nat → ByteArray → Int → Option (Int × Int)
  | 0, _, _ => none
  | k + 1, x4, x5 => (horologeref02_Many.f k x4).bind fun t421 => (if t421 < 4 then (horologeref06_Parse.j2 k x4 x5 t421 true) else (if t421 > 5 then (horologeref06_Parse.j2 k x4 x5 t421 true) else (if (x4.size : Int) = (wrap64 (t421 + 6)) then (if 0 ≤ t421 then (if t421 < (x4.size : Int) then (if (bt x4 t421) = 45 then (if 0 ≤ (wrap64 (t421 + 1)) then (if (wrap64 (t421 + 1)) < (x4.size : Int) then (if (bt x4 (wrap64 (t421 + 1))) = 87 then (if 0 ≤ (wrap64 (t421 + 4)) then (if (wrap64 (t421 + 4)) < (x4.size : Int) then (horologeref06_Parse.j2 k x4 x5 t421 ((bt x4 (wrap64 (t421 + 4))) != 45)) else (none)) else (none)) else (horologeref06_Parse.j2 k x4 x5 t421 true)) else (none)) else (none)) else (horologeref06_Parse.j2 k x4 x5 t421 true)) else (none)) else (none)) else (horologeref06_Parse.j2 k x4 x5 t421 true))))
def horologeref06_Parse.j2 : Nat → ByteArray → Int → Int → Bool → Option (Int × Int)
  | 0, _, _, _, _ => none
  | k + 1, x4, x5, x6, x58 => if x58 = true then (some (0, 2)) else (if 0 ≤ x6 then (if x6 ≤ (x4.size : Int) then ((horologeref02_Whole.f k (x4.extract 0 (x6 : Int).toNat) 1 5).bind fun bt422 => (if 0 ≤ (wrap64 (x6 + 2)) then (if (wrap64 (x6 + 2)) ≤ (wrap64 (x6 + 4)) then (if (wrap64 (x6 + 4)) ≤ (x4.size : Int) then ((horologeref02_Whole.f k (x4.extract ((wrap64 (x6 + 2)) : Int).toNat ((wrap64 (x6 + 4)) : Int).toNat) 2 2).bind fun bt424 => (if 0 ≤ (wrap64 (x6 + 5)) then (if (wrap64 (x6 + 5)) ≤ (x4.size : Int) then ((horologeref02_Whole.f k (x4.extract ((wrap64 (x6 + 5)) : Int).toNat x4.size) 1 1).bind fun bt426 => (if bt424.2 = 0 then (if bt426.2 = 0 then (if x6 = 5 then (if 0 < (x4.size : Int) then (if (bt x4 0) = 48 then (some (0, 2)) else (if x5 < 0 then (if bt422.1 = 0 then (some (0, 2)) else ((horologeref06_Day.f k (wrap64 (x5 * bt422.1)) bt424.1 bt426.1).bind fun bt428 => (some (bt428.1, bt428.2)))) else ((horologeref06_Day.f k (wrap64 (x5 * bt422.1)) bt424.1 bt426.1).bind fun bt430 => (some (bt430.1, bt430.2))))) else (none)) else (if x5 < 0 then (if bt422.1 = 0 then (some (0, 2)) else ((horologeref06_Day.f k (wrap64 (x5 * bt422.1)) bt424.1 bt426.1).bind fun bt432 => (some (bt432.1, bt432.2)))) else ((horologeref06_Day.f k (wrap64 (x5 * bt422.1)) bt424.1 bt426.1).bind fun bt434 => (some (bt434.1, bt434.2))))) else (some (0, 2))) else (some (0, 2)))) else (none)) else (none))) else (none)) else (none)) else (none))) else (none)) else (none))
end
def horologeref06_Parse.f (k : Nat) (a0 : ByteArray) : Option (Int × Int) := if (a0.size : Int) > 0 then (if 0 < (a0.size : Int) then (horologeref06_Parse.j0 k a0 1 ((bt a0 0) == 45)) else (none)) else (horologeref06_Parse.j0 k a0 1 false)
theorem horologeref06_Parse.mono_l : ∀ k, (∀ y0 y1 y2, LeO (horologeref06_Parse.j0 k y0 y1 y2) (horologeref06_Parse.j0 (k + 1) y0 y1 y2)) ∧ (∀ y0 y1, LeO (horologeref06_Parse.j1 k y0 y1) (horologeref06_Parse.j1 (k + 1) y0 y1)) ∧ (∀ y0 y1 y2 y3, LeO (horologeref06_Parse.j2 k y0 y1 y2 y3) (horologeref06_Parse.j2 (k + 1) y0 y1 y2 y3))
  | 0 => ⟨fun _ _ _ r h => by simp [horologeref06_Parse.j0] at h, fun _ _ r h => by simp [horologeref06_Parse.j1] at h, fun _ _ _ _ r h => by simp [horologeref06_Parse.j2] at h⟩
  | k + 1 => by
    obtain ⟨ih0, ih1, ih2⟩ := horologeref06_Parse.mono_l k
    refine ⟨?_, ?_, ?_⟩
    · intro y0 y1 y2
      unfold horologeref06_Parse.j0
      repeat' first
      | (with_reducible exact ih0 _ _ _)
      | (with_reducible exact ih1 _ _)
      | (with_reducible exact ih2 _ _ _ _)
      | (with_reducible exact horologeref02_Many.mono _ _)
      | (with_reducible exact horologeref02_Whole.mono _ _ _ _)
      | (with_reducible exact horologeref06_Day.mono _ _ _ _)
      | (with_reducible exact LeO.refl _)
      | (with_reducible exact LeO.none _)
      | (with_reducible refine LeO.ite ?_ ?_)
      | (with_reducible refine LeO.bind ?_ (fun _ => ?_))
      | exact ih0 _ _ _
      | exact ih1 _ _
      | exact ih2 _ _ _ _
      | exact horologeref02_Many.mono _ _
      | exact horologeref02_Whole.mono _ _ _ _
      | exact horologeref06_Day.mono _ _ _ _
      | exact LeO.none _
      | refine LeO.ite ?_ ?_
      | refine LeO.bind ?_ (fun _ => ?_)
    · intro y0 y1
      unfold horologeref06_Parse.j1
      repeat' first
      | (with_reducible exact ih0 _ _ _)
      | (with_reducible exact ih1 _ _)
      | (with_reducible exact ih2 _ _ _ _)
      | (with_reducible exact horologeref02_Many.mono _ _)
      | (with_reducible exact horologeref02_Whole.mono _ _ _ _)
      | (with_reducible exact horologeref06_Day.mono _ _ _ _)
      | (with_reducible exact LeO.refl _)
      | (with_reducible exact LeO.none _)
      | (with_reducible refine LeO.ite ?_ ?_)
      | (with_reducible refine LeO.bind ?_ (fun _ => ?_))
      | exact ih0 _ _ _
      | exact ih1 _ _
      | exact ih2 _ _ _ _
      | exact horologeref02_Many.mono _ _
      | exact horologeref02_Whole.mono _ _ _ _
      | exact horologeref06_Day.mono _ _ _ _
      | exact LeO.none _
      | refine LeO.ite ?_ ?_
      | refine LeO.bind ?_ (fun _ => ?_)
    · intro y0 y1 y2 y3
      unfold horologeref06_Parse.j2
      repeat' first
      | (with_reducible exact ih0 _ _ _)
      | (with_reducible exact ih1 _ _)
      | (with_reducible exact ih2 _ _ _ _)
      | (with_reducible exact horologeref02_Many.mono _ _)
      | (with_reducible exact horologeref02_Whole.mono _ _ _ _)
      | (with_reducible exact horologeref06_Day.mono _ _ _ _)
      | (with_reducible exact LeO.refl _)
      | (with_reducible exact LeO.none _)
      | (with_reducible refine LeO.ite ?_ ?_)
      | (with_reducible refine LeO.bind ?_ (fun _ => ?_))
      | exact ih0 _ _ _
      | exact ih1 _ _
      | exact ih2 _ _ _ _
      | exact horologeref02_Many.mono _ _
      | exact horologeref02_Whole.mono _ _ _ _
      | exact horologeref06_Day.mono _ _ _ _
      | exact LeO.none _
      | refine LeO.ite ?_ ?_
      | refine LeO.bind ?_ (fun _ => ?_)
theorem horologeref06_Parse.mono : ∀ a0 k, LeO (horologeref06_Parse.f k a0) (horologeref06_Parse.f (k + 1) a0) := by
  intro a0 k
  obtain ⟨ih0, ih1, ih2⟩ := horologeref06_Parse.mono_l k
  unfold horologeref06_Parse.f
  repeat' first
      | (with_reducible exact ih0 _ _ _)
      | (with_reducible exact ih1 _ _)
      | (with_reducible exact ih2 _ _ _ _)
      | (with_reducible exact horologeref02_Many.mono _ _)
      | (with_reducible exact horologeref02_Whole.mono _ _ _ _)
      | (with_reducible exact horologeref06_Day.mono _ _ _ _)
      | (with_reducible exact LeO.refl _)
      | (with_reducible exact LeO.none _)
      | (with_reducible refine LeO.ite ?_ ?_)
      | (with_reducible refine LeO.bind ?_ (fun _ => ?_))
      | exact ih0 _ _ _
      | exact ih1 _ _
      | exact ih2 _ _ _ _
      | exact horologeref02_Many.mono _ _
      | exact horologeref02_Whole.mono _ _ _ _
      | exact horologeref06_Day.mono _ _ _ _
      | exact LeO.none _
      | refine LeO.ite ?_ ?_
      | refine LeO.bind ?_ (fun _ => ?_)
set_option maxHeartbeats 8000000 in
set_option maxRecDepth 100000 in
theorem horologeref06_Parse.calls (k : Nat) (a0 : ByteArray) (r1 : Int) (r2 : Int) (w : World) (h : horologeref06_Parse.f k a0 = some (r1, r2)) :
    Calls Try.prog 23 #[.string a0] w fun e w' => e = .returned (.tuple #[.int .i64 r1, .int .i64 r2]) ∧ Below w.heap.size w w' := by
  have HB := Aside0.mk (Below.refl w.heap.size w)
  have H : (if (a0.size : Int) > 0 then (if 0 < (a0.size : Int) then (horologeref06_Parse.j0 k a0 1 ((bt a0 0) == 45)) else (none)) else (horologeref06_Parse.j0 k a0 1 false)) = some (r1, r2) := h
  clear h
  have HC2 := Aside0.mk H
  clear H
  go_enter Try.func23, Try.ntmps23
  go_upto_region 3 with (fail)
  go_cut [21] (fun v21 wc => ∃ (kq : Nat) (x21_1 : Bool), v21 = .bool x21_1 ∧ Aside0 (horologeref06_Parse.j0 kq a0 1 x21_1 = some (r1, r2)) ∧ Aside0 (kq ≤ k) ∧ Aside0 (Below w.heap.size w wc))
  case first =>
    have H := HC2.out
    clear HC2
    by_cases c3 : (a0.size : Int) > 0
    · rw [if_pos c3] at H
      have c3b0 : decide (0 < (a0.size : Int)) = true := decide_eq_true c3
      have c3b1 : decide (0 < a0.size) = true := decide_eq_true (by omega)
      clear c3
      (first | rw [c3b0] | (simp only [i64_w, i32_w]; rw [c3b0]) | skip)
      by_cases c4 : 0 < (a0.size : Int)
      · rw [if_pos c4] at H
        have c4b0 : decide (0 < (a0.size : Int)) = true := decide_eq_true c4
        have c4b1 : decide (0 < a0.size) = true := decide_eq_true (by omega)
        clear c4
        have H' := Aside0.mk H
        clear H
        have p5 : 0 ≤ (0 : Int) := (by omega)
        have q5 : 0 < a0.size := (by have : (0 : Int) < (a0.size : Int) := of_decide_eq_true (by first | (with_reducible assumption) | assumption); omega)
        have hx5 : ∀ h : 0 < a0.size, ((a0[0]'h).toNat : Int) = bt a0 0 := bt_at a0 0
        clear p5
        have qi5 : (0 < (a0.size : Int)) = True := eq_true (of_decide_eq_true (by first | (with_reducible assumption) | assumption))
        replace q5 := eq_true q5
        go_wp2
        go_meet
        case rel => exact ⟨_, (((bt a0 0) == 45)), (by first | rfl | (simp; done) | (simp [*]; done)), H', ⟨by first | omega | exact Nat.le_refl _⟩, ⟨by repeat (first | (with_reducible first | exact HB.out | apply below_alloc | apply pw_below_drewN | apply below_drew1) | exact HB.out)⟩⟩
      · rw [if_neg c4] at H
        exact absurd H (by simp)
    · rw [if_neg c3] at H
      have c3b0 : decide (0 < (a0.size : Int)) = false := decide_eq_false c3
      have c3b1 : decide (0 < a0.size) = false := decide_eq_false (by omega)
      clear c3
      (first | rw [c3b0] | (simp only [i64_w, i32_w]; rw [c3b0]) | skip)
      have H' := Aside0.mk H
      clear H
      go_wp2
      go_meet
      case rel => exact ⟨_, (false), (by first | rfl | (simp; done) | (simp [*]; done)), H', ⟨by first | omega | exact Nat.le_refl _⟩, ⟨by repeat (first | (with_reducible first | exact HB.out | apply below_alloc | apply pw_below_drewN | apply below_drew1) | exact HB.out)⟩⟩
  case rest =>
    clear HC2
    try clear c2
    try clear p2
    try clear c3
    try clear c3b0
    try clear c3b1
    try clear c4
    try clear c4b0
    try clear c4b1
    try clear p5
    try clear q5
    try clear hx5
    try clear qi5
    try clear p5
    try clear q5
    obtain ⟨kq, x21_1, rfl, HA, HJ1, HB⟩ := hcut
    cases kq with
    | zero => exact absurd HA.out (by simp [horologeref06_Parse.j0])
    | succ kj1 =>
      have H := HA.out
      clear HA
      simp only [horologeref06_Parse.j0] at H
      have HC6 := Aside0.mk H
      clear H
      go_upto_if 21 with (fail)
      go_cut [4, 5] (fun v4 v5 wc => ∃ (kq : Nat) (x4_5 : ByteArray) (x5_5 : Int), v4 = .string x4_5 ∧ v5 = .int .i64 x5_5 ∧ Aside0 (horologeref06_Parse.j1 kq x4_5 x5_5 = some (r1, r2)) ∧ Aside0 (kq ≤ kj1) ∧ Aside0 (Below w.heap.size w wc))
      case first =>
        have H := HC6.out
        clear HC6
        by_cases c7 : x21_1 = true
        · subst c7
          have H1 : (if 1 ≤ (a0.size : Int) then (horologeref06_Parse.j1 kj1 (a0.extract 1 a0.size) (-1)) else (none)) = some (r1, r2) := by rw [if_pos rfl] at H; exact H
          clear H
          have H := H1
          clear H1
          by_cases c8 : 1 ≤ (a0.size : Int)
          · rw [if_pos c8] at H
            have c8b0 := eq_true c8
            have c8b1 : decide (1 ≤ (a0.size : Int)) = true := decide_eq_true c8
            clear c8
            have H' := Aside0.mk H
            clear H
            go_wp2
            go_meet
            case rel => exact ⟨_, (a0.extract 1 a0.size), ((-1)), (by first | rfl | (simp; done) | (simp [*]; done)), (by first | rfl | (simp; done) | (simp [*]; done)), H', ⟨by have := HJ1.out; first | omega | exact Nat.le_refl _⟩, ⟨by repeat (first | (with_reducible first | exact HB.out | apply below_alloc | apply pw_below_drewN | apply below_drew1) | exact HB.out)⟩⟩
          · rw [if_neg c8] at H
            exact absurd H (by simp)
        · replace c7 := Bool.eq_false_iff.mpr c7
          subst c7
          have H1 : (horologeref06_Parse.j1 kj1 a0 1) = some (r1, r2) := by rw [if_neg (show ¬ (false = true) by decide)] at H; exact H
          clear H
          have H := H1
          clear H1
          have H' := Aside0.mk H
          clear H
          go_wp2
          go_meet
          case rel => exact ⟨_, (a0), (1), (by first | rfl | (simp; done) | (simp [*]; done)), (by first | rfl | (simp; done) | (simp [*]; done)), H', ⟨by have := HJ1.out; first | omega | exact Nat.le_refl _⟩, ⟨by repeat (first | (with_reducible first | exact HB.out | apply below_alloc | apply pw_below_drewN | apply below_drew1) | exact HB.out)⟩⟩
      case rest =>
        clear HC6
        try clear c2
        try clear p2
        try clear c3
        try clear c3b0
        try clear c3b1
        try clear c4
        try clear c4b0
        try clear c4b1
        try clear p5
        try clear q5
        try clear hx5
        try clear qi5
        try clear c7
        try clear c8
        try clear c8b0
        try clear c8b1
        try clear p2
        try clear p5
        try clear q5
        obtain ⟨kq, x4_5, x5_5, rfl, rfl, HA, HJ5, HB⟩ := hcut
        cases kq with
        | zero => exact absurd HA.out (by simp [horologeref06_Parse.j1])
        | succ kj5 =>
          have H := HA.out
          clear HA
          simp only [horologeref06_Parse.j1] at H
          replace H := Option.bind_eq_some_iff.mp H
          obtain ⟨t421, A90, H⟩ := H
          replace H : (if t421 < 4 then (horologeref06_Parse.j2 kj5 x4_5 x5_5 t421 true) else (if t421 > 5 then (horologeref06_Parse.j2 kj5 x4_5 x5_5 t421 true) else (if (x4_5.size : Int) = (wrap64 (t421 + 6)) then (if 0 ≤ t421 then (if t421 < (x4_5.size : Int) then (if (bt x4_5 t421) = 45 then (if 0 ≤ (wrap64 (t421 + 1)) then (if (wrap64 (t421 + 1)) < (x4_5.size : Int) then (if (bt x4_5 (wrap64 (t421 + 1))) = 87 then (if 0 ≤ (wrap64 (t421 + 4)) then (if (wrap64 (t421 + 4)) < (x4_5.size : Int) then (horologeref06_Parse.j2 kj5 x4_5 x5_5 t421 ((bt x4_5 (wrap64 (t421 + 4))) != 45)) else (none)) else (none)) else (horologeref06_Parse.j2 kj5 x4_5 x5_5 t421 true)) else (none)) else (none)) else (horologeref06_Parse.j2 kj5 x4_5 x5_5 t421 true)) else (none)) else (none)) else (horologeref06_Parse.j2 kj5 x4_5 x5_5 t421 true)))) = some (r1, r2) := H
          have A9 := Aside0.mk A90
          clear A90
          have HC10 := Aside0.mk H
          clear H
          go_upto_region 7 with (first | ((with_reducible refine gate_callee (f := 38) rfl ?_); refine goesL_ (some 25) rfl rfl Try.func38 (by kernel_rfl) rfl #[.string x4_5] rfl (by (try simp only [List.map_toArray, List.map_cons, List.map_nil]); first | done | rfl | (simp only [List.length_drop, List.length_take]; rfl) | (refine congrArg (fun z_ => #[Value.int IntKind.i64 z_]) (?_ : Go.RowKit.wrap64 (IntKind.u8.wrap _) = _); rw [IntKind.wrap_u8]; unfold Go.RowKit.wrap64; omega)) ?_; (with_reducible refine (horologeref02_Many.calls kj5 x4_5 t421 _ A9.out).mono ?_); rintro e w' ⟨rfl, ⟨nd, rfl⟩⟩; refine ⟨_, rfl, ?_⟩))
          (try simp only [Act.put, List.setIfInBounds_toArray, List.set_cons_zero, List.set_cons_succ])
          go_cut [58] (fun v58 wc => ∃ (kq : Nat) (x58_9 : Bool), v58 = .bool x58_9 ∧ Aside0 (horologeref06_Parse.j2 kq x4_5 x5_5 t421 x58_9 = some (r1, r2)) ∧ Aside0 (kq ≤ kj5) ∧ Aside0 (Below w.heap.size w wc))
          case first =>
            have H := HC10.out
            clear HC10
            by_cases c11 : t421 < 4
            · rw [if_pos c11] at H
              have c11b0 : decide (t421 < 4) = true := decide_eq_true c11
              clear c11
              (first | rw [c11b0] | (simp only [i64_w, i32_w]; rw [c11b0]) | skip)
              have H' := Aside0.mk H
              clear H
              go_wp2
              go_meet
              case rel => exact ⟨_, (true), (by first | rfl | (simp; done) | (simp [*]; done)), H', ⟨by have := HJ1.out; have := HJ5.out; first | omega | exact Nat.le_refl _⟩, ⟨by repeat (first | (with_reducible first | exact HB.out | apply below_alloc | apply pw_below_drewN | apply below_drew1) | exact HB.out)⟩⟩
            · rw [if_neg c11] at H
              have c11b0 : decide (t421 < 4) = false := decide_eq_false c11
              clear c11
              (first | rw [c11b0] | (simp only [i64_w, i32_w]; rw [c11b0]) | skip)
              by_cases c12 : t421 > 5
              · rw [if_pos c12] at H
                have c12b0 : decide (5 < t421) = true := decide_eq_true c12
                clear c12
                have H' := Aside0.mk H
                clear H
                go_wp2
                go_meet
                case rel => exact ⟨_, (true), (by first | rfl | (simp; done) | (simp [*]; done)), H', ⟨by have := HJ1.out; have := HJ5.out; first | omega | exact Nat.le_refl _⟩, ⟨by repeat (first | (with_reducible first | exact HB.out | apply below_alloc | apply pw_below_drewN | apply below_drew1) | exact HB.out)⟩⟩
              · rw [if_neg c12] at H
                have c12b0 : decide (5 < t421) = false := decide_eq_false c12
                clear c12
                by_cases c13 : (x4_5.size : Int) = (wrap64 (t421 + 6))
                · rw [if_pos c13] at H
                  have c13b0 : ((x4_5.size : Int) == (wrap64 (t421 + 6))) = true := beq_iff_eq.mpr c13
                  have c13b1 : ((x4_5.size : Int) != (wrap64 (t421 + 6))) = false := bne_eq_false_iff_eq.mpr c13
                  clear c13
                  by_cases c14 : 0 ≤ t421
                  · rw [if_pos c14] at H
                    have c14b0 : decide (0 ≤ t421) = true := decide_eq_true c14
                    clear c14
                    by_cases c15 : t421 < (x4_5.size : Int)
                    · rw [if_pos c15] at H
                      have c15b0 : decide (t421 < (x4_5.size : Int)) = true := decide_eq_true c15
                      clear c15
                      by_cases c17 : (bt x4_5 t421) = 45
                      · rw [if_pos c17] at H
                        have c17b0 : ((bt x4_5 t421) == 45) = true := beq_iff_eq.mpr c17
                        have c17b1 : ((bt x4_5 t421) != 45) = false := bne_eq_false_iff_eq.mpr c17
                        clear c17
                        obtain ⟨ji18, hji18⟩ : ∃ j_ : Int, (wrap64 (t421 + 1)) = j_ := ⟨_, rfl⟩
                        replace H : (if 0 ≤ (ji18) then (if (ji18) < (x4_5.size : Int) then (if (bt x4_5 (ji18)) = 87 then (if 0 ≤ (wrap64 (t421 + 4)) then (if (wrap64 (t421 + 4)) < (x4_5.size : Int) then (horologeref06_Parse.j2 kj5 x4_5 x5_5 t421 ((bt x4_5 (wrap64 (t421 + 4))) != 45)) else (none)) else (none)) else (horologeref06_Parse.j2 kj5 x4_5 x5_5 t421 true)) else (none)) else (none)) = some (r1, r2) := by first | (rw [hji18] at H; exact H) | (simp only [hji18] at H ⊢; exact H)
                        have hji18w : (IntKind.i64.wrap (t421 + 1)) = ji18 := (i64_w _).trans hji18
                        by_cases c19 : 0 ≤ (ji18)
                        · rw [if_pos c19] at H
                          have c19b0 : decide (0 ≤ (ji18)) = true := decide_eq_true c19
                          clear c19
                          by_cases c20 : (ji18) < (x4_5.size : Int)
                          · rw [if_pos c20] at H
                            have c20b0 : decide ((ji18) < (x4_5.size : Int)) = true := decide_eq_true c20
                            clear c20
                            by_cases c22 : (bt x4_5 (ji18)) = 87
                            · rw [if_pos c22] at H
                              have c22b0 : ((bt x4_5 (ji18)) == 87) = true := beq_iff_eq.mpr c22
                              have c22b1 : ((bt x4_5 (ji18)) != 87) = false := bne_eq_false_iff_eq.mpr c22
                              clear c22
                              obtain ⟨ji23, hji23⟩ : ∃ j_ : Int, (wrap64 (t421 + 4)) = j_ := ⟨_, rfl⟩
                              replace H : (if 0 ≤ (ji23) then (if (ji23) < (x4_5.size : Int) then (horologeref06_Parse.j2 kj5 x4_5 x5_5 t421 ((bt x4_5 (ji23)) != 45)) else (none)) else (none)) = some (r1, r2) := by first | (rw [hji23] at H; exact H) | (simp only [hji23] at H ⊢; exact H)
                              have hji23w : (IntKind.i64.wrap (t421 + 4)) = ji23 := (i64_w _).trans hji23
                              by_cases c24 : 0 ≤ (ji23)
                              · rw [if_pos c24] at H
                                have c24b0 : decide (0 ≤ (ji23)) = true := decide_eq_true c24
                                clear c24
                                by_cases c25 : (ji23) < (x4_5.size : Int)
                                · rw [if_pos c25] at H
                                  have c25b0 : decide ((ji23) < (x4_5.size : Int)) = true := decide_eq_true c25
                                  clear c25
                                  have H' := Aside0.mk H
                                  clear H
                                  have p16 : 0 ≤ (t421 : Int) := of_decide_eq_true (by first | (with_reducible assumption) | assumption)
                                  have q16 : t421 < (x4_5.size : Int) := of_decide_eq_true (by first | (with_reducible assumption) | assumption)
                                  have hx16 := bt_at x4_5 t421
                                  replace p16 := eq_true p16
                                  replace q16 := eq_true q16
                                  have p21 : 0 ≤ ((ji18) : Int) := of_decide_eq_true (by first | (with_reducible assumption) | assumption)
                                  have q21 : (ji18) < (x4_5.size : Int) := of_decide_eq_true (by first | (with_reducible assumption) | assumption)
                                  have hx21 := bt_at x4_5 (ji18)
                                  replace p21 := eq_true p21
                                  replace q21 := eq_true q21
                                  have p26 : 0 ≤ ((ji23) : Int) := of_decide_eq_true (by first | (with_reducible assumption) | assumption)
                                  have q26 : (ji23) < (x4_5.size : Int) := of_decide_eq_true (by first | (with_reducible assumption) | assumption)
                                  have hx26 := bt_at x4_5 (ji23)
                                  replace p26 := eq_true p26
                                  replace q26 := eq_true q26
                                  go_wp2
                                  go_meet
                                  case rel => exact ⟨_, (((bt x4_5 (ji23)) != 45)), (by first | rfl | (simp; done) | (simp only [← hji23] <;> (first | rfl | simp)) | (simp [*]; done)), H', ⟨by have := HJ1.out; have := HJ5.out; first | omega | exact Nat.le_refl _⟩, ⟨by repeat (first | (with_reducible first | exact HB.out | apply below_alloc | apply pw_below_drewN | apply below_drew1) | exact HB.out)⟩⟩
                                · rw [if_neg c25] at H
                                  exact absurd H (by simp)
                              · rw [if_neg c24] at H
                                exact absurd H (by simp)
                            · rw [if_neg c22] at H
                              have c22b0 : ((bt x4_5 (ji18)) == 87) = false := beq_eq_false_iff_ne.mpr c22
                              have c22b1 : ((bt x4_5 (ji18)) != 87) = true := bne_iff_ne.mpr c22
                              have H' := Aside0.mk H
                              clear H
                              have p16 : 0 ≤ (t421 : Int) := of_decide_eq_true (by first | (with_reducible assumption) | assumption)
                              have q16 : t421 < (x4_5.size : Int) := of_decide_eq_true (by first | (with_reducible assumption) | assumption)
                              have hx16 := bt_at x4_5 t421
                              replace p16 := eq_true p16
                              replace q16 := eq_true q16
                              have p21 : 0 ≤ ((ji18) : Int) := of_decide_eq_true (by first | (with_reducible assumption) | assumption)
                              have q21 : (ji18) < (x4_5.size : Int) := of_decide_eq_true (by first | (with_reducible assumption) | assumption)
                              have hx21 := bt_at x4_5 (ji18)
                              replace p21 := eq_true p21
                              replace q21 := eq_true q21
                              go_wp2
                              go_meet
                              case rel => exact ⟨_, (true), (by first | rfl | (simp; done) | (simp [*]; done)), H', ⟨by have := HJ1.out; have := HJ5.out; first | omega | exact Nat.le_refl _⟩, ⟨by repeat (first | (with_reducible first | exact HB.out | apply below_alloc | apply pw_below_drewN | apply below_drew1) | exact HB.out)⟩⟩
                          · rw [if_neg c20] at H
                            exact absurd H (by simp)
                        · rw [if_neg c19] at H
                          exact absurd H (by simp)
                      · rw [if_neg c17] at H
                        have c17b0 : ((bt x4_5 t421) == 45) = false := beq_eq_false_iff_ne.mpr c17
                        have c17b1 : ((bt x4_5 t421) != 45) = true := bne_iff_ne.mpr c17
                        have H' := Aside0.mk H
                        clear H
                        have p16 : 0 ≤ (t421 : Int) := of_decide_eq_true (by first | (with_reducible assumption) | assumption)
                        have q16 : t421 < (x4_5.size : Int) := of_decide_eq_true (by first | (with_reducible assumption) | assumption)
                        have hx16 := bt_at x4_5 t421
                        replace p16 := eq_true p16
                        replace q16 := eq_true q16
                        go_wp2
                        go_meet
                        case rel => exact ⟨_, (true), (by first | rfl | (simp; done) | (simp [*]; done)), H', ⟨by have := HJ1.out; have := HJ5.out; first | omega | exact Nat.le_refl _⟩, ⟨by repeat (first | (with_reducible first | exact HB.out | apply below_alloc | apply pw_below_drewN | apply below_drew1) | exact HB.out)⟩⟩
                    · rw [if_neg c15] at H
                      exact absurd H (by simp)
                  · rw [if_neg c14] at H
                    exact absurd H (by simp)
                · rw [if_neg c13] at H
                  have c13b0 : ((x4_5.size : Int) == (wrap64 (t421 + 6))) = false := beq_eq_false_iff_ne.mpr c13
                  have c13b1 : ((x4_5.size : Int) != (wrap64 (t421 + 6))) = true := bne_iff_ne.mpr c13
                  have H' := Aside0.mk H
                  clear H
                  go_wp2
                  go_meet
                  case rel => exact ⟨_, (true), (by first | rfl | (simp; done) | (simp [*]; done)), H', ⟨by have := HJ1.out; have := HJ5.out; first | omega | exact Nat.le_refl _⟩, ⟨by repeat (first | (with_reducible first | exact HB.out | apply below_alloc | apply pw_below_drewN | apply below_drew1) | exact HB.out)⟩⟩
          case rest =>
            clear HC10
            try clear c1
            try clear p1
            try clear q1
            try clear hx1
            try clear c2
            try clear p2
            try clear q2
            try clear hx2
            try clear c3
            try clear c3b0
            try clear c3b1
            try clear c4
            try clear c4b0
            try clear c4b1
            try clear p5
            try clear q5
            try clear hx5
            try clear qi5
            try clear p6
            try clear c7
            try clear c8
            try clear c8b0
            try clear c8b1
            try clear c11
            try clear c11b0
            try clear c12
            try clear c12b0
            try clear c13
            try clear c13b0
            try clear c13b1
            try clear c14
            try clear c14b0
            try clear c15
            try clear c15b0
            try clear p16
            try clear q16
            try clear hx16
            try clear c17
            try clear c17b0
            try clear c17b1
            try clear c19
            try clear c19b0
            try clear c20
            try clear c20b0
            try clear p21
            try clear q21
            try clear hx21
            try clear c22
            try clear c22b0
            try clear c22b1
            try clear c23
            try clear c24
            try clear c24b0
            try clear c25
            try clear c25b0
            try clear p26
            try clear q26
            try clear hx26
            try clear p16
            try clear p2
            try clear p21
            try clear p26
            try clear p5
            try clear q16
            try clear q21
            try clear q26
            try clear q5
            obtain ⟨kq, x58_9, rfl, HA, HJ9, HB⟩ := hcut
            cases kq with
            | zero => exact absurd HA.out (by simp [horologeref06_Parse.j2])
            | succ kj9 =>
              have H := HA.out
              clear HA
              simp only [horologeref06_Parse.j2] at H
              by_cases c27 : x58_9 = true
              · subst c27
                have H1 : (some (0, 2)) = some (r1, r2) := by rw [if_pos rfl] at H; exact H
                clear H
                have H := H1
                clear H1
                simp only [Option.some.injEq, Prod.mk.injEq] at H
                obtain ⟨rfl, rfl⟩ := H
                go_wp2
                go_ret2
                exact ⟨by first | rfl | (simp [errW_none, errW_some] <;> rfl) | (simp [*, errW_none, errW_some] <;> rfl), by repeat (first | (with_reducible first | exact HB.out | apply below_alloc | apply pw_below_drewN | apply below_drew1) | exact HB.out)⟩
              · replace c27 := Bool.eq_false_iff.mpr c27
                subst c27
                have H1 : (if 0 ≤ t421 then (if t421 ≤ (x4_5.size : Int) then ((horologeref02_Whole.f kj9 (x4_5.extract 0 (t421 : Int).toNat) 1 5).bind fun bt422 => (if 0 ≤ (wrap64 (t421 + 2)) then (if (wrap64 (t421 + 2)) ≤ (wrap64 (t421 + 4)) then (if (wrap64 (t421 + 4)) ≤ (x4_5.size : Int) then ((horologeref02_Whole.f kj9 (x4_5.extract ((wrap64 (t421 + 2)) : Int).toNat ((wrap64 (t421 + 4)) : Int).toNat) 2 2).bind fun bt424 => (if 0 ≤ (wrap64 (t421 + 5)) then (if (wrap64 (t421 + 5)) ≤ (x4_5.size : Int) then ((horologeref02_Whole.f kj9 (x4_5.extract ((wrap64 (t421 + 5)) : Int).toNat x4_5.size) 1 1).bind fun bt426 => (if bt424.2 = 0 then (if bt426.2 = 0 then (if t421 = 5 then (if 0 < (x4_5.size : Int) then (if (bt x4_5 0) = 48 then (some (0, 2)) else (if x5_5 < 0 then (if bt422.1 = 0 then (some (0, 2)) else ((horologeref06_Day.f kj9 (wrap64 (x5_5 * bt422.1)) bt424.1 bt426.1).bind fun bt428 => (some (bt428.1, bt428.2)))) else ((horologeref06_Day.f kj9 (wrap64 (x5_5 * bt422.1)) bt424.1 bt426.1).bind fun bt430 => (some (bt430.1, bt430.2))))) else (none)) else (if x5_5 < 0 then (if bt422.1 = 0 then (some (0, 2)) else ((horologeref06_Day.f kj9 (wrap64 (x5_5 * bt422.1)) bt424.1 bt426.1).bind fun bt432 => (some (bt432.1, bt432.2)))) else ((horologeref06_Day.f kj9 (wrap64 (x5_5 * bt422.1)) bt424.1 bt426.1).bind fun bt434 => (some (bt434.1, bt434.2))))) else (some (0, 2))) else (some (0, 2)))) else (none)) else (none))) else (none)) else (none)) else (none))) else (none)) else (none)) = some (r1, r2) := by rw [if_neg (show ¬ (false = true) by decide)] at H; exact H
                clear H
                have H := H1
                clear H1
                by_cases c28 : 0 ≤ t421
                · rw [if_pos c28] at H
                  have c28b0 := eq_true c28
                  have c28b1 : decide (0 ≤ t421) = true := decide_eq_true c28
                  clear c28
                  by_cases c29 : t421 ≤ (x4_5.size : Int)
                  · rw [if_pos c29] at H
                    have c29b0 := eq_true c29
                    have c29b1 : decide (t421 ≤ (x4_5.size : Int)) = true := decide_eq_true c29
                    clear c29
                    replace H := Option.bind_eq_some_iff.mp H
                    obtain ⟨⟨t422, t423⟩, A300, H⟩ := H
                    replace H : (if 0 ≤ (wrap64 (t421 + 2)) then (if (wrap64 (t421 + 2)) ≤ (wrap64 (t421 + 4)) then (if (wrap64 (t421 + 4)) ≤ (x4_5.size : Int) then ((horologeref02_Whole.f kj9 (x4_5.extract ((wrap64 (t421 + 2)) : Int).toNat ((wrap64 (t421 + 4)) : Int).toNat) 2 2).bind fun bt424 => (if 0 ≤ (wrap64 (t421 + 5)) then (if (wrap64 (t421 + 5)) ≤ (x4_5.size : Int) then ((horologeref02_Whole.f kj9 (x4_5.extract ((wrap64 (t421 + 5)) : Int).toNat x4_5.size) 1 1).bind fun bt426 => (if bt424.2 = 0 then (if bt426.2 = 0 then (if t421 = 5 then (if 0 < (x4_5.size : Int) then (if (bt x4_5 0) = 48 then (some (0, 2)) else (if x5_5 < 0 then (if t422 = 0 then (some (0, 2)) else ((horologeref06_Day.f kj9 (wrap64 (x5_5 * t422)) bt424.1 bt426.1).bind fun bt428 => (some (bt428.1, bt428.2)))) else ((horologeref06_Day.f kj9 (wrap64 (x5_5 * t422)) bt424.1 bt426.1).bind fun bt430 => (some (bt430.1, bt430.2))))) else (none)) else (if x5_5 < 0 then (if t422 = 0 then (some (0, 2)) else ((horologeref06_Day.f kj9 (wrap64 (x5_5 * t422)) bt424.1 bt426.1).bind fun bt432 => (some (bt432.1, bt432.2)))) else ((horologeref06_Day.f kj9 (wrap64 (x5_5 * t422)) bt424.1 bt426.1).bind fun bt434 => (some (bt434.1, bt434.2))))) else (some (0, 2))) else (some (0, 2)))) else (none)) else (none))) else (none)) else (none)) else (none)) = some (r1, r2) := H
                    have A30 := Aside0.mk A300
                    clear A300
                    obtain ⟨ji31, hji31⟩ : ∃ j_ : Int, (wrap64 (t421 + 2)) = j_ := ⟨_, rfl⟩
                    replace H : (if 0 ≤ (ji31) then (if (ji31) ≤ (wrap64 (t421 + 4)) then (if (wrap64 (t421 + 4)) ≤ (x4_5.size : Int) then ((horologeref02_Whole.f kj9 (x4_5.extract ((ji31) : Int).toNat ((wrap64 (t421 + 4)) : Int).toNat) 2 2).bind fun bt424 => (if 0 ≤ (wrap64 (t421 + 5)) then (if (wrap64 (t421 + 5)) ≤ (x4_5.size : Int) then ((horologeref02_Whole.f kj9 (x4_5.extract ((wrap64 (t421 + 5)) : Int).toNat x4_5.size) 1 1).bind fun bt426 => (if bt424.2 = 0 then (if bt426.2 = 0 then (if t421 = 5 then (if 0 < (x4_5.size : Int) then (if (bt x4_5 0) = 48 then (some (0, 2)) else (if x5_5 < 0 then (if t422 = 0 then (some (0, 2)) else ((horologeref06_Day.f kj9 (wrap64 (x5_5 * t422)) bt424.1 bt426.1).bind fun bt428 => (some (bt428.1, bt428.2)))) else ((horologeref06_Day.f kj9 (wrap64 (x5_5 * t422)) bt424.1 bt426.1).bind fun bt430 => (some (bt430.1, bt430.2))))) else (none)) else (if x5_5 < 0 then (if t422 = 0 then (some (0, 2)) else ((horologeref06_Day.f kj9 (wrap64 (x5_5 * t422)) bt424.1 bt426.1).bind fun bt432 => (some (bt432.1, bt432.2)))) else ((horologeref06_Day.f kj9 (wrap64 (x5_5 * t422)) bt424.1 bt426.1).bind fun bt434 => (some (bt434.1, bt434.2))))) else (some (0, 2))) else (some (0, 2)))) else (none)) else (none))) else (none)) else (none)) else (none)) = some (r1, r2) := by first | (rw [hji31] at H; exact H) | (simp only [hji31] at H ⊢; exact H)
                    (try rw [hji31] at A30)
                    have hji31w : (IntKind.i64.wrap (t421 + 2)) = ji31 := (i64_w _).trans hji31
                    by_cases c32 : 0 ≤ (ji31)
                    · rw [if_pos c32] at H
                      have c32b0 := eq_true c32
                      have c32b1 : decide (0 ≤ (ji31)) = true := decide_eq_true c32
                      clear c32
                      by_cases c33 : (ji31) ≤ (wrap64 (t421 + 4))
                      · rw [if_pos c33] at H
                        have c33b0 := eq_true c33
                        have c33b1 : decide ((ji31) ≤ (wrap64 (t421 + 4))) = true := decide_eq_true c33
                        by_cases c34 : (wrap64 (t421 + 4)) ≤ (x4_5.size : Int)
                        · rw [if_pos c34] at H
                          have c34b0 := eq_true c34
                          have c34b1 : decide ((wrap64 (t421 + 4)) ≤ (x4_5.size : Int)) = true := decide_eq_true c34
                          replace H := Option.bind_eq_some_iff.mp H
                          obtain ⟨⟨t424, t425⟩, A350, H⟩ := H
                          replace H : (if 0 ≤ (wrap64 (t421 + 5)) then (if (wrap64 (t421 + 5)) ≤ (x4_5.size : Int) then ((horologeref02_Whole.f kj9 (x4_5.extract ((wrap64 (t421 + 5)) : Int).toNat x4_5.size) 1 1).bind fun bt426 => (if t425 = 0 then (if bt426.2 = 0 then (if t421 = 5 then (if 0 < (x4_5.size : Int) then (if (bt x4_5 0) = 48 then (some (0, 2)) else (if x5_5 < 0 then (if t422 = 0 then (some (0, 2)) else ((horologeref06_Day.f kj9 (wrap64 (x5_5 * t422)) t424 bt426.1).bind fun bt428 => (some (bt428.1, bt428.2)))) else ((horologeref06_Day.f kj9 (wrap64 (x5_5 * t422)) t424 bt426.1).bind fun bt430 => (some (bt430.1, bt430.2))))) else (none)) else (if x5_5 < 0 then (if t422 = 0 then (some (0, 2)) else ((horologeref06_Day.f kj9 (wrap64 (x5_5 * t422)) t424 bt426.1).bind fun bt432 => (some (bt432.1, bt432.2)))) else ((horologeref06_Day.f kj9 (wrap64 (x5_5 * t422)) t424 bt426.1).bind fun bt434 => (some (bt434.1, bt434.2))))) else (some (0, 2))) else (some (0, 2)))) else (none)) else (none)) = some (r1, r2) := H
                          have A35 := Aside0.mk A350
                          clear A350
                          obtain ⟨ji36, hji36⟩ : ∃ j_ : Int, (wrap64 (t421 + 5)) = j_ := ⟨_, rfl⟩
                          replace H : (if 0 ≤ (ji36) then (if (ji36) ≤ (x4_5.size : Int) then ((horologeref02_Whole.f kj9 (x4_5.extract ((ji36) : Int).toNat x4_5.size) 1 1).bind fun bt426 => (if t425 = 0 then (if bt426.2 = 0 then (if t421 = 5 then (if 0 < (x4_5.size : Int) then (if (bt x4_5 0) = 48 then (some (0, 2)) else (if x5_5 < 0 then (if t422 = 0 then (some (0, 2)) else ((horologeref06_Day.f kj9 (wrap64 (x5_5 * t422)) t424 bt426.1).bind fun bt428 => (some (bt428.1, bt428.2)))) else ((horologeref06_Day.f kj9 (wrap64 (x5_5 * t422)) t424 bt426.1).bind fun bt430 => (some (bt430.1, bt430.2))))) else (none)) else (if x5_5 < 0 then (if t422 = 0 then (some (0, 2)) else ((horologeref06_Day.f kj9 (wrap64 (x5_5 * t422)) t424 bt426.1).bind fun bt432 => (some (bt432.1, bt432.2)))) else ((horologeref06_Day.f kj9 (wrap64 (x5_5 * t422)) t424 bt426.1).bind fun bt434 => (some (bt434.1, bt434.2))))) else (some (0, 2))) else (some (0, 2)))) else (none)) else (none)) = some (r1, r2) := by first | (rw [hji36] at H; exact H) | (simp only [hji36] at H ⊢; exact H)
                          (try rw [hji36] at A30)
                          (try rw [hji36] at A35)
                          have hji36w : (IntKind.i64.wrap (t421 + 5)) = ji36 := (i64_w _).trans hji36
                          by_cases c37 : 0 ≤ (ji36)
                          · rw [if_pos c37] at H
                            have c37b0 := eq_true c37
                            have c37b1 : decide (0 ≤ (ji36)) = true := decide_eq_true c37
                            clear c37
                            by_cases c38 : (ji36) ≤ (x4_5.size : Int)
                            · rw [if_pos c38] at H
                              have c38b0 := eq_true c38
                              have c38b1 : decide ((ji36) ≤ (x4_5.size : Int)) = true := decide_eq_true c38
                              clear c38
                              replace H := Option.bind_eq_some_iff.mp H
                              obtain ⟨⟨t426, t427⟩, A390, H⟩ := H
                              replace H : (if t425 = 0 then (if t427 = 0 then (if t421 = 5 then (if 0 < (x4_5.size : Int) then (if (bt x4_5 0) = 48 then (some (0, 2)) else (if x5_5 < 0 then (if t422 = 0 then (some (0, 2)) else ((horologeref06_Day.f kj9 (wrap64 (x5_5 * t422)) t424 t426).bind fun bt428 => (some (bt428.1, bt428.2)))) else ((horologeref06_Day.f kj9 (wrap64 (x5_5 * t422)) t424 t426).bind fun bt430 => (some (bt430.1, bt430.2))))) else (none)) else (if x5_5 < 0 then (if t422 = 0 then (some (0, 2)) else ((horologeref06_Day.f kj9 (wrap64 (x5_5 * t422)) t424 t426).bind fun bt432 => (some (bt432.1, bt432.2)))) else ((horologeref06_Day.f kj9 (wrap64 (x5_5 * t422)) t424 t426).bind fun bt434 => (some (bt434.1, bt434.2))))) else (some (0, 2))) else (some (0, 2))) = some (r1, r2) := H
                              have A39 := Aside0.mk A390
                              clear A390
                              by_cases c40 : t425 = 0
                              · rw [if_pos c40] at H
                                have c40b0 : (t425 == 0) = true := beq_iff_eq.mpr c40
                                have c40b1 : (t425 != 0) = false := bne_eq_false_iff_eq.mpr c40
                                clear c40
                                by_cases c41 : t427 = 0
                                · rw [if_pos c41] at H
                                  have c41b0 : (t427 == 0) = true := beq_iff_eq.mpr c41
                                  have c41b1 : (t427 != 0) = false := bne_eq_false_iff_eq.mpr c41
                                  clear c41
                                  by_cases c42 : t421 = 5
                                  · rw [if_pos c42] at H
                                    have c42b0 : (t421 == 5) = true := beq_iff_eq.mpr c42
                                    have c42b1 : (t421 != 5) = false := bne_eq_false_iff_eq.mpr c42
                                    clear c42
                                    by_cases c43 : 0 < (x4_5.size : Int)
                                    · rw [if_pos c43] at H
                                      have c43b0 : decide (0 < (x4_5.size : Int)) = true := decide_eq_true c43
                                      have c43b1 : decide (0 < x4_5.size) = true := decide_eq_true (by omega)
                                      clear c43
                                      by_cases c45 : (bt x4_5 0) = 48
                                      · rw [if_pos c45] at H
                                        have c45b0 : ((bt x4_5 0) == 48) = true := beq_iff_eq.mpr c45
                                        have c45b1 : ((bt x4_5 0) != 48) = false := bne_eq_false_iff_eq.mpr c45
                                        clear c45
                                        simp only [Option.some.injEq, Prod.mk.injEq] at H
                                        obtain ⟨rfl, rfl⟩ := H
                                        go_wp2_with (first | ((with_reducible refine gate_callee (f := 39) rfl ?_); refine goesL_ (some 63) rfl rfl Try.func39 (by kernel_rfl) rfl #[.string (x4_5.extract 0 (t421 : Int).toNat), .int .i64 1, .int .i64 5] rfl (by (try simp only [List.map_toArray, List.map_cons, List.map_nil]); first | done | rfl | (simp only [List.length_drop, List.length_take]; rfl) | (refine congrArg (fun z_ => #[Value.int IntKind.i64 z_]) (?_ : Go.RowKit.wrap64 (IntKind.u8.wrap _) = _); rw [IntKind.wrap_u8]; unfold Go.RowKit.wrap64; omega)) ?_; (with_reducible refine (horologeref02_Whole.calls kj9 (x4_5.extract 0 (t421 : Int).toNat) 1 5 t422 t423 _ A30.out).mono ?_); rintro e w46 ⟨rfl, hb⟩; refine ⟨_, rfl, ?_⟩; have n0_ := Aside0.mk (below_step (by repeat (first | (with_reducible first | exact HB.out | apply below_alloc | apply pw_below_drewN | apply below_drew1) | exact HB.out)) hb); clear HB; have HB := n0_; clear n0_; (try clear hb); (try clear hb2); (try clear hk); (try clear hi)) | ((with_reducible refine gate_callee (f := 39) rfl ?_); refine goesL_ (some 73) rfl rfl Try.func39 (by kernel_rfl) rfl #[.string (x4_5.extract ((ji31) : Int).toNat ((wrap64 (t421 + 4)) : Int).toNat), .int .i64 2, .int .i64 2] rfl (by (try simp only [List.map_toArray, List.map_cons, List.map_nil]); first | done | (simp only [hji31]; rfl) | rfl | (simp only [List.length_drop, List.length_take]; rfl) | (refine congrArg (fun z_ => #[Value.int IntKind.i64 z_]) (?_ : Go.RowKit.wrap64 (IntKind.u8.wrap _) = _); rw [IntKind.wrap_u8]; unfold Go.RowKit.wrap64; omega)) ?_; (with_reducible refine (horologeref02_Whole.calls kj9 (x4_5.extract ((ji31) : Int).toNat ((wrap64 (t421 + 4)) : Int).toNat) 2 2 t424 t425 _ A35.out).mono ?_); rintro e w47 ⟨rfl, hb⟩; refine ⟨_, rfl, ?_⟩; have n0_ := Aside0.mk (below_step (by repeat (first | (with_reducible first | exact HB.out | apply below_alloc | apply pw_below_drewN | apply below_drew1) | exact HB.out)) hb); clear HB; have HB := n0_; clear n0_; (try clear hb); (try clear hb2); (try clear hk); (try clear hi)) | ((with_reducible refine gate_callee (f := 39) rfl ?_); refine goesL_ (some 81) rfl rfl Try.func39 (by kernel_rfl) rfl #[.string (x4_5.extract ((ji36) : Int).toNat x4_5.size), .int .i64 1, .int .i64 1] rfl (by (try simp only [List.map_toArray, List.map_cons, List.map_nil]); first | done | (simp only [hji36]; rfl) | rfl | (simp only [List.length_drop, List.length_take]; rfl) | (refine congrArg (fun z_ => #[Value.int IntKind.i64 z_]) (?_ : Go.RowKit.wrap64 (IntKind.u8.wrap _) = _); rw [IntKind.wrap_u8]; unfold Go.RowKit.wrap64; omega)) ?_; (with_reducible refine (horologeref02_Whole.calls kj9 (x4_5.extract ((ji36) : Int).toNat x4_5.size) 1 1 t426 t427 _ A39.out).mono ?_); rintro e w48 ⟨rfl, hb⟩; refine ⟨_, rfl, ?_⟩; have n0_ := Aside0.mk (below_step (by repeat (first | (with_reducible first | exact HB.out | apply below_alloc | apply pw_below_drewN | apply below_drew1) | exact HB.out)) hb); clear HB; have HB := n0_; clear n0_; (try clear hb); (try clear hb2); (try clear hk); (try clear hi); have p44 : 0 ≤ (0 : Int) := (by omega); have q44 : 0 < x4_5.size := (by have : (0 : Int) < (x4_5.size : Int) := of_decide_eq_true (by first | (with_reducible assumption) | assumption); omega); have hx44 : ∀ h : 0 < x4_5.size, ((x4_5[0]'h).toNat : Int) = bt x4_5 0 := bt_at x4_5 0; clear p44; have qi44 : (0 < (x4_5.size : Int)) = True := eq_true (of_decide_eq_true (by first | (with_reducible assumption) | assumption)); replace q44 := eq_true q44))
                                        go_ret2
                                        exact ⟨by first | rfl | (simp [errW_none, errW_some] <;> rfl) | (simp only [← hji31, ← hji36]; first | rfl | (simp [errW_none, errW_some] <;> rfl)) | (simp [*, errW_none, errW_some] <;> rfl), by repeat (first | (with_reducible first | exact HB.out | apply below_alloc | apply pw_below_drewN | apply below_drew1) | exact HB.out)⟩
                                      · rw [if_neg c45] at H
                                        have c45b0 : ((bt x4_5 0) == 48) = false := beq_eq_false_iff_ne.mpr c45
                                        have c45b1 : ((bt x4_5 0) != 48) = true := bne_iff_ne.mpr c45
                                        by_cases c49 : x5_5 < 0
                                        · rw [if_pos c49] at H
                                          have c49b0 : decide (x5_5 < 0) = true := decide_eq_true c49
                                          clear c49
                                          by_cases c50 : t422 = 0
                                          · rw [if_pos c50] at H
                                            have c50b0 : (t422 == 0) = true := beq_iff_eq.mpr c50
                                            have c50b1 : (t422 != 0) = false := bne_eq_false_iff_eq.mpr c50
                                            clear c50
                                            simp only [Option.some.injEq, Prod.mk.injEq] at H
                                            obtain ⟨rfl, rfl⟩ := H
                                            go_wp2_with (first | ((with_reducible refine gate_callee (f := 39) rfl ?_); refine goesL_ (some 63) rfl rfl Try.func39 (by kernel_rfl) rfl #[.string (x4_5.extract 0 (t421 : Int).toNat), .int .i64 1, .int .i64 5] rfl (by (try simp only [List.map_toArray, List.map_cons, List.map_nil]); first | done | rfl | (simp only [List.length_drop, List.length_take]; rfl) | (refine congrArg (fun z_ => #[Value.int IntKind.i64 z_]) (?_ : Go.RowKit.wrap64 (IntKind.u8.wrap _) = _); rw [IntKind.wrap_u8]; unfold Go.RowKit.wrap64; omega)) ?_; (with_reducible refine (horologeref02_Whole.calls kj9 (x4_5.extract 0 (t421 : Int).toNat) 1 5 t422 t423 _ A30.out).mono ?_); rintro e w51 ⟨rfl, hb⟩; refine ⟨_, rfl, ?_⟩; have n0_ := Aside0.mk (below_step (by repeat (first | (with_reducible first | exact HB.out | apply below_alloc | apply pw_below_drewN | apply below_drew1) | exact HB.out)) hb); clear HB; have HB := n0_; clear n0_; (try clear hb); (try clear hb2); (try clear hk); (try clear hi)) | ((with_reducible refine gate_callee (f := 39) rfl ?_); refine goesL_ (some 73) rfl rfl Try.func39 (by kernel_rfl) rfl #[.string (x4_5.extract ((ji31) : Int).toNat ((wrap64 (t421 + 4)) : Int).toNat), .int .i64 2, .int .i64 2] rfl (by (try simp only [List.map_toArray, List.map_cons, List.map_nil]); first | done | (simp only [hji31]; rfl) | rfl | (simp only [List.length_drop, List.length_take]; rfl) | (refine congrArg (fun z_ => #[Value.int IntKind.i64 z_]) (?_ : Go.RowKit.wrap64 (IntKind.u8.wrap _) = _); rw [IntKind.wrap_u8]; unfold Go.RowKit.wrap64; omega)) ?_; (with_reducible refine (horologeref02_Whole.calls kj9 (x4_5.extract ((ji31) : Int).toNat ((wrap64 (t421 + 4)) : Int).toNat) 2 2 t424 t425 _ A35.out).mono ?_); rintro e w52 ⟨rfl, hb⟩; refine ⟨_, rfl, ?_⟩; have n0_ := Aside0.mk (below_step (by repeat (first | (with_reducible first | exact HB.out | apply below_alloc | apply pw_below_drewN | apply below_drew1) | exact HB.out)) hb); clear HB; have HB := n0_; clear n0_; (try clear hb); (try clear hb2); (try clear hk); (try clear hi)) | ((with_reducible refine gate_callee (f := 39) rfl ?_); refine goesL_ (some 81) rfl rfl Try.func39 (by kernel_rfl) rfl #[.string (x4_5.extract ((ji36) : Int).toNat x4_5.size), .int .i64 1, .int .i64 1] rfl (by (try simp only [List.map_toArray, List.map_cons, List.map_nil]); first | done | (simp only [hji36]; rfl) | rfl | (simp only [List.length_drop, List.length_take]; rfl) | (refine congrArg (fun z_ => #[Value.int IntKind.i64 z_]) (?_ : Go.RowKit.wrap64 (IntKind.u8.wrap _) = _); rw [IntKind.wrap_u8]; unfold Go.RowKit.wrap64; omega)) ?_; (with_reducible refine (horologeref02_Whole.calls kj9 (x4_5.extract ((ji36) : Int).toNat x4_5.size) 1 1 t426 t427 _ A39.out).mono ?_); rintro e w53 ⟨rfl, hb⟩; refine ⟨_, rfl, ?_⟩; have n0_ := Aside0.mk (below_step (by repeat (first | (with_reducible first | exact HB.out | apply below_alloc | apply pw_below_drewN | apply below_drew1) | exact HB.out)) hb); clear HB; have HB := n0_; clear n0_; (try clear hb); (try clear hb2); (try clear hk); (try clear hi); have p44 : 0 ≤ (0 : Int) := (by omega); have q44 : 0 < x4_5.size := (by have : (0 : Int) < (x4_5.size : Int) := of_decide_eq_true (by first | (with_reducible assumption) | assumption); omega); have hx44 : ∀ h : 0 < x4_5.size, ((x4_5[0]'h).toNat : Int) = bt x4_5 0 := bt_at x4_5 0; clear p44; have qi44 : (0 < (x4_5.size : Int)) = True := eq_true (of_decide_eq_true (by first | (with_reducible assumption) | assumption)); replace q44 := eq_true q44))
                                            go_ret2
                                            exact ⟨by first | rfl | (simp [errW_none, errW_some] <;> rfl) | (simp only [← hji31, ← hji36]; first | rfl | (simp [errW_none, errW_some] <;> rfl)) | (simp [*, errW_none, errW_some] <;> rfl), by repeat (first | (with_reducible first | exact HB.out | apply below_alloc | apply pw_below_drewN | apply below_drew1) | exact HB.out)⟩
                                          · rw [if_neg c50] at H
                                            have c50b0 : (t422 == 0) = false := beq_eq_false_iff_ne.mpr c50
                                            have c50b1 : (t422 != 0) = true := bne_iff_ne.mpr c50
                                            replace H := Option.bind_eq_some_iff.mp H
                                            obtain ⟨⟨t428, t429⟩, A540, H⟩ := H
                                            replace H : (some (t428, t429)) = some (r1, r2) := H
                                            have A54 := Aside0.mk A540
                                            clear A540
                                            simp only [Option.some.injEq, Prod.mk.injEq] at H
                                            obtain ⟨rfl, rfl⟩ := H
                                            go_wp2_with (first | ((with_reducible refine gate_callee (f := 39) rfl ?_); refine goesL_ (some 63) rfl rfl Try.func39 (by kernel_rfl) rfl #[.string (x4_5.extract 0 (t421 : Int).toNat), .int .i64 1, .int .i64 5] rfl (by (try simp only [List.map_toArray, List.map_cons, List.map_nil]); first | done | rfl | (simp only [List.length_drop, List.length_take]; rfl) | (refine congrArg (fun z_ => #[Value.int IntKind.i64 z_]) (?_ : Go.RowKit.wrap64 (IntKind.u8.wrap _) = _); rw [IntKind.wrap_u8]; unfold Go.RowKit.wrap64; omega)) ?_; (with_reducible refine (horologeref02_Whole.calls kj9 (x4_5.extract 0 (t421 : Int).toNat) 1 5 t422 t423 _ A30.out).mono ?_); rintro e w55 ⟨rfl, hb⟩; refine ⟨_, rfl, ?_⟩; have n0_ := Aside0.mk (below_step (by repeat (first | (with_reducible first | exact HB.out | apply below_alloc | apply pw_below_drewN | apply below_drew1) | exact HB.out)) hb); clear HB; have HB := n0_; clear n0_; (try clear hb); (try clear hb2); (try clear hk); (try clear hi)) | ((with_reducible refine gate_callee (f := 39) rfl ?_); refine goesL_ (some 73) rfl rfl Try.func39 (by kernel_rfl) rfl #[.string (x4_5.extract ((ji31) : Int).toNat ((wrap64 (t421 + 4)) : Int).toNat), .int .i64 2, .int .i64 2] rfl (by (try simp only [List.map_toArray, List.map_cons, List.map_nil]); first | done | (simp only [hji31]; rfl) | rfl | (simp only [List.length_drop, List.length_take]; rfl) | (refine congrArg (fun z_ => #[Value.int IntKind.i64 z_]) (?_ : Go.RowKit.wrap64 (IntKind.u8.wrap _) = _); rw [IntKind.wrap_u8]; unfold Go.RowKit.wrap64; omega)) ?_; (with_reducible refine (horologeref02_Whole.calls kj9 (x4_5.extract ((ji31) : Int).toNat ((wrap64 (t421 + 4)) : Int).toNat) 2 2 t424 t425 _ A35.out).mono ?_); rintro e w56 ⟨rfl, hb⟩; refine ⟨_, rfl, ?_⟩; have n0_ := Aside0.mk (below_step (by repeat (first | (with_reducible first | exact HB.out | apply below_alloc | apply pw_below_drewN | apply below_drew1) | exact HB.out)) hb); clear HB; have HB := n0_; clear n0_; (try clear hb); (try clear hb2); (try clear hk); (try clear hi)) | ((with_reducible refine gate_callee (f := 39) rfl ?_); refine goesL_ (some 81) rfl rfl Try.func39 (by kernel_rfl) rfl #[.string (x4_5.extract ((ji36) : Int).toNat x4_5.size), .int .i64 1, .int .i64 1] rfl (by (try simp only [List.map_toArray, List.map_cons, List.map_nil]); first | done | (simp only [hji36]; rfl) | rfl | (simp only [List.length_drop, List.length_take]; rfl) | (refine congrArg (fun z_ => #[Value.int IntKind.i64 z_]) (?_ : Go.RowKit.wrap64 (IntKind.u8.wrap _) = _); rw [IntKind.wrap_u8]; unfold Go.RowKit.wrap64; omega)) ?_; (with_reducible refine (horologeref02_Whole.calls kj9 (x4_5.extract ((ji36) : Int).toNat x4_5.size) 1 1 t426 t427 _ A39.out).mono ?_); rintro e w57 ⟨rfl, hb⟩; refine ⟨_, rfl, ?_⟩; have n0_ := Aside0.mk (below_step (by repeat (first | (with_reducible first | exact HB.out | apply below_alloc | apply pw_below_drewN | apply below_drew1) | exact HB.out)) hb); clear HB; have HB := n0_; clear n0_; (try clear hb); (try clear hb2); (try clear hk); (try clear hi); have p44 : 0 ≤ (0 : Int) := (by omega); have q44 : 0 < x4_5.size := (by have : (0 : Int) < (x4_5.size : Int) := of_decide_eq_true (by first | (with_reducible assumption) | assumption); omega); have hx44 : ∀ h : 0 < x4_5.size, ((x4_5[0]'h).toNat : Int) = bt x4_5 0 := bt_at x4_5 0; clear p44; have qi44 : (0 < (x4_5.size : Int)) = True := eq_true (of_decide_eq_true (by first | (with_reducible assumption) | assumption)); replace q44 := eq_true q44) | ((with_reducible refine gate_callee (f := 18) rfl ?_); refine goesL_ (some 112) rfl rfl Try.func18 (by kernel_rfl) rfl #[.int .i64 (wrap64 (x5_5 * t422)), .int .i64 t424, .int .i64 t426] rfl (by (try simp only [List.map_toArray, List.map_cons, List.map_nil]); first | done | rfl | (simp only [List.length_drop, List.length_take]; rfl) | (refine congrArg (fun z_ => #[Value.int IntKind.i64 z_]) (?_ : Go.RowKit.wrap64 (IntKind.u8.wrap _) = _); rw [IntKind.wrap_u8]; unfold Go.RowKit.wrap64; omega)) ?_; (with_reducible refine (horologeref06_Day.calls kj9 (wrap64 (x5_5 * t422)) t424 t426 t428 t429 _ A54.out).mono ?_); rintro e w58 ⟨rfl, hb⟩; refine ⟨_, rfl, ?_⟩; have n0_ := Aside0.mk (below_step (by repeat (first | (with_reducible first | exact HB.out | apply below_alloc | apply pw_below_drewN | apply below_drew1) | exact HB.out)) hb); clear HB; have HB := n0_; clear n0_; (try clear hb); (try clear hb2); (try clear hk); (try clear hi)))
                                            go_ret2
                                            exact ⟨by first | rfl | (simp [errW_none, errW_some] <;> rfl) | (simp only [← hji31, ← hji36]; first | rfl | (simp [errW_none, errW_some] <;> rfl)) | (simp [*, errW_none, errW_some] <;> rfl), by repeat (first | (with_reducible first | exact HB.out | apply below_alloc | apply pw_below_drewN | apply below_drew1) | exact HB.out)⟩
                                        · rw [if_neg c49] at H
                                          have c49b0 : decide (x5_5 < 0) = false := decide_eq_false c49
                                          clear c49
                                          replace H := Option.bind_eq_some_iff.mp H
                                          obtain ⟨⟨t430, t431⟩, A590, H⟩ := H
                                          replace H : (some (t430, t431)) = some (r1, r2) := H
                                          have A59 := Aside0.mk A590
                                          clear A590
                                          simp only [Option.some.injEq, Prod.mk.injEq] at H
                                          obtain ⟨rfl, rfl⟩ := H
                                          go_wp2_with (first | ((with_reducible refine gate_callee (f := 39) rfl ?_); refine goesL_ (some 63) rfl rfl Try.func39 (by kernel_rfl) rfl #[.string (x4_5.extract 0 (t421 : Int).toNat), .int .i64 1, .int .i64 5] rfl (by (try simp only [List.map_toArray, List.map_cons, List.map_nil]); first | done | rfl | (simp only [List.length_drop, List.length_take]; rfl) | (refine congrArg (fun z_ => #[Value.int IntKind.i64 z_]) (?_ : Go.RowKit.wrap64 (IntKind.u8.wrap _) = _); rw [IntKind.wrap_u8]; unfold Go.RowKit.wrap64; omega)) ?_; (with_reducible refine (horologeref02_Whole.calls kj9 (x4_5.extract 0 (t421 : Int).toNat) 1 5 t422 t423 _ A30.out).mono ?_); rintro e w60 ⟨rfl, hb⟩; refine ⟨_, rfl, ?_⟩; have n0_ := Aside0.mk (below_step (by repeat (first | (with_reducible first | exact HB.out | apply below_alloc | apply pw_below_drewN | apply below_drew1) | exact HB.out)) hb); clear HB; have HB := n0_; clear n0_; (try clear hb); (try clear hb2); (try clear hk); (try clear hi)) | ((with_reducible refine gate_callee (f := 39) rfl ?_); refine goesL_ (some 73) rfl rfl Try.func39 (by kernel_rfl) rfl #[.string (x4_5.extract ((ji31) : Int).toNat ((wrap64 (t421 + 4)) : Int).toNat), .int .i64 2, .int .i64 2] rfl (by (try simp only [List.map_toArray, List.map_cons, List.map_nil]); first | done | (simp only [hji31]; rfl) | rfl | (simp only [List.length_drop, List.length_take]; rfl) | (refine congrArg (fun z_ => #[Value.int IntKind.i64 z_]) (?_ : Go.RowKit.wrap64 (IntKind.u8.wrap _) = _); rw [IntKind.wrap_u8]; unfold Go.RowKit.wrap64; omega)) ?_; (with_reducible refine (horologeref02_Whole.calls kj9 (x4_5.extract ((ji31) : Int).toNat ((wrap64 (t421 + 4)) : Int).toNat) 2 2 t424 t425 _ A35.out).mono ?_); rintro e w61 ⟨rfl, hb⟩; refine ⟨_, rfl, ?_⟩; have n0_ := Aside0.mk (below_step (by repeat (first | (with_reducible first | exact HB.out | apply below_alloc | apply pw_below_drewN | apply below_drew1) | exact HB.out)) hb); clear HB; have HB := n0_; clear n0_; (try clear hb); (try clear hb2); (try clear hk); (try clear hi)) | ((with_reducible refine gate_callee (f := 39) rfl ?_); refine goesL_ (some 81) rfl rfl Try.func39 (by kernel_rfl) rfl #[.string (x4_5.extract ((ji36) : Int).toNat x4_5.size), .int .i64 1, .int .i64 1] rfl (by (try simp only [List.map_toArray, List.map_cons, List.map_nil]); first | done | (simp only [hji36]; rfl) | rfl | (simp only [List.length_drop, List.length_take]; rfl) | (refine congrArg (fun z_ => #[Value.int IntKind.i64 z_]) (?_ : Go.RowKit.wrap64 (IntKind.u8.wrap _) = _); rw [IntKind.wrap_u8]; unfold Go.RowKit.wrap64; omega)) ?_; (with_reducible refine (horologeref02_Whole.calls kj9 (x4_5.extract ((ji36) : Int).toNat x4_5.size) 1 1 t426 t427 _ A39.out).mono ?_); rintro e w62 ⟨rfl, hb⟩; refine ⟨_, rfl, ?_⟩; have n0_ := Aside0.mk (below_step (by repeat (first | (with_reducible first | exact HB.out | apply below_alloc | apply pw_below_drewN | apply below_drew1) | exact HB.out)) hb); clear HB; have HB := n0_; clear n0_; (try clear hb); (try clear hb2); (try clear hk); (try clear hi); have p44 : 0 ≤ (0 : Int) := (by omega); have q44 : 0 < x4_5.size := (by have : (0 : Int) < (x4_5.size : Int) := of_decide_eq_true (by first | (with_reducible assumption) | assumption); omega); have hx44 : ∀ h : 0 < x4_5.size, ((x4_5[0]'h).toNat : Int) = bt x4_5 0 := bt_at x4_5 0; clear p44; have qi44 : (0 < (x4_5.size : Int)) = True := eq_true (of_decide_eq_true (by first | (with_reducible assumption) | assumption)); replace q44 := eq_true q44) | ((with_reducible refine gate_callee (f := 18) rfl ?_); refine goesL_ (some 112) rfl rfl Try.func18 (by kernel_rfl) rfl #[.int .i64 (wrap64 (x5_5 * t422)), .int .i64 t424, .int .i64 t426] rfl (by (try simp only [List.map_toArray, List.map_cons, List.map_nil]); first | done | rfl | (simp only [List.length_drop, List.length_take]; rfl) | (refine congrArg (fun z_ => #[Value.int IntKind.i64 z_]) (?_ : Go.RowKit.wrap64 (IntKind.u8.wrap _) = _); rw [IntKind.wrap_u8]; unfold Go.RowKit.wrap64; omega)) ?_; (with_reducible refine (horologeref06_Day.calls kj9 (wrap64 (x5_5 * t422)) t424 t426 t430 t431 _ A59.out).mono ?_); rintro e w63 ⟨rfl, hb⟩; refine ⟨_, rfl, ?_⟩; have n0_ := Aside0.mk (below_step (by repeat (first | (with_reducible first | exact HB.out | apply below_alloc | apply pw_below_drewN | apply below_drew1) | exact HB.out)) hb); clear HB; have HB := n0_; clear n0_; (try clear hb); (try clear hb2); (try clear hk); (try clear hi)))
                                          go_ret2
                                          exact ⟨by first | rfl | (simp [errW_none, errW_some] <;> rfl) | (simp only [← hji31, ← hji36]; first | rfl | (simp [errW_none, errW_some] <;> rfl)) | (simp [*, errW_none, errW_some] <;> rfl), by repeat (first | (with_reducible first | exact HB.out | apply below_alloc | apply pw_below_drewN | apply below_drew1) | exact HB.out)⟩
                                    · rw [if_neg c43] at H
                                      exact absurd H (by simp)
                                  · rw [if_neg c42] at H
                                    have c42b0 : (t421 == 5) = false := beq_eq_false_iff_ne.mpr c42
                                    have c42b1 : (t421 != 5) = true := bne_iff_ne.mpr c42
                                    by_cases c64 : x5_5 < 0
                                    · rw [if_pos c64] at H
                                      have c64b0 : decide (x5_5 < 0) = true := decide_eq_true c64
                                      clear c64
                                      by_cases c65 : t422 = 0
                                      · rw [if_pos c65] at H
                                        have c65b0 : (t422 == 0) = true := beq_iff_eq.mpr c65
                                        have c65b1 : (t422 != 0) = false := bne_eq_false_iff_eq.mpr c65
                                        clear c65
                                        simp only [Option.some.injEq, Prod.mk.injEq] at H
                                        obtain ⟨rfl, rfl⟩ := H
                                        go_wp2_with (first | ((with_reducible refine gate_callee (f := 39) rfl ?_); refine goesL_ (some 63) rfl rfl Try.func39 (by kernel_rfl) rfl #[.string (x4_5.extract 0 (t421 : Int).toNat), .int .i64 1, .int .i64 5] rfl (by (try simp only [List.map_toArray, List.map_cons, List.map_nil]); first | done | rfl | (simp only [List.length_drop, List.length_take]; rfl) | (refine congrArg (fun z_ => #[Value.int IntKind.i64 z_]) (?_ : Go.RowKit.wrap64 (IntKind.u8.wrap _) = _); rw [IntKind.wrap_u8]; unfold Go.RowKit.wrap64; omega)) ?_; (with_reducible refine (horologeref02_Whole.calls kj9 (x4_5.extract 0 (t421 : Int).toNat) 1 5 t422 t423 _ A30.out).mono ?_); rintro e w66 ⟨rfl, hb⟩; refine ⟨_, rfl, ?_⟩; have n0_ := Aside0.mk (below_step (by repeat (first | (with_reducible first | exact HB.out | apply below_alloc | apply pw_below_drewN | apply below_drew1) | exact HB.out)) hb); clear HB; have HB := n0_; clear n0_; (try clear hb); (try clear hb2); (try clear hk); (try clear hi)) | ((with_reducible refine gate_callee (f := 39) rfl ?_); refine goesL_ (some 73) rfl rfl Try.func39 (by kernel_rfl) rfl #[.string (x4_5.extract ((ji31) : Int).toNat ((wrap64 (t421 + 4)) : Int).toNat), .int .i64 2, .int .i64 2] rfl (by (try simp only [List.map_toArray, List.map_cons, List.map_nil]); first | done | (simp only [hji31]; rfl) | rfl | (simp only [List.length_drop, List.length_take]; rfl) | (refine congrArg (fun z_ => #[Value.int IntKind.i64 z_]) (?_ : Go.RowKit.wrap64 (IntKind.u8.wrap _) = _); rw [IntKind.wrap_u8]; unfold Go.RowKit.wrap64; omega)) ?_; (with_reducible refine (horologeref02_Whole.calls kj9 (x4_5.extract ((ji31) : Int).toNat ((wrap64 (t421 + 4)) : Int).toNat) 2 2 t424 t425 _ A35.out).mono ?_); rintro e w67 ⟨rfl, hb⟩; refine ⟨_, rfl, ?_⟩; have n0_ := Aside0.mk (below_step (by repeat (first | (with_reducible first | exact HB.out | apply below_alloc | apply pw_below_drewN | apply below_drew1) | exact HB.out)) hb); clear HB; have HB := n0_; clear n0_; (try clear hb); (try clear hb2); (try clear hk); (try clear hi)) | ((with_reducible refine gate_callee (f := 39) rfl ?_); refine goesL_ (some 81) rfl rfl Try.func39 (by kernel_rfl) rfl #[.string (x4_5.extract ((ji36) : Int).toNat x4_5.size), .int .i64 1, .int .i64 1] rfl (by (try simp only [List.map_toArray, List.map_cons, List.map_nil]); first | done | (simp only [hji36]; rfl) | rfl | (simp only [List.length_drop, List.length_take]; rfl) | (refine congrArg (fun z_ => #[Value.int IntKind.i64 z_]) (?_ : Go.RowKit.wrap64 (IntKind.u8.wrap _) = _); rw [IntKind.wrap_u8]; unfold Go.RowKit.wrap64; omega)) ?_; (with_reducible refine (horologeref02_Whole.calls kj9 (x4_5.extract ((ji36) : Int).toNat x4_5.size) 1 1 t426 t427 _ A39.out).mono ?_); rintro e w68 ⟨rfl, hb⟩; refine ⟨_, rfl, ?_⟩; have n0_ := Aside0.mk (below_step (by repeat (first | (with_reducible first | exact HB.out | apply below_alloc | apply pw_below_drewN | apply below_drew1) | exact HB.out)) hb); clear HB; have HB := n0_; clear n0_; (try clear hb); (try clear hb2); (try clear hk); (try clear hi)))
                                        go_ret2
                                        exact ⟨by first | rfl | (simp [errW_none, errW_some] <;> rfl) | (simp only [← hji31, ← hji36]; first | rfl | (simp [errW_none, errW_some] <;> rfl)) | (simp [*, errW_none, errW_some] <;> rfl), by repeat (first | (with_reducible first | exact HB.out | apply below_alloc | apply pw_below_drewN | apply below_drew1) | exact HB.out)⟩
                                      · rw [if_neg c65] at H
                                        have c65b0 : (t422 == 0) = false := beq_eq_false_iff_ne.mpr c65
                                        have c65b1 : (t422 != 0) = true := bne_iff_ne.mpr c65
                                        replace H := Option.bind_eq_some_iff.mp H
                                        obtain ⟨⟨t432, t433⟩, A690, H⟩ := H
                                        replace H : (some (t432, t433)) = some (r1, r2) := H
                                        have A69 := Aside0.mk A690
                                        clear A690
                                        simp only [Option.some.injEq, Prod.mk.injEq] at H
                                        obtain ⟨rfl, rfl⟩ := H
                                        go_wp2_with (first | ((with_reducible refine gate_callee (f := 39) rfl ?_); refine goesL_ (some 63) rfl rfl Try.func39 (by kernel_rfl) rfl #[.string (x4_5.extract 0 (t421 : Int).toNat), .int .i64 1, .int .i64 5] rfl (by (try simp only [List.map_toArray, List.map_cons, List.map_nil]); first | done | rfl | (simp only [List.length_drop, List.length_take]; rfl) | (refine congrArg (fun z_ => #[Value.int IntKind.i64 z_]) (?_ : Go.RowKit.wrap64 (IntKind.u8.wrap _) = _); rw [IntKind.wrap_u8]; unfold Go.RowKit.wrap64; omega)) ?_; (with_reducible refine (horologeref02_Whole.calls kj9 (x4_5.extract 0 (t421 : Int).toNat) 1 5 t422 t423 _ A30.out).mono ?_); rintro e w70 ⟨rfl, hb⟩; refine ⟨_, rfl, ?_⟩; have n0_ := Aside0.mk (below_step (by repeat (first | (with_reducible first | exact HB.out | apply below_alloc | apply pw_below_drewN | apply below_drew1) | exact HB.out)) hb); clear HB; have HB := n0_; clear n0_; (try clear hb); (try clear hb2); (try clear hk); (try clear hi)) | ((with_reducible refine gate_callee (f := 39) rfl ?_); refine goesL_ (some 73) rfl rfl Try.func39 (by kernel_rfl) rfl #[.string (x4_5.extract ((ji31) : Int).toNat ((wrap64 (t421 + 4)) : Int).toNat), .int .i64 2, .int .i64 2] rfl (by (try simp only [List.map_toArray, List.map_cons, List.map_nil]); first | done | (simp only [hji31]; rfl) | rfl | (simp only [List.length_drop, List.length_take]; rfl) | (refine congrArg (fun z_ => #[Value.int IntKind.i64 z_]) (?_ : Go.RowKit.wrap64 (IntKind.u8.wrap _) = _); rw [IntKind.wrap_u8]; unfold Go.RowKit.wrap64; omega)) ?_; (with_reducible refine (horologeref02_Whole.calls kj9 (x4_5.extract ((ji31) : Int).toNat ((wrap64 (t421 + 4)) : Int).toNat) 2 2 t424 t425 _ A35.out).mono ?_); rintro e w71 ⟨rfl, hb⟩; refine ⟨_, rfl, ?_⟩; have n0_ := Aside0.mk (below_step (by repeat (first | (with_reducible first | exact HB.out | apply below_alloc | apply pw_below_drewN | apply below_drew1) | exact HB.out)) hb); clear HB; have HB := n0_; clear n0_; (try clear hb); (try clear hb2); (try clear hk); (try clear hi)) | ((with_reducible refine gate_callee (f := 39) rfl ?_); refine goesL_ (some 81) rfl rfl Try.func39 (by kernel_rfl) rfl #[.string (x4_5.extract ((ji36) : Int).toNat x4_5.size), .int .i64 1, .int .i64 1] rfl (by (try simp only [List.map_toArray, List.map_cons, List.map_nil]); first | done | (simp only [hji36]; rfl) | rfl | (simp only [List.length_drop, List.length_take]; rfl) | (refine congrArg (fun z_ => #[Value.int IntKind.i64 z_]) (?_ : Go.RowKit.wrap64 (IntKind.u8.wrap _) = _); rw [IntKind.wrap_u8]; unfold Go.RowKit.wrap64; omega)) ?_; (with_reducible refine (horologeref02_Whole.calls kj9 (x4_5.extract ((ji36) : Int).toNat x4_5.size) 1 1 t426 t427 _ A39.out).mono ?_); rintro e w72 ⟨rfl, hb⟩; refine ⟨_, rfl, ?_⟩; have n0_ := Aside0.mk (below_step (by repeat (first | (with_reducible first | exact HB.out | apply below_alloc | apply pw_below_drewN | apply below_drew1) | exact HB.out)) hb); clear HB; have HB := n0_; clear n0_; (try clear hb); (try clear hb2); (try clear hk); (try clear hi)) | ((with_reducible refine gate_callee (f := 18) rfl ?_); refine goesL_ (some 112) rfl rfl Try.func18 (by kernel_rfl) rfl #[.int .i64 (wrap64 (x5_5 * t422)), .int .i64 t424, .int .i64 t426] rfl (by (try simp only [List.map_toArray, List.map_cons, List.map_nil]); first | done | rfl | (simp only [List.length_drop, List.length_take]; rfl) | (refine congrArg (fun z_ => #[Value.int IntKind.i64 z_]) (?_ : Go.RowKit.wrap64 (IntKind.u8.wrap _) = _); rw [IntKind.wrap_u8]; unfold Go.RowKit.wrap64; omega)) ?_; (with_reducible refine (horologeref06_Day.calls kj9 (wrap64 (x5_5 * t422)) t424 t426 t432 t433 _ A69.out).mono ?_); rintro e w73 ⟨rfl, hb⟩; refine ⟨_, rfl, ?_⟩; have n0_ := Aside0.mk (below_step (by repeat (first | (with_reducible first | exact HB.out | apply below_alloc | apply pw_below_drewN | apply below_drew1) | exact HB.out)) hb); clear HB; have HB := n0_; clear n0_; (try clear hb); (try clear hb2); (try clear hk); (try clear hi)))
                                        go_ret2
                                        exact ⟨by first | rfl | (simp [errW_none, errW_some] <;> rfl) | (simp only [← hji31, ← hji36]; first | rfl | (simp [errW_none, errW_some] <;> rfl)) | (simp [*, errW_none, errW_some] <;> rfl), by repeat (first | (with_reducible first | exact HB.out | apply below_alloc | apply pw_below_drewN | apply below_drew1) | exact HB.out)⟩
                                    · rw [if_neg c64] at H
                                      have c64b0 : decide (x5_5 < 0) = false := decide_eq_false c64
                                      clear c64
                                      replace H := Option.bind_eq_some_iff.mp H
                                      obtain ⟨⟨t434, t435⟩, A740, H⟩ := H
                                      replace H : (some (t434, t435)) = some (r1, r2) := H
                                      have A74 := Aside0.mk A740
                                      clear A740
                                      simp only [Option.some.injEq, Prod.mk.injEq] at H
                                      obtain ⟨rfl, rfl⟩ := H
                                      go_wp2_with (first | ((with_reducible refine gate_callee (f := 39) rfl ?_); refine goesL_ (some 63) rfl rfl Try.func39 (by kernel_rfl) rfl #[.string (x4_5.extract 0 (t421 : Int).toNat), .int .i64 1, .int .i64 5] rfl (by (try simp only [List.map_toArray, List.map_cons, List.map_nil]); first | done | rfl | (simp only [List.length_drop, List.length_take]; rfl) | (refine congrArg (fun z_ => #[Value.int IntKind.i64 z_]) (?_ : Go.RowKit.wrap64 (IntKind.u8.wrap _) = _); rw [IntKind.wrap_u8]; unfold Go.RowKit.wrap64; omega)) ?_; (with_reducible refine (horologeref02_Whole.calls kj9 (x4_5.extract 0 (t421 : Int).toNat) 1 5 t422 t423 _ A30.out).mono ?_); rintro e w75 ⟨rfl, hb⟩; refine ⟨_, rfl, ?_⟩; have n0_ := Aside0.mk (below_step (by repeat (first | (with_reducible first | exact HB.out | apply below_alloc | apply pw_below_drewN | apply below_drew1) | exact HB.out)) hb); clear HB; have HB := n0_; clear n0_; (try clear hb); (try clear hb2); (try clear hk); (try clear hi)) | ((with_reducible refine gate_callee (f := 39) rfl ?_); refine goesL_ (some 73) rfl rfl Try.func39 (by kernel_rfl) rfl #[.string (x4_5.extract ((ji31) : Int).toNat ((wrap64 (t421 + 4)) : Int).toNat), .int .i64 2, .int .i64 2] rfl (by (try simp only [List.map_toArray, List.map_cons, List.map_nil]); first | done | (simp only [hji31]; rfl) | rfl | (simp only [List.length_drop, List.length_take]; rfl) | (refine congrArg (fun z_ => #[Value.int IntKind.i64 z_]) (?_ : Go.RowKit.wrap64 (IntKind.u8.wrap _) = _); rw [IntKind.wrap_u8]; unfold Go.RowKit.wrap64; omega)) ?_; (with_reducible refine (horologeref02_Whole.calls kj9 (x4_5.extract ((ji31) : Int).toNat ((wrap64 (t421 + 4)) : Int).toNat) 2 2 t424 t425 _ A35.out).mono ?_); rintro e w76 ⟨rfl, hb⟩; refine ⟨_, rfl, ?_⟩; have n0_ := Aside0.mk (below_step (by repeat (first | (with_reducible first | exact HB.out | apply below_alloc | apply pw_below_drewN | apply below_drew1) | exact HB.out)) hb); clear HB; have HB := n0_; clear n0_; (try clear hb); (try clear hb2); (try clear hk); (try clear hi)) | ((with_reducible refine gate_callee (f := 39) rfl ?_); refine goesL_ (some 81) rfl rfl Try.func39 (by kernel_rfl) rfl #[.string (x4_5.extract ((ji36) : Int).toNat x4_5.size), .int .i64 1, .int .i64 1] rfl (by (try simp only [List.map_toArray, List.map_cons, List.map_nil]); first | done | (simp only [hji36]; rfl) | rfl | (simp only [List.length_drop, List.length_take]; rfl) | (refine congrArg (fun z_ => #[Value.int IntKind.i64 z_]) (?_ : Go.RowKit.wrap64 (IntKind.u8.wrap _) = _); rw [IntKind.wrap_u8]; unfold Go.RowKit.wrap64; omega)) ?_; (with_reducible refine (horologeref02_Whole.calls kj9 (x4_5.extract ((ji36) : Int).toNat x4_5.size) 1 1 t426 t427 _ A39.out).mono ?_); rintro e w77 ⟨rfl, hb⟩; refine ⟨_, rfl, ?_⟩; have n0_ := Aside0.mk (below_step (by repeat (first | (with_reducible first | exact HB.out | apply below_alloc | apply pw_below_drewN | apply below_drew1) | exact HB.out)) hb); clear HB; have HB := n0_; clear n0_; (try clear hb); (try clear hb2); (try clear hk); (try clear hi)) | ((with_reducible refine gate_callee (f := 18) rfl ?_); refine goesL_ (some 112) rfl rfl Try.func18 (by kernel_rfl) rfl #[.int .i64 (wrap64 (x5_5 * t422)), .int .i64 t424, .int .i64 t426] rfl (by (try simp only [List.map_toArray, List.map_cons, List.map_nil]); first | done | rfl | (simp only [List.length_drop, List.length_take]; rfl) | (refine congrArg (fun z_ => #[Value.int IntKind.i64 z_]) (?_ : Go.RowKit.wrap64 (IntKind.u8.wrap _) = _); rw [IntKind.wrap_u8]; unfold Go.RowKit.wrap64; omega)) ?_; (with_reducible refine (horologeref06_Day.calls kj9 (wrap64 (x5_5 * t422)) t424 t426 t434 t435 _ A74.out).mono ?_); rintro e w78 ⟨rfl, hb⟩; refine ⟨_, rfl, ?_⟩; have n0_ := Aside0.mk (below_step (by repeat (first | (with_reducible first | exact HB.out | apply below_alloc | apply pw_below_drewN | apply below_drew1) | exact HB.out)) hb); clear HB; have HB := n0_; clear n0_; (try clear hb); (try clear hb2); (try clear hk); (try clear hi)))
                                      go_ret2
                                      exact ⟨by first | rfl | (simp [errW_none, errW_some] <;> rfl) | (simp only [← hji31, ← hji36]; first | rfl | (simp [errW_none, errW_some] <;> rfl)) | (simp [*, errW_none, errW_some] <;> rfl), by repeat (first | (with_reducible first | exact HB.out | apply below_alloc | apply pw_below_drewN | apply below_drew1) | exact HB.out)⟩
                                · rw [if_neg c41] at H
                                  have c41b0 : (t427 == 0) = false := beq_eq_false_iff_ne.mpr c41
                                  have c41b1 : (t427 != 0) = true := bne_iff_ne.mpr c41
                                  simp only [Option.some.injEq, Prod.mk.injEq] at H
                                  obtain ⟨rfl, rfl⟩ := H
                                  go_wp2_with (first | ((with_reducible refine gate_callee (f := 39) rfl ?_); refine goesL_ (some 63) rfl rfl Try.func39 (by kernel_rfl) rfl #[.string (x4_5.extract 0 (t421 : Int).toNat), .int .i64 1, .int .i64 5] rfl (by (try simp only [List.map_toArray, List.map_cons, List.map_nil]); first | done | rfl | (simp only [List.length_drop, List.length_take]; rfl) | (refine congrArg (fun z_ => #[Value.int IntKind.i64 z_]) (?_ : Go.RowKit.wrap64 (IntKind.u8.wrap _) = _); rw [IntKind.wrap_u8]; unfold Go.RowKit.wrap64; omega)) ?_; (with_reducible refine (horologeref02_Whole.calls kj9 (x4_5.extract 0 (t421 : Int).toNat) 1 5 t422 t423 _ A30.out).mono ?_); rintro e w79 ⟨rfl, hb⟩; refine ⟨_, rfl, ?_⟩; have n0_ := Aside0.mk (below_step (by repeat (first | (with_reducible first | exact HB.out | apply below_alloc | apply pw_below_drewN | apply below_drew1) | exact HB.out)) hb); clear HB; have HB := n0_; clear n0_; (try clear hb); (try clear hb2); (try clear hk); (try clear hi)) | ((with_reducible refine gate_callee (f := 39) rfl ?_); refine goesL_ (some 73) rfl rfl Try.func39 (by kernel_rfl) rfl #[.string (x4_5.extract ((ji31) : Int).toNat ((wrap64 (t421 + 4)) : Int).toNat), .int .i64 2, .int .i64 2] rfl (by (try simp only [List.map_toArray, List.map_cons, List.map_nil]); first | done | (simp only [hji31]; rfl) | rfl | (simp only [List.length_drop, List.length_take]; rfl) | (refine congrArg (fun z_ => #[Value.int IntKind.i64 z_]) (?_ : Go.RowKit.wrap64 (IntKind.u8.wrap _) = _); rw [IntKind.wrap_u8]; unfold Go.RowKit.wrap64; omega)) ?_; (with_reducible refine (horologeref02_Whole.calls kj9 (x4_5.extract ((ji31) : Int).toNat ((wrap64 (t421 + 4)) : Int).toNat) 2 2 t424 t425 _ A35.out).mono ?_); rintro e w80 ⟨rfl, hb⟩; refine ⟨_, rfl, ?_⟩; have n0_ := Aside0.mk (below_step (by repeat (first | (with_reducible first | exact HB.out | apply below_alloc | apply pw_below_drewN | apply below_drew1) | exact HB.out)) hb); clear HB; have HB := n0_; clear n0_; (try clear hb); (try clear hb2); (try clear hk); (try clear hi)) | ((with_reducible refine gate_callee (f := 39) rfl ?_); refine goesL_ (some 81) rfl rfl Try.func39 (by kernel_rfl) rfl #[.string (x4_5.extract ((ji36) : Int).toNat x4_5.size), .int .i64 1, .int .i64 1] rfl (by (try simp only [List.map_toArray, List.map_cons, List.map_nil]); first | done | (simp only [hji36]; rfl) | rfl | (simp only [List.length_drop, List.length_take]; rfl) | (refine congrArg (fun z_ => #[Value.int IntKind.i64 z_]) (?_ : Go.RowKit.wrap64 (IntKind.u8.wrap _) = _); rw [IntKind.wrap_u8]; unfold Go.RowKit.wrap64; omega)) ?_; (with_reducible refine (horologeref02_Whole.calls kj9 (x4_5.extract ((ji36) : Int).toNat x4_5.size) 1 1 t426 t427 _ A39.out).mono ?_); rintro e w81 ⟨rfl, hb⟩; refine ⟨_, rfl, ?_⟩; have n0_ := Aside0.mk (below_step (by repeat (first | (with_reducible first | exact HB.out | apply below_alloc | apply pw_below_drewN | apply below_drew1) | exact HB.out)) hb); clear HB; have HB := n0_; clear n0_; (try clear hb); (try clear hb2); (try clear hk); (try clear hi)))
                                  go_ret2
                                  exact ⟨by first | rfl | (simp [errW_none, errW_some] <;> rfl) | (simp only [← hji31, ← hji36]; first | rfl | (simp [errW_none, errW_some] <;> rfl)) | (simp [*, errW_none, errW_some] <;> rfl), by repeat (first | (with_reducible first | exact HB.out | apply below_alloc | apply pw_below_drewN | apply below_drew1) | exact HB.out)⟩
                              · rw [if_neg c40] at H
                                have c40b0 : (t425 == 0) = false := beq_eq_false_iff_ne.mpr c40
                                have c40b1 : (t425 != 0) = true := bne_iff_ne.mpr c40
                                simp only [Option.some.injEq, Prod.mk.injEq] at H
                                obtain ⟨rfl, rfl⟩ := H
                                go_wp2_with (first | ((with_reducible refine gate_callee (f := 39) rfl ?_); refine goesL_ (some 63) rfl rfl Try.func39 (by kernel_rfl) rfl #[.string (x4_5.extract 0 (t421 : Int).toNat), .int .i64 1, .int .i64 5] rfl (by (try simp only [List.map_toArray, List.map_cons, List.map_nil]); first | done | rfl | (simp only [List.length_drop, List.length_take]; rfl) | (refine congrArg (fun z_ => #[Value.int IntKind.i64 z_]) (?_ : Go.RowKit.wrap64 (IntKind.u8.wrap _) = _); rw [IntKind.wrap_u8]; unfold Go.RowKit.wrap64; omega)) ?_; (with_reducible refine (horologeref02_Whole.calls kj9 (x4_5.extract 0 (t421 : Int).toNat) 1 5 t422 t423 _ A30.out).mono ?_); rintro e w82 ⟨rfl, hb⟩; refine ⟨_, rfl, ?_⟩; have n0_ := Aside0.mk (below_step (by repeat (first | (with_reducible first | exact HB.out | apply below_alloc | apply pw_below_drewN | apply below_drew1) | exact HB.out)) hb); clear HB; have HB := n0_; clear n0_; (try clear hb); (try clear hb2); (try clear hk); (try clear hi)) | ((with_reducible refine gate_callee (f := 39) rfl ?_); refine goesL_ (some 73) rfl rfl Try.func39 (by kernel_rfl) rfl #[.string (x4_5.extract ((ji31) : Int).toNat ((wrap64 (t421 + 4)) : Int).toNat), .int .i64 2, .int .i64 2] rfl (by (try simp only [List.map_toArray, List.map_cons, List.map_nil]); first | done | (simp only [hji31]; rfl) | rfl | (simp only [List.length_drop, List.length_take]; rfl) | (refine congrArg (fun z_ => #[Value.int IntKind.i64 z_]) (?_ : Go.RowKit.wrap64 (IntKind.u8.wrap _) = _); rw [IntKind.wrap_u8]; unfold Go.RowKit.wrap64; omega)) ?_; (with_reducible refine (horologeref02_Whole.calls kj9 (x4_5.extract ((ji31) : Int).toNat ((wrap64 (t421 + 4)) : Int).toNat) 2 2 t424 t425 _ A35.out).mono ?_); rintro e w83 ⟨rfl, hb⟩; refine ⟨_, rfl, ?_⟩; have n0_ := Aside0.mk (below_step (by repeat (first | (with_reducible first | exact HB.out | apply below_alloc | apply pw_below_drewN | apply below_drew1) | exact HB.out)) hb); clear HB; have HB := n0_; clear n0_; (try clear hb); (try clear hb2); (try clear hk); (try clear hi)) | ((with_reducible refine gate_callee (f := 39) rfl ?_); refine goesL_ (some 81) rfl rfl Try.func39 (by kernel_rfl) rfl #[.string (x4_5.extract ((ji36) : Int).toNat x4_5.size), .int .i64 1, .int .i64 1] rfl (by (try simp only [List.map_toArray, List.map_cons, List.map_nil]); first | done | (simp only [hji36]; rfl) | rfl | (simp only [List.length_drop, List.length_take]; rfl) | (refine congrArg (fun z_ => #[Value.int IntKind.i64 z_]) (?_ : Go.RowKit.wrap64 (IntKind.u8.wrap _) = _); rw [IntKind.wrap_u8]; unfold Go.RowKit.wrap64; omega)) ?_; (with_reducible refine (horologeref02_Whole.calls kj9 (x4_5.extract ((ji36) : Int).toNat x4_5.size) 1 1 t426 t427 _ A39.out).mono ?_); rintro e w84 ⟨rfl, hb⟩; refine ⟨_, rfl, ?_⟩; have n0_ := Aside0.mk (below_step (by repeat (first | (with_reducible first | exact HB.out | apply below_alloc | apply pw_below_drewN | apply below_drew1) | exact HB.out)) hb); clear HB; have HB := n0_; clear n0_; (try clear hb); (try clear hb2); (try clear hk); (try clear hi)))
                                go_ret2
                                exact ⟨by first | rfl | (simp [errW_none, errW_some] <;> rfl) | (simp only [← hji31, ← hji36]; first | rfl | (simp [errW_none, errW_some] <;> rfl)) | (simp [*, errW_none, errW_some] <;> rfl), by repeat (first | (with_reducible first | exact HB.out | apply below_alloc | apply pw_below_drewN | apply below_drew1) | exact HB.out)⟩
                            · rw [if_neg c38] at H
                              exact absurd H (by simp)
                          · rw [if_neg c37] at H
                            exact absurd H (by simp)
                        · rw [if_neg c34] at H
                          exact absurd H (by simp)
                      · rw [if_neg c33] at H
                        exact absurd H (by simp)
                    · rw [if_neg c32] at H
                      exact absurd H (by simp)
                  · rw [if_neg c29] at H
                    exact absurd H (by simp)
                · rw [if_neg c28] at H
                  exact absurd H (by simp)

/-! ### horologelaw06_WeekTexts: function 5 -/
def horologelaw06_WeekTexts.f (k : Nat) (a0 : ByteArray) : Option (Bool) := (horologelaw06_alive.f k).bind fun t436 => (if t436 = true then (if (a0.size : Int) > 100 then (some true) else ((week_Parse.f k a0).bind fun bt437 => ((horologeref06_Parse.f k a0).bind fun bt439 => (if bt437.1 = bt439.1 then ((horologenum_Num.f bt437.2).bind fun t441 => (some (t441 == bt439.2))) else (some false))))) else (some false))
theorem horologelaw06_WeekTexts.mono : ∀ a0 k, LeO (horologelaw06_WeekTexts.f k a0) (horologelaw06_WeekTexts.f (k + 1) a0) := by
  intro a0 k
  unfold horologelaw06_WeekTexts.f
  repeat' first
      | (with_reducible exact horologelaw06_alive.mono _)
      | (with_reducible exact horologeref06_Parse.mono _ _)
      | (with_reducible exact week_Parse.mono _ _)
      | (with_reducible exact LeO.refl _)
      | (with_reducible exact LeO.none _)
      | (with_reducible refine LeO.ite ?_ ?_)
      | (with_reducible refine LeO.bind ?_ (fun _ => ?_))
      | exact horologelaw06_alive.mono _
      | exact horologeref06_Parse.mono _ _
      | exact week_Parse.mono _ _
      | exact LeO.none _
      | refine LeO.ite ?_ ?_
      | refine LeO.bind ?_ (fun _ => ?_)
set_option maxHeartbeats 8000000 in
set_option maxRecDepth 100000 in
theorem horologelaw06_WeekTexts.calls (k : Nat) (a0 : ByteArray) (r : Bool) (w : World) (h : horologelaw06_WeekTexts.f k a0 = some r) :
    Calls Try.prog 5 #[.string a0] w fun e w' => e = .returned (.bool r) ∧ Below w.heap.size w w' := by
  have HB := Aside0.mk (Below.refl w.heap.size w)
  have H : ((horologelaw06_alive.f k).bind fun t436 => (if t436 = true then (if (a0.size : Int) > 100 then (some true) else ((week_Parse.f k a0).bind fun bt437 => ((horologeref06_Parse.f k a0).bind fun bt439 => (if bt437.1 = bt439.1 then ((horologenum_Num.f bt437.2).bind fun t441 => (some (t441 == bt439.2))) else (some false))))) else (some false))) = some r := h
  clear h
  replace H := Option.bind_eq_some_iff.mp H
  obtain ⟨t436, A20, H⟩ := H
  replace H : (if t436 = true then (if (a0.size : Int) > 100 then (some true) else ((week_Parse.f k a0).bind fun bt437 => ((horologeref06_Parse.f k a0).bind fun bt439 => (if bt437.1 = bt439.1 then ((horologenum_Num.f bt437.2).bind fun t441 => (some (t441 == bt439.2))) else (some false))))) else (some false)) = some r := H
  have A2 := Aside0.mk A20
  clear A20
  by_cases c3 : t436 = true
  · subst c3
    have H1 : (if (a0.size : Int) > 100 then (some true) else ((week_Parse.f k a0).bind fun bt437 => ((horologeref06_Parse.f k a0).bind fun bt439 => (if bt437.1 = bt439.1 then ((horologenum_Num.f bt437.2).bind fun t441 => (some (t441 == bt439.2))) else (some false))))) = some r := by rw [if_pos rfl] at H; exact H
    clear H
    have H := H1
    clear H1
    by_cases c4 : (a0.size : Int) > 100
    · rw [if_pos c4] at H
      have c4b0 : decide (100 < (a0.size : Int)) = true := decide_eq_true c4
      have c4b1 : decide (100 < a0.size) = true := decide_eq_true (by omega)
      clear c4
      obtain rfl := Option.some.inj H
      go_enter Try.func5, Try.ntmps5
      go_wp2_with (first | ((with_reducible refine gate_callee (f := 7) rfl ?_); refine goesL_ (some 7) rfl rfl Try.func7 (by kernel_rfl) rfl #[] rfl (by (try simp only [List.map_toArray, List.map_cons, List.map_nil]); first | done | rfl | (simp only [List.length_drop, List.length_take]; rfl) | (refine congrArg (fun z_ => #[Value.int IntKind.i64 z_]) (?_ : Go.RowKit.wrap64 (IntKind.u8.wrap _) = _); rw [IntKind.wrap_u8]; unfold Go.RowKit.wrap64; omega)) ?_; (with_reducible refine (horologelaw06_alive.calls k  true _ A2.out).mono ?_); rintro e w5 ⟨rfl, hb⟩; refine ⟨_, rfl, ?_⟩; have n0_ := Aside0.mk (below_step (by repeat (first | (with_reducible first | exact HB.out | apply below_alloc | apply pw_below_drewN | apply below_drew1) | exact HB.out)) hb); clear HB; have HB := n0_; clear n0_; (try clear hb); (try clear hb2); (try clear hk); (try clear hi)))
      go_ret
      exact ⟨by first | rfl | (simp [errW_none, errW_some] <;> rfl) | (simp [*, errW_none, errW_some] <;> rfl), by repeat (first | (with_reducible first | exact HB.out | apply below_alloc | apply pw_below_drewN | apply below_drew1) | exact HB.out)⟩
    · rw [if_neg c4] at H
      have c4b0 : decide (100 < (a0.size : Int)) = false := decide_eq_false c4
      have c4b1 : decide (100 < a0.size) = false := decide_eq_false (by omega)
      clear c4
      replace H := Option.bind_eq_some_iff.mp H
      obtain ⟨⟨t437, t438⟩, A60, H⟩ := H
      replace H : ((horologeref06_Parse.f k a0).bind fun bt439 => (if t437 = bt439.1 then ((horologenum_Num.f t438).bind fun t441 => (some (t441 == bt439.2))) else (some false))) = some r := H
      have A6 := Aside0.mk A60
      clear A60
      replace H := Option.bind_eq_some_iff.mp H
      obtain ⟨⟨t439, t440⟩, A70, H⟩ := H
      replace H : (if t437 = t439 then ((horologenum_Num.f t438).bind fun t441 => (some (t441 == t440))) else (some false)) = some r := H
      have A7 := Aside0.mk A70
      clear A70
      by_cases c8 : t437 = t439
      · rw [if_pos c8] at H
        have c8b0 : (t437 == t439) = true := beq_iff_eq.mpr c8
        have c8b1 : (t437 != t439) = false := bne_eq_false_iff_eq.mpr c8
        clear c8
        replace H := Option.bind_eq_some_iff.mp H
        obtain ⟨t441, A90, H⟩ := H
        replace H : (some (t441 == t440)) = some r := H
        have A9 := Aside0.mk A90
        clear A90
        obtain rfl := Option.some.inj H
        go_enter Try.func5, Try.ntmps5
        go_wp2_with (first | ((with_reducible refine gate_callee (f := 7) rfl ?_); refine goesL_ (some 7) rfl rfl Try.func7 (by kernel_rfl) rfl #[] rfl (by (try simp only [List.map_toArray, List.map_cons, List.map_nil]); first | done | rfl | (simp only [List.length_drop, List.length_take]; rfl) | (refine congrArg (fun z_ => #[Value.int IntKind.i64 z_]) (?_ : Go.RowKit.wrap64 (IntKind.u8.wrap _) = _); rw [IntKind.wrap_u8]; unfold Go.RowKit.wrap64; omega)) ?_; (with_reducible refine (horologelaw06_alive.calls k  true _ A2.out).mono ?_); rintro e w10 ⟨rfl, hb⟩; refine ⟨_, rfl, ?_⟩; have n0_ := Aside0.mk (below_step (by repeat (first | (with_reducible first | exact HB.out | apply below_alloc | apply pw_below_drewN | apply below_drew1) | exact HB.out)) hb); clear HB; have HB := n0_; clear n0_; (try clear hb); (try clear hb2); (try clear hk); (try clear hi)) | ((with_reducible refine gate_callee (f := 22) rfl ?_); refine goesL_ (some 14) rfl rfl Try.func22 (by kernel_rfl) rfl #[.string a0] rfl (by (try simp only [List.map_toArray, List.map_cons, List.map_nil]); first | done | rfl | (simp only [List.length_drop, List.length_take]; rfl) | (refine congrArg (fun z_ => #[Value.int IntKind.i64 z_]) (?_ : Go.RowKit.wrap64 (IntKind.u8.wrap _) = _); rw [IntKind.wrap_u8]; unfold Go.RowKit.wrap64; omega)) ?_; (with_reducible refine (week_Parse.calls k a0 t437 t438 _ A6.out).mono ?_); rintro e w11 ⟨rfl, hb⟩; refine ⟨_, rfl, ?_⟩; have n0_ := Aside0.mk (below_step (by repeat (first | (with_reducible first | exact HB.out | apply below_alloc | apply pw_below_drewN | apply below_drew1) | exact HB.out)) hb); clear HB; have HB := n0_; clear n0_; (try clear hb); (try clear hb2); (try clear hk); (try clear hi); (try simp only [errW_none, errW_some])) | ((with_reducible refine gate_callee (f := 23) rfl ?_); refine goesL_ (some 19) rfl rfl Try.func23 (by kernel_rfl) rfl #[.string a0] rfl (by (try simp only [List.map_toArray, List.map_cons, List.map_nil]); first | done | rfl | (simp only [List.length_drop, List.length_take]; rfl) | (refine congrArg (fun z_ => #[Value.int IntKind.i64 z_]) (?_ : Go.RowKit.wrap64 (IntKind.u8.wrap _) = _); rw [IntKind.wrap_u8]; unfold Go.RowKit.wrap64; omega)) ?_; (with_reducible refine (horologeref06_Parse.calls k a0 t439 t440 _ A7.out).mono ?_); rintro e w12 ⟨rfl, hb⟩; refine ⟨_, rfl, ?_⟩; have n0_ := Aside0.mk (below_step (by repeat (first | (with_reducible first | exact HB.out | apply below_alloc | apply pw_below_drewN | apply below_drew1) | exact HB.out)) hb); clear HB; have HB := n0_; clear n0_; (try clear hb); (try clear hb2); (try clear hk); (try clear hi); have CA9 := fun W => horologenum_Num.calls t438 t441 W A9.out; try simp only [errW_none, errW_some] at CA9) | (go_at_call 19; (with_reducible refine (CA9 _).mono ?_); rintro e w' ⟨rfl, ⟨nd, rfl⟩⟩))
        go_ret
        exact ⟨by first | rfl | (simp [errW_none, errW_some] <;> rfl) | (simp [*, errW_none, errW_some] <;> rfl), by repeat (first | (with_reducible first | exact HB.out | apply below_alloc | apply pw_below_drewN | apply below_drew1) | exact HB.out)⟩
      · rw [if_neg c8] at H
        have c8b0 : (t437 == t439) = false := beq_eq_false_iff_ne.mpr c8
        have c8b1 : (t437 != t439) = true := bne_iff_ne.mpr c8
        obtain rfl := Option.some.inj H
        go_enter Try.func5, Try.ntmps5
        go_wp2_with (first | ((with_reducible refine gate_callee (f := 7) rfl ?_); refine goesL_ (some 7) rfl rfl Try.func7 (by kernel_rfl) rfl #[] rfl (by (try simp only [List.map_toArray, List.map_cons, List.map_nil]); first | done | rfl | (simp only [List.length_drop, List.length_take]; rfl) | (refine congrArg (fun z_ => #[Value.int IntKind.i64 z_]) (?_ : Go.RowKit.wrap64 (IntKind.u8.wrap _) = _); rw [IntKind.wrap_u8]; unfold Go.RowKit.wrap64; omega)) ?_; (with_reducible refine (horologelaw06_alive.calls k  true _ A2.out).mono ?_); rintro e w13 ⟨rfl, hb⟩; refine ⟨_, rfl, ?_⟩; have n0_ := Aside0.mk (below_step (by repeat (first | (with_reducible first | exact HB.out | apply below_alloc | apply pw_below_drewN | apply below_drew1) | exact HB.out)) hb); clear HB; have HB := n0_; clear n0_; (try clear hb); (try clear hb2); (try clear hk); (try clear hi)) | ((with_reducible refine gate_callee (f := 22) rfl ?_); refine goesL_ (some 14) rfl rfl Try.func22 (by kernel_rfl) rfl #[.string a0] rfl (by (try simp only [List.map_toArray, List.map_cons, List.map_nil]); first | done | rfl | (simp only [List.length_drop, List.length_take]; rfl) | (refine congrArg (fun z_ => #[Value.int IntKind.i64 z_]) (?_ : Go.RowKit.wrap64 (IntKind.u8.wrap _) = _); rw [IntKind.wrap_u8]; unfold Go.RowKit.wrap64; omega)) ?_; (with_reducible refine (week_Parse.calls k a0 t437 t438 _ A6.out).mono ?_); rintro e w14 ⟨rfl, hb⟩; refine ⟨_, rfl, ?_⟩; have n0_ := Aside0.mk (below_step (by repeat (first | (with_reducible first | exact HB.out | apply below_alloc | apply pw_below_drewN | apply below_drew1) | exact HB.out)) hb); clear HB; have HB := n0_; clear n0_; (try clear hb); (try clear hb2); (try clear hk); (try clear hi); (try simp only [errW_none, errW_some])) | ((with_reducible refine gate_callee (f := 23) rfl ?_); refine goesL_ (some 19) rfl rfl Try.func23 (by kernel_rfl) rfl #[.string a0] rfl (by (try simp only [List.map_toArray, List.map_cons, List.map_nil]); first | done | rfl | (simp only [List.length_drop, List.length_take]; rfl) | (refine congrArg (fun z_ => #[Value.int IntKind.i64 z_]) (?_ : Go.RowKit.wrap64 (IntKind.u8.wrap _) = _); rw [IntKind.wrap_u8]; unfold Go.RowKit.wrap64; omega)) ?_; (with_reducible refine (horologeref06_Parse.calls k a0 t439 t440 _ A7.out).mono ?_); rintro e w15 ⟨rfl, hb⟩; refine ⟨_, rfl, ?_⟩; have n0_ := Aside0.mk (below_step (by repeat (first | (with_reducible first | exact HB.out | apply below_alloc | apply pw_below_drewN | apply below_drew1) | exact HB.out)) hb); clear HB; have HB := n0_; clear n0_; (try clear hb); (try clear hb2); (try clear hk); (try clear hi)))
        go_ret
        exact ⟨by first | rfl | (simp [errW_none, errW_some] <;> rfl) | (simp [*, errW_none, errW_some] <;> rfl), by repeat (first | (with_reducible first | exact HB.out | apply below_alloc | apply pw_below_drewN | apply below_drew1) | exact HB.out)⟩
  · replace c3 := Bool.eq_false_iff.mpr c3
    subst c3
    have H1 : (some false) = some r := by rw [if_neg (show ¬ (false = true) by decide)] at H; exact H
    clear H
    have H := H1
    clear H1
    obtain rfl := Option.some.inj H
    go_enter Try.func5, Try.ntmps5
    go_wp2_with (first | ((with_reducible refine gate_callee (f := 7) rfl ?_); refine goesL_ (some 7) rfl rfl Try.func7 (by kernel_rfl) rfl #[] rfl (by (try simp only [List.map_toArray, List.map_cons, List.map_nil]); first | done | rfl | (simp only [List.length_drop, List.length_take]; rfl) | (refine congrArg (fun z_ => #[Value.int IntKind.i64 z_]) (?_ : Go.RowKit.wrap64 (IntKind.u8.wrap _) = _); rw [IntKind.wrap_u8]; unfold Go.RowKit.wrap64; omega)) ?_; (with_reducible refine (horologelaw06_alive.calls k  false _ A2.out).mono ?_); rintro e w16 ⟨rfl, hb⟩; refine ⟨_, rfl, ?_⟩; have n0_ := Aside0.mk (below_step (by repeat (first | (with_reducible first | exact HB.out | apply below_alloc | apply pw_below_drewN | apply below_drew1) | exact HB.out)) hb); clear HB; have HB := n0_; clear n0_; (try clear hb); (try clear hb2); (try clear hk); (try clear hi)))
    go_ret
    exact ⟨by first | rfl | (simp [errW_none, errW_some] <;> rfl) | (simp [*, errW_none, errW_some] <;> rfl), by repeat (first | (with_reducible first | exact HB.out | apply below_alloc | apply pw_below_drewN | apply below_drew1) | exact HB.out)⟩

/-- THE ONE PURE STATEMENT of horologelaw06_WeekTexts: yours. -/
def horologelaw06_WeekTexts.Pure : Prop := ∀ (a0 : ByteArray), a0.size ≤ 140737488351232 → ∃ k, horologelaw06_WeekTexts.f k a0 = some true
theorem horologelaw06_WeekTexts.walk (P : horologelaw06_WeekTexts.Pure) (a0 : ByteArray) (w : World) (w0 : a0.size ≤ 140737488351232) :
    Calls Try.prog 5 #[.string a0] w fun e w' => e = .returned (.bool true) ∧ Below w.heap.size w w' := by
  obtain ⟨k, h⟩ := P a0 w0
  refine (horologelaw06_WeekTexts.calls k a0 true w h).mono ?_
  rintro e w' ⟨rfl, hd⟩
  exact ⟨rfl, hd⟩

end Go.Proofs.Ytmcicjjaneaokaa.MWeekTexts
