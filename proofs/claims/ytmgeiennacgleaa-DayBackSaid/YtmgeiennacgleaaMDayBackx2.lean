-- This text was written by a program of this session (a changed scratch copy of a tool of the kit; NOTES.md tells the changes).
import Derived.Test.YtmgeiennacgleaaMDayBackx0
namespace Go.Proofs.Ytmgeiennacgleaa.MDayBack
open Go.RowKit Go.Proofs.YtmgeiennacgleaaW.PrintWords Go.Proofs.YtmgeiennacgleaaW.PrintLast Go.Proofs.YtmgeiennacgleaaW.PrintMore
attribute [local go_sem] max2_int min2_int max_two min_two max_three min_three max_four min_four   -- for this text's walks alone
set_option linter.unusedVariables false
set_option linter.unusedSimpArgs false

/-! ### day_Weekday: function 9 -/
def day_Weekday.f (a0 : Int) : Option (Int) := some (wrap64 ((Int.tmod (wrap64 ((Int.tmod (wrap64 ((Int.tmod a0 7) + 3)) 7) + 7)) 7) + 1))
set_option maxHeartbeats 8000000 in
set_option maxRecDepth 100000 in
theorem day_Weekday.calls (a0 : Int) (r : Int) (w : World) (h : day_Weekday.f a0 = some r) :
    Calls Try.prog 9 #[.int .i64 a0] w fun e w' => e = .returned (.int .i64 r) ∧ Drawn0 w w' := by
  have H : (some (wrap64 ((Int.tmod (wrap64 ((Int.tmod (wrap64 ((Int.tmod a0 7) + 3)) 7) + 7)) 7) + 1))) = some r := h
  clear h
  obtain rfl := Option.some.inj H
  go_enter Try.func9, Try.ntmps9
  go_wp2
  go_ret
  exact ⟨by first | rfl | (simp; done) | (simp [*]; done), by repeat (first | exact Drawn0.refl _ | apply Drawn0.step)⟩

/-! ### day_Leap: function 14 -/
def day_Leap.f (a0 : Int) : Option (Bool) := if (Int.tmod a0 4) = 0 then (if (Int.tmod a0 100) = 0 then (some ((Int.tmod a0 400) == 0)) else (some true)) else (some false)
set_option maxHeartbeats 8000000 in
set_option maxRecDepth 100000 in
theorem day_Leap.calls (a0 : Int) (r : Bool) (w : World) (h : day_Leap.f a0 = some r) :
    Calls Try.prog 14 #[.int .i64 a0] w fun e w' => e = .returned (.bool r) ∧ Drawn0 w w' := by
  have H : (if (Int.tmod a0 4) = 0 then (if (Int.tmod a0 100) = 0 then (some ((Int.tmod a0 400) == 0)) else (some true)) else (some false)) = some r := h
  clear h
  by_cases c2 : (Int.tmod a0 4) = 0
  · rw [if_pos c2] at H
    have c2b0 : ((Int.tmod a0 4) == 0) = true := beq_iff_eq.mpr c2
    have c2b1 : ((Int.tmod a0 4) != 0) = false := bne_eq_false_iff_eq.mpr c2
    clear c2
    by_cases c3 : (Int.tmod a0 100) = 0
    · rw [if_pos c3] at H
      have c3b0 : ((Int.tmod a0 100) == 0) = true := beq_iff_eq.mpr c3
      have c3b1 : ((Int.tmod a0 100) != 0) = false := bne_eq_false_iff_eq.mpr c3
      clear c3
      obtain rfl := Option.some.inj H
      go_enter Try.func14, Try.ntmps14
      go_wp2
      go_ret
      exact ⟨by first | rfl | (simp; done) | (simp [*]; done), by repeat (first | exact Drawn0.refl _ | apply Drawn0.step)⟩
    · rw [if_neg c3] at H
      have c3b0 : ((Int.tmod a0 100) == 0) = false := beq_eq_false_iff_ne.mpr c3
      have c3b1 : ((Int.tmod a0 100) != 0) = true := bne_iff_ne.mpr c3
      obtain rfl := Option.some.inj H
      go_enter Try.func14, Try.ntmps14
      go_wp2
      go_ret
      exact ⟨by first | rfl | (simp; done) | (simp [*]; done), by repeat (first | exact Drawn0.refl _ | apply Drawn0.step)⟩
  · rw [if_neg c2] at H
    have c2b0 : ((Int.tmod a0 4) == 0) = false := beq_eq_false_iff_ne.mpr c2
    have c2b1 : ((Int.tmod a0 4) != 0) = true := bne_iff_ne.mpr c2
    obtain rfl := Option.some.inj H
    go_enter Try.func14, Try.ntmps14
    go_wp2
    go_ret
    exact ⟨by first | rfl | (simp; done) | (simp [*]; done), by repeat (first | exact Drawn0.refl _ | apply Drawn0.step)⟩

/-! ### day_right: function 36 -/
def day_right.f (a0 : Int) : Option (Bool) := if a0 ≥ (-9999) then (some (decide (a0 ≤ 9999))) else (some false)
set_option maxHeartbeats 8000000 in
set_option maxRecDepth 100000 in
theorem day_right.calls (a0 : Int) (r : Bool) (w : World) (h : day_right.f a0 = some r) :
    Calls Try.prog 36 #[.int .i64 a0] w fun e w' => e = .returned (.bool r) ∧ Drawn0 w w' := by
  have H : (if a0 ≥ (-9999) then (some (decide (a0 ≤ 9999))) else (some false)) = some r := h
  clear h
  by_cases c2 : a0 ≥ (-9999)
  · rw [if_pos c2] at H
    have c2b0 : decide ((-9999) ≤ a0) = true := decide_eq_true c2
    clear c2
    obtain rfl := Option.some.inj H
    go_enter Try.func36, Try.ntmps36
    go_wp2
    go_ret
    exact ⟨by first | rfl | (simp; done) | (simp [*]; done), by repeat (first | exact Drawn0.refl _ | apply Drawn0.step)⟩
  · rw [if_neg c2] at H
    have c2b0 : decide ((-9999) ≤ a0) = false := decide_eq_false c2
    clear c2
    obtain rfl := Option.some.inj H
    go_enter Try.func36, Try.ntmps36
    go_wp2
    go_ret
    exact ⟨by first | rfl | (simp; done) | (simp [*]; done), by repeat (first | exact Drawn0.refl _ | apply Drawn0.step)⟩

/-! ### day_Month: function 16 -/
mutual
def day_Month.j0 : Nat → Int → Int → Bool → Option (Int × Option Int)
  | 0, _, _, _ => none
  | k + 1, x0, x1, x11 => if x11 = true then (some (0, some 1)) else (if x1 = 2 then ((day_Leap.f x0).bind fun t102 => (day_Month.j1 k x1 t102)) else (day_Month.j1 k x1 false))
def day_Month.j1 : Nat → Int → Bool → Option (Int × Option Int)
  | 0, _, _ => none
  | k + 1, x1, x19 => if x19 = true then (some (29, none)) else (if x1 = 2 then (some (28, none)) else (some (wrap64 (30 + (Int.tmod (wrap64 (x1 + (wrap64 (Int.tdiv x1 8)))) 2)), none)))
end
def day_Month.f (k : Nat) (a0 : Int) (a1 : Int) : Option (Int × Option Int) := (day_right.f a0).bind fun t101 => (if t101 = true then (if a1 < 1 then (day_Month.j0 k a0 a1 true) else (day_Month.j0 k a0 a1 (decide (a1 > 12)))) else (some (0, some 13)))
theorem day_Month.mono_l : ∀ k, (∀ y0 y1 y2, LeO (day_Month.j0 k y0 y1 y2) (day_Month.j0 (k + 1) y0 y1 y2)) ∧ (∀ y0 y1, LeO (day_Month.j1 k y0 y1) (day_Month.j1 (k + 1) y0 y1))
  | 0 => ⟨fun _ _ _ r h => by simp [day_Month.j0] at h, fun _ _ r h => by simp [day_Month.j1] at h⟩
  | k + 1 => by
    obtain ⟨ih0, ih1⟩ := day_Month.mono_l k
    refine ⟨?_, ?_⟩
    · intro y0 y1 y2
      unfold day_Month.j0
      repeat' first
      | (with_reducible exact ih0 _ _ _)
      | (with_reducible exact ih1 _ _)
      | (with_reducible exact LeO.refl _)
      | (with_reducible exact LeO.none _)
      | (with_reducible refine LeO.ite ?_ ?_)
      | (with_reducible refine LeO.bind ?_ (fun _ => ?_))
      | exact ih0 _ _ _
      | exact ih1 _ _
      | exact LeO.none _
      | refine LeO.ite ?_ ?_
      | refine LeO.bind ?_ (fun _ => ?_)
    · intro y0 y1
      unfold day_Month.j1
      repeat' first
      | (with_reducible exact ih0 _ _ _)
      | (with_reducible exact ih1 _ _)
      | (with_reducible exact LeO.refl _)
      | (with_reducible exact LeO.none _)
      | (with_reducible refine LeO.ite ?_ ?_)
      | (with_reducible refine LeO.bind ?_ (fun _ => ?_))
      | exact ih0 _ _ _
      | exact ih1 _ _
      | exact LeO.none _
      | refine LeO.ite ?_ ?_
      | refine LeO.bind ?_ (fun _ => ?_)
theorem day_Month.mono : ∀ a0 a1 k, LeO (day_Month.f k a0 a1) (day_Month.f (k + 1) a0 a1) := by
  intro a0 a1 k
  obtain ⟨ih0, ih1⟩ := day_Month.mono_l k
  unfold day_Month.f
  repeat' first
      | (with_reducible exact ih0 _ _ _)
      | (with_reducible exact ih1 _ _)
      | (with_reducible exact LeO.refl _)
      | (with_reducible exact LeO.none _)
      | (with_reducible refine LeO.ite ?_ ?_)
      | (with_reducible refine LeO.bind ?_ (fun _ => ?_))
      | exact ih0 _ _ _
      | exact ih1 _ _
      | exact LeO.none _
      | refine LeO.ite ?_ ?_
      | refine LeO.bind ?_ (fun _ => ?_)
set_option maxHeartbeats 8000000 in
set_option maxRecDepth 100000 in
theorem day_Month.calls (k : Nat) (a0 : Int) (a1 : Int) (r1 : Int) (r2 : Option Int) (w : World) (h : day_Month.f k a0 a1 = some (r1, r2)) :
    Calls Try.prog 16 #[.int .i64 a0, .int .i64 a1] w fun e w' => e = .returned (.tuple #[.int .i64 r1, errW r2]) ∧ Drawn0 w w' := by
  have hu27 := Try.underlying27
  have hu38 := Try.underlying38
  have H : ((day_right.f a0).bind fun t101 => (if t101 = true then (if a1 < 1 then (day_Month.j0 k a0 a1 true) else (day_Month.j0 k a0 a1 (decide (a1 > 12)))) else (some (0, some 13)))) = some (r1, r2) := h
  clear h
  replace H := Option.bind_eq_some_iff.mp H
  obtain ⟨t101, A30, H⟩ := H
  replace H : (if t101 = true then (if a1 < 1 then (day_Month.j0 k a0 a1 true) else (day_Month.j0 k a0 a1 (decide (a1 > 12)))) else (some (0, some 13))) = some (r1, r2) := H
  have A3 := Aside0.mk A30
  clear A30
  by_cases c4 : t101 = true
  · subst c4
    have H1 : (if a1 < 1 then (day_Month.j0 k a0 a1 true) else (day_Month.j0 k a0 a1 (decide (a1 > 12)))) = some (r1, r2) := by rw [if_pos rfl] at H; exact H
    clear H
    have H := H1
    clear H1
    have HC5 := Aside0.mk H
    clear H
    go_enter Try.func16, Try.ntmps16
    go_upto_region 3 with (first | ((with_reducible refine gate_callee (f := 36) rfl ?_); refine goesL_ (some 8) rfl rfl Try.func36 (by kernel_rfl) rfl #[.int .i64 a0] rfl (by (try simp only [List.map_toArray, List.map_cons, List.map_nil]); first | done | rfl | (simp only [List.length_drop, List.length_take]; rfl) | (refine congrArg (fun z_ => #[Value.int IntKind.i64 z_]) (?_ : Go.RowKit.wrap64 (IntKind.u8.wrap _) = _); rw [IntKind.wrap_u8]; unfold Go.RowKit.wrap64; omega)) ?_; (with_reducible refine (day_right.calls a0 true _ A3.out).mono ?_); rintro e w' ⟨rfl, ⟨nd, rfl⟩⟩; refine ⟨_, rfl, ?_⟩))
    (try simp only [Act.put, List.setIfInBounds_toArray, List.set_cons_zero, List.set_cons_succ])
    go_cut [11] (fun v11 wc => ∃ (kq : Nat) (x11_4 : Bool), v11 = .bool x11_4 ∧ Aside0 (day_Month.j0 kq a0 a1 x11_4 = some (r1, r2)) ∧ Aside0 (kq ≤ k) ∧ Drawn0 w wc)
    case first =>
      have H := HC5.out
      clear HC5
      by_cases c6 : a1 < 1
      · rw [if_pos c6] at H
        have c6b0 : decide (a1 < 1) = true := decide_eq_true c6
        clear c6
        (first | rw [c6b0] | (simp only [i64_w, i32_w]; rw [c6b0]) | skip)
        have H' := Aside0.mk H
        clear H
        go_wp2
        go_meet
        case rel => exact ⟨_, (true), (by first | rfl | (simp; done) | (simp [*]; done)), H', ⟨by first | omega | exact Nat.le_refl _⟩, by repeat (first | exact Drawn0.refl _ | apply Drawn0.step)⟩
      · rw [if_neg c6] at H
        have c6b0 : decide (a1 < 1) = false := decide_eq_false c6
        clear c6
        (first | rw [c6b0] | (simp only [i64_w, i32_w]; rw [c6b0]) | skip)
        have H' := Aside0.mk H
        clear H
        go_wp2
        go_meet
        case rel => exact ⟨_, (decide (a1 > 12)), (by first | rfl | (simp; done) | (simp [*]; done)), H', ⟨by first | omega | exact Nat.le_refl _⟩, by repeat (first | exact Drawn0.refl _ | apply Drawn0.step)⟩
    case rest =>
      clear HC5
      try clear c1
      try clear p2
      try clear c3
      try clear c4
      try clear c6
      try clear c6b0
      try clear p6
      obtain ⟨kq, x11_4, rfl, HA, HJ4, ⟨mc4, rfl⟩⟩ := hcut
      cases kq with
      | zero => exact absurd HA.out (by simp [day_Month.j0])
      | succ kj4 =>
        have H := HA.out
        clear HA
        simp only [day_Month.j0] at H
        by_cases c7 : x11_4 = true
        · subst c7
          have H1 : (some (0, some 1)) = some (r1, r2) := by rw [if_pos rfl] at H; exact H
          clear H
          have H := H1
          clear H1
          simp only [Option.some.injEq, Prod.mk.injEq] at H
          obtain ⟨rfl, rfl⟩ := H
          go_wp2
          go_ret2
          exact ⟨by first | rfl | (simp; done) | (simp [*]; done), by repeat (first | exact Drawn0.refl _ | apply Drawn0.step)⟩
        · replace c7 := Bool.eq_false_iff.mpr c7
          subst c7
          have H1 : (if a1 = 2 then ((day_Leap.f a0).bind fun t102 => (day_Month.j1 kj4 a1 t102)) else (day_Month.j1 kj4 a1 false)) = some (r1, r2) := by rw [if_neg (show ¬ (false = true) by decide)] at H; exact H
          clear H
          have H := H1
          clear H1
          have HC8 := Aside0.mk H
          clear H
          go_upto_region 5 with (fail)
          go_cut [19] (fun v19 wc => ∃ (kq : Nat) (x19_7 : Bool), v19 = .bool x19_7 ∧ Aside0 (day_Month.j1 kq a1 x19_7 = some (r1, r2)) ∧ Aside0 (kq ≤ kj4) ∧ Drawn0 w wc)
          case first =>
            have H := HC8.out
            clear HC8
            by_cases c9 : a1 = 2
            · rw [if_pos c9] at H
              have c9b0 : (a1 == 2) = true := beq_iff_eq.mpr c9
              have c9b1 : (a1 != 2) = false := bne_eq_false_iff_eq.mpr c9
              clear c9
              (first | rw [c9b0] | (simp only [i64_w, i32_w]; rw [c9b0]) | skip)
              replace H := Option.bind_eq_some_iff.mp H
              obtain ⟨t102, A100, H⟩ := H
              replace H : (day_Month.j1 kj4 a1 t102) = some (r1, r2) := H
              have A10 := Aside0.mk A100
              clear A100
              have H' := Aside0.mk H
              clear H
              go_wp2_with (first | (go_at_call 14; (with_reducible refine (day_Leap.calls a0 t102 _ A10.out).mono ?_); rintro e w' ⟨rfl, ⟨nd, rfl⟩⟩))
              go_meet
              case rel => exact ⟨_, (t102), (by first | rfl | (simp; done) | (simp [*]; done)), H', ⟨by have := HJ4.out; first | omega | exact Nat.le_refl _⟩, by repeat (first | exact Drawn0.refl _ | apply Drawn0.step)⟩
            · rw [if_neg c9] at H
              have c9b0 : (a1 == 2) = false := beq_eq_false_iff_ne.mpr c9
              have c9b1 : (a1 != 2) = true := bne_iff_ne.mpr c9
              (first | rw [c9b0] | (simp only [i64_w, i32_w]; rw [c9b0]) | skip)
              have H' := Aside0.mk H
              clear H
              go_wp2
              go_meet
              case rel => exact ⟨_, (false), (by first | rfl | (simp; done) | (simp [*]; done)), H', ⟨by have := HJ4.out; first | omega | exact Nat.le_refl _⟩, by repeat (first | exact Drawn0.refl _ | apply Drawn0.step)⟩
          case rest =>
            clear HC8
            try clear c1
            try clear p2
            try clear c3
            try clear c4
            try clear c6
            try clear c6b0
            try clear p6
            try clear c7
            try clear c9
            try clear c9b0
            try clear c9b1
            try clear p2
            try clear p6
            obtain ⟨kq, x19_7, rfl, HA, HJ7, ⟨mc7, rfl⟩⟩ := hcut
            cases kq with
            | zero => exact absurd HA.out (by simp [day_Month.j1])
            | succ kj7 =>
              have H := HA.out
              clear HA
              simp only [day_Month.j1] at H
              by_cases c11 : x19_7 = true
              · subst c11
                have H1 : (some (29, none)) = some (r1, r2) := by rw [if_pos rfl] at H; exact H
                clear H
                have H := H1
                clear H1
                simp only [Option.some.injEq, Prod.mk.injEq] at H
                obtain ⟨rfl, rfl⟩ := H
                go_wp2
                go_ret2
                exact ⟨by first | rfl | (simp; done) | (simp [*]; done), by repeat (first | exact Drawn0.refl _ | apply Drawn0.step)⟩
              · replace c11 := Bool.eq_false_iff.mpr c11
                subst c11
                have H1 : (if a1 = 2 then (some (28, none)) else (some (wrap64 (30 + (Int.tmod (wrap64 (a1 + (wrap64 (Int.tdiv a1 8)))) 2)), none))) = some (r1, r2) := by rw [if_neg (show ¬ (false = true) by decide)] at H; exact H
                clear H
                have H := H1
                clear H1
                by_cases c12 : a1 = 2
                · rw [if_pos c12] at H
                  have c12b0 : (a1 == 2) = true := beq_iff_eq.mpr c12
                  have c12b1 : (a1 != 2) = false := bne_eq_false_iff_eq.mpr c12
                  clear c12
                  simp only [Option.some.injEq, Prod.mk.injEq] at H
                  obtain ⟨rfl, rfl⟩ := H
                  go_wp2
                  go_ret2
                  exact ⟨by first | rfl | (simp; done) | (simp [*]; done), by repeat (first | exact Drawn0.refl _ | apply Drawn0.step)⟩
                · rw [if_neg c12] at H
                  have c12b0 : (a1 == 2) = false := beq_eq_false_iff_ne.mpr c12
                  have c12b1 : (a1 != 2) = true := bne_iff_ne.mpr c12
                  simp only [Option.some.injEq, Prod.mk.injEq] at H
                  obtain ⟨rfl, rfl⟩ := H
                  go_wp2
                  go_ret2
                  exact ⟨by first | rfl | (simp; done) | (simp [*]; done), by repeat (first | exact Drawn0.refl _ | apply Drawn0.step)⟩
  · replace c4 := Bool.eq_false_iff.mpr c4
    subst c4
    have H1 : (some (0, some 13)) = some (r1, r2) := by rw [if_neg (show ¬ (false = true) by decide)] at H; exact H
    clear H
    have H := H1
    clear H1
    simp only [Option.some.injEq, Prod.mk.injEq] at H
    obtain ⟨rfl, rfl⟩ := H
    go_enter Try.func16, Try.ntmps16
    go_wp2_with (first | ((with_reducible refine gate_callee (f := 36) rfl ?_); refine goesL_ (some 8) rfl rfl Try.func36 (by kernel_rfl) rfl #[.int .i64 a0] rfl (by (try simp only [List.map_toArray, List.map_cons, List.map_nil]); first | done | rfl | (simp only [List.length_drop, List.length_take]; rfl) | (refine congrArg (fun z_ => #[Value.int IntKind.i64 z_]) (?_ : Go.RowKit.wrap64 (IntKind.u8.wrap _) = _); rw [IntKind.wrap_u8]; unfold Go.RowKit.wrap64; omega)) ?_; (with_reducible refine (day_right.calls a0 false _ A3.out).mono ?_); rintro e w' ⟨rfl, ⟨nd, rfl⟩⟩; refine ⟨_, rfl, ?_⟩))
    go_ret2
    exact ⟨by first | rfl | (simp; done) | (simp [*]; done), by repeat (first | exact Drawn0.refl _ | apply Drawn0.step)⟩

/-! ### day_check: function 34 -/
def day_check.f (k : Nat) (a0 : Int) (a1 : Int) (a2 : Int) : Option (Option Int) := (day_Month.f k a0 a1).bind fun bt103 => (if bt103.2.isNone = true then (if a2 < 1 then (some (some 1)) else (if a2 > bt103.1 then (some (some 1)) else (some none))) else (some (some (bt103.2.getD 0))))
theorem day_check.mono : ∀ a0 a1 a2 k, LeO (day_check.f k a0 a1 a2) (day_check.f (k + 1) a0 a1 a2) := by
  intro a0 a1 a2 k
  unfold day_check.f
  repeat' first
      | (with_reducible exact day_Month.mono _ _ _)
      | (with_reducible exact LeO.refl _)
      | (with_reducible exact LeO.none _)
      | (with_reducible refine LeO.ite ?_ ?_)
      | (with_reducible refine LeO.bind ?_ (fun _ => ?_))
      | exact day_Month.mono _ _ _
      | exact LeO.none _
      | refine LeO.ite ?_ ?_
      | refine LeO.bind ?_ (fun _ => ?_)
set_option maxHeartbeats 8000000 in
set_option maxRecDepth 100000 in
theorem day_check.calls (k : Nat) (a0 : Int) (a1 : Int) (a2 : Int) (r : Option Int) (w : World) (h : day_check.f k a0 a1 a2 = some r) :
    Calls Try.prog 34 #[.int .i64 a0, .int .i64 a1, .int .i64 a2] w fun e w' => e = .returned (errW r) ∧ Drawn0 w w' := by
  have hu27 := Try.underlying27
  have hu38 := Try.underlying38
  have H : ((day_Month.f k a0 a1).bind fun bt103 => (if bt103.2.isNone = true then (if a2 < 1 then (some (some 1)) else (if a2 > bt103.1 then (some (some 1)) else (some none))) else (some (some (bt103.2.getD 0))))) = some r := h
  clear h
  replace H := Option.bind_eq_some_iff.mp H
  obtain ⟨⟨t103, t104⟩, A40, H⟩ := H
  replace H : (if t104.isNone = true then (if a2 < 1 then (some (some 1)) else (if a2 > t103 then (some (some 1)) else (some none))) else (some (some (t104.getD 0)))) = some r := H
  have A4 := Aside0.mk A40
  clear A40
  rcases t104 with _ | q105
  · have H1 : (if a2 < 1 then (some (some 1)) else (if a2 > t103 then (some (some 1)) else (some none))) = some r := by rw [if_pos (show (none : Option Int).isNone = true by rfl)] at H; exact H
    clear H
    have H := H1
    clear H1
    try simp only [errW_none, errW_some]
    by_cases c5 : a2 < 1
    · rw [if_pos c5] at H
      have c5b0 : decide (a2 < 1) = true := decide_eq_true c5
      clear c5
      obtain rfl := Option.some.inj H
      go_enter Try.func34, Try.ntmps34
      go_wp2_with (first | ((with_reducible refine gate_callee (f := 16) rfl ?_); refine goesL_ (some 12) rfl rfl Try.func16 (by kernel_rfl) rfl #[.int .i64 a0, .int .i64 a1] rfl (by (try simp only [List.map_toArray, List.map_cons, List.map_nil]); first | done | rfl | (simp only [List.length_drop, List.length_take]; rfl) | (refine congrArg (fun z_ => #[Value.int IntKind.i64 z_]) (?_ : Go.RowKit.wrap64 (IntKind.u8.wrap _) = _); rw [IntKind.wrap_u8]; unfold Go.RowKit.wrap64; omega)) ?_; (with_reducible refine (day_Month.calls k a0 a1 t103 none _ A4.out).mono ?_); rintro e w' ⟨rfl, ⟨nd, rfl⟩⟩; refine ⟨_, rfl, ?_⟩; (try simp only [errW_none, errW_some])))
      go_ret
      exact ⟨by first | rfl | (simp; done) | (simp [*]; done), by repeat (first | exact Drawn0.refl _ | apply Drawn0.step)⟩
    · rw [if_neg c5] at H
      have c5b0 : decide (a2 < 1) = false := decide_eq_false c5
      clear c5
      by_cases c6 : a2 > t103
      · rw [if_pos c6] at H
        have c6b0 : decide (t103 < a2) = true := decide_eq_true c6
        clear c6
        obtain rfl := Option.some.inj H
        go_enter Try.func34, Try.ntmps34
        go_wp2_with (first | ((with_reducible refine gate_callee (f := 16) rfl ?_); refine goesL_ (some 12) rfl rfl Try.func16 (by kernel_rfl) rfl #[.int .i64 a0, .int .i64 a1] rfl (by (try simp only [List.map_toArray, List.map_cons, List.map_nil]); first | done | rfl | (simp only [List.length_drop, List.length_take]; rfl) | (refine congrArg (fun z_ => #[Value.int IntKind.i64 z_]) (?_ : Go.RowKit.wrap64 (IntKind.u8.wrap _) = _); rw [IntKind.wrap_u8]; unfold Go.RowKit.wrap64; omega)) ?_; (with_reducible refine (day_Month.calls k a0 a1 t103 none _ A4.out).mono ?_); rintro e w' ⟨rfl, ⟨nd, rfl⟩⟩; refine ⟨_, rfl, ?_⟩; (try simp only [errW_none, errW_some])))
        go_ret
        exact ⟨by first | rfl | (simp; done) | (simp [*]; done), by repeat (first | exact Drawn0.refl _ | apply Drawn0.step)⟩
      · rw [if_neg c6] at H
        have c6b0 : decide (t103 < a2) = false := decide_eq_false c6
        clear c6
        obtain rfl := Option.some.inj H
        go_enter Try.func34, Try.ntmps34
        go_wp2_with (first | ((with_reducible refine gate_callee (f := 16) rfl ?_); refine goesL_ (some 12) rfl rfl Try.func16 (by kernel_rfl) rfl #[.int .i64 a0, .int .i64 a1] rfl (by (try simp only [List.map_toArray, List.map_cons, List.map_nil]); first | done | rfl | (simp only [List.length_drop, List.length_take]; rfl) | (refine congrArg (fun z_ => #[Value.int IntKind.i64 z_]) (?_ : Go.RowKit.wrap64 (IntKind.u8.wrap _) = _); rw [IntKind.wrap_u8]; unfold Go.RowKit.wrap64; omega)) ?_; (with_reducible refine (day_Month.calls k a0 a1 t103 none _ A4.out).mono ?_); rintro e w' ⟨rfl, ⟨nd, rfl⟩⟩; refine ⟨_, rfl, ?_⟩; (try simp only [errW_none, errW_some])))
        go_ret
        exact ⟨by first | rfl | (simp; done) | (simp [*]; done), by repeat (first | exact Drawn0.refl _ | apply Drawn0.step)⟩
  · have H1 : (some (some q105)) = some r := by rw [if_neg (show ¬ (some q105).isNone = true by simp)] at H; exact H
    clear H
    have H := H1
    clear H1
    try simp only [errW_none, errW_some]
    obtain rfl := Option.some.inj H
    go_enter Try.func34, Try.ntmps34
    go_wp2_with (first | ((with_reducible refine gate_callee (f := 16) rfl ?_); refine goesL_ (some 12) rfl rfl Try.func16 (by kernel_rfl) rfl #[.int .i64 a0, .int .i64 a1] rfl (by (try simp only [List.map_toArray, List.map_cons, List.map_nil]); first | done | rfl | (simp only [List.length_drop, List.length_take]; rfl) | (refine congrArg (fun z_ => #[Value.int IntKind.i64 z_]) (?_ : Go.RowKit.wrap64 (IntKind.u8.wrap _) = _); rw [IntKind.wrap_u8]; unfold Go.RowKit.wrap64; omega)) ?_; (with_reducible refine (day_Month.calls k a0 a1 t103 (some q105) _ A4.out).mono ?_); rintro e w' ⟨rfl, ⟨nd, rfl⟩⟩; refine ⟨_, rfl, ?_⟩; (try simp only [errW_none, errW_some])))
    go_ret
    exact ⟨by first | rfl | (simp; done) | (simp [*]; done), by repeat (first | exact Drawn0.refl _ | apply Drawn0.step)⟩

/-! ### day_floor: function 37 -/
def day_floor.f (a0 : Int) (a1 : Int) : Option (Int) := if a1 = 0 then (none) else (if (Int.tmod a0 a1) < 0 then (some (wrap64 ((wrap64 (Int.tdiv a0 a1)) - 1))) else (some (wrap64 (Int.tdiv a0 a1))))
set_option maxHeartbeats 8000000 in
set_option maxRecDepth 100000 in
theorem day_floor.calls (a0 : Int) (a1 : Int) (r : Int) (w : World) (h : day_floor.f a0 a1 = some r) :
    Calls Try.prog 37 #[.int .i64 a0, .int .i64 a1] w fun e w' => e = .returned (.int .i64 r) ∧ Drawn0 w w' := by
  have H : (if a1 = 0 then (none) else (if (Int.tmod a0 a1) < 0 then (some (wrap64 ((wrap64 (Int.tdiv a0 a1)) - 1))) else (some (wrap64 (Int.tdiv a0 a1))))) = some r := h
  clear h
  by_cases c3 : a1 = 0
  · rw [if_pos c3] at H
    exact absurd H (by simp)
  · rw [if_neg c3] at H
    have c3b0 : (a1 == 0) = false := beq_eq_false_iff_ne.mpr c3
    have c3b1 : (a1 != 0) = true := bne_iff_ne.mpr c3
    by_cases c4 : (Int.tmod a0 a1) < 0
    · rw [if_pos c4] at H
      have c4b0 : decide ((Int.tmod a0 a1) < 0) = true := decide_eq_true c4
      clear c4
      obtain rfl := Option.some.inj H
      go_enter Try.func37, Try.ntmps37
      go_wp2
      go_ret
      exact ⟨by first | rfl | (simp; done) | (simp [*]; done), by repeat (first | exact Drawn0.refl _ | apply Drawn0.step)⟩
    · rw [if_neg c4] at H
      have c4b0 : decide ((Int.tmod a0 a1) < 0) = false := decide_eq_false c4
      clear c4
      obtain rfl := Option.some.inj H
      go_enter Try.func37, Try.ntmps37
      go_wp2
      go_ret
      exact ⟨by first | rfl | (simp; done) | (simp [*]; done), by repeat (first | exact Drawn0.refl _ | apply Drawn0.step)⟩

/-! ### day_number: function 35 -/
def day_number.f (a0 : Int) (a1 : Int) (a2 : Int) : Option (Int) := if a1 ≤ 2 then ((day_floor.f (wrap64 (a0 - 1)) 400).bind fun t106 => (some (wrap64 ((wrap64 ((wrap64 ((wrap64 ((wrap64 ((wrap64 (t106 * 146097)) + (wrap64 ((wrap64 ((wrap64 (a0 - 1)) - (wrap64 (t106 * 400)))) * 365)))) + (wrap64 (Int.tdiv (wrap64 ((wrap64 (a0 - 1)) - (wrap64 (t106 * 400)))) 4)))) - (wrap64 (Int.tdiv (wrap64 ((wrap64 (a0 - 1)) - (wrap64 (t106 * 400)))) 100)))) + (wrap64 ((wrap64 ((wrap64 (Int.tdiv (wrap64 ((wrap64 (153 * (wrap64 ((wrap64 (a1 + 12)) - 3)))) + 2)) 5)) + a2)) - 1)))) - 719468)))) else ((day_floor.f a0 400).bind fun t107 => (some (wrap64 ((wrap64 ((wrap64 ((wrap64 ((wrap64 ((wrap64 (t107 * 146097)) + (wrap64 ((wrap64 (a0 - (wrap64 (t107 * 400)))) * 365)))) + (wrap64 (Int.tdiv (wrap64 (a0 - (wrap64 (t107 * 400)))) 4)))) - (wrap64 (Int.tdiv (wrap64 (a0 - (wrap64 (t107 * 400)))) 100)))) + (wrap64 ((wrap64 ((wrap64 (Int.tdiv (wrap64 ((wrap64 (153 * (wrap64 (a1 - 3)))) + 2)) 5)) + a2)) - 1)))) - 719468))))
set_option maxHeartbeats 8000000 in
set_option maxRecDepth 100000 in
theorem day_number.calls (a0 : Int) (a1 : Int) (a2 : Int) (r : Int) (w : World) (h : day_number.f a0 a1 a2 = some r) :
    Calls Try.prog 35 #[.int .i64 a0, .int .i64 a1, .int .i64 a2] w fun e w' => e = .returned (.int .i64 r) ∧ Drawn0 w w' := by
  have H : (if a1 ≤ 2 then ((day_floor.f (wrap64 (a0 - 1)) 400).bind fun t106 => (some (wrap64 ((wrap64 ((wrap64 ((wrap64 ((wrap64 ((wrap64 (t106 * 146097)) + (wrap64 ((wrap64 ((wrap64 (a0 - 1)) - (wrap64 (t106 * 400)))) * 365)))) + (wrap64 (Int.tdiv (wrap64 ((wrap64 (a0 - 1)) - (wrap64 (t106 * 400)))) 4)))) - (wrap64 (Int.tdiv (wrap64 ((wrap64 (a0 - 1)) - (wrap64 (t106 * 400)))) 100)))) + (wrap64 ((wrap64 ((wrap64 (Int.tdiv (wrap64 ((wrap64 (153 * (wrap64 ((wrap64 (a1 + 12)) - 3)))) + 2)) 5)) + a2)) - 1)))) - 719468)))) else ((day_floor.f a0 400).bind fun t107 => (some (wrap64 ((wrap64 ((wrap64 ((wrap64 ((wrap64 ((wrap64 (t107 * 146097)) + (wrap64 ((wrap64 (a0 - (wrap64 (t107 * 400)))) * 365)))) + (wrap64 (Int.tdiv (wrap64 (a0 - (wrap64 (t107 * 400)))) 4)))) - (wrap64 (Int.tdiv (wrap64 (a0 - (wrap64 (t107 * 400)))) 100)))) + (wrap64 ((wrap64 ((wrap64 (Int.tdiv (wrap64 ((wrap64 (153 * (wrap64 (a1 - 3)))) + 2)) 5)) + a2)) - 1)))) - 719468))))) = some r := h
  clear h
  by_cases c4 : a1 ≤ 2
  · rw [if_pos c4] at H
    have c4b0 : decide (a1 ≤ 2) = true := decide_eq_true c4
    clear c4
    replace H := Option.bind_eq_some_iff.mp H
    obtain ⟨t106, A50, H⟩ := H
    replace H : (some (wrap64 ((wrap64 ((wrap64 ((wrap64 ((wrap64 ((wrap64 (t106 * 146097)) + (wrap64 ((wrap64 ((wrap64 (a0 - 1)) - (wrap64 (t106 * 400)))) * 365)))) + (wrap64 (Int.tdiv (wrap64 ((wrap64 (a0 - 1)) - (wrap64 (t106 * 400)))) 4)))) - (wrap64 (Int.tdiv (wrap64 ((wrap64 (a0 - 1)) - (wrap64 (t106 * 400)))) 100)))) + (wrap64 ((wrap64 ((wrap64 (Int.tdiv (wrap64 ((wrap64 (153 * (wrap64 ((wrap64 (a1 + 12)) - 3)))) + 2)) 5)) + a2)) - 1)))) - 719468))) = some r := H
    have A5 := Aside0.mk A50
    clear A50
    obtain rfl := Option.some.inj H
    go_enter Try.func35, Try.ntmps35
    go_wp2_with (first | ((with_reducible refine gate_callee (f := 37) rfl ?_); refine goesL_ (some 17) rfl rfl Try.func37 (by kernel_rfl) rfl #[.int .i64 (wrap64 (a0 - 1)), .int .i64 400] rfl (by (try simp only [List.map_toArray, List.map_cons, List.map_nil]); first | done | rfl | (simp only [List.length_drop, List.length_take]; rfl) | (refine congrArg (fun z_ => #[Value.int IntKind.i64 z_]) (?_ : Go.RowKit.wrap64 (IntKind.u8.wrap _) = _); rw [IntKind.wrap_u8]; unfold Go.RowKit.wrap64; omega)) ?_; (with_reducible refine (day_floor.calls (wrap64 (a0 - 1)) 400 t106 _ A5.out).mono ?_); rintro e w' ⟨rfl, ⟨nd, rfl⟩⟩; refine ⟨_, rfl, ?_⟩))
    go_ret
    exact ⟨by first | rfl | (simp; done) | (simp [*]; done), by repeat (first | exact Drawn0.refl _ | apply Drawn0.step)⟩
  · rw [if_neg c4] at H
    have c4b0 : decide (a1 ≤ 2) = false := decide_eq_false c4
    clear c4
    replace H := Option.bind_eq_some_iff.mp H
    obtain ⟨t107, A60, H⟩ := H
    replace H : (some (wrap64 ((wrap64 ((wrap64 ((wrap64 ((wrap64 ((wrap64 (t107 * 146097)) + (wrap64 ((wrap64 (a0 - (wrap64 (t107 * 400)))) * 365)))) + (wrap64 (Int.tdiv (wrap64 (a0 - (wrap64 (t107 * 400)))) 4)))) - (wrap64 (Int.tdiv (wrap64 (a0 - (wrap64 (t107 * 400)))) 100)))) + (wrap64 ((wrap64 ((wrap64 (Int.tdiv (wrap64 ((wrap64 (153 * (wrap64 (a1 - 3)))) + 2)) 5)) + a2)) - 1)))) - 719468))) = some r := H
    have A6 := Aside0.mk A60
    clear A60
    obtain rfl := Option.some.inj H
    go_enter Try.func35, Try.ntmps35
    go_wp2_with (first | ((with_reducible refine gate_callee (f := 37) rfl ?_); refine goesL_ (some 17) rfl rfl Try.func37 (by kernel_rfl) rfl #[.int .i64 a0, .int .i64 400] rfl (by (try simp only [List.map_toArray, List.map_cons, List.map_nil]); first | done | rfl | (simp only [List.length_drop, List.length_take]; rfl) | (refine congrArg (fun z_ => #[Value.int IntKind.i64 z_]) (?_ : Go.RowKit.wrap64 (IntKind.u8.wrap _) = _); rw [IntKind.wrap_u8]; unfold Go.RowKit.wrap64; omega)) ?_; (with_reducible refine (day_floor.calls a0 400 t107 _ A6.out).mono ?_); rintro e w' ⟨rfl, ⟨nd, rfl⟩⟩; refine ⟨_, rfl, ?_⟩))
    go_ret
    exact ⟨by first | rfl | (simp; done) | (simp [*]; done), by repeat (first | exact Drawn0.refl _ | apply Drawn0.step)⟩

/-! ### day_Of: function 10 -/
def day_Of.f (k : Nat) (a0 : Int) (a1 : Int) (a2 : Int) : Option (Int × Option Int) := (day_check.f k a0 a1 a2).bind fun t108 => (if t108.isNone = true then ((day_number.f a0 a1 a2).bind fun t110 => (some (t110, none))) else (some (0, some (t108.getD 0))))
theorem day_Of.mono : ∀ a0 a1 a2 k, LeO (day_Of.f k a0 a1 a2) (day_Of.f (k + 1) a0 a1 a2) := by
  intro a0 a1 a2 k
  unfold day_Of.f
  repeat' first
      | (with_reducible exact day_check.mono _ _ _ _)
      | (with_reducible exact LeO.refl _)
      | (with_reducible exact LeO.none _)
      | (with_reducible refine LeO.ite ?_ ?_)
      | (with_reducible refine LeO.bind ?_ (fun _ => ?_))
      | exact day_check.mono _ _ _ _
      | exact LeO.none _
      | refine LeO.ite ?_ ?_
      | refine LeO.bind ?_ (fun _ => ?_)
set_option maxHeartbeats 8000000 in
set_option maxRecDepth 100000 in
theorem day_Of.calls (k : Nat) (a0 : Int) (a1 : Int) (a2 : Int) (r1 : Int) (r2 : Option Int) (w : World) (h : day_Of.f k a0 a1 a2 = some (r1, r2)) :
    Calls Try.prog 10 #[.int .i64 a0, .int .i64 a1, .int .i64 a2] w fun e w' => e = .returned (.tuple #[.int .i64 r1, errW r2]) ∧ Drawn0 w w' := by
  have hu27 := Try.underlying27
  have hu38 := Try.underlying38
  have H : ((day_check.f k a0 a1 a2).bind fun t108 => (if t108.isNone = true then ((day_number.f a0 a1 a2).bind fun t110 => (some (t110, none))) else (some (0, some (t108.getD 0))))) = some (r1, r2) := h
  clear h
  replace H := Option.bind_eq_some_iff.mp H
  obtain ⟨t108, A40, H⟩ := H
  replace H : (if t108.isNone = true then ((day_number.f a0 a1 a2).bind fun t110 => (some (t110, none))) else (some (0, some (t108.getD 0)))) = some (r1, r2) := H
  have A4 := Aside0.mk A40
  clear A40
  rcases t108 with _ | q109
  · have H1 : ((day_number.f a0 a1 a2).bind fun t110 => (some (t110, none))) = some (r1, r2) := by rw [if_pos (show (none : Option Int).isNone = true by rfl)] at H; exact H
    clear H
    have H := H1
    clear H1
    try simp only [errW_none, errW_some]
    replace H := Option.bind_eq_some_iff.mp H
    obtain ⟨t110, A50, H⟩ := H
    replace H : (some (t110, none)) = some (r1, r2) := H
    have A5 := Aside0.mk A50
    clear A50
    simp only [Option.some.injEq, Prod.mk.injEq] at H
    obtain ⟨rfl, rfl⟩ := H
    go_enter Try.func10, Try.ntmps10
    go_wp2_with (first | ((with_reducible refine gate_callee (f := 34) rfl ?_); refine goesL_ (some 12) rfl rfl Try.func34 (by kernel_rfl) rfl #[.int .i64 a0, .int .i64 a1, .int .i64 a2] rfl (by (try simp only [List.map_toArray, List.map_cons, List.map_nil]); first | done | rfl | (simp only [List.length_drop, List.length_take]; rfl) | (refine congrArg (fun z_ => #[Value.int IntKind.i64 z_]) (?_ : Go.RowKit.wrap64 (IntKind.u8.wrap _) = _); rw [IntKind.wrap_u8]; unfold Go.RowKit.wrap64; omega)) ?_; (with_reducible refine (day_check.calls k a0 a1 a2 none _ A4.out).mono ?_); rintro e w' ⟨rfl, ⟨nd, rfl⟩⟩; refine ⟨_, rfl, ?_⟩; (try simp only [errW_none, errW_some])) | ((with_reducible refine gate_callee (f := 35) rfl ?_); refine goesL_ (some 19) rfl rfl Try.func35 (by kernel_rfl) rfl #[.int .i64 a0, .int .i64 a1, .int .i64 a2] rfl (by (try simp only [List.map_toArray, List.map_cons, List.map_nil]); first | done | rfl | (simp only [List.length_drop, List.length_take]; rfl) | (refine congrArg (fun z_ => #[Value.int IntKind.i64 z_]) (?_ : Go.RowKit.wrap64 (IntKind.u8.wrap _) = _); rw [IntKind.wrap_u8]; unfold Go.RowKit.wrap64; omega)) ?_; (with_reducible refine (day_number.calls a0 a1 a2 t110 _ A5.out).mono ?_); rintro e w' ⟨rfl, ⟨nd, rfl⟩⟩; refine ⟨_, rfl, ?_⟩))
    go_ret2
    exact ⟨by first | rfl | (simp; done) | (simp [*]; done), by repeat (first | exact Drawn0.refl _ | apply Drawn0.step)⟩
  · have H1 : (some (0, some q109)) = some (r1, r2) := by rw [if_neg (show ¬ (some q109).isNone = true by simp)] at H; exact H
    clear H
    have H := H1
    clear H1
    try simp only [errW_none, errW_some]
    simp only [Option.some.injEq, Prod.mk.injEq] at H
    obtain ⟨rfl, rfl⟩ := H
    go_enter Try.func10, Try.ntmps10
    go_wp2_with (first | ((with_reducible refine gate_callee (f := 34) rfl ?_); refine goesL_ (some 12) rfl rfl Try.func34 (by kernel_rfl) rfl #[.int .i64 a0, .int .i64 a1, .int .i64 a2] rfl (by (try simp only [List.map_toArray, List.map_cons, List.map_nil]); first | done | rfl | (simp only [List.length_drop, List.length_take]; rfl) | (refine congrArg (fun z_ => #[Value.int IntKind.i64 z_]) (?_ : Go.RowKit.wrap64 (IntKind.u8.wrap _) = _); rw [IntKind.wrap_u8]; unfold Go.RowKit.wrap64; omega)) ?_; (with_reducible refine (day_check.calls k a0 a1 a2 (some q109) _ A4.out).mono ?_); rintro e w' ⟨rfl, ⟨nd, rfl⟩⟩; refine ⟨_, rfl, ?_⟩; (try simp only [errW_none, errW_some])))
    go_ret2
    exact ⟨by first | rfl | (simp; done) | (simp [*]; done), by repeat (first | exact Drawn0.refl _ | apply Drawn0.step)⟩

/-! ### horologelaw05_alive: function 8 -/
def horologelaw05_alive.f (k : Nat)  : Option (Bool) := (day_Of.f k 2000 3 1).bind fun bt111 => (if bt111.2.isNone = true then (if bt111.1 = 11017 then ((day_Weekday.f bt111.1).bind fun t114 => (some (t114 == 3))) else (some false)) else (some false))
theorem horologelaw05_alive.mono : ∀ k, LeO (horologelaw05_alive.f k ) (horologelaw05_alive.f (k + 1) ) := by
  intro  k
  unfold horologelaw05_alive.f
  repeat' first
      | (with_reducible exact day_Of.mono _ _ _ _)
      | (with_reducible exact LeO.refl _)
      | (with_reducible exact LeO.none _)
      | (with_reducible refine LeO.ite ?_ ?_)
      | (with_reducible refine LeO.bind ?_ (fun _ => ?_))
      | exact day_Of.mono _ _ _ _
      | exact LeO.none _
      | refine LeO.ite ?_ ?_
      | refine LeO.bind ?_ (fun _ => ?_)
set_option maxHeartbeats 8000000 in
set_option maxRecDepth 100000 in
theorem horologelaw05_alive.calls (k : Nat)  (r : Bool) (w : World) (h : horologelaw05_alive.f k  = some r) :
    Calls Try.prog 8 #[] w fun e w' => e = .returned (.bool r) ∧ Drawn0 w w' := by
  have hu27 := Try.underlying27
  have hu38 := Try.underlying38
  have H : ((day_Of.f k 2000 3 1).bind fun bt111 => (if bt111.2.isNone = true then (if bt111.1 = 11017 then ((day_Weekday.f bt111.1).bind fun t114 => (some (t114 == 3))) else (some false)) else (some false))) = some r := h
  clear h
  replace H := Option.bind_eq_some_iff.mp H
  obtain ⟨⟨t111, t112⟩, A10, H⟩ := H
  replace H : (if t112.isNone = true then (if t111 = 11017 then ((day_Weekday.f t111).bind fun t114 => (some (t114 == 3))) else (some false)) else (some false)) = some r := H
  have A1 := Aside0.mk A10
  clear A10
  rcases t112 with _ | q113
  · have H1 : (if t111 = 11017 then ((day_Weekday.f t111).bind fun t114 => (some (t114 == 3))) else (some false)) = some r := by rw [if_pos (show (none : Option Int).isNone = true by rfl)] at H; exact H
    clear H
    have H := H1
    clear H1
    try simp only [errW_none, errW_some]
    by_cases c2 : t111 = 11017
    · rw [if_pos c2] at H
      have c2b0 : (t111 == 11017) = true := beq_iff_eq.mpr c2
      have c2b1 : (t111 != 11017) = false := bne_eq_false_iff_eq.mpr c2
      clear c2
      replace H := Option.bind_eq_some_iff.mp H
      obtain ⟨t114, A30, H⟩ := H
      replace H : (some (t114 == 3)) = some r := H
      have A3 := Aside0.mk A30
      clear A30
      obtain rfl := Option.some.inj H
      go_enter Try.func8, Try.ntmps8
      go_wp2_with (first | ((with_reducible refine gate_callee (f := 10) rfl ?_); refine goesL_ (some 4) rfl rfl Try.func10 (by kernel_rfl) rfl #[.int .i64 2000, .int .i64 3, .int .i64 1] rfl (by (try simp only [List.map_toArray, List.map_cons, List.map_nil]); first | done | rfl | (simp only [List.length_drop, List.length_take]; rfl) | (refine congrArg (fun z_ => #[Value.int IntKind.i64 z_]) (?_ : Go.RowKit.wrap64 (IntKind.u8.wrap _) = _); rw [IntKind.wrap_u8]; unfold Go.RowKit.wrap64; omega)) ?_; (with_reducible refine (day_Of.calls k 2000 3 1 t111 none _ A1.out).mono ?_); rintro e w' ⟨rfl, ⟨nd, rfl⟩⟩; refine ⟨_, rfl, ?_⟩; (try simp only [errW_none, errW_some])) | (go_at_call 9; (with_reducible refine (day_Weekday.calls t111 t114 _ A3.out).mono ?_); rintro e w' ⟨rfl, ⟨nd, rfl⟩⟩))
      go_ret
      exact ⟨by first | rfl | (simp; done) | (simp [*]; done), by repeat (first | exact Drawn0.refl _ | apply Drawn0.step)⟩
    · rw [if_neg c2] at H
      have c2b0 : (t111 == 11017) = false := beq_eq_false_iff_ne.mpr c2
      have c2b1 : (t111 != 11017) = true := bne_iff_ne.mpr c2
      obtain rfl := Option.some.inj H
      go_enter Try.func8, Try.ntmps8
      go_wp2_with (first | ((with_reducible refine gate_callee (f := 10) rfl ?_); refine goesL_ (some 4) rfl rfl Try.func10 (by kernel_rfl) rfl #[.int .i64 2000, .int .i64 3, .int .i64 1] rfl (by (try simp only [List.map_toArray, List.map_cons, List.map_nil]); first | done | rfl | (simp only [List.length_drop, List.length_take]; rfl) | (refine congrArg (fun z_ => #[Value.int IntKind.i64 z_]) (?_ : Go.RowKit.wrap64 (IntKind.u8.wrap _) = _); rw [IntKind.wrap_u8]; unfold Go.RowKit.wrap64; omega)) ?_; (with_reducible refine (day_Of.calls k 2000 3 1 t111 none _ A1.out).mono ?_); rintro e w' ⟨rfl, ⟨nd, rfl⟩⟩; refine ⟨_, rfl, ?_⟩; (try simp only [errW_none, errW_some])))
      go_ret
      exact ⟨by first | rfl | (simp; done) | (simp [*]; done), by repeat (first | exact Drawn0.refl _ | apply Drawn0.step)⟩
  · have H1 : (some false) = some r := by rw [if_neg (show ¬ (some q113).isNone = true by simp)] at H; exact H
    clear H
    have H := H1
    clear H1
    try simp only [errW_none, errW_some]
    obtain rfl := Option.some.inj H
    go_enter Try.func8, Try.ntmps8
    go_wp2_with (first | ((with_reducible refine gate_callee (f := 10) rfl ?_); refine goesL_ (some 4) rfl rfl Try.func10 (by kernel_rfl) rfl #[.int .i64 2000, .int .i64 3, .int .i64 1] rfl (by (try simp only [List.map_toArray, List.map_cons, List.map_nil]); first | done | rfl | (simp only [List.length_drop, List.length_take]; rfl) | (refine congrArg (fun z_ => #[Value.int IntKind.i64 z_]) (?_ : Go.RowKit.wrap64 (IntKind.u8.wrap _) = _); rw [IntKind.wrap_u8]; unfold Go.RowKit.wrap64; omega)) ?_; (with_reducible refine (day_Of.calls k 2000 3 1 t111 (some q113) _ A1.out).mono ?_); rintro e w' ⟨rfl, ⟨nd, rfl⟩⟩; refine ⟨_, rfl, ?_⟩; (try simp only [errW_none, errW_some])))
    go_ret
    exact ⟨by first | rfl | (simp; done) | (simp [*]; done), by repeat (first | exact Drawn0.refl _ | apply Drawn0.step)⟩

/-! ### day_First: function 25 -/
def day_First.f  : Option (Int) := (day_number.f (-9999) 1 1).bind fun t115 => (some t115)
set_option maxHeartbeats 8000000 in
set_option maxRecDepth 100000 in
theorem day_First.calls  (r : Int) (w : World) (h : day_First.f  = some r) :
    Calls Try.prog 25 #[] w fun e w' => e = .returned (.int .i64 r) ∧ Drawn0 w w' := by
  have H : ((day_number.f (-9999) 1 1).bind fun t115 => (some t115)) = some r := h
  clear h
  replace H := Option.bind_eq_some_iff.mp H
  obtain ⟨t115, A10, H⟩ := H
  replace H : (some t115) = some r := H
  have A1 := Aside0.mk A10
  clear A10
  obtain rfl := Option.some.inj H
  go_enter Try.func25, Try.ntmps25
  go_wp2_with (first | ((with_reducible refine gate_callee (f := 35) rfl ?_); refine goesL_ (some 1) rfl rfl Try.func35 (by kernel_rfl) rfl #[.int .i64 (-9999), .int .i64 1, .int .i64 1] rfl (by (try simp only [List.map_toArray, List.map_cons, List.map_nil]); first | done | rfl | (simp only [List.length_drop, List.length_take]; rfl) | (refine congrArg (fun z_ => #[Value.int IntKind.i64 z_]) (?_ : Go.RowKit.wrap64 (IntKind.u8.wrap _) = _); rw [IntKind.wrap_u8]; unfold Go.RowKit.wrap64; omega)) ?_; (with_reducible refine (day_number.calls (-9999) 1 1 t115 _ A1.out).mono ?_); rintro e w' ⟨rfl, ⟨nd, rfl⟩⟩; refine ⟨_, rfl, ?_⟩))
  go_ret
  exact ⟨by first | rfl | (simp; done) | (simp [*]; done), by repeat (first | exact Drawn0.refl _ | apply Drawn0.step)⟩

/-! ### day_Last: function 27 -/
def day_Last.f  : Option (Int) := (day_number.f 9999 12 31).bind fun t116 => (some t116)
set_option maxHeartbeats 8000000 in
set_option maxRecDepth 100000 in
theorem day_Last.calls  (r : Int) (w : World) (h : day_Last.f  = some r) :
    Calls Try.prog 27 #[] w fun e w' => e = .returned (.int .i64 r) ∧ Drawn0 w w' := by
  have H : ((day_number.f 9999 12 31).bind fun t116 => (some t116)) = some r := h
  clear h
  replace H := Option.bind_eq_some_iff.mp H
  obtain ⟨t116, A10, H⟩ := H
  replace H : (some t116) = some r := H
  have A1 := Aside0.mk A10
  clear A10
  obtain rfl := Option.some.inj H
  go_enter Try.func27, Try.ntmps27
  go_wp2_with (first | ((with_reducible refine gate_callee (f := 35) rfl ?_); refine goesL_ (some 1) rfl rfl Try.func35 (by kernel_rfl) rfl #[.int .i64 9999, .int .i64 12, .int .i64 31] rfl (by (try simp only [List.map_toArray, List.map_cons, List.map_nil]); first | done | rfl | (simp only [List.length_drop, List.length_take]; rfl) | (refine congrArg (fun z_ => #[Value.int IntKind.i64 z_]) (?_ : Go.RowKit.wrap64 (IntKind.u8.wrap _) = _); rw [IntKind.wrap_u8]; unfold Go.RowKit.wrap64; omega)) ?_; (with_reducible refine (day_number.calls 9999 12 31 t116 _ A1.out).mono ?_); rintro e w' ⟨rfl, ⟨nd, rfl⟩⟩; refine ⟨_, rfl, ?_⟩))
  go_ret
  exact ⟨by first | rfl | (simp; done) | (simp [*]; done), by repeat (first | exact Drawn0.refl _ | apply Drawn0.step)⟩

/-! ### day_Date: function 24 -/
def day_Date.j0 : Nat → Int → Bool → Option (Int × Int × Int × Option Int)
  | 0, _, _ => none
  | k + 1, x0, x20 => if x20 = true then (some (0, 0, 0, some 13)) else ((day_floor.f (wrap64 (x0 + 719468)) 146097).bind fun t119 => (if (wrap64 ((wrap64 (Int.tdiv (wrap64 ((wrap64 (5 * (wrap64 ((wrap64 ((wrap64 (x0 + 719468)) - (wrap64 (t119 * 146097)))) - (wrap64 ((wrap64 ((wrap64 (365 * (wrap64 (Int.tdiv (wrap64 ((wrap64 ((wrap64 ((wrap64 ((wrap64 (x0 + 719468)) - (wrap64 (t119 * 146097)))) - (wrap64 (Int.tdiv (wrap64 ((wrap64 (x0 + 719468)) - (wrap64 (t119 * 146097)))) 1460)))) + (wrap64 (Int.tdiv (wrap64 ((wrap64 (x0 + 719468)) - (wrap64 (t119 * 146097)))) 36524)))) - (wrap64 (Int.tdiv (wrap64 ((wrap64 (x0 + 719468)) - (wrap64 (t119 * 146097)))) 146096)))) 365)))) + (wrap64 (Int.tdiv (wrap64 (Int.tdiv (wrap64 ((wrap64 ((wrap64 ((wrap64 ((wrap64 (x0 + 719468)) - (wrap64 (t119 * 146097)))) - (wrap64 (Int.tdiv (wrap64 ((wrap64 (x0 + 719468)) - (wrap64 (t119 * 146097)))) 1460)))) + (wrap64 (Int.tdiv (wrap64 ((wrap64 (x0 + 719468)) - (wrap64 (t119 * 146097)))) 36524)))) - (wrap64 (Int.tdiv (wrap64 ((wrap64 (x0 + 719468)) - (wrap64 (t119 * 146097)))) 146096)))) 365)) 4)))) - (wrap64 (Int.tdiv (wrap64 (Int.tdiv (wrap64 ((wrap64 ((wrap64 ((wrap64 ((wrap64 (x0 + 719468)) - (wrap64 (t119 * 146097)))) - (wrap64 (Int.tdiv (wrap64 ((wrap64 (x0 + 719468)) - (wrap64 (t119 * 146097)))) 1460)))) + (wrap64 (Int.tdiv (wrap64 ((wrap64 (x0 + 719468)) - (wrap64 (t119 * 146097)))) 36524)))) - (wrap64 (Int.tdiv (wrap64 ((wrap64 (x0 + 719468)) - (wrap64 (t119 * 146097)))) 146096)))) 365)) 100)))))))) + 2)) 153)) + 3)) > 12 then (some (wrap64 ((wrap64 ((wrap64 (Int.tdiv (wrap64 ((wrap64 ((wrap64 ((wrap64 ((wrap64 (x0 + 719468)) - (wrap64 (t119 * 146097)))) - (wrap64 (Int.tdiv (wrap64 ((wrap64 (x0 + 719468)) - (wrap64 (t119 * 146097)))) 1460)))) + (wrap64 (Int.tdiv (wrap64 ((wrap64 (x0 + 719468)) - (wrap64 (t119 * 146097)))) 36524)))) - (wrap64 (Int.tdiv (wrap64 ((wrap64 (x0 + 719468)) - (wrap64 (t119 * 146097)))) 146096)))) 365)) + (wrap64 (t119 * 400)))) + 1), wrap64 ((wrap64 ((wrap64 (Int.tdiv (wrap64 ((wrap64 (5 * (wrap64 ((wrap64 ((wrap64 (x0 + 719468)) - (wrap64 (t119 * 146097)))) - (wrap64 ((wrap64 ((wrap64 (365 * (wrap64 (Int.tdiv (wrap64 ((wrap64 ((wrap64 ((wrap64 ((wrap64 (x0 + 719468)) - (wrap64 (t119 * 146097)))) - (wrap64 (Int.tdiv (wrap64 ((wrap64 (x0 + 719468)) - (wrap64 (t119 * 146097)))) 1460)))) + (wrap64 (Int.tdiv (wrap64 ((wrap64 (x0 + 719468)) - (wrap64 (t119 * 146097)))) 36524)))) - (wrap64 (Int.tdiv (wrap64 ((wrap64 (x0 + 719468)) - (wrap64 (t119 * 146097)))) 146096)))) 365)))) + (wrap64 (Int.tdiv (wrap64 (Int.tdiv (wrap64 ((wrap64 ((wrap64 ((wrap64 ((wrap64 (x0 + 719468)) - (wrap64 (t119 * 146097)))) - (wrap64 (Int.tdiv (wrap64 ((wrap64 (x0 + 719468)) - (wrap64 (t119 * 146097)))) 1460)))) + (wrap64 (Int.tdiv (wrap64 ((wrap64 (x0 + 719468)) - (wrap64 (t119 * 146097)))) 36524)))) - (wrap64 (Int.tdiv (wrap64 ((wrap64 (x0 + 719468)) - (wrap64 (t119 * 146097)))) 146096)))) 365)) 4)))) - (wrap64 (Int.tdiv (wrap64 (Int.tdiv (wrap64 ((wrap64 ((wrap64 ((wrap64 ((wrap64 (x0 + 719468)) - (wrap64 (t119 * 146097)))) - (wrap64 (Int.tdiv (wrap64 ((wrap64 (x0 + 719468)) - (wrap64 (t119 * 146097)))) 1460)))) + (wrap64 (Int.tdiv (wrap64 ((wrap64 (x0 + 719468)) - (wrap64 (t119 * 146097)))) 36524)))) - (wrap64 (Int.tdiv (wrap64 ((wrap64 (x0 + 719468)) - (wrap64 (t119 * 146097)))) 146096)))) 365)) 100)))))))) + 2)) 153)) + 3)) - 12), wrap64 ((wrap64 ((wrap64 ((wrap64 ((wrap64 (x0 + 719468)) - (wrap64 (t119 * 146097)))) - (wrap64 ((wrap64 ((wrap64 (365 * (wrap64 (Int.tdiv (wrap64 ((wrap64 ((wrap64 ((wrap64 ((wrap64 (x0 + 719468)) - (wrap64 (t119 * 146097)))) - (wrap64 (Int.tdiv (wrap64 ((wrap64 (x0 + 719468)) - (wrap64 (t119 * 146097)))) 1460)))) + (wrap64 (Int.tdiv (wrap64 ((wrap64 (x0 + 719468)) - (wrap64 (t119 * 146097)))) 36524)))) - (wrap64 (Int.tdiv (wrap64 ((wrap64 (x0 + 719468)) - (wrap64 (t119 * 146097)))) 146096)))) 365)))) + (wrap64 (Int.tdiv (wrap64 (Int.tdiv (wrap64 ((wrap64 ((wrap64 ((wrap64 ((wrap64 (x0 + 719468)) - (wrap64 (t119 * 146097)))) - (wrap64 (Int.tdiv (wrap64 ((wrap64 (x0 + 719468)) - (wrap64 (t119 * 146097)))) 1460)))) + (wrap64 (Int.tdiv (wrap64 ((wrap64 (x0 + 719468)) - (wrap64 (t119 * 146097)))) 36524)))) - (wrap64 (Int.tdiv (wrap64 ((wrap64 (x0 + 719468)) - (wrap64 (t119 * 146097)))) 146096)))) 365)) 4)))) - (wrap64 (Int.tdiv (wrap64 (Int.tdiv (wrap64 ((wrap64 ((wrap64 ((wrap64 ((wrap64 (x0 + 719468)) - (wrap64 (t119 * 146097)))) - (wrap64 (Int.tdiv (wrap64 ((wrap64 (x0 + 719468)) - (wrap64 (t119 * 146097)))) 1460)))) + (wrap64 (Int.tdiv (wrap64 ((wrap64 (x0 + 719468)) - (wrap64 (t119 * 146097)))) 36524)))) - (wrap64 (Int.tdiv (wrap64 ((wrap64 (x0 + 719468)) - (wrap64 (t119 * 146097)))) 146096)))) 365)) 100)))))) - (wrap64 (Int.tdiv (wrap64 ((wrap64 (153 * (wrap64 (Int.tdiv (wrap64 ((wrap64 (5 * (wrap64 ((wrap64 ((wrap64 (x0 + 719468)) - (wrap64 (t119 * 146097)))) - (wrap64 ((wrap64 ((wrap64 (365 * (wrap64 (Int.tdiv (wrap64 ((wrap64 ((wrap64 ((wrap64 ((wrap64 (x0 + 719468)) - (wrap64 (t119 * 146097)))) - (wrap64 (Int.tdiv (wrap64 ((wrap64 (x0 + 719468)) - (wrap64 (t119 * 146097)))) 1460)))) + (wrap64 (Int.tdiv (wrap64 ((wrap64 (x0 + 719468)) - (wrap64 (t119 * 146097)))) 36524)))) - (wrap64 (Int.tdiv (wrap64 ((wrap64 (x0 + 719468)) - (wrap64 (t119 * 146097)))) 146096)))) 365)))) + (wrap64 (Int.tdiv (wrap64 (Int.tdiv (wrap64 ((wrap64 ((wrap64 ((wrap64 ((wrap64 (x0 + 719468)) - (wrap64 (t119 * 146097)))) - (wrap64 (Int.tdiv (wrap64 ((wrap64 (x0 + 719468)) - (wrap64 (t119 * 146097)))) 1460)))) + (wrap64 (Int.tdiv (wrap64 ((wrap64 (x0 + 719468)) - (wrap64 (t119 * 146097)))) 36524)))) - (wrap64 (Int.tdiv (wrap64 ((wrap64 (x0 + 719468)) - (wrap64 (t119 * 146097)))) 146096)))) 365)) 4)))) - (wrap64 (Int.tdiv (wrap64 (Int.tdiv (wrap64 ((wrap64 ((wrap64 ((wrap64 ((wrap64 (x0 + 719468)) - (wrap64 (t119 * 146097)))) - (wrap64 (Int.tdiv (wrap64 ((wrap64 (x0 + 719468)) - (wrap64 (t119 * 146097)))) 1460)))) + (wrap64 (Int.tdiv (wrap64 ((wrap64 (x0 + 719468)) - (wrap64 (t119 * 146097)))) 36524)))) - (wrap64 (Int.tdiv (wrap64 ((wrap64 (x0 + 719468)) - (wrap64 (t119 * 146097)))) 146096)))) 365)) 100)))))))) + 2)) 153)))) + 2)) 5)))) + 1), none)) else (some (wrap64 ((wrap64 (Int.tdiv (wrap64 ((wrap64 ((wrap64 ((wrap64 ((wrap64 (x0 + 719468)) - (wrap64 (t119 * 146097)))) - (wrap64 (Int.tdiv (wrap64 ((wrap64 (x0 + 719468)) - (wrap64 (t119 * 146097)))) 1460)))) + (wrap64 (Int.tdiv (wrap64 ((wrap64 (x0 + 719468)) - (wrap64 (t119 * 146097)))) 36524)))) - (wrap64 (Int.tdiv (wrap64 ((wrap64 (x0 + 719468)) - (wrap64 (t119 * 146097)))) 146096)))) 365)) + (wrap64 (t119 * 400))), wrap64 ((wrap64 (Int.tdiv (wrap64 ((wrap64 (5 * (wrap64 ((wrap64 ((wrap64 (x0 + 719468)) - (wrap64 (t119 * 146097)))) - (wrap64 ((wrap64 ((wrap64 (365 * (wrap64 (Int.tdiv (wrap64 ((wrap64 ((wrap64 ((wrap64 ((wrap64 (x0 + 719468)) - (wrap64 (t119 * 146097)))) - (wrap64 (Int.tdiv (wrap64 ((wrap64 (x0 + 719468)) - (wrap64 (t119 * 146097)))) 1460)))) + (wrap64 (Int.tdiv (wrap64 ((wrap64 (x0 + 719468)) - (wrap64 (t119 * 146097)))) 36524)))) - (wrap64 (Int.tdiv (wrap64 ((wrap64 (x0 + 719468)) - (wrap64 (t119 * 146097)))) 146096)))) 365)))) + (wrap64 (Int.tdiv (wrap64 (Int.tdiv (wrap64 ((wrap64 ((wrap64 ((wrap64 ((wrap64 (x0 + 719468)) - (wrap64 (t119 * 146097)))) - (wrap64 (Int.tdiv (wrap64 ((wrap64 (x0 + 719468)) - (wrap64 (t119 * 146097)))) 1460)))) + (wrap64 (Int.tdiv (wrap64 ((wrap64 (x0 + 719468)) - (wrap64 (t119 * 146097)))) 36524)))) - (wrap64 (Int.tdiv (wrap64 ((wrap64 (x0 + 719468)) - (wrap64 (t119 * 146097)))) 146096)))) 365)) 4)))) - (wrap64 (Int.tdiv (wrap64 (Int.tdiv (wrap64 ((wrap64 ((wrap64 ((wrap64 ((wrap64 (x0 + 719468)) - (wrap64 (t119 * 146097)))) - (wrap64 (Int.tdiv (wrap64 ((wrap64 (x0 + 719468)) - (wrap64 (t119 * 146097)))) 1460)))) + (wrap64 (Int.tdiv (wrap64 ((wrap64 (x0 + 719468)) - (wrap64 (t119 * 146097)))) 36524)))) - (wrap64 (Int.tdiv (wrap64 ((wrap64 (x0 + 719468)) - (wrap64 (t119 * 146097)))) 146096)))) 365)) 100)))))))) + 2)) 153)) + 3), wrap64 ((wrap64 ((wrap64 ((wrap64 ((wrap64 (x0 + 719468)) - (wrap64 (t119 * 146097)))) - (wrap64 ((wrap64 ((wrap64 (365 * (wrap64 (Int.tdiv (wrap64 ((wrap64 ((wrap64 ((wrap64 ((wrap64 (x0 + 719468)) - (wrap64 (t119 * 146097)))) - (wrap64 (Int.tdiv (wrap64 ((wrap64 (x0 + 719468)) - (wrap64 (t119 * 146097)))) 1460)))) + (wrap64 (Int.tdiv (wrap64 ((wrap64 (x0 + 719468)) - (wrap64 (t119 * 146097)))) 36524)))) - (wrap64 (Int.tdiv (wrap64 ((wrap64 (x0 + 719468)) - (wrap64 (t119 * 146097)))) 146096)))) 365)))) + (wrap64 (Int.tdiv (wrap64 (Int.tdiv (wrap64 ((wrap64 ((wrap64 ((wrap64 ((wrap64 (x0 + 719468)) - (wrap64 (t119 * 146097)))) - (wrap64 (Int.tdiv (wrap64 ((wrap64 (x0 + 719468)) - (wrap64 (t119 * 146097)))) 1460)))) + (wrap64 (Int.tdiv (wrap64 ((wrap64 (x0 + 719468)) - (wrap64 (t119 * 146097)))) 36524)))) - (wrap64 (Int.tdiv (wrap64 ((wrap64 (x0 + 719468)) - (wrap64 (t119 * 146097)))) 146096)))) 365)) 4)))) - (wrap64 (Int.tdiv (wrap64 (Int.tdiv (wrap64 ((wrap64 ((wrap64 ((wrap64 ((wrap64 (x0 + 719468)) - (wrap64 (t119 * 146097)))) - (wrap64 (Int.tdiv (wrap64 ((wrap64 (x0 + 719468)) - (wrap64 (t119 * 146097)))) 1460)))) + (wrap64 (Int.tdiv (wrap64 ((wrap64 (x0 + 719468)) - (wrap64 (t119 * 146097)))) 36524)))) - (wrap64 (Int.tdiv (wrap64 ((wrap64 (x0 + 719468)) - (wrap64 (t119 * 146097)))) 146096)))) 365)) 100)))))) - (wrap64 (Int.tdiv (wrap64 ((wrap64 (153 * (wrap64 (Int.tdiv (wrap64 ((wrap64 (5 * (wrap64 ((wrap64 ((wrap64 (x0 + 719468)) - (wrap64 (t119 * 146097)))) - (wrap64 ((wrap64 ((wrap64 (365 * (wrap64 (Int.tdiv (wrap64 ((wrap64 ((wrap64 ((wrap64 ((wrap64 (x0 + 719468)) - (wrap64 (t119 * 146097)))) - (wrap64 (Int.tdiv (wrap64 ((wrap64 (x0 + 719468)) - (wrap64 (t119 * 146097)))) 1460)))) + (wrap64 (Int.tdiv (wrap64 ((wrap64 (x0 + 719468)) - (wrap64 (t119 * 146097)))) 36524)))) - (wrap64 (Int.tdiv (wrap64 ((wrap64 (x0 + 719468)) - (wrap64 (t119 * 146097)))) 146096)))) 365)))) + (wrap64 (Int.tdiv (wrap64 (Int.tdiv (wrap64 ((wrap64 ((wrap64 ((wrap64 ((wrap64 (x0 + 719468)) - (wrap64 (t119 * 146097)))) - (wrap64 (Int.tdiv (wrap64 ((wrap64 (x0 + 719468)) - (wrap64 (t119 * 146097)))) 1460)))) + (wrap64 (Int.tdiv (wrap64 ((wrap64 (x0 + 719468)) - (wrap64 (t119 * 146097)))) 36524)))) - (wrap64 (Int.tdiv (wrap64 ((wrap64 (x0 + 719468)) - (wrap64 (t119 * 146097)))) 146096)))) 365)) 4)))) - (wrap64 (Int.tdiv (wrap64 (Int.tdiv (wrap64 ((wrap64 ((wrap64 ((wrap64 ((wrap64 (x0 + 719468)) - (wrap64 (t119 * 146097)))) - (wrap64 (Int.tdiv (wrap64 ((wrap64 (x0 + 719468)) - (wrap64 (t119 * 146097)))) 1460)))) + (wrap64 (Int.tdiv (wrap64 ((wrap64 (x0 + 719468)) - (wrap64 (t119 * 146097)))) 36524)))) - (wrap64 (Int.tdiv (wrap64 ((wrap64 (x0 + 719468)) - (wrap64 (t119 * 146097)))) 146096)))) 365)) 100)))))))) + 2)) 153)))) + 2)) 5)))) + 1), none))))
def day_Date.f (k : Nat) (a0 : Int) : Option (Int × Int × Int × Option Int) := (day_First.f).bind fun t117 => (if a0 < t117 then (day_Date.j0 k a0 true) else ((day_Last.f).bind fun t118 => (day_Date.j0 k a0 (decide (a0 > t118)))))
theorem day_Date.mono_l : ∀ k, (∀ y0 y1, LeO (day_Date.j0 k y0 y1) (day_Date.j0 (k + 1) y0 y1))
  | 0 => fun _ _ r h => by simp [day_Date.j0] at h
  | k + 1 => by
    have ih0 := day_Date.mono_l k
    · intro y0 y1
      unfold day_Date.j0
      repeat' first
      | (with_reducible exact ih0 _ _)
      | (with_reducible exact LeO.refl _)
      | (with_reducible exact LeO.none _)
      | (with_reducible refine LeO.ite ?_ ?_)
      | (with_reducible refine LeO.bind ?_ (fun _ => ?_))
      | exact ih0 _ _
      | exact LeO.none _
      | refine LeO.ite ?_ ?_
      | refine LeO.bind ?_ (fun _ => ?_)
theorem day_Date.mono : ∀ a0 k, LeO (day_Date.f k a0) (day_Date.f (k + 1) a0) := by
  intro a0 k
  have ih0 := day_Date.mono_l k
  unfold day_Date.f
  repeat' first
      | (with_reducible exact ih0 _ _)
      | (with_reducible exact LeO.refl _)
      | (with_reducible exact LeO.none _)
      | (with_reducible refine LeO.ite ?_ ?_)
      | (with_reducible refine LeO.bind ?_ (fun _ => ?_))
      | exact ih0 _ _
      | exact LeO.none _
      | refine LeO.ite ?_ ?_
      | refine LeO.bind ?_ (fun _ => ?_)
set_option maxHeartbeats 8000000 in
set_option maxRecDepth 100000 in
theorem day_Date.calls (k : Nat) (a0 : Int) (r1 : Int) (r2 : Int) (r3 : Int) (r4 : Option Int) (w : World) (h : day_Date.f k a0 = some (r1, r2, r3, r4)) :
    Calls Try.prog 24 #[.int .i64 a0] w fun e w' => e = .returned (.tuple #[.int .i64 r1, .int .i64 r2, .int .i64 r3, errW r4]) ∧ Drawn0 w w' := by
  have hu27 := Try.underlying27
  have hu38 := Try.underlying38
  have H : ((day_First.f).bind fun t117 => (if a0 < t117 then (day_Date.j0 k a0 true) else ((day_Last.f).bind fun t118 => (day_Date.j0 k a0 (decide (a0 > t118)))))) = some (r1, r2, r3, r4) := h
  clear h
  have HC2 := Aside0.mk H
  clear H
  go_enter Try.func24, Try.ntmps24
  go_upto_region 1 with (fail)
  go_cut [20] (fun v20 wc => ∃ (kq : Nat) (x20_1 : Bool), v20 = .bool x20_1 ∧ Aside0 (day_Date.j0 kq a0 x20_1 = some (r1, r2, r3, r4)) ∧ Aside0 (kq ≤ k) ∧ Drawn0 w wc)
  case first =>
    have H := HC2.out
    clear HC2
    replace H := Option.bind_eq_some_iff.mp H
    obtain ⟨t117, A30, H⟩ := H
    replace H : (if a0 < t117 then (day_Date.j0 k a0 true) else ((day_Last.f).bind fun t118 => (day_Date.j0 k a0 (decide (a0 > t118))))) = some (r1, r2, r3, r4) := H
    have A3 := Aside0.mk A30
    clear A30
    by_cases c4 : a0 < t117
    · rw [if_pos c4] at H
      have c4b0 : decide (a0 < t117) = true := decide_eq_true c4
      clear c4
      (first | rw [c4b0] | (simp only [i64_w, i32_w]; rw [c4b0]) | skip)
      have H' := Aside0.mk H
      clear H
      go_wp2_with (first | ((with_reducible refine gate_callee (f := 25) rfl ?_); refine goesL_ (some 14) rfl rfl Try.func25 (by kernel_rfl) rfl #[] rfl (by (try simp only [List.map_toArray, List.map_cons, List.map_nil]); first | done | rfl | (simp only [List.length_drop, List.length_take]; rfl) | (refine congrArg (fun z_ => #[Value.int IntKind.i64 z_]) (?_ : Go.RowKit.wrap64 (IntKind.u8.wrap _) = _); rw [IntKind.wrap_u8]; unfold Go.RowKit.wrap64; omega)) ?_; (with_reducible refine (day_First.calls  t117 _ A3.out).mono ?_); rintro e w' ⟨rfl, ⟨nd, rfl⟩⟩; refine ⟨_, rfl, ?_⟩))
      go_meet
      case rel => exact ⟨_, (true), (by first | rfl | (simp; done) | (simp [*]; done)), H', ⟨by first | omega | exact Nat.le_refl _⟩, by repeat (first | exact Drawn0.refl _ | apply Drawn0.step)⟩
    · rw [if_neg c4] at H
      have c4b0 : decide (a0 < t117) = false := decide_eq_false c4
      clear c4
      (first | rw [c4b0] | (simp only [i64_w, i32_w]; rw [c4b0]) | skip)
      replace H := Option.bind_eq_some_iff.mp H
      obtain ⟨t118, A50, H⟩ := H
      replace H : (day_Date.j0 k a0 (decide (a0 > t118))) = some (r1, r2, r3, r4) := H
      have A5 := Aside0.mk A50
      clear A50
      have H' := Aside0.mk H
      clear H
      go_wp2_with (first | ((with_reducible refine gate_callee (f := 25) rfl ?_); refine goesL_ (some 14) rfl rfl Try.func25 (by kernel_rfl) rfl #[] rfl (by (try simp only [List.map_toArray, List.map_cons, List.map_nil]); first | done | rfl | (simp only [List.length_drop, List.length_take]; rfl) | (refine congrArg (fun z_ => #[Value.int IntKind.i64 z_]) (?_ : Go.RowKit.wrap64 (IntKind.u8.wrap _) = _); rw [IntKind.wrap_u8]; unfold Go.RowKit.wrap64; omega)) ?_; (with_reducible refine (day_First.calls  t117 _ A3.out).mono ?_); rintro e w' ⟨rfl, ⟨nd, rfl⟩⟩; refine ⟨_, rfl, ?_⟩) | (go_at_call 27; (with_reducible refine (day_Last.calls  t118 _ A5.out).mono ?_); rintro e w' ⟨rfl, ⟨nd, rfl⟩⟩))
      go_meet
      case rel => exact ⟨_, (decide (a0 > t118)), (by first | rfl | (simp; done) | (simp [*]; done)), H', ⟨by first | omega | exact Nat.le_refl _⟩, by repeat (first | exact Drawn0.refl _ | apply Drawn0.step)⟩
  case rest =>
    clear HC2
    try clear c2
    try clear p2
    try clear c4
    try clear c4b0
    obtain ⟨kq, x20_1, rfl, HA, HJ1, ⟨mc1, rfl⟩⟩ := hcut
    cases kq with
    | zero => exact absurd HA.out (by simp [day_Date.j0])
    | succ kj1 =>
      have H := HA.out
      clear HA
      simp only [day_Date.j0] at H
      by_cases c6 : x20_1 = true
      · subst c6
        have H1 : (some (0, 0, 0, some 13)) = some (r1, r2, r3, r4) := by rw [if_pos rfl] at H; exact H
        clear H
        have H := H1
        clear H1
        simp only [Option.some.injEq, Prod.mk.injEq] at H
        obtain ⟨rfl, rfl, rfl, rfl⟩ := H
        go_wp2
        refine bodyPost_ret (results_list (rs := [.tmp 2, .tmp 3, .tmp 4, .tmp 5]) rfl (by simp) (.tmp (.tmp (.tmp (.tmp .nil))))) rfl ?_
        exact ⟨by first | rfl | (simp; done) | (simp [*]; done), by repeat (first | exact Drawn0.refl _ | apply Drawn0.step)⟩
      · replace c6 := Bool.eq_false_iff.mpr c6
        subst c6
        have H1 : ((day_floor.f (wrap64 (a0 + 719468)) 146097).bind fun t119 => (if (wrap64 ((wrap64 (Int.tdiv (wrap64 ((wrap64 (5 * (wrap64 ((wrap64 ((wrap64 (a0 + 719468)) - (wrap64 (t119 * 146097)))) - (wrap64 ((wrap64 ((wrap64 (365 * (wrap64 (Int.tdiv (wrap64 ((wrap64 ((wrap64 ((wrap64 ((wrap64 (a0 + 719468)) - (wrap64 (t119 * 146097)))) - (wrap64 (Int.tdiv (wrap64 ((wrap64 (a0 + 719468)) - (wrap64 (t119 * 146097)))) 1460)))) + (wrap64 (Int.tdiv (wrap64 ((wrap64 (a0 + 719468)) - (wrap64 (t119 * 146097)))) 36524)))) - (wrap64 (Int.tdiv (wrap64 ((wrap64 (a0 + 719468)) - (wrap64 (t119 * 146097)))) 146096)))) 365)))) + (wrap64 (Int.tdiv (wrap64 (Int.tdiv (wrap64 ((wrap64 ((wrap64 ((wrap64 ((wrap64 (a0 + 719468)) - (wrap64 (t119 * 146097)))) - (wrap64 (Int.tdiv (wrap64 ((wrap64 (a0 + 719468)) - (wrap64 (t119 * 146097)))) 1460)))) + (wrap64 (Int.tdiv (wrap64 ((wrap64 (a0 + 719468)) - (wrap64 (t119 * 146097)))) 36524)))) - (wrap64 (Int.tdiv (wrap64 ((wrap64 (a0 + 719468)) - (wrap64 (t119 * 146097)))) 146096)))) 365)) 4)))) - (wrap64 (Int.tdiv (wrap64 (Int.tdiv (wrap64 ((wrap64 ((wrap64 ((wrap64 ((wrap64 (a0 + 719468)) - (wrap64 (t119 * 146097)))) - (wrap64 (Int.tdiv (wrap64 ((wrap64 (a0 + 719468)) - (wrap64 (t119 * 146097)))) 1460)))) + (wrap64 (Int.tdiv (wrap64 ((wrap64 (a0 + 719468)) - (wrap64 (t119 * 146097)))) 36524)))) - (wrap64 (Int.tdiv (wrap64 ((wrap64 (a0 + 719468)) - (wrap64 (t119 * 146097)))) 146096)))) 365)) 100)))))))) + 2)) 153)) + 3)) > 12 then (some (wrap64 ((wrap64 ((wrap64 (Int.tdiv (wrap64 ((wrap64 ((wrap64 ((wrap64 ((wrap64 (a0 + 719468)) - (wrap64 (t119 * 146097)))) - (wrap64 (Int.tdiv (wrap64 ((wrap64 (a0 + 719468)) - (wrap64 (t119 * 146097)))) 1460)))) + (wrap64 (Int.tdiv (wrap64 ((wrap64 (a0 + 719468)) - (wrap64 (t119 * 146097)))) 36524)))) - (wrap64 (Int.tdiv (wrap64 ((wrap64 (a0 + 719468)) - (wrap64 (t119 * 146097)))) 146096)))) 365)) + (wrap64 (t119 * 400)))) + 1), wrap64 ((wrap64 ((wrap64 (Int.tdiv (wrap64 ((wrap64 (5 * (wrap64 ((wrap64 ((wrap64 (a0 + 719468)) - (wrap64 (t119 * 146097)))) - (wrap64 ((wrap64 ((wrap64 (365 * (wrap64 (Int.tdiv (wrap64 ((wrap64 ((wrap64 ((wrap64 ((wrap64 (a0 + 719468)) - (wrap64 (t119 * 146097)))) - (wrap64 (Int.tdiv (wrap64 ((wrap64 (a0 + 719468)) - (wrap64 (t119 * 146097)))) 1460)))) + (wrap64 (Int.tdiv (wrap64 ((wrap64 (a0 + 719468)) - (wrap64 (t119 * 146097)))) 36524)))) - (wrap64 (Int.tdiv (wrap64 ((wrap64 (a0 + 719468)) - (wrap64 (t119 * 146097)))) 146096)))) 365)))) + (wrap64 (Int.tdiv (wrap64 (Int.tdiv (wrap64 ((wrap64 ((wrap64 ((wrap64 ((wrap64 (a0 + 719468)) - (wrap64 (t119 * 146097)))) - (wrap64 (Int.tdiv (wrap64 ((wrap64 (a0 + 719468)) - (wrap64 (t119 * 146097)))) 1460)))) + (wrap64 (Int.tdiv (wrap64 ((wrap64 (a0 + 719468)) - (wrap64 (t119 * 146097)))) 36524)))) - (wrap64 (Int.tdiv (wrap64 ((wrap64 (a0 + 719468)) - (wrap64 (t119 * 146097)))) 146096)))) 365)) 4)))) - (wrap64 (Int.tdiv (wrap64 (Int.tdiv (wrap64 ((wrap64 ((wrap64 ((wrap64 ((wrap64 (a0 + 719468)) - (wrap64 (t119 * 146097)))) - (wrap64 (Int.tdiv (wrap64 ((wrap64 (a0 + 719468)) - (wrap64 (t119 * 146097)))) 1460)))) + (wrap64 (Int.tdiv (wrap64 ((wrap64 (a0 + 719468)) - (wrap64 (t119 * 146097)))) 36524)))) - (wrap64 (Int.tdiv (wrap64 ((wrap64 (a0 + 719468)) - (wrap64 (t119 * 146097)))) 146096)))) 365)) 100)))))))) + 2)) 153)) + 3)) - 12), wrap64 ((wrap64 ((wrap64 ((wrap64 ((wrap64 (a0 + 719468)) - (wrap64 (t119 * 146097)))) - (wrap64 ((wrap64 ((wrap64 (365 * (wrap64 (Int.tdiv (wrap64 ((wrap64 ((wrap64 ((wrap64 ((wrap64 (a0 + 719468)) - (wrap64 (t119 * 146097)))) - (wrap64 (Int.tdiv (wrap64 ((wrap64 (a0 + 719468)) - (wrap64 (t119 * 146097)))) 1460)))) + (wrap64 (Int.tdiv (wrap64 ((wrap64 (a0 + 719468)) - (wrap64 (t119 * 146097)))) 36524)))) - (wrap64 (Int.tdiv (wrap64 ((wrap64 (a0 + 719468)) - (wrap64 (t119 * 146097)))) 146096)))) 365)))) + (wrap64 (Int.tdiv (wrap64 (Int.tdiv (wrap64 ((wrap64 ((wrap64 ((wrap64 ((wrap64 (a0 + 719468)) - (wrap64 (t119 * 146097)))) - (wrap64 (Int.tdiv (wrap64 ((wrap64 (a0 + 719468)) - (wrap64 (t119 * 146097)))) 1460)))) + (wrap64 (Int.tdiv (wrap64 ((wrap64 (a0 + 719468)) - (wrap64 (t119 * 146097)))) 36524)))) - (wrap64 (Int.tdiv (wrap64 ((wrap64 (a0 + 719468)) - (wrap64 (t119 * 146097)))) 146096)))) 365)) 4)))) - (wrap64 (Int.tdiv (wrap64 (Int.tdiv (wrap64 ((wrap64 ((wrap64 ((wrap64 ((wrap64 (a0 + 719468)) - (wrap64 (t119 * 146097)))) - (wrap64 (Int.tdiv (wrap64 ((wrap64 (a0 + 719468)) - (wrap64 (t119 * 146097)))) 1460)))) + (wrap64 (Int.tdiv (wrap64 ((wrap64 (a0 + 719468)) - (wrap64 (t119 * 146097)))) 36524)))) - (wrap64 (Int.tdiv (wrap64 ((wrap64 (a0 + 719468)) - (wrap64 (t119 * 146097)))) 146096)))) 365)) 100)))))) - (wrap64 (Int.tdiv (wrap64 ((wrap64 (153 * (wrap64 (Int.tdiv (wrap64 ((wrap64 (5 * (wrap64 ((wrap64 ((wrap64 (a0 + 719468)) - (wrap64 (t119 * 146097)))) - (wrap64 ((wrap64 ((wrap64 (365 * (wrap64 (Int.tdiv (wrap64 ((wrap64 ((wrap64 ((wrap64 ((wrap64 (a0 + 719468)) - (wrap64 (t119 * 146097)))) - (wrap64 (Int.tdiv (wrap64 ((wrap64 (a0 + 719468)) - (wrap64 (t119 * 146097)))) 1460)))) + (wrap64 (Int.tdiv (wrap64 ((wrap64 (a0 + 719468)) - (wrap64 (t119 * 146097)))) 36524)))) - (wrap64 (Int.tdiv (wrap64 ((wrap64 (a0 + 719468)) - (wrap64 (t119 * 146097)))) 146096)))) 365)))) + (wrap64 (Int.tdiv (wrap64 (Int.tdiv (wrap64 ((wrap64 ((wrap64 ((wrap64 ((wrap64 (a0 + 719468)) - (wrap64 (t119 * 146097)))) - (wrap64 (Int.tdiv (wrap64 ((wrap64 (a0 + 719468)) - (wrap64 (t119 * 146097)))) 1460)))) + (wrap64 (Int.tdiv (wrap64 ((wrap64 (a0 + 719468)) - (wrap64 (t119 * 146097)))) 36524)))) - (wrap64 (Int.tdiv (wrap64 ((wrap64 (a0 + 719468)) - (wrap64 (t119 * 146097)))) 146096)))) 365)) 4)))) - (wrap64 (Int.tdiv (wrap64 (Int.tdiv (wrap64 ((wrap64 ((wrap64 ((wrap64 ((wrap64 (a0 + 719468)) - (wrap64 (t119 * 146097)))) - (wrap64 (Int.tdiv (wrap64 ((wrap64 (a0 + 719468)) - (wrap64 (t119 * 146097)))) 1460)))) + (wrap64 (Int.tdiv (wrap64 ((wrap64 (a0 + 719468)) - (wrap64 (t119 * 146097)))) 36524)))) - (wrap64 (Int.tdiv (wrap64 ((wrap64 (a0 + 719468)) - (wrap64 (t119 * 146097)))) 146096)))) 365)) 100)))))))) + 2)) 153)))) + 2)) 5)))) + 1), none)) else (some (wrap64 ((wrap64 (Int.tdiv (wrap64 ((wrap64 ((wrap64 ((wrap64 ((wrap64 (a0 + 719468)) - (wrap64 (t119 * 146097)))) - (wrap64 (Int.tdiv (wrap64 ((wrap64 (a0 + 719468)) - (wrap64 (t119 * 146097)))) 1460)))) + (wrap64 (Int.tdiv (wrap64 ((wrap64 (a0 + 719468)) - (wrap64 (t119 * 146097)))) 36524)))) - (wrap64 (Int.tdiv (wrap64 ((wrap64 (a0 + 719468)) - (wrap64 (t119 * 146097)))) 146096)))) 365)) + (wrap64 (t119 * 400))), wrap64 ((wrap64 (Int.tdiv (wrap64 ((wrap64 (5 * (wrap64 ((wrap64 ((wrap64 (a0 + 719468)) - (wrap64 (t119 * 146097)))) - (wrap64 ((wrap64 ((wrap64 (365 * (wrap64 (Int.tdiv (wrap64 ((wrap64 ((wrap64 ((wrap64 ((wrap64 (a0 + 719468)) - (wrap64 (t119 * 146097)))) - (wrap64 (Int.tdiv (wrap64 ((wrap64 (a0 + 719468)) - (wrap64 (t119 * 146097)))) 1460)))) + (wrap64 (Int.tdiv (wrap64 ((wrap64 (a0 + 719468)) - (wrap64 (t119 * 146097)))) 36524)))) - (wrap64 (Int.tdiv (wrap64 ((wrap64 (a0 + 719468)) - (wrap64 (t119 * 146097)))) 146096)))) 365)))) + (wrap64 (Int.tdiv (wrap64 (Int.tdiv (wrap64 ((wrap64 ((wrap64 ((wrap64 ((wrap64 (a0 + 719468)) - (wrap64 (t119 * 146097)))) - (wrap64 (Int.tdiv (wrap64 ((wrap64 (a0 + 719468)) - (wrap64 (t119 * 146097)))) 1460)))) + (wrap64 (Int.tdiv (wrap64 ((wrap64 (a0 + 719468)) - (wrap64 (t119 * 146097)))) 36524)))) - (wrap64 (Int.tdiv (wrap64 ((wrap64 (a0 + 719468)) - (wrap64 (t119 * 146097)))) 146096)))) 365)) 4)))) - (wrap64 (Int.tdiv (wrap64 (Int.tdiv (wrap64 ((wrap64 ((wrap64 ((wrap64 ((wrap64 (a0 + 719468)) - (wrap64 (t119 * 146097)))) - (wrap64 (Int.tdiv (wrap64 ((wrap64 (a0 + 719468)) - (wrap64 (t119 * 146097)))) 1460)))) + (wrap64 (Int.tdiv (wrap64 ((wrap64 (a0 + 719468)) - (wrap64 (t119 * 146097)))) 36524)))) - (wrap64 (Int.tdiv (wrap64 ((wrap64 (a0 + 719468)) - (wrap64 (t119 * 146097)))) 146096)))) 365)) 100)))))))) + 2)) 153)) + 3), wrap64 ((wrap64 ((wrap64 ((wrap64 ((wrap64 (a0 + 719468)) - (wrap64 (t119 * 146097)))) - (wrap64 ((wrap64 ((wrap64 (365 * (wrap64 (Int.tdiv (wrap64 ((wrap64 ((wrap64 ((wrap64 ((wrap64 (a0 + 719468)) - (wrap64 (t119 * 146097)))) - (wrap64 (Int.tdiv (wrap64 ((wrap64 (a0 + 719468)) - (wrap64 (t119 * 146097)))) 1460)))) + (wrap64 (Int.tdiv (wrap64 ((wrap64 (a0 + 719468)) - (wrap64 (t119 * 146097)))) 36524)))) - (wrap64 (Int.tdiv (wrap64 ((wrap64 (a0 + 719468)) - (wrap64 (t119 * 146097)))) 146096)))) 365)))) + (wrap64 (Int.tdiv (wrap64 (Int.tdiv (wrap64 ((wrap64 ((wrap64 ((wrap64 ((wrap64 (a0 + 719468)) - (wrap64 (t119 * 146097)))) - (wrap64 (Int.tdiv (wrap64 ((wrap64 (a0 + 719468)) - (wrap64 (t119 * 146097)))) 1460)))) + (wrap64 (Int.tdiv (wrap64 ((wrap64 (a0 + 719468)) - (wrap64 (t119 * 146097)))) 36524)))) - (wrap64 (Int.tdiv (wrap64 ((wrap64 (a0 + 719468)) - (wrap64 (t119 * 146097)))) 146096)))) 365)) 4)))) - (wrap64 (Int.tdiv (wrap64 (Int.tdiv (wrap64 ((wrap64 ((wrap64 ((wrap64 ((wrap64 (a0 + 719468)) - (wrap64 (t119 * 146097)))) - (wrap64 (Int.tdiv (wrap64 ((wrap64 (a0 + 719468)) - (wrap64 (t119 * 146097)))) 1460)))) + (wrap64 (Int.tdiv (wrap64 ((wrap64 (a0 + 719468)) - (wrap64 (t119 * 146097)))) 36524)))) - (wrap64 (Int.tdiv (wrap64 ((wrap64 (a0 + 719468)) - (wrap64 (t119 * 146097)))) 146096)))) 365)) 100)))))) - (wrap64 (Int.tdiv (wrap64 ((wrap64 (153 * (wrap64 (Int.tdiv (wrap64 ((wrap64 (5 * (wrap64 ((wrap64 ((wrap64 (a0 + 719468)) - (wrap64 (t119 * 146097)))) - (wrap64 ((wrap64 ((wrap64 (365 * (wrap64 (Int.tdiv (wrap64 ((wrap64 ((wrap64 ((wrap64 ((wrap64 (a0 + 719468)) - (wrap64 (t119 * 146097)))) - (wrap64 (Int.tdiv (wrap64 ((wrap64 (a0 + 719468)) - (wrap64 (t119 * 146097)))) 1460)))) + (wrap64 (Int.tdiv (wrap64 ((wrap64 (a0 + 719468)) - (wrap64 (t119 * 146097)))) 36524)))) - (wrap64 (Int.tdiv (wrap64 ((wrap64 (a0 + 719468)) - (wrap64 (t119 * 146097)))) 146096)))) 365)))) + (wrap64 (Int.tdiv (wrap64 (Int.tdiv (wrap64 ((wrap64 ((wrap64 ((wrap64 ((wrap64 (a0 + 719468)) - (wrap64 (t119 * 146097)))) - (wrap64 (Int.tdiv (wrap64 ((wrap64 (a0 + 719468)) - (wrap64 (t119 * 146097)))) 1460)))) + (wrap64 (Int.tdiv (wrap64 ((wrap64 (a0 + 719468)) - (wrap64 (t119 * 146097)))) 36524)))) - (wrap64 (Int.tdiv (wrap64 ((wrap64 (a0 + 719468)) - (wrap64 (t119 * 146097)))) 146096)))) 365)) 4)))) - (wrap64 (Int.tdiv (wrap64 (Int.tdiv (wrap64 ((wrap64 ((wrap64 ((wrap64 ((wrap64 (a0 + 719468)) - (wrap64 (t119 * 146097)))) - (wrap64 (Int.tdiv (wrap64 ((wrap64 (a0 + 719468)) - (wrap64 (t119 * 146097)))) 1460)))) + (wrap64 (Int.tdiv (wrap64 ((wrap64 (a0 + 719468)) - (wrap64 (t119 * 146097)))) 36524)))) - (wrap64 (Int.tdiv (wrap64 ((wrap64 (a0 + 719468)) - (wrap64 (t119 * 146097)))) 146096)))) 365)) 100)))))))) + 2)) 153)))) + 2)) 5)))) + 1), none)))) = some (r1, r2, r3, r4) := by rw [if_neg (show ¬ (false = true) by decide)] at H; exact H
        clear H
        have H := H1
        clear H1
        replace H := Option.bind_eq_some_iff.mp H
        obtain ⟨t119, A70, H⟩ := H
        replace H : (if (wrap64 ((wrap64 (Int.tdiv (wrap64 ((wrap64 (5 * (wrap64 ((wrap64 ((wrap64 (a0 + 719468)) - (wrap64 (t119 * 146097)))) - (wrap64 ((wrap64 ((wrap64 (365 * (wrap64 (Int.tdiv (wrap64 ((wrap64 ((wrap64 ((wrap64 ((wrap64 (a0 + 719468)) - (wrap64 (t119 * 146097)))) - (wrap64 (Int.tdiv (wrap64 ((wrap64 (a0 + 719468)) - (wrap64 (t119 * 146097)))) 1460)))) + (wrap64 (Int.tdiv (wrap64 ((wrap64 (a0 + 719468)) - (wrap64 (t119 * 146097)))) 36524)))) - (wrap64 (Int.tdiv (wrap64 ((wrap64 (a0 + 719468)) - (wrap64 (t119 * 146097)))) 146096)))) 365)))) + (wrap64 (Int.tdiv (wrap64 (Int.tdiv (wrap64 ((wrap64 ((wrap64 ((wrap64 ((wrap64 (a0 + 719468)) - (wrap64 (t119 * 146097)))) - (wrap64 (Int.tdiv (wrap64 ((wrap64 (a0 + 719468)) - (wrap64 (t119 * 146097)))) 1460)))) + (wrap64 (Int.tdiv (wrap64 ((wrap64 (a0 + 719468)) - (wrap64 (t119 * 146097)))) 36524)))) - (wrap64 (Int.tdiv (wrap64 ((wrap64 (a0 + 719468)) - (wrap64 (t119 * 146097)))) 146096)))) 365)) 4)))) - (wrap64 (Int.tdiv (wrap64 (Int.tdiv (wrap64 ((wrap64 ((wrap64 ((wrap64 ((wrap64 (a0 + 719468)) - (wrap64 (t119 * 146097)))) - (wrap64 (Int.tdiv (wrap64 ((wrap64 (a0 + 719468)) - (wrap64 (t119 * 146097)))) 1460)))) + (wrap64 (Int.tdiv (wrap64 ((wrap64 (a0 + 719468)) - (wrap64 (t119 * 146097)))) 36524)))) - (wrap64 (Int.tdiv (wrap64 ((wrap64 (a0 + 719468)) - (wrap64 (t119 * 146097)))) 146096)))) 365)) 100)))))))) + 2)) 153)) + 3)) > 12 then (some (wrap64 ((wrap64 ((wrap64 (Int.tdiv (wrap64 ((wrap64 ((wrap64 ((wrap64 ((wrap64 (a0 + 719468)) - (wrap64 (t119 * 146097)))) - (wrap64 (Int.tdiv (wrap64 ((wrap64 (a0 + 719468)) - (wrap64 (t119 * 146097)))) 1460)))) + (wrap64 (Int.tdiv (wrap64 ((wrap64 (a0 + 719468)) - (wrap64 (t119 * 146097)))) 36524)))) - (wrap64 (Int.tdiv (wrap64 ((wrap64 (a0 + 719468)) - (wrap64 (t119 * 146097)))) 146096)))) 365)) + (wrap64 (t119 * 400)))) + 1), wrap64 ((wrap64 ((wrap64 (Int.tdiv (wrap64 ((wrap64 (5 * (wrap64 ((wrap64 ((wrap64 (a0 + 719468)) - (wrap64 (t119 * 146097)))) - (wrap64 ((wrap64 ((wrap64 (365 * (wrap64 (Int.tdiv (wrap64 ((wrap64 ((wrap64 ((wrap64 ((wrap64 (a0 + 719468)) - (wrap64 (t119 * 146097)))) - (wrap64 (Int.tdiv (wrap64 ((wrap64 (a0 + 719468)) - (wrap64 (t119 * 146097)))) 1460)))) + (wrap64 (Int.tdiv (wrap64 ((wrap64 (a0 + 719468)) - (wrap64 (t119 * 146097)))) 36524)))) - (wrap64 (Int.tdiv (wrap64 ((wrap64 (a0 + 719468)) - (wrap64 (t119 * 146097)))) 146096)))) 365)))) + (wrap64 (Int.tdiv (wrap64 (Int.tdiv (wrap64 ((wrap64 ((wrap64 ((wrap64 ((wrap64 (a0 + 719468)) - (wrap64 (t119 * 146097)))) - (wrap64 (Int.tdiv (wrap64 ((wrap64 (a0 + 719468)) - (wrap64 (t119 * 146097)))) 1460)))) + (wrap64 (Int.tdiv (wrap64 ((wrap64 (a0 + 719468)) - (wrap64 (t119 * 146097)))) 36524)))) - (wrap64 (Int.tdiv (wrap64 ((wrap64 (a0 + 719468)) - (wrap64 (t119 * 146097)))) 146096)))) 365)) 4)))) - (wrap64 (Int.tdiv (wrap64 (Int.tdiv (wrap64 ((wrap64 ((wrap64 ((wrap64 ((wrap64 (a0 + 719468)) - (wrap64 (t119 * 146097)))) - (wrap64 (Int.tdiv (wrap64 ((wrap64 (a0 + 719468)) - (wrap64 (t119 * 146097)))) 1460)))) + (wrap64 (Int.tdiv (wrap64 ((wrap64 (a0 + 719468)) - (wrap64 (t119 * 146097)))) 36524)))) - (wrap64 (Int.tdiv (wrap64 ((wrap64 (a0 + 719468)) - (wrap64 (t119 * 146097)))) 146096)))) 365)) 100)))))))) + 2)) 153)) + 3)) - 12), wrap64 ((wrap64 ((wrap64 ((wrap64 ((wrap64 (a0 + 719468)) - (wrap64 (t119 * 146097)))) - (wrap64 ((wrap64 ((wrap64 (365 * (wrap64 (Int.tdiv (wrap64 ((wrap64 ((wrap64 ((wrap64 ((wrap64 (a0 + 719468)) - (wrap64 (t119 * 146097)))) - (wrap64 (Int.tdiv (wrap64 ((wrap64 (a0 + 719468)) - (wrap64 (t119 * 146097)))) 1460)))) + (wrap64 (Int.tdiv (wrap64 ((wrap64 (a0 + 719468)) - (wrap64 (t119 * 146097)))) 36524)))) - (wrap64 (Int.tdiv (wrap64 ((wrap64 (a0 + 719468)) - (wrap64 (t119 * 146097)))) 146096)))) 365)))) + (wrap64 (Int.tdiv (wrap64 (Int.tdiv (wrap64 ((wrap64 ((wrap64 ((wrap64 ((wrap64 (a0 + 719468)) - (wrap64 (t119 * 146097)))) - (wrap64 (Int.tdiv (wrap64 ((wrap64 (a0 + 719468)) - (wrap64 (t119 * 146097)))) 1460)))) + (wrap64 (Int.tdiv (wrap64 ((wrap64 (a0 + 719468)) - (wrap64 (t119 * 146097)))) 36524)))) - (wrap64 (Int.tdiv (wrap64 ((wrap64 (a0 + 719468)) - (wrap64 (t119 * 146097)))) 146096)))) 365)) 4)))) - (wrap64 (Int.tdiv (wrap64 (Int.tdiv (wrap64 ((wrap64 ((wrap64 ((wrap64 ((wrap64 (a0 + 719468)) - (wrap64 (t119 * 146097)))) - (wrap64 (Int.tdiv (wrap64 ((wrap64 (a0 + 719468)) - (wrap64 (t119 * 146097)))) 1460)))) + (wrap64 (Int.tdiv (wrap64 ((wrap64 (a0 + 719468)) - (wrap64 (t119 * 146097)))) 36524)))) - (wrap64 (Int.tdiv (wrap64 ((wrap64 (a0 + 719468)) - (wrap64 (t119 * 146097)))) 146096)))) 365)) 100)))))) - (wrap64 (Int.tdiv (wrap64 ((wrap64 (153 * (wrap64 (Int.tdiv (wrap64 ((wrap64 (5 * (wrap64 ((wrap64 ((wrap64 (a0 + 719468)) - (wrap64 (t119 * 146097)))) - (wrap64 ((wrap64 ((wrap64 (365 * (wrap64 (Int.tdiv (wrap64 ((wrap64 ((wrap64 ((wrap64 ((wrap64 (a0 + 719468)) - (wrap64 (t119 * 146097)))) - (wrap64 (Int.tdiv (wrap64 ((wrap64 (a0 + 719468)) - (wrap64 (t119 * 146097)))) 1460)))) + (wrap64 (Int.tdiv (wrap64 ((wrap64 (a0 + 719468)) - (wrap64 (t119 * 146097)))) 36524)))) - (wrap64 (Int.tdiv (wrap64 ((wrap64 (a0 + 719468)) - (wrap64 (t119 * 146097)))) 146096)))) 365)))) + (wrap64 (Int.tdiv (wrap64 (Int.tdiv (wrap64 ((wrap64 ((wrap64 ((wrap64 ((wrap64 (a0 + 719468)) - (wrap64 (t119 * 146097)))) - (wrap64 (Int.tdiv (wrap64 ((wrap64 (a0 + 719468)) - (wrap64 (t119 * 146097)))) 1460)))) + (wrap64 (Int.tdiv (wrap64 ((wrap64 (a0 + 719468)) - (wrap64 (t119 * 146097)))) 36524)))) - (wrap64 (Int.tdiv (wrap64 ((wrap64 (a0 + 719468)) - (wrap64 (t119 * 146097)))) 146096)))) 365)) 4)))) - (wrap64 (Int.tdiv (wrap64 (Int.tdiv (wrap64 ((wrap64 ((wrap64 ((wrap64 ((wrap64 (a0 + 719468)) - (wrap64 (t119 * 146097)))) - (wrap64 (Int.tdiv (wrap64 ((wrap64 (a0 + 719468)) - (wrap64 (t119 * 146097)))) 1460)))) + (wrap64 (Int.tdiv (wrap64 ((wrap64 (a0 + 719468)) - (wrap64 (t119 * 146097)))) 36524)))) - (wrap64 (Int.tdiv (wrap64 ((wrap64 (a0 + 719468)) - (wrap64 (t119 * 146097)))) 146096)))) 365)) 100)))))))) + 2)) 153)))) + 2)) 5)))) + 1), none)) else (some (wrap64 ((wrap64 (Int.tdiv (wrap64 ((wrap64 ((wrap64 ((wrap64 ((wrap64 (a0 + 719468)) - (wrap64 (t119 * 146097)))) - (wrap64 (Int.tdiv (wrap64 ((wrap64 (a0 + 719468)) - (wrap64 (t119 * 146097)))) 1460)))) + (wrap64 (Int.tdiv (wrap64 ((wrap64 (a0 + 719468)) - (wrap64 (t119 * 146097)))) 36524)))) - (wrap64 (Int.tdiv (wrap64 ((wrap64 (a0 + 719468)) - (wrap64 (t119 * 146097)))) 146096)))) 365)) + (wrap64 (t119 * 400))), wrap64 ((wrap64 (Int.tdiv (wrap64 ((wrap64 (5 * (wrap64 ((wrap64 ((wrap64 (a0 + 719468)) - (wrap64 (t119 * 146097)))) - (wrap64 ((wrap64 ((wrap64 (365 * (wrap64 (Int.tdiv (wrap64 ((wrap64 ((wrap64 ((wrap64 ((wrap64 (a0 + 719468)) - (wrap64 (t119 * 146097)))) - (wrap64 (Int.tdiv (wrap64 ((wrap64 (a0 + 719468)) - (wrap64 (t119 * 146097)))) 1460)))) + (wrap64 (Int.tdiv (wrap64 ((wrap64 (a0 + 719468)) - (wrap64 (t119 * 146097)))) 36524)))) - (wrap64 (Int.tdiv (wrap64 ((wrap64 (a0 + 719468)) - (wrap64 (t119 * 146097)))) 146096)))) 365)))) + (wrap64 (Int.tdiv (wrap64 (Int.tdiv (wrap64 ((wrap64 ((wrap64 ((wrap64 ((wrap64 (a0 + 719468)) - (wrap64 (t119 * 146097)))) - (wrap64 (Int.tdiv (wrap64 ((wrap64 (a0 + 719468)) - (wrap64 (t119 * 146097)))) 1460)))) + (wrap64 (Int.tdiv (wrap64 ((wrap64 (a0 + 719468)) - (wrap64 (t119 * 146097)))) 36524)))) - (wrap64 (Int.tdiv (wrap64 ((wrap64 (a0 + 719468)) - (wrap64 (t119 * 146097)))) 146096)))) 365)) 4)))) - (wrap64 (Int.tdiv (wrap64 (Int.tdiv (wrap64 ((wrap64 ((wrap64 ((wrap64 ((wrap64 (a0 + 719468)) - (wrap64 (t119 * 146097)))) - (wrap64 (Int.tdiv (wrap64 ((wrap64 (a0 + 719468)) - (wrap64 (t119 * 146097)))) 1460)))) + (wrap64 (Int.tdiv (wrap64 ((wrap64 (a0 + 719468)) - (wrap64 (t119 * 146097)))) 36524)))) - (wrap64 (Int.tdiv (wrap64 ((wrap64 (a0 + 719468)) - (wrap64 (t119 * 146097)))) 146096)))) 365)) 100)))))))) + 2)) 153)) + 3), wrap64 ((wrap64 ((wrap64 ((wrap64 ((wrap64 (a0 + 719468)) - (wrap64 (t119 * 146097)))) - (wrap64 ((wrap64 ((wrap64 (365 * (wrap64 (Int.tdiv (wrap64 ((wrap64 ((wrap64 ((wrap64 ((wrap64 (a0 + 719468)) - (wrap64 (t119 * 146097)))) - (wrap64 (Int.tdiv (wrap64 ((wrap64 (a0 + 719468)) - (wrap64 (t119 * 146097)))) 1460)))) + (wrap64 (Int.tdiv (wrap64 ((wrap64 (a0 + 719468)) - (wrap64 (t119 * 146097)))) 36524)))) - (wrap64 (Int.tdiv (wrap64 ((wrap64 (a0 + 719468)) - (wrap64 (t119 * 146097)))) 146096)))) 365)))) + (wrap64 (Int.tdiv (wrap64 (Int.tdiv (wrap64 ((wrap64 ((wrap64 ((wrap64 ((wrap64 (a0 + 719468)) - (wrap64 (t119 * 146097)))) - (wrap64 (Int.tdiv (wrap64 ((wrap64 (a0 + 719468)) - (wrap64 (t119 * 146097)))) 1460)))) + (wrap64 (Int.tdiv (wrap64 ((wrap64 (a0 + 719468)) - (wrap64 (t119 * 146097)))) 36524)))) - (wrap64 (Int.tdiv (wrap64 ((wrap64 (a0 + 719468)) - (wrap64 (t119 * 146097)))) 146096)))) 365)) 4)))) - (wrap64 (Int.tdiv (wrap64 (Int.tdiv (wrap64 ((wrap64 ((wrap64 ((wrap64 ((wrap64 (a0 + 719468)) - (wrap64 (t119 * 146097)))) - (wrap64 (Int.tdiv (wrap64 ((wrap64 (a0 + 719468)) - (wrap64 (t119 * 146097)))) 1460)))) + (wrap64 (Int.tdiv (wrap64 ((wrap64 (a0 + 719468)) - (wrap64 (t119 * 146097)))) 36524)))) - (wrap64 (Int.tdiv (wrap64 ((wrap64 (a0 + 719468)) - (wrap64 (t119 * 146097)))) 146096)))) 365)) 100)))))) - (wrap64 (Int.tdiv (wrap64 ((wrap64 (153 * (wrap64 (Int.tdiv (wrap64 ((wrap64 (5 * (wrap64 ((wrap64 ((wrap64 (a0 + 719468)) - (wrap64 (t119 * 146097)))) - (wrap64 ((wrap64 ((wrap64 (365 * (wrap64 (Int.tdiv (wrap64 ((wrap64 ((wrap64 ((wrap64 ((wrap64 (a0 + 719468)) - (wrap64 (t119 * 146097)))) - (wrap64 (Int.tdiv (wrap64 ((wrap64 (a0 + 719468)) - (wrap64 (t119 * 146097)))) 1460)))) + (wrap64 (Int.tdiv (wrap64 ((wrap64 (a0 + 719468)) - (wrap64 (t119 * 146097)))) 36524)))) - (wrap64 (Int.tdiv (wrap64 ((wrap64 (a0 + 719468)) - (wrap64 (t119 * 146097)))) 146096)))) 365)))) + (wrap64 (Int.tdiv (wrap64 (Int.tdiv (wrap64 ((wrap64 ((wrap64 ((wrap64 ((wrap64 (a0 + 719468)) - (wrap64 (t119 * 146097)))) - (wrap64 (Int.tdiv (wrap64 ((wrap64 (a0 + 719468)) - (wrap64 (t119 * 146097)))) 1460)))) + (wrap64 (Int.tdiv (wrap64 ((wrap64 (a0 + 719468)) - (wrap64 (t119 * 146097)))) 36524)))) - (wrap64 (Int.tdiv (wrap64 ((wrap64 (a0 + 719468)) - (wrap64 (t119 * 146097)))) 146096)))) 365)) 4)))) - (wrap64 (Int.tdiv (wrap64 (Int.tdiv (wrap64 ((wrap64 ((wrap64 ((wrap64 ((wrap64 (a0 + 719468)) - (wrap64 (t119 * 146097)))) - (wrap64 (Int.tdiv (wrap64 ((wrap64 (a0 + 719468)) - (wrap64 (t119 * 146097)))) 1460)))) + (wrap64 (Int.tdiv (wrap64 ((wrap64 (a0 + 719468)) - (wrap64 (t119 * 146097)))) 36524)))) - (wrap64 (Int.tdiv (wrap64 ((wrap64 (a0 + 719468)) - (wrap64 (t119 * 146097)))) 146096)))) 365)) 100)))))))) + 2)) 153)))) + 2)) 5)))) + 1), none))) = some (r1, r2, r3, r4) := H
        have A7 := Aside0.mk A70
        clear A70
        by_cases c8 : (wrap64 ((wrap64 (Int.tdiv (wrap64 ((wrap64 (5 * (wrap64 ((wrap64 ((wrap64 (a0 + 719468)) - (wrap64 (t119 * 146097)))) - (wrap64 ((wrap64 ((wrap64 (365 * (wrap64 (Int.tdiv (wrap64 ((wrap64 ((wrap64 ((wrap64 ((wrap64 (a0 + 719468)) - (wrap64 (t119 * 146097)))) - (wrap64 (Int.tdiv (wrap64 ((wrap64 (a0 + 719468)) - (wrap64 (t119 * 146097)))) 1460)))) + (wrap64 (Int.tdiv (wrap64 ((wrap64 (a0 + 719468)) - (wrap64 (t119 * 146097)))) 36524)))) - (wrap64 (Int.tdiv (wrap64 ((wrap64 (a0 + 719468)) - (wrap64 (t119 * 146097)))) 146096)))) 365)))) + (wrap64 (Int.tdiv (wrap64 (Int.tdiv (wrap64 ((wrap64 ((wrap64 ((wrap64 ((wrap64 (a0 + 719468)) - (wrap64 (t119 * 146097)))) - (wrap64 (Int.tdiv (wrap64 ((wrap64 (a0 + 719468)) - (wrap64 (t119 * 146097)))) 1460)))) + (wrap64 (Int.tdiv (wrap64 ((wrap64 (a0 + 719468)) - (wrap64 (t119 * 146097)))) 36524)))) - (wrap64 (Int.tdiv (wrap64 ((wrap64 (a0 + 719468)) - (wrap64 (t119 * 146097)))) 146096)))) 365)) 4)))) - (wrap64 (Int.tdiv (wrap64 (Int.tdiv (wrap64 ((wrap64 ((wrap64 ((wrap64 ((wrap64 (a0 + 719468)) - (wrap64 (t119 * 146097)))) - (wrap64 (Int.tdiv (wrap64 ((wrap64 (a0 + 719468)) - (wrap64 (t119 * 146097)))) 1460)))) + (wrap64 (Int.tdiv (wrap64 ((wrap64 (a0 + 719468)) - (wrap64 (t119 * 146097)))) 36524)))) - (wrap64 (Int.tdiv (wrap64 ((wrap64 (a0 + 719468)) - (wrap64 (t119 * 146097)))) 146096)))) 365)) 100)))))))) + 2)) 153)) + 3)) > 12
        · rw [if_pos c8] at H
          have c8b0 : decide (12 < (wrap64 ((wrap64 (Int.tdiv (wrap64 ((wrap64 (5 * (wrap64 ((wrap64 ((wrap64 (a0 + 719468)) - (wrap64 (t119 * 146097)))) - (wrap64 ((wrap64 ((wrap64 (365 * (wrap64 (Int.tdiv (wrap64 ((wrap64 ((wrap64 ((wrap64 ((wrap64 (a0 + 719468)) - (wrap64 (t119 * 146097)))) - (wrap64 (Int.tdiv (wrap64 ((wrap64 (a0 + 719468)) - (wrap64 (t119 * 146097)))) 1460)))) + (wrap64 (Int.tdiv (wrap64 ((wrap64 (a0 + 719468)) - (wrap64 (t119 * 146097)))) 36524)))) - (wrap64 (Int.tdiv (wrap64 ((wrap64 (a0 + 719468)) - (wrap64 (t119 * 146097)))) 146096)))) 365)))) + (wrap64 (Int.tdiv (wrap64 (Int.tdiv (wrap64 ((wrap64 ((wrap64 ((wrap64 ((wrap64 (a0 + 719468)) - (wrap64 (t119 * 146097)))) - (wrap64 (Int.tdiv (wrap64 ((wrap64 (a0 + 719468)) - (wrap64 (t119 * 146097)))) 1460)))) + (wrap64 (Int.tdiv (wrap64 ((wrap64 (a0 + 719468)) - (wrap64 (t119 * 146097)))) 36524)))) - (wrap64 (Int.tdiv (wrap64 ((wrap64 (a0 + 719468)) - (wrap64 (t119 * 146097)))) 146096)))) 365)) 4)))) - (wrap64 (Int.tdiv (wrap64 (Int.tdiv (wrap64 ((wrap64 ((wrap64 ((wrap64 ((wrap64 (a0 + 719468)) - (wrap64 (t119 * 146097)))) - (wrap64 (Int.tdiv (wrap64 ((wrap64 (a0 + 719468)) - (wrap64 (t119 * 146097)))) 1460)))) + (wrap64 (Int.tdiv (wrap64 ((wrap64 (a0 + 719468)) - (wrap64 (t119 * 146097)))) 36524)))) - (wrap64 (Int.tdiv (wrap64 ((wrap64 (a0 + 719468)) - (wrap64 (t119 * 146097)))) 146096)))) 365)) 100)))))))) + 2)) 153)) + 3))) = true := decide_eq_true c8
          clear c8
          simp only [Option.some.injEq, Prod.mk.injEq] at H
          obtain ⟨rfl, rfl, rfl, rfl⟩ := H
          go_wp2_with (first | ((with_reducible refine gate_callee (f := 37) rfl ?_); refine goesL_ (some 24) rfl rfl Try.func37 (by kernel_rfl) rfl #[.int .i64 (wrap64 (a0 + 719468)), .int .i64 146097] rfl (by (try simp only [List.map_toArray, List.map_cons, List.map_nil]); first | done | rfl | (simp only [List.length_drop, List.length_take]; rfl) | (refine congrArg (fun z_ => #[Value.int IntKind.i64 z_]) (?_ : Go.RowKit.wrap64 (IntKind.u8.wrap _) = _); rw [IntKind.wrap_u8]; unfold Go.RowKit.wrap64; omega)) ?_; (with_reducible refine (day_floor.calls (wrap64 (a0 + 719468)) 146097 t119 _ A7.out).mono ?_); rintro e w' ⟨rfl, ⟨nd, rfl⟩⟩; refine ⟨_, rfl, ?_⟩))
          refine bodyPost_ret (results_list (rs := [.tmp 2, .tmp 3, .tmp 4, .tmp 5]) rfl (by simp) (.tmp (.tmp (.tmp (.tmp .nil))))) rfl ?_
          exact ⟨by first | rfl | (simp; done) | (simp [*]; done), by repeat (first | exact Drawn0.refl _ | apply Drawn0.step)⟩
        · rw [if_neg c8] at H
          have c8b0 : decide (12 < (wrap64 ((wrap64 (Int.tdiv (wrap64 ((wrap64 (5 * (wrap64 ((wrap64 ((wrap64 (a0 + 719468)) - (wrap64 (t119 * 146097)))) - (wrap64 ((wrap64 ((wrap64 (365 * (wrap64 (Int.tdiv (wrap64 ((wrap64 ((wrap64 ((wrap64 ((wrap64 (a0 + 719468)) - (wrap64 (t119 * 146097)))) - (wrap64 (Int.tdiv (wrap64 ((wrap64 (a0 + 719468)) - (wrap64 (t119 * 146097)))) 1460)))) + (wrap64 (Int.tdiv (wrap64 ((wrap64 (a0 + 719468)) - (wrap64 (t119 * 146097)))) 36524)))) - (wrap64 (Int.tdiv (wrap64 ((wrap64 (a0 + 719468)) - (wrap64 (t119 * 146097)))) 146096)))) 365)))) + (wrap64 (Int.tdiv (wrap64 (Int.tdiv (wrap64 ((wrap64 ((wrap64 ((wrap64 ((wrap64 (a0 + 719468)) - (wrap64 (t119 * 146097)))) - (wrap64 (Int.tdiv (wrap64 ((wrap64 (a0 + 719468)) - (wrap64 (t119 * 146097)))) 1460)))) + (wrap64 (Int.tdiv (wrap64 ((wrap64 (a0 + 719468)) - (wrap64 (t119 * 146097)))) 36524)))) - (wrap64 (Int.tdiv (wrap64 ((wrap64 (a0 + 719468)) - (wrap64 (t119 * 146097)))) 146096)))) 365)) 4)))) - (wrap64 (Int.tdiv (wrap64 (Int.tdiv (wrap64 ((wrap64 ((wrap64 ((wrap64 ((wrap64 (a0 + 719468)) - (wrap64 (t119 * 146097)))) - (wrap64 (Int.tdiv (wrap64 ((wrap64 (a0 + 719468)) - (wrap64 (t119 * 146097)))) 1460)))) + (wrap64 (Int.tdiv (wrap64 ((wrap64 (a0 + 719468)) - (wrap64 (t119 * 146097)))) 36524)))) - (wrap64 (Int.tdiv (wrap64 ((wrap64 (a0 + 719468)) - (wrap64 (t119 * 146097)))) 146096)))) 365)) 100)))))))) + 2)) 153)) + 3))) = false := decide_eq_false c8
          clear c8
          simp only [Option.some.injEq, Prod.mk.injEq] at H
          obtain ⟨rfl, rfl, rfl, rfl⟩ := H
          go_wp2_with (first | ((with_reducible refine gate_callee (f := 37) rfl ?_); refine goesL_ (some 24) rfl rfl Try.func37 (by kernel_rfl) rfl #[.int .i64 (wrap64 (a0 + 719468)), .int .i64 146097] rfl (by (try simp only [List.map_toArray, List.map_cons, List.map_nil]); first | done | rfl | (simp only [List.length_drop, List.length_take]; rfl) | (refine congrArg (fun z_ => #[Value.int IntKind.i64 z_]) (?_ : Go.RowKit.wrap64 (IntKind.u8.wrap _) = _); rw [IntKind.wrap_u8]; unfold Go.RowKit.wrap64; omega)) ?_; (with_reducible refine (day_floor.calls (wrap64 (a0 + 719468)) 146097 t119 _ A7.out).mono ?_); rintro e w' ⟨rfl, ⟨nd, rfl⟩⟩; refine ⟨_, rfl, ?_⟩))
          refine bodyPost_ret (results_list (rs := [.tmp 2, .tmp 3, .tmp 4, .tmp 5]) rfl (by simp) (.tmp (.tmp (.tmp (.tmp .nil))))) rfl ?_
          exact ⟨by first | rfl | (simp; done) | (simp [*]; done), by repeat (first | exact Drawn0.refl _ | apply Drawn0.step)⟩

end Go.Proofs.Ytmgeiennacgleaa.MDayBack
