-- This text was written by a program of this session (a changed scratch copy of a tool of the kit; NOTES.md tells the changes).
import Derived.Test.YtmcicjjaneaokaaMWeekTextsx0
namespace Go.Proofs.Ytmcicjjaneaokaa.MWeekTexts
open Go.RowKit Go.Proofs.YtmcicjjaneaokaaW.PrintWords Go.Proofs.YtmcicjjaneaokaaW.PrintLast Go.Proofs.YtmcicjjaneaokaaW.PrintMore
attribute [local go_sem] max2_int min2_int max_two min_two max_three min_three max_four min_four   -- for this text's walks alone
set_option linter.unusedVariables false
set_option linter.unusedSimpArgs false

/-! ### day_Weekday: function 24 -/
def day_Weekday.f (a0 : Int) : Option (Int) := some (wrap64 ((Int.tmod (wrap64 ((Int.tmod (wrap64 ((Int.tmod a0 7) + 3)) 7) + 7)) 7) + 1))
set_option maxHeartbeats 8000000 in
set_option maxRecDepth 100000 in
theorem day_Weekday.calls (a0 : Int) (r : Int) (w : World) (h : day_Weekday.f a0 = some r) :
    Calls Try.prog 24 #[.int .i64 a0] w fun e w' => e = .returned (.int .i64 r) ∧ Drawn0 w w' := by
  have H : (some (wrap64 ((Int.tmod (wrap64 ((Int.tmod (wrap64 ((Int.tmod a0 7) + 3)) 7) + 7)) 7) + 1))) = some r := h
  clear h
  obtain rfl := Option.some.inj H
  go_enter Try.func24, Try.ntmps24
  go_wp2
  go_ret
  exact ⟨by first | rfl | (simp; done) | (simp [*]; done), by repeat (first | exact Drawn0.refl _ | apply Drawn0.step)⟩

/-! ### day_floor: function 42 -/
def day_floor.f (a0 : Int) (a1 : Int) : Option (Int) := if a1 = 0 then (none) else (if (Int.tmod a0 a1) < 0 then (some (wrap64 ((wrap64 (Int.tdiv a0 a1)) - 1))) else (some (wrap64 (Int.tdiv a0 a1))))
set_option maxHeartbeats 8000000 in
set_option maxRecDepth 100000 in
theorem day_floor.calls (a0 : Int) (a1 : Int) (r : Int) (w : World) (h : day_floor.f a0 a1 = some r) :
    Calls Try.prog 42 #[.int .i64 a0, .int .i64 a1] w fun e w' => e = .returned (.int .i64 r) ∧ Drawn0 w w' := by
  have H : (if a1 = 0 then (none) else (if (Int.tmod a0 a1) < 0 then (some (wrap64 ((wrap64 (Int.tdiv a0 a1)) - 1))) else (some (wrap64 (Int.tdiv a0 a1))))) = some r := h
  clear h
  by_cases c3 : a1 = 0
  · rw [if_pos c3] at H
    exact absurd H (by simp)
  · rw [if_neg c3] at H
    have c3b0 : (a1 == 0) = false := beq_eq_false_iff_ne.mpr c3
    have c3b1 : (a1 != 0) = true := bne_iff_ne.mpr c3
    by_cases c4 : (Int.tmod a0 a1) < 0
    · rw [if_pos c4] at H
      have c4b0 : decide ((Int.tmod a0 a1) < 0) = true := decide_eq_true c4
      clear c4
      obtain rfl := Option.some.inj H
      go_enter Try.func42, Try.ntmps42
      go_wp2
      go_ret
      exact ⟨by first | rfl | (simp; done) | (simp [*]; done), by repeat (first | exact Drawn0.refl _ | apply Drawn0.step)⟩
    · rw [if_neg c4] at H
      have c4b0 : decide ((Int.tmod a0 a1) < 0) = false := decide_eq_false c4
      clear c4
      obtain rfl := Option.some.inj H
      go_enter Try.func42, Try.ntmps42
      go_wp2
      go_ret
      exact ⟨by first | rfl | (simp; done) | (simp [*]; done), by repeat (first | exact Drawn0.refl _ | apply Drawn0.step)⟩

/-! ### day_number: function 57 -/
def day_number.f (a0 : Int) (a1 : Int) (a2 : Int) : Option (Int) := if a1 ≤ 2 then ((day_floor.f (wrap64 (a0 - 1)) 400).bind fun t101 => (some (wrap64 ((wrap64 ((wrap64 ((wrap64 ((wrap64 ((wrap64 (t101 * 146097)) + (wrap64 ((wrap64 ((wrap64 (a0 - 1)) - (wrap64 (t101 * 400)))) * 365)))) + (wrap64 (Int.tdiv (wrap64 ((wrap64 (a0 - 1)) - (wrap64 (t101 * 400)))) 4)))) - (wrap64 (Int.tdiv (wrap64 ((wrap64 (a0 - 1)) - (wrap64 (t101 * 400)))) 100)))) + (wrap64 ((wrap64 ((wrap64 (Int.tdiv (wrap64 ((wrap64 (153 * (wrap64 ((wrap64 (a1 + 12)) - 3)))) + 2)) 5)) + a2)) - 1)))) - 719468)))) else ((day_floor.f a0 400).bind fun t102 => (some (wrap64 ((wrap64 ((wrap64 ((wrap64 ((wrap64 ((wrap64 (t102 * 146097)) + (wrap64 ((wrap64 (a0 - (wrap64 (t102 * 400)))) * 365)))) + (wrap64 (Int.tdiv (wrap64 (a0 - (wrap64 (t102 * 400)))) 4)))) - (wrap64 (Int.tdiv (wrap64 (a0 - (wrap64 (t102 * 400)))) 100)))) + (wrap64 ((wrap64 ((wrap64 (Int.tdiv (wrap64 ((wrap64 (153 * (wrap64 (a1 - 3)))) + 2)) 5)) + a2)) - 1)))) - 719468))))
set_option maxHeartbeats 8000000 in
set_option maxRecDepth 100000 in
theorem day_number.calls (a0 : Int) (a1 : Int) (a2 : Int) (r : Int) (w : World) (h : day_number.f a0 a1 a2 = some r) :
    Calls Try.prog 57 #[.int .i64 a0, .int .i64 a1, .int .i64 a2] w fun e w' => e = .returned (.int .i64 r) ∧ Drawn0 w w' := by
  have H : (if a1 ≤ 2 then ((day_floor.f (wrap64 (a0 - 1)) 400).bind fun t101 => (some (wrap64 ((wrap64 ((wrap64 ((wrap64 ((wrap64 ((wrap64 (t101 * 146097)) + (wrap64 ((wrap64 ((wrap64 (a0 - 1)) - (wrap64 (t101 * 400)))) * 365)))) + (wrap64 (Int.tdiv (wrap64 ((wrap64 (a0 - 1)) - (wrap64 (t101 * 400)))) 4)))) - (wrap64 (Int.tdiv (wrap64 ((wrap64 (a0 - 1)) - (wrap64 (t101 * 400)))) 100)))) + (wrap64 ((wrap64 ((wrap64 (Int.tdiv (wrap64 ((wrap64 (153 * (wrap64 ((wrap64 (a1 + 12)) - 3)))) + 2)) 5)) + a2)) - 1)))) - 719468)))) else ((day_floor.f a0 400).bind fun t102 => (some (wrap64 ((wrap64 ((wrap64 ((wrap64 ((wrap64 ((wrap64 (t102 * 146097)) + (wrap64 ((wrap64 (a0 - (wrap64 (t102 * 400)))) * 365)))) + (wrap64 (Int.tdiv (wrap64 (a0 - (wrap64 (t102 * 400)))) 4)))) - (wrap64 (Int.tdiv (wrap64 (a0 - (wrap64 (t102 * 400)))) 100)))) + (wrap64 ((wrap64 ((wrap64 (Int.tdiv (wrap64 ((wrap64 (153 * (wrap64 (a1 - 3)))) + 2)) 5)) + a2)) - 1)))) - 719468))))) = some r := h
  clear h
  by_cases c4 : a1 ≤ 2
  · rw [if_pos c4] at H
    have c4b0 : decide (a1 ≤ 2) = true := decide_eq_true c4
    clear c4
    replace H := Option.bind_eq_some_iff.mp H
    obtain ⟨t101, A50, H⟩ := H
    replace H : (some (wrap64 ((wrap64 ((wrap64 ((wrap64 ((wrap64 ((wrap64 (t101 * 146097)) + (wrap64 ((wrap64 ((wrap64 (a0 - 1)) - (wrap64 (t101 * 400)))) * 365)))) + (wrap64 (Int.tdiv (wrap64 ((wrap64 (a0 - 1)) - (wrap64 (t101 * 400)))) 4)))) - (wrap64 (Int.tdiv (wrap64 ((wrap64 (a0 - 1)) - (wrap64 (t101 * 400)))) 100)))) + (wrap64 ((wrap64 ((wrap64 (Int.tdiv (wrap64 ((wrap64 (153 * (wrap64 ((wrap64 (a1 + 12)) - 3)))) + 2)) 5)) + a2)) - 1)))) - 719468))) = some r := H
    have A5 := Aside0.mk A50
    clear A50
    obtain rfl := Option.some.inj H
    go_enter Try.func57, Try.ntmps57
    go_wp2_with (first | ((with_reducible refine gate_callee (f := 42) rfl ?_); refine goesL_ (some 17) rfl rfl Try.func42 (by kernel_rfl) rfl #[.int .i64 (wrap64 (a0 - 1)), .int .i64 400] rfl (by (try simp only [List.map_toArray, List.map_cons, List.map_nil]); first | done | rfl | (simp only [List.length_drop, List.length_take]; rfl) | (refine congrArg (fun z_ => #[Value.int IntKind.i64 z_]) (?_ : Go.RowKit.wrap64 (IntKind.u8.wrap _) = _); rw [IntKind.wrap_u8]; unfold Go.RowKit.wrap64; omega)) ?_; (with_reducible refine (day_floor.calls (wrap64 (a0 - 1)) 400 t101 _ A5.out).mono ?_); rintro e w' ⟨rfl, ⟨nd, rfl⟩⟩; refine ⟨_, rfl, ?_⟩))
    go_ret
    exact ⟨by first | rfl | (simp; done) | (simp [*]; done), by repeat (first | exact Drawn0.refl _ | apply Drawn0.step)⟩
  · rw [if_neg c4] at H
    have c4b0 : decide (a1 ≤ 2) = false := decide_eq_false c4
    clear c4
    replace H := Option.bind_eq_some_iff.mp H
    obtain ⟨t102, A60, H⟩ := H
    replace H : (some (wrap64 ((wrap64 ((wrap64 ((wrap64 ((wrap64 ((wrap64 (t102 * 146097)) + (wrap64 ((wrap64 (a0 - (wrap64 (t102 * 400)))) * 365)))) + (wrap64 (Int.tdiv (wrap64 (a0 - (wrap64 (t102 * 400)))) 4)))) - (wrap64 (Int.tdiv (wrap64 (a0 - (wrap64 (t102 * 400)))) 100)))) + (wrap64 ((wrap64 ((wrap64 (Int.tdiv (wrap64 ((wrap64 (153 * (wrap64 (a1 - 3)))) + 2)) 5)) + a2)) - 1)))) - 719468))) = some r := H
    have A6 := Aside0.mk A60
    clear A60
    obtain rfl := Option.some.inj H
    go_enter Try.func57, Try.ntmps57
    go_wp2_with (first | ((with_reducible refine gate_callee (f := 42) rfl ?_); refine goesL_ (some 17) rfl rfl Try.func42 (by kernel_rfl) rfl #[.int .i64 a0, .int .i64 400] rfl (by (try simp only [List.map_toArray, List.map_cons, List.map_nil]); first | done | rfl | (simp only [List.length_drop, List.length_take]; rfl) | (refine congrArg (fun z_ => #[Value.int IntKind.i64 z_]) (?_ : Go.RowKit.wrap64 (IntKind.u8.wrap _) = _); rw [IntKind.wrap_u8]; unfold Go.RowKit.wrap64; omega)) ?_; (with_reducible refine (day_floor.calls a0 400 t102 _ A6.out).mono ?_); rintro e w' ⟨rfl, ⟨nd, rfl⟩⟩; refine ⟨_, rfl, ?_⟩))
    go_ret
    exact ⟨by first | rfl | (simp; done) | (simp [*]; done), by repeat (first | exact Drawn0.refl _ | apply Drawn0.step)⟩

/-! ### day_First: function 40 -/
def day_First.f  : Option (Int) := (day_number.f (-9999) 1 1).bind fun t103 => (some t103)
set_option maxHeartbeats 8000000 in
set_option maxRecDepth 100000 in
theorem day_First.calls  (r : Int) (w : World) (h : day_First.f  = some r) :
    Calls Try.prog 40 #[] w fun e w' => e = .returned (.int .i64 r) ∧ Drawn0 w w' := by
  have H : ((day_number.f (-9999) 1 1).bind fun t103 => (some t103)) = some r := h
  clear h
  replace H := Option.bind_eq_some_iff.mp H
  obtain ⟨t103, A10, H⟩ := H
  replace H : (some t103) = some r := H
  have A1 := Aside0.mk A10
  clear A10
  obtain rfl := Option.some.inj H
  go_enter Try.func40, Try.ntmps40
  go_wp2_with (first | ((with_reducible refine gate_callee (f := 57) rfl ?_); refine goesL_ (some 1) rfl rfl Try.func57 (by kernel_rfl) rfl #[.int .i64 (-9999), .int .i64 1, .int .i64 1] rfl (by (try simp only [List.map_toArray, List.map_cons, List.map_nil]); first | done | rfl | (simp only [List.length_drop, List.length_take]; rfl) | (refine congrArg (fun z_ => #[Value.int IntKind.i64 z_]) (?_ : Go.RowKit.wrap64 (IntKind.u8.wrap _) = _); rw [IntKind.wrap_u8]; unfold Go.RowKit.wrap64; omega)) ?_; (with_reducible refine (day_number.calls (-9999) 1 1 t103 _ A1.out).mono ?_); rintro e w' ⟨rfl, ⟨nd, rfl⟩⟩; refine ⟨_, rfl, ?_⟩))
  go_ret
  exact ⟨by first | rfl | (simp; done) | (simp [*]; done), by repeat (first | exact Drawn0.refl _ | apply Drawn0.step)⟩

/-! ### day_Last: function 41 -/
def day_Last.f  : Option (Int) := (day_number.f 9999 12 31).bind fun t104 => (some t104)
set_option maxHeartbeats 8000000 in
set_option maxRecDepth 100000 in
theorem day_Last.calls  (r : Int) (w : World) (h : day_Last.f  = some r) :
    Calls Try.prog 41 #[] w fun e w' => e = .returned (.int .i64 r) ∧ Drawn0 w w' := by
  have H : ((day_number.f 9999 12 31).bind fun t104 => (some t104)) = some r := h
  clear h
  replace H := Option.bind_eq_some_iff.mp H
  obtain ⟨t104, A10, H⟩ := H
  replace H : (some t104) = some r := H
  have A1 := Aside0.mk A10
  clear A10
  obtain rfl := Option.some.inj H
  go_enter Try.func41, Try.ntmps41
  go_wp2_with (first | ((with_reducible refine gate_callee (f := 57) rfl ?_); refine goesL_ (some 1) rfl rfl Try.func57 (by kernel_rfl) rfl #[.int .i64 9999, .int .i64 12, .int .i64 31] rfl (by (try simp only [List.map_toArray, List.map_cons, List.map_nil]); first | done | rfl | (simp only [List.length_drop, List.length_take]; rfl) | (refine congrArg (fun z_ => #[Value.int IntKind.i64 z_]) (?_ : Go.RowKit.wrap64 (IntKind.u8.wrap _) = _); rw [IntKind.wrap_u8]; unfold Go.RowKit.wrap64; omega)) ?_; (with_reducible refine (day_number.calls 9999 12 31 t104 _ A1.out).mono ?_); rintro e w' ⟨rfl, ⟨nd, rfl⟩⟩; refine ⟨_, rfl, ?_⟩))
  go_ret
  exact ⟨by first | rfl | (simp; done) | (simp [*]; done), by repeat (first | exact Drawn0.refl _ | apply Drawn0.step)⟩

/-! ### day_Date: function 25 -/
def day_Date.j0 : Nat → Int → Bool → Option (Int × Int × Int × Option Int)
  | 0, _, _ => none
  | k + 1, x0, x20 => if x20 = true then (some (0, 0, 0, some 13)) else ((day_floor.f (wrap64 (x0 + 719468)) 146097).bind fun t107 => (if (wrap64 ((wrap64 (Int.tdiv (wrap64 ((wrap64 (5 * (wrap64 ((wrap64 ((wrap64 (x0 + 719468)) - (wrap64 (t107 * 146097)))) - (wrap64 ((wrap64 ((wrap64 (365 * (wrap64 (Int.tdiv (wrap64 ((wrap64 ((wrap64 ((wrap64 ((wrap64 (x0 + 719468)) - (wrap64 (t107 * 146097)))) - (wrap64 (Int.tdiv (wrap64 ((wrap64 (x0 + 719468)) - (wrap64 (t107 * 146097)))) 1460)))) + (wrap64 (Int.tdiv (wrap64 ((wrap64 (x0 + 719468)) - (wrap64 (t107 * 146097)))) 36524)))) - (wrap64 (Int.tdiv (wrap64 ((wrap64 (x0 + 719468)) - (wrap64 (t107 * 146097)))) 146096)))) 365)))) + (wrap64 (Int.tdiv (wrap64 (Int.tdiv (wrap64 ((wrap64 ((wrap64 ((wrap64 ((wrap64 (x0 + 719468)) - (wrap64 (t107 * 146097)))) - (wrap64 (Int.tdiv (wrap64 ((wrap64 (x0 + 719468)) - (wrap64 (t107 * 146097)))) 1460)))) + (wrap64 (Int.tdiv (wrap64 ((wrap64 (x0 + 719468)) - (wrap64 (t107 * 146097)))) 36524)))) - (wrap64 (Int.tdiv (wrap64 ((wrap64 (x0 + 719468)) - (wrap64 (t107 * 146097)))) 146096)))) 365)) 4)))) - (wrap64 (Int.tdiv (wrap64 (Int.tdiv (wrap64 ((wrap64 ((wrap64 ((wrap64 ((wrap64 (x0 + 719468)) - (wrap64 (t107 * 146097)))) - (wrap64 (Int.tdiv (wrap64 ((wrap64 (x0 + 719468)) - (wrap64 (t107 * 146097)))) 1460)))) + (wrap64 (Int.tdiv (wrap64 ((wrap64 (x0 + 719468)) - (wrap64 (t107 * 146097)))) 36524)))) - (wrap64 (Int.tdiv (wrap64 ((wrap64 (x0 + 719468)) - (wrap64 (t107 * 146097)))) 146096)))) 365)) 100)))))))) + 2)) 153)) + 3)) > 12 then (some (wrap64 ((wrap64 ((wrap64 (Int.tdiv (wrap64 ((wrap64 ((wrap64 ((wrap64 ((wrap64 (x0 + 719468)) - (wrap64 (t107 * 146097)))) - (wrap64 (Int.tdiv (wrap64 ((wrap64 (x0 + 719468)) - (wrap64 (t107 * 146097)))) 1460)))) + (wrap64 (Int.tdiv (wrap64 ((wrap64 (x0 + 719468)) - (wrap64 (t107 * 146097)))) 36524)))) - (wrap64 (Int.tdiv (wrap64 ((wrap64 (x0 + 719468)) - (wrap64 (t107 * 146097)))) 146096)))) 365)) + (wrap64 (t107 * 400)))) + 1), wrap64 ((wrap64 ((wrap64 (Int.tdiv (wrap64 ((wrap64 (5 * (wrap64 ((wrap64 ((wrap64 (x0 + 719468)) - (wrap64 (t107 * 146097)))) - (wrap64 ((wrap64 ((wrap64 (365 * (wrap64 (Int.tdiv (wrap64 ((wrap64 ((wrap64 ((wrap64 ((wrap64 (x0 + 719468)) - (wrap64 (t107 * 146097)))) - (wrap64 (Int.tdiv (wrap64 ((wrap64 (x0 + 719468)) - (wrap64 (t107 * 146097)))) 1460)))) + (wrap64 (Int.tdiv (wrap64 ((wrap64 (x0 + 719468)) - (wrap64 (t107 * 146097)))) 36524)))) - (wrap64 (Int.tdiv (wrap64 ((wrap64 (x0 + 719468)) - (wrap64 (t107 * 146097)))) 146096)))) 365)))) + (wrap64 (Int.tdiv (wrap64 (Int.tdiv (wrap64 ((wrap64 ((wrap64 ((wrap64 ((wrap64 (x0 + 719468)) - (wrap64 (t107 * 146097)))) - (wrap64 (Int.tdiv (wrap64 ((wrap64 (x0 + 719468)) - (wrap64 (t107 * 146097)))) 1460)))) + (wrap64 (Int.tdiv (wrap64 ((wrap64 (x0 + 719468)) - (wrap64 (t107 * 146097)))) 36524)))) - (wrap64 (Int.tdiv (wrap64 ((wrap64 (x0 + 719468)) - (wrap64 (t107 * 146097)))) 146096)))) 365)) 4)))) - (wrap64 (Int.tdiv (wrap64 (Int.tdiv (wrap64 ((wrap64 ((wrap64 ((wrap64 ((wrap64 (x0 + 719468)) - (wrap64 (t107 * 146097)))) - (wrap64 (Int.tdiv (wrap64 ((wrap64 (x0 + 719468)) - (wrap64 (t107 * 146097)))) 1460)))) + (wrap64 (Int.tdiv (wrap64 ((wrap64 (x0 + 719468)) - (wrap64 (t107 * 146097)))) 36524)))) - (wrap64 (Int.tdiv (wrap64 ((wrap64 (x0 + 719468)) - (wrap64 (t107 * 146097)))) 146096)))) 365)) 100)))))))) + 2)) 153)) + 3)) - 12), wrap64 ((wrap64 ((wrap64 ((wrap64 ((wrap64 (x0 + 719468)) - (wrap64 (t107 * 146097)))) - (wrap64 ((wrap64 ((wrap64 (365 * (wrap64 (Int.tdiv (wrap64 ((wrap64 ((wrap64 ((wrap64 ((wrap64 (x0 + 719468)) - (wrap64 (t107 * 146097)))) - (wrap64 (Int.tdiv (wrap64 ((wrap64 (x0 + 719468)) - (wrap64 (t107 * 146097)))) 1460)))) + (wrap64 (Int.tdiv (wrap64 ((wrap64 (x0 + 719468)) - (wrap64 (t107 * 146097)))) 36524)))) - (wrap64 (Int.tdiv (wrap64 ((wrap64 (x0 + 719468)) - (wrap64 (t107 * 146097)))) 146096)))) 365)))) + (wrap64 (Int.tdiv (wrap64 (Int.tdiv (wrap64 ((wrap64 ((wrap64 ((wrap64 ((wrap64 (x0 + 719468)) - (wrap64 (t107 * 146097)))) - (wrap64 (Int.tdiv (wrap64 ((wrap64 (x0 + 719468)) - (wrap64 (t107 * 146097)))) 1460)))) + (wrap64 (Int.tdiv (wrap64 ((wrap64 (x0 + 719468)) - (wrap64 (t107 * 146097)))) 36524)))) - (wrap64 (Int.tdiv (wrap64 ((wrap64 (x0 + 719468)) - (wrap64 (t107 * 146097)))) 146096)))) 365)) 4)))) - (wrap64 (Int.tdiv (wrap64 (Int.tdiv (wrap64 ((wrap64 ((wrap64 ((wrap64 ((wrap64 (x0 + 719468)) - (wrap64 (t107 * 146097)))) - (wrap64 (Int.tdiv (wrap64 ((wrap64 (x0 + 719468)) - (wrap64 (t107 * 146097)))) 1460)))) + (wrap64 (Int.tdiv (wrap64 ((wrap64 (x0 + 719468)) - (wrap64 (t107 * 146097)))) 36524)))) - (wrap64 (Int.tdiv (wrap64 ((wrap64 (x0 + 719468)) - (wrap64 (t107 * 146097)))) 146096)))) 365)) 100)))))) - (wrap64 (Int.tdiv (wrap64 ((wrap64 (153 * (wrap64 (Int.tdiv (wrap64 ((wrap64 (5 * (wrap64 ((wrap64 ((wrap64 (x0 + 719468)) - (wrap64 (t107 * 146097)))) - (wrap64 ((wrap64 ((wrap64 (365 * (wrap64 (Int.tdiv (wrap64 ((wrap64 ((wrap64 ((wrap64 ((wrap64 (x0 + 719468)) - (wrap64 (t107 * 146097)))) - (wrap64 (Int.tdiv (wrap64 ((wrap64 (x0 + 719468)) - (wrap64 (t107 * 146097)))) 1460)))) + (wrap64 (Int.tdiv (wrap64 ((wrap64 (x0 + 719468)) - (wrap64 (t107 * 146097)))) 36524)))) - (wrap64 (Int.tdiv (wrap64 ((wrap64 (x0 + 719468)) - (wrap64 (t107 * 146097)))) 146096)))) 365)))) + (wrap64 (Int.tdiv (wrap64 (Int.tdiv (wrap64 ((wrap64 ((wrap64 ((wrap64 ((wrap64 (x0 + 719468)) - (wrap64 (t107 * 146097)))) - (wrap64 (Int.tdiv (wrap64 ((wrap64 (x0 + 719468)) - (wrap64 (t107 * 146097)))) 1460)))) + (wrap64 (Int.tdiv (wrap64 ((wrap64 (x0 + 719468)) - (wrap64 (t107 * 146097)))) 36524)))) - (wrap64 (Int.tdiv (wrap64 ((wrap64 (x0 + 719468)) - (wrap64 (t107 * 146097)))) 146096)))) 365)) 4)))) - (wrap64 (Int.tdiv (wrap64 (Int.tdiv (wrap64 ((wrap64 ((wrap64 ((wrap64 ((wrap64 (x0 + 719468)) - (wrap64 (t107 * 146097)))) - (wrap64 (Int.tdiv (wrap64 ((wrap64 (x0 + 719468)) - (wrap64 (t107 * 146097)))) 1460)))) + (wrap64 (Int.tdiv (wrap64 ((wrap64 (x0 + 719468)) - (wrap64 (t107 * 146097)))) 36524)))) - (wrap64 (Int.tdiv (wrap64 ((wrap64 (x0 + 719468)) - (wrap64 (t107 * 146097)))) 146096)))) 365)) 100)))))))) + 2)) 153)))) + 2)) 5)))) + 1), none)) else (some (wrap64 ((wrap64 (Int.tdiv (wrap64 ((wrap64 ((wrap64 ((wrap64 ((wrap64 (x0 + 719468)) - (wrap64 (t107 * 146097)))) - (wrap64 (Int.tdiv (wrap64 ((wrap64 (x0 + 719468)) - (wrap64 (t107 * 146097)))) 1460)))) + (wrap64 (Int.tdiv (wrap64 ((wrap64 (x0 + 719468)) - (wrap64 (t107 * 146097)))) 36524)))) - (wrap64 (Int.tdiv (wrap64 ((wrap64 (x0 + 719468)) - (wrap64 (t107 * 146097)))) 146096)))) 365)) + (wrap64 (t107 * 400))), wrap64 ((wrap64 (Int.tdiv (wrap64 ((wrap64 (5 * (wrap64 ((wrap64 ((wrap64 (x0 + 719468)) - (wrap64 (t107 * 146097)))) - (wrap64 ((wrap64 ((wrap64 (365 * (wrap64 (Int.tdiv (wrap64 ((wrap64 ((wrap64 ((wrap64 ((wrap64 (x0 + 719468)) - (wrap64 (t107 * 146097)))) - (wrap64 (Int.tdiv (wrap64 ((wrap64 (x0 + 719468)) - (wrap64 (t107 * 146097)))) 1460)))) + (wrap64 (Int.tdiv (wrap64 ((wrap64 (x0 + 719468)) - (wrap64 (t107 * 146097)))) 36524)))) - (wrap64 (Int.tdiv (wrap64 ((wrap64 (x0 + 719468)) - (wrap64 (t107 * 146097)))) 146096)))) 365)))) + (wrap64 (Int.tdiv (wrap64 (Int.tdiv (wrap64 ((wrap64 ((wrap64 ((wrap64 ((wrap64 (x0 + 719468)) - (wrap64 (t107 * 146097)))) - (wrap64 (Int.tdiv (wrap64 ((wrap64 (x0 + 719468)) - (wrap64 (t107 * 146097)))) 1460)))) + (wrap64 (Int.tdiv (wrap64 ((wrap64 (x0 + 719468)) - (wrap64 (t107 * 146097)))) 36524)))) - (wrap64 (Int.tdiv (wrap64 ((wrap64 (x0 + 719468)) - (wrap64 (t107 * 146097)))) 146096)))) 365)) 4)))) - (wrap64 (Int.tdiv (wrap64 (Int.tdiv (wrap64 ((wrap64 ((wrap64 ((wrap64 ((wrap64 (x0 + 719468)) - (wrap64 (t107 * 146097)))) - (wrap64 (Int.tdiv (wrap64 ((wrap64 (x0 + 719468)) - (wrap64 (t107 * 146097)))) 1460)))) + (wrap64 (Int.tdiv (wrap64 ((wrap64 (x0 + 719468)) - (wrap64 (t107 * 146097)))) 36524)))) - (wrap64 (Int.tdiv (wrap64 ((wrap64 (x0 + 719468)) - (wrap64 (t107 * 146097)))) 146096)))) 365)) 100)))))))) + 2)) 153)) + 3), wrap64 ((wrap64 ((wrap64 ((wrap64 ((wrap64 (x0 + 719468)) - (wrap64 (t107 * 146097)))) - (wrap64 ((wrap64 ((wrap64 (365 * (wrap64 (Int.tdiv (wrap64 ((wrap64 ((wrap64 ((wrap64 ((wrap64 (x0 + 719468)) - (wrap64 (t107 * 146097)))) - (wrap64 (Int.tdiv (wrap64 ((wrap64 (x0 + 719468)) - (wrap64 (t107 * 146097)))) 1460)))) + (wrap64 (Int.tdiv (wrap64 ((wrap64 (x0 + 719468)) - (wrap64 (t107 * 146097)))) 36524)))) - (wrap64 (Int.tdiv (wrap64 ((wrap64 (x0 + 719468)) - (wrap64 (t107 * 146097)))) 146096)))) 365)))) + (wrap64 (Int.tdiv (wrap64 (Int.tdiv (wrap64 ((wrap64 ((wrap64 ((wrap64 ((wrap64 (x0 + 719468)) - (wrap64 (t107 * 146097)))) - (wrap64 (Int.tdiv (wrap64 ((wrap64 (x0 + 719468)) - (wrap64 (t107 * 146097)))) 1460)))) + (wrap64 (Int.tdiv (wrap64 ((wrap64 (x0 + 719468)) - (wrap64 (t107 * 146097)))) 36524)))) - (wrap64 (Int.tdiv (wrap64 ((wrap64 (x0 + 719468)) - (wrap64 (t107 * 146097)))) 146096)))) 365)) 4)))) - (wrap64 (Int.tdiv (wrap64 (Int.tdiv (wrap64 ((wrap64 ((wrap64 ((wrap64 ((wrap64 (x0 + 719468)) - (wrap64 (t107 * 146097)))) - (wrap64 (Int.tdiv (wrap64 ((wrap64 (x0 + 719468)) - (wrap64 (t107 * 146097)))) 1460)))) + (wrap64 (Int.tdiv (wrap64 ((wrap64 (x0 + 719468)) - (wrap64 (t107 * 146097)))) 36524)))) - (wrap64 (Int.tdiv (wrap64 ((wrap64 (x0 + 719468)) - (wrap64 (t107 * 146097)))) 146096)))) 365)) 100)))))) - (wrap64 (Int.tdiv (wrap64 ((wrap64 (153 * (wrap64 (Int.tdiv (wrap64 ((wrap64 (5 * (wrap64 ((wrap64 ((wrap64 (x0 + 719468)) - (wrap64 (t107 * 146097)))) - (wrap64 ((wrap64 ((wrap64 (365 * (wrap64 (Int.tdiv (wrap64 ((wrap64 ((wrap64 ((wrap64 ((wrap64 (x0 + 719468)) - (wrap64 (t107 * 146097)))) - (wrap64 (Int.tdiv (wrap64 ((wrap64 (x0 + 719468)) - (wrap64 (t107 * 146097)))) 1460)))) + (wrap64 (Int.tdiv (wrap64 ((wrap64 (x0 + 719468)) - (wrap64 (t107 * 146097)))) 36524)))) - (wrap64 (Int.tdiv (wrap64 ((wrap64 (x0 + 719468)) - (wrap64 (t107 * 146097)))) 146096)))) 365)))) + (wrap64 (Int.tdiv (wrap64 (Int.tdiv (wrap64 ((wrap64 ((wrap64 ((wrap64 ((wrap64 (x0 + 719468)) - (wrap64 (t107 * 146097)))) - (wrap64 (Int.tdiv (wrap64 ((wrap64 (x0 + 719468)) - (wrap64 (t107 * 146097)))) 1460)))) + (wrap64 (Int.tdiv (wrap64 ((wrap64 (x0 + 719468)) - (wrap64 (t107 * 146097)))) 36524)))) - (wrap64 (Int.tdiv (wrap64 ((wrap64 (x0 + 719468)) - (wrap64 (t107 * 146097)))) 146096)))) 365)) 4)))) - (wrap64 (Int.tdiv (wrap64 (Int.tdiv (wrap64 ((wrap64 ((wrap64 ((wrap64 ((wrap64 (x0 + 719468)) - (wrap64 (t107 * 146097)))) - (wrap64 (Int.tdiv (wrap64 ((wrap64 (x0 + 719468)) - (wrap64 (t107 * 146097)))) 1460)))) + (wrap64 (Int.tdiv (wrap64 ((wrap64 (x0 + 719468)) - (wrap64 (t107 * 146097)))) 36524)))) - (wrap64 (Int.tdiv (wrap64 ((wrap64 (x0 + 719468)) - (wrap64 (t107 * 146097)))) 146096)))) 365)) 100)))))))) + 2)) 153)))) + 2)) 5)))) + 1), none))))
def day_Date.f (k : Nat) (a0 : Int) : Option (Int × Int × Int × Option Int) := (day_First.f).bind fun t105 => (if a0 < t105 then (day_Date.j0 k a0 true) else ((day_Last.f).bind fun t106 => (day_Date.j0 k a0 (decide (a0 > t106)))))
theorem day_Date.mono_l : ∀ k, (∀ y0 y1, LeO (day_Date.j0 k y0 y1) (day_Date.j0 (k + 1) y0 y1))
  | 0 => fun _ _ r h => by simp [day_Date.j0] at h
  | k + 1 => by
    have ih0 := day_Date.mono_l k
    · intro y0 y1
      unfold day_Date.j0
      repeat' first
      | (with_reducible exact ih0 _ _)
      | (with_reducible exact LeO.refl _)
      | (with_reducible exact LeO.none _)
      | (with_reducible refine LeO.ite ?_ ?_)
      | (with_reducible refine LeO.bind ?_ (fun _ => ?_))
      | exact ih0 _ _
      | exact LeO.none _
      | refine LeO.ite ?_ ?_
      | refine LeO.bind ?_ (fun _ => ?_)
theorem day_Date.mono : ∀ a0 k, LeO (day_Date.f k a0) (day_Date.f (k + 1) a0) := by
  intro a0 k
  have ih0 := day_Date.mono_l k
  unfold day_Date.f
  repeat' first
      | (with_reducible exact ih0 _ _)
      | (with_reducible exact LeO.refl _)
      | (with_reducible exact LeO.none _)
      | (with_reducible refine LeO.ite ?_ ?_)
      | (with_reducible refine LeO.bind ?_ (fun _ => ?_))
      | exact ih0 _ _
      | exact LeO.none _
      | refine LeO.ite ?_ ?_
      | refine LeO.bind ?_ (fun _ => ?_)
set_option maxHeartbeats 8000000 in
set_option maxRecDepth 100000 in
theorem day_Date.calls (k : Nat) (a0 : Int) (r1 : Int) (r2 : Int) (r3 : Int) (r4 : Option Int) (w : World) (h : day_Date.f k a0 = some (r1, r2, r3, r4)) :
    Calls Try.prog 25 #[.int .i64 a0] w fun e w' => e = .returned (.tuple #[.int .i64 r1, .int .i64 r2, .int .i64 r3, errW r4]) ∧ Drawn0 w w' := by
  have hu24 := Try.underlying24
  have hu31 := Try.underlying31
  have H : ((day_First.f).bind fun t105 => (if a0 < t105 then (day_Date.j0 k a0 true) else ((day_Last.f).bind fun t106 => (day_Date.j0 k a0 (decide (a0 > t106)))))) = some (r1, r2, r3, r4) := h
  clear h
  have HC2 := Aside0.mk H
  clear H
  go_enter Try.func25, Try.ntmps25
  go_upto_region 1 with (fail)
  go_cut [20] (fun v20 wc => ∃ (kq : Nat) (x20_1 : Bool), v20 = .bool x20_1 ∧ Aside0 (day_Date.j0 kq a0 x20_1 = some (r1, r2, r3, r4)) ∧ Aside0 (kq ≤ k) ∧ Drawn0 w wc)
  case first =>
    have H := HC2.out
    clear HC2
    replace H := Option.bind_eq_some_iff.mp H
    obtain ⟨t105, A30, H⟩ := H
    replace H : (if a0 < t105 then (day_Date.j0 k a0 true) else ((day_Last.f).bind fun t106 => (day_Date.j0 k a0 (decide (a0 > t106))))) = some (r1, r2, r3, r4) := H
    have A3 := Aside0.mk A30
    clear A30
    by_cases c4 : a0 < t105
    · rw [if_pos c4] at H
      have c4b0 : decide (a0 < t105) = true := decide_eq_true c4
      clear c4
      (first | rw [c4b0] | (simp only [i64_w, i32_w]; rw [c4b0]) | skip)
      have H' := Aside0.mk H
      clear H
      go_wp2_with (first | ((with_reducible refine gate_callee (f := 40) rfl ?_); refine goesL_ (some 14) rfl rfl Try.func40 (by kernel_rfl) rfl #[] rfl (by (try simp only [List.map_toArray, List.map_cons, List.map_nil]); first | done | rfl | (simp only [List.length_drop, List.length_take]; rfl) | (refine congrArg (fun z_ => #[Value.int IntKind.i64 z_]) (?_ : Go.RowKit.wrap64 (IntKind.u8.wrap _) = _); rw [IntKind.wrap_u8]; unfold Go.RowKit.wrap64; omega)) ?_; (with_reducible refine (day_First.calls  t105 _ A3.out).mono ?_); rintro e w' ⟨rfl, ⟨nd, rfl⟩⟩; refine ⟨_, rfl, ?_⟩))
      go_meet
      case rel => exact ⟨_, (true), (by first | rfl | (simp; done) | (simp [*]; done)), H', ⟨by first | omega | exact Nat.le_refl _⟩, by repeat (first | exact Drawn0.refl _ | apply Drawn0.step)⟩
    · rw [if_neg c4] at H
      have c4b0 : decide (a0 < t105) = false := decide_eq_false c4
      clear c4
      (first | rw [c4b0] | (simp only [i64_w, i32_w]; rw [c4b0]) | skip)
      replace H := Option.bind_eq_some_iff.mp H
      obtain ⟨t106, A50, H⟩ := H
      replace H : (day_Date.j0 k a0 (decide (a0 > t106))) = some (r1, r2, r3, r4) := H
      have A5 := Aside0.mk A50
      clear A50
      have H' := Aside0.mk H
      clear H
      go_wp2_with (first | ((with_reducible refine gate_callee (f := 40) rfl ?_); refine goesL_ (some 14) rfl rfl Try.func40 (by kernel_rfl) rfl #[] rfl (by (try simp only [List.map_toArray, List.map_cons, List.map_nil]); first | done | rfl | (simp only [List.length_drop, List.length_take]; rfl) | (refine congrArg (fun z_ => #[Value.int IntKind.i64 z_]) (?_ : Go.RowKit.wrap64 (IntKind.u8.wrap _) = _); rw [IntKind.wrap_u8]; unfold Go.RowKit.wrap64; omega)) ?_; (with_reducible refine (day_First.calls  t105 _ A3.out).mono ?_); rintro e w' ⟨rfl, ⟨nd, rfl⟩⟩; refine ⟨_, rfl, ?_⟩) | (go_at_call 41; (with_reducible refine (day_Last.calls  t106 _ A5.out).mono ?_); rintro e w' ⟨rfl, ⟨nd, rfl⟩⟩))
      go_meet
      case rel => exact ⟨_, (decide (a0 > t106)), (by first | rfl | (simp; done) | (simp [*]; done)), H', ⟨by first | omega | exact Nat.le_refl _⟩, by repeat (first | exact Drawn0.refl _ | apply Drawn0.step)⟩
  case rest =>
    clear HC2
    try clear c2
    try clear p2
    try clear c4
    try clear c4b0
    obtain ⟨kq, x20_1, rfl, HA, HJ1, ⟨mc1, rfl⟩⟩ := hcut
    cases kq with
    | zero => exact absurd HA.out (by simp [day_Date.j0])
    | succ kj1 =>
      have H := HA.out
      clear HA
      simp only [day_Date.j0] at H
      by_cases c6 : x20_1 = true
      · subst c6
        have H1 : (some (0, 0, 0, some 13)) = some (r1, r2, r3, r4) := by rw [if_pos rfl] at H; exact H
        clear H
        have H := H1
        clear H1
        simp only [Option.some.injEq, Prod.mk.injEq] at H
        obtain ⟨rfl, rfl, rfl, rfl⟩ := H
        go_wp2
        refine bodyPost_ret (results_list (rs := [.tmp 2, .tmp 3, .tmp 4, .tmp 5]) rfl (by simp) (.tmp (.tmp (.tmp (.tmp .nil))))) rfl ?_
        exact ⟨by first | rfl | (simp; done) | (simp [*]; done), by repeat (first | exact Drawn0.refl _ | apply Drawn0.step)⟩
      · replace c6 := Bool.eq_false_iff.mpr c6
        subst c6
        have H1 : ((day_floor.f (wrap64 (a0 + 719468)) 146097).bind fun t107 => (if (wrap64 ((wrap64 (Int.tdiv (wrap64 ((wrap64 (5 * (wrap64 ((wrap64 ((wrap64 (a0 + 719468)) - (wrap64 (t107 * 146097)))) - (wrap64 ((wrap64 ((wrap64 (365 * (wrap64 (Int.tdiv (wrap64 ((wrap64 ((wrap64 ((wrap64 ((wrap64 (a0 + 719468)) - (wrap64 (t107 * 146097)))) - (wrap64 (Int.tdiv (wrap64 ((wrap64 (a0 + 719468)) - (wrap64 (t107 * 146097)))) 1460)))) + (wrap64 (Int.tdiv (wrap64 ((wrap64 (a0 + 719468)) - (wrap64 (t107 * 146097)))) 36524)))) - (wrap64 (Int.tdiv (wrap64 ((wrap64 (a0 + 719468)) - (wrap64 (t107 * 146097)))) 146096)))) 365)))) + (wrap64 (Int.tdiv (wrap64 (Int.tdiv (wrap64 ((wrap64 ((wrap64 ((wrap64 ((wrap64 (a0 + 719468)) - (wrap64 (t107 * 146097)))) - (wrap64 (Int.tdiv (wrap64 ((wrap64 (a0 + 719468)) - (wrap64 (t107 * 146097)))) 1460)))) + (wrap64 (Int.tdiv (wrap64 ((wrap64 (a0 + 719468)) - (wrap64 (t107 * 146097)))) 36524)))) - (wrap64 (Int.tdiv (wrap64 ((wrap64 (a0 + 719468)) - (wrap64 (t107 * 146097)))) 146096)))) 365)) 4)))) - (wrap64 (Int.tdiv (wrap64 (Int.tdiv (wrap64 ((wrap64 ((wrap64 ((wrap64 ((wrap64 (a0 + 719468)) - (wrap64 (t107 * 146097)))) - (wrap64 (Int.tdiv (wrap64 ((wrap64 (a0 + 719468)) - (wrap64 (t107 * 146097)))) 1460)))) + (wrap64 (Int.tdiv (wrap64 ((wrap64 (a0 + 719468)) - (wrap64 (t107 * 146097)))) 36524)))) - (wrap64 (Int.tdiv (wrap64 ((wrap64 (a0 + 719468)) - (wrap64 (t107 * 146097)))) 146096)))) 365)) 100)))))))) + 2)) 153)) + 3)) > 12 then (some (wrap64 ((wrap64 ((wrap64 (Int.tdiv (wrap64 ((wrap64 ((wrap64 ((wrap64 ((wrap64 (a0 + 719468)) - (wrap64 (t107 * 146097)))) - (wrap64 (Int.tdiv (wrap64 ((wrap64 (a0 + 719468)) - (wrap64 (t107 * 146097)))) 1460)))) + (wrap64 (Int.tdiv (wrap64 ((wrap64 (a0 + 719468)) - (wrap64 (t107 * 146097)))) 36524)))) - (wrap64 (Int.tdiv (wrap64 ((wrap64 (a0 + 719468)) - (wrap64 (t107 * 146097)))) 146096)))) 365)) + (wrap64 (t107 * 400)))) + 1), wrap64 ((wrap64 ((wrap64 (Int.tdiv (wrap64 ((wrap64 (5 * (wrap64 ((wrap64 ((wrap64 (a0 + 719468)) - (wrap64 (t107 * 146097)))) - (wrap64 ((wrap64 ((wrap64 (365 * (wrap64 (Int.tdiv (wrap64 ((wrap64 ((wrap64 ((wrap64 ((wrap64 (a0 + 719468)) - (wrap64 (t107 * 146097)))) - (wrap64 (Int.tdiv (wrap64 ((wrap64 (a0 + 719468)) - (wrap64 (t107 * 146097)))) 1460)))) + (wrap64 (Int.tdiv (wrap64 ((wrap64 (a0 + 719468)) - (wrap64 (t107 * 146097)))) 36524)))) - (wrap64 (Int.tdiv (wrap64 ((wrap64 (a0 + 719468)) - (wrap64 (t107 * 146097)))) 146096)))) 365)))) + (wrap64 (Int.tdiv (wrap64 (Int.tdiv (wrap64 ((wrap64 ((wrap64 ((wrap64 ((wrap64 (a0 + 719468)) - (wrap64 (t107 * 146097)))) - (wrap64 (Int.tdiv (wrap64 ((wrap64 (a0 + 719468)) - (wrap64 (t107 * 146097)))) 1460)))) + (wrap64 (Int.tdiv (wrap64 ((wrap64 (a0 + 719468)) - (wrap64 (t107 * 146097)))) 36524)))) - (wrap64 (Int.tdiv (wrap64 ((wrap64 (a0 + 719468)) - (wrap64 (t107 * 146097)))) 146096)))) 365)) 4)))) - (wrap64 (Int.tdiv (wrap64 (Int.tdiv (wrap64 ((wrap64 ((wrap64 ((wrap64 ((wrap64 (a0 + 719468)) - (wrap64 (t107 * 146097)))) - (wrap64 (Int.tdiv (wrap64 ((wrap64 (a0 + 719468)) - (wrap64 (t107 * 146097)))) 1460)))) + (wrap64 (Int.tdiv (wrap64 ((wrap64 (a0 + 719468)) - (wrap64 (t107 * 146097)))) 36524)))) - (wrap64 (Int.tdiv (wrap64 ((wrap64 (a0 + 719468)) - (wrap64 (t107 * 146097)))) 146096)))) 365)) 100)))))))) + 2)) 153)) + 3)) - 12), wrap64 ((wrap64 ((wrap64 ((wrap64 ((wrap64 (a0 + 719468)) - (wrap64 (t107 * 146097)))) - (wrap64 ((wrap64 ((wrap64 (365 * (wrap64 (Int.tdiv (wrap64 ((wrap64 ((wrap64 ((wrap64 ((wrap64 (a0 + 719468)) - (wrap64 (t107 * 146097)))) - (wrap64 (Int.tdiv (wrap64 ((wrap64 (a0 + 719468)) - (wrap64 (t107 * 146097)))) 1460)))) + (wrap64 (Int.tdiv (wrap64 ((wrap64 (a0 + 719468)) - (wrap64 (t107 * 146097)))) 36524)))) - (wrap64 (Int.tdiv (wrap64 ((wrap64 (a0 + 719468)) - (wrap64 (t107 * 146097)))) 146096)))) 365)))) + (wrap64 (Int.tdiv (wrap64 (Int.tdiv (wrap64 ((wrap64 ((wrap64 ((wrap64 ((wrap64 (a0 + 719468)) - (wrap64 (t107 * 146097)))) - (wrap64 (Int.tdiv (wrap64 ((wrap64 (a0 + 719468)) - (wrap64 (t107 * 146097)))) 1460)))) + (wrap64 (Int.tdiv (wrap64 ((wrap64 (a0 + 719468)) - (wrap64 (t107 * 146097)))) 36524)))) - (wrap64 (Int.tdiv (wrap64 ((wrap64 (a0 + 719468)) - (wrap64 (t107 * 146097)))) 146096)))) 365)) 4)))) - (wrap64 (Int.tdiv (wrap64 (Int.tdiv (wrap64 ((wrap64 ((wrap64 ((wrap64 ((wrap64 (a0 + 719468)) - (wrap64 (t107 * 146097)))) - (wrap64 (Int.tdiv (wrap64 ((wrap64 (a0 + 719468)) - (wrap64 (t107 * 146097)))) 1460)))) + (wrap64 (Int.tdiv (wrap64 ((wrap64 (a0 + 719468)) - (wrap64 (t107 * 146097)))) 36524)))) - (wrap64 (Int.tdiv (wrap64 ((wrap64 (a0 + 719468)) - (wrap64 (t107 * 146097)))) 146096)))) 365)) 100)))))) - (wrap64 (Int.tdiv (wrap64 ((wrap64 (153 * (wrap64 (Int.tdiv (wrap64 ((wrap64 (5 * (wrap64 ((wrap64 ((wrap64 (a0 + 719468)) - (wrap64 (t107 * 146097)))) - (wrap64 ((wrap64 ((wrap64 (365 * (wrap64 (Int.tdiv (wrap64 ((wrap64 ((wrap64 ((wrap64 ((wrap64 (a0 + 719468)) - (wrap64 (t107 * 146097)))) - (wrap64 (Int.tdiv (wrap64 ((wrap64 (a0 + 719468)) - (wrap64 (t107 * 146097)))) 1460)))) + (wrap64 (Int.tdiv (wrap64 ((wrap64 (a0 + 719468)) - (wrap64 (t107 * 146097)))) 36524)))) - (wrap64 (Int.tdiv (wrap64 ((wrap64 (a0 + 719468)) - (wrap64 (t107 * 146097)))) 146096)))) 365)))) + (wrap64 (Int.tdiv (wrap64 (Int.tdiv (wrap64 ((wrap64 ((wrap64 ((wrap64 ((wrap64 (a0 + 719468)) - (wrap64 (t107 * 146097)))) - (wrap64 (Int.tdiv (wrap64 ((wrap64 (a0 + 719468)) - (wrap64 (t107 * 146097)))) 1460)))) + (wrap64 (Int.tdiv (wrap64 ((wrap64 (a0 + 719468)) - (wrap64 (t107 * 146097)))) 36524)))) - (wrap64 (Int.tdiv (wrap64 ((wrap64 (a0 + 719468)) - (wrap64 (t107 * 146097)))) 146096)))) 365)) 4)))) - (wrap64 (Int.tdiv (wrap64 (Int.tdiv (wrap64 ((wrap64 ((wrap64 ((wrap64 ((wrap64 (a0 + 719468)) - (wrap64 (t107 * 146097)))) - (wrap64 (Int.tdiv (wrap64 ((wrap64 (a0 + 719468)) - (wrap64 (t107 * 146097)))) 1460)))) + (wrap64 (Int.tdiv (wrap64 ((wrap64 (a0 + 719468)) - (wrap64 (t107 * 146097)))) 36524)))) - (wrap64 (Int.tdiv (wrap64 ((wrap64 (a0 + 719468)) - (wrap64 (t107 * 146097)))) 146096)))) 365)) 100)))))))) + 2)) 153)))) + 2)) 5)))) + 1), none)) else (some (wrap64 ((wrap64 (Int.tdiv (wrap64 ((wrap64 ((wrap64 ((wrap64 ((wrap64 (a0 + 719468)) - (wrap64 (t107 * 146097)))) - (wrap64 (Int.tdiv (wrap64 ((wrap64 (a0 + 719468)) - (wrap64 (t107 * 146097)))) 1460)))) + (wrap64 (Int.tdiv (wrap64 ((wrap64 (a0 + 719468)) - (wrap64 (t107 * 146097)))) 36524)))) - (wrap64 (Int.tdiv (wrap64 ((wrap64 (a0 + 719468)) - (wrap64 (t107 * 146097)))) 146096)))) 365)) + (wrap64 (t107 * 400))), wrap64 ((wrap64 (Int.tdiv (wrap64 ((wrap64 (5 * (wrap64 ((wrap64 ((wrap64 (a0 + 719468)) - (wrap64 (t107 * 146097)))) - (wrap64 ((wrap64 ((wrap64 (365 * (wrap64 (Int.tdiv (wrap64 ((wrap64 ((wrap64 ((wrap64 ((wrap64 (a0 + 719468)) - (wrap64 (t107 * 146097)))) - (wrap64 (Int.tdiv (wrap64 ((wrap64 (a0 + 719468)) - (wrap64 (t107 * 146097)))) 1460)))) + (wrap64 (Int.tdiv (wrap64 ((wrap64 (a0 + 719468)) - (wrap64 (t107 * 146097)))) 36524)))) - (wrap64 (Int.tdiv (wrap64 ((wrap64 (a0 + 719468)) - (wrap64 (t107 * 146097)))) 146096)))) 365)))) + (wrap64 (Int.tdiv (wrap64 (Int.tdiv (wrap64 ((wrap64 ((wrap64 ((wrap64 ((wrap64 (a0 + 719468)) - (wrap64 (t107 * 146097)))) - (wrap64 (Int.tdiv (wrap64 ((wrap64 (a0 + 719468)) - (wrap64 (t107 * 146097)))) 1460)))) + (wrap64 (Int.tdiv (wrap64 ((wrap64 (a0 + 719468)) - (wrap64 (t107 * 146097)))) 36524)))) - (wrap64 (Int.tdiv (wrap64 ((wrap64 (a0 + 719468)) - (wrap64 (t107 * 146097)))) 146096)))) 365)) 4)))) - (wrap64 (Int.tdiv (wrap64 (Int.tdiv (wrap64 ((wrap64 ((wrap64 ((wrap64 ((wrap64 (a0 + 719468)) - (wrap64 (t107 * 146097)))) - (wrap64 (Int.tdiv (wrap64 ((wrap64 (a0 + 719468)) - (wrap64 (t107 * 146097)))) 1460)))) + (wrap64 (Int.tdiv (wrap64 ((wrap64 (a0 + 719468)) - (wrap64 (t107 * 146097)))) 36524)))) - (wrap64 (Int.tdiv (wrap64 ((wrap64 (a0 + 719468)) - (wrap64 (t107 * 146097)))) 146096)))) 365)) 100)))))))) + 2)) 153)) + 3), wrap64 ((wrap64 ((wrap64 ((wrap64 ((wrap64 (a0 + 719468)) - (wrap64 (t107 * 146097)))) - (wrap64 ((wrap64 ((wrap64 (365 * (wrap64 (Int.tdiv (wrap64 ((wrap64 ((wrap64 ((wrap64 ((wrap64 (a0 + 719468)) - (wrap64 (t107 * 146097)))) - (wrap64 (Int.tdiv (wrap64 ((wrap64 (a0 + 719468)) - (wrap64 (t107 * 146097)))) 1460)))) + (wrap64 (Int.tdiv (wrap64 ((wrap64 (a0 + 719468)) - (wrap64 (t107 * 146097)))) 36524)))) - (wrap64 (Int.tdiv (wrap64 ((wrap64 (a0 + 719468)) - (wrap64 (t107 * 146097)))) 146096)))) 365)))) + (wrap64 (Int.tdiv (wrap64 (Int.tdiv (wrap64 ((wrap64 ((wrap64 ((wrap64 ((wrap64 (a0 + 719468)) - (wrap64 (t107 * 146097)))) - (wrap64 (Int.tdiv (wrap64 ((wrap64 (a0 + 719468)) - (wrap64 (t107 * 146097)))) 1460)))) + (wrap64 (Int.tdiv (wrap64 ((wrap64 (a0 + 719468)) - (wrap64 (t107 * 146097)))) 36524)))) - (wrap64 (Int.tdiv (wrap64 ((wrap64 (a0 + 719468)) - (wrap64 (t107 * 146097)))) 146096)))) 365)) 4)))) - (wrap64 (Int.tdiv (wrap64 (Int.tdiv (wrap64 ((wrap64 ((wrap64 ((wrap64 ((wrap64 (a0 + 719468)) - (wrap64 (t107 * 146097)))) - (wrap64 (Int.tdiv (wrap64 ((wrap64 (a0 + 719468)) - (wrap64 (t107 * 146097)))) 1460)))) + (wrap64 (Int.tdiv (wrap64 ((wrap64 (a0 + 719468)) - (wrap64 (t107 * 146097)))) 36524)))) - (wrap64 (Int.tdiv (wrap64 ((wrap64 (a0 + 719468)) - (wrap64 (t107 * 146097)))) 146096)))) 365)) 100)))))) - (wrap64 (Int.tdiv (wrap64 ((wrap64 (153 * (wrap64 (Int.tdiv (wrap64 ((wrap64 (5 * (wrap64 ((wrap64 ((wrap64 (a0 + 719468)) - (wrap64 (t107 * 146097)))) - (wrap64 ((wrap64 ((wrap64 (365 * (wrap64 (Int.tdiv (wrap64 ((wrap64 ((wrap64 ((wrap64 ((wrap64 (a0 + 719468)) - (wrap64 (t107 * 146097)))) - (wrap64 (Int.tdiv (wrap64 ((wrap64 (a0 + 719468)) - (wrap64 (t107 * 146097)))) 1460)))) + (wrap64 (Int.tdiv (wrap64 ((wrap64 (a0 + 719468)) - (wrap64 (t107 * 146097)))) 36524)))) - (wrap64 (Int.tdiv (wrap64 ((wrap64 (a0 + 719468)) - (wrap64 (t107 * 146097)))) 146096)))) 365)))) + (wrap64 (Int.tdiv (wrap64 (Int.tdiv (wrap64 ((wrap64 ((wrap64 ((wrap64 ((wrap64 (a0 + 719468)) - (wrap64 (t107 * 146097)))) - (wrap64 (Int.tdiv (wrap64 ((wrap64 (a0 + 719468)) - (wrap64 (t107 * 146097)))) 1460)))) + (wrap64 (Int.tdiv (wrap64 ((wrap64 (a0 + 719468)) - (wrap64 (t107 * 146097)))) 36524)))) - (wrap64 (Int.tdiv (wrap64 ((wrap64 (a0 + 719468)) - (wrap64 (t107 * 146097)))) 146096)))) 365)) 4)))) - (wrap64 (Int.tdiv (wrap64 (Int.tdiv (wrap64 ((wrap64 ((wrap64 ((wrap64 ((wrap64 (a0 + 719468)) - (wrap64 (t107 * 146097)))) - (wrap64 (Int.tdiv (wrap64 ((wrap64 (a0 + 719468)) - (wrap64 (t107 * 146097)))) 1460)))) + (wrap64 (Int.tdiv (wrap64 ((wrap64 (a0 + 719468)) - (wrap64 (t107 * 146097)))) 36524)))) - (wrap64 (Int.tdiv (wrap64 ((wrap64 (a0 + 719468)) - (wrap64 (t107 * 146097)))) 146096)))) 365)) 100)))))))) + 2)) 153)))) + 2)) 5)))) + 1), none)))) = some (r1, r2, r3, r4) := by rw [if_neg (show ¬ (false = true) by decide)] at H; exact H
        clear H
        have H := H1
        clear H1
        replace H := Option.bind_eq_some_iff.mp H
        obtain ⟨t107, A70, H⟩ := H
        replace H : (if (wrap64 ((wrap64 (Int.tdiv (wrap64 ((wrap64 (5 * (wrap64 ((wrap64 ((wrap64 (a0 + 719468)) - (wrap64 (t107 * 146097)))) - (wrap64 ((wrap64 ((wrap64 (365 * (wrap64 (Int.tdiv (wrap64 ((wrap64 ((wrap64 ((wrap64 ((wrap64 (a0 + 719468)) - (wrap64 (t107 * 146097)))) - (wrap64 (Int.tdiv (wrap64 ((wrap64 (a0 + 719468)) - (wrap64 (t107 * 146097)))) 1460)))) + (wrap64 (Int.tdiv (wrap64 ((wrap64 (a0 + 719468)) - (wrap64 (t107 * 146097)))) 36524)))) - (wrap64 (Int.tdiv (wrap64 ((wrap64 (a0 + 719468)) - (wrap64 (t107 * 146097)))) 146096)))) 365)))) + (wrap64 (Int.tdiv (wrap64 (Int.tdiv (wrap64 ((wrap64 ((wrap64 ((wrap64 ((wrap64 (a0 + 719468)) - (wrap64 (t107 * 146097)))) - (wrap64 (Int.tdiv (wrap64 ((wrap64 (a0 + 719468)) - (wrap64 (t107 * 146097)))) 1460)))) + (wrap64 (Int.tdiv (wrap64 ((wrap64 (a0 + 719468)) - (wrap64 (t107 * 146097)))) 36524)))) - (wrap64 (Int.tdiv (wrap64 ((wrap64 (a0 + 719468)) - (wrap64 (t107 * 146097)))) 146096)))) 365)) 4)))) - (wrap64 (Int.tdiv (wrap64 (Int.tdiv (wrap64 ((wrap64 ((wrap64 ((wrap64 ((wrap64 (a0 + 719468)) - (wrap64 (t107 * 146097)))) - (wrap64 (Int.tdiv (wrap64 ((wrap64 (a0 + 719468)) - (wrap64 (t107 * 146097)))) 1460)))) + (wrap64 (Int.tdiv (wrap64 ((wrap64 (a0 + 719468)) - (wrap64 (t107 * 146097)))) 36524)))) - (wrap64 (Int.tdiv (wrap64 ((wrap64 (a0 + 719468)) - (wrap64 (t107 * 146097)))) 146096)))) 365)) 100)))))))) + 2)) 153)) + 3)) > 12 then (some (wrap64 ((wrap64 ((wrap64 (Int.tdiv (wrap64 ((wrap64 ((wrap64 ((wrap64 ((wrap64 (a0 + 719468)) - (wrap64 (t107 * 146097)))) - (wrap64 (Int.tdiv (wrap64 ((wrap64 (a0 + 719468)) - (wrap64 (t107 * 146097)))) 1460)))) + (wrap64 (Int.tdiv (wrap64 ((wrap64 (a0 + 719468)) - (wrap64 (t107 * 146097)))) 36524)))) - (wrap64 (Int.tdiv (wrap64 ((wrap64 (a0 + 719468)) - (wrap64 (t107 * 146097)))) 146096)))) 365)) + (wrap64 (t107 * 400)))) + 1), wrap64 ((wrap64 ((wrap64 (Int.tdiv (wrap64 ((wrap64 (5 * (wrap64 ((wrap64 ((wrap64 (a0 + 719468)) - (wrap64 (t107 * 146097)))) - (wrap64 ((wrap64 ((wrap64 (365 * (wrap64 (Int.tdiv (wrap64 ((wrap64 ((wrap64 ((wrap64 ((wrap64 (a0 + 719468)) - (wrap64 (t107 * 146097)))) - (wrap64 (Int.tdiv (wrap64 ((wrap64 (a0 + 719468)) - (wrap64 (t107 * 146097)))) 1460)))) + (wrap64 (Int.tdiv (wrap64 ((wrap64 (a0 + 719468)) - (wrap64 (t107 * 146097)))) 36524)))) - (wrap64 (Int.tdiv (wrap64 ((wrap64 (a0 + 719468)) - (wrap64 (t107 * 146097)))) 146096)))) 365)))) + (wrap64 (Int.tdiv (wrap64 (Int.tdiv (wrap64 ((wrap64 ((wrap64 ((wrap64 ((wrap64 (a0 + 719468)) - (wrap64 (t107 * 146097)))) - (wrap64 (Int.tdiv (wrap64 ((wrap64 (a0 + 719468)) - (wrap64 (t107 * 146097)))) 1460)))) + (wrap64 (Int.tdiv (wrap64 ((wrap64 (a0 + 719468)) - (wrap64 (t107 * 146097)))) 36524)))) - (wrap64 (Int.tdiv (wrap64 ((wrap64 (a0 + 719468)) - (wrap64 (t107 * 146097)))) 146096)))) 365)) 4)))) - (wrap64 (Int.tdiv (wrap64 (Int.tdiv (wrap64 ((wrap64 ((wrap64 ((wrap64 ((wrap64 (a0 + 719468)) - (wrap64 (t107 * 146097)))) - (wrap64 (Int.tdiv (wrap64 ((wrap64 (a0 + 719468)) - (wrap64 (t107 * 146097)))) 1460)))) + (wrap64 (Int.tdiv (wrap64 ((wrap64 (a0 + 719468)) - (wrap64 (t107 * 146097)))) 36524)))) - (wrap64 (Int.tdiv (wrap64 ((wrap64 (a0 + 719468)) - (wrap64 (t107 * 146097)))) 146096)))) 365)) 100)))))))) + 2)) 153)) + 3)) - 12), wrap64 ((wrap64 ((wrap64 ((wrap64 ((wrap64 (a0 + 719468)) - (wrap64 (t107 * 146097)))) - (wrap64 ((wrap64 ((wrap64 (365 * (wrap64 (Int.tdiv (wrap64 ((wrap64 ((wrap64 ((wrap64 ((wrap64 (a0 + 719468)) - (wrap64 (t107 * 146097)))) - (wrap64 (Int.tdiv (wrap64 ((wrap64 (a0 + 719468)) - (wrap64 (t107 * 146097)))) 1460)))) + (wrap64 (Int.tdiv (wrap64 ((wrap64 (a0 + 719468)) - (wrap64 (t107 * 146097)))) 36524)))) - (wrap64 (Int.tdiv (wrap64 ((wrap64 (a0 + 719468)) - (wrap64 (t107 * 146097)))) 146096)))) 365)))) + (wrap64 (Int.tdiv (wrap64 (Int.tdiv (wrap64 ((wrap64 ((wrap64 ((wrap64 ((wrap64 (a0 + 719468)) - (wrap64 (t107 * 146097)))) - (wrap64 (Int.tdiv (wrap64 ((wrap64 (a0 + 719468)) - (wrap64 (t107 * 146097)))) 1460)))) + (wrap64 (Int.tdiv (wrap64 ((wrap64 (a0 + 719468)) - (wrap64 (t107 * 146097)))) 36524)))) - (wrap64 (Int.tdiv (wrap64 ((wrap64 (a0 + 719468)) - (wrap64 (t107 * 146097)))) 146096)))) 365)) 4)))) - (wrap64 (Int.tdiv (wrap64 (Int.tdiv (wrap64 ((wrap64 ((wrap64 ((wrap64 ((wrap64 (a0 + 719468)) - (wrap64 (t107 * 146097)))) - (wrap64 (Int.tdiv (wrap64 ((wrap64 (a0 + 719468)) - (wrap64 (t107 * 146097)))) 1460)))) + (wrap64 (Int.tdiv (wrap64 ((wrap64 (a0 + 719468)) - (wrap64 (t107 * 146097)))) 36524)))) - (wrap64 (Int.tdiv (wrap64 ((wrap64 (a0 + 719468)) - (wrap64 (t107 * 146097)))) 146096)))) 365)) 100)))))) - (wrap64 (Int.tdiv (wrap64 ((wrap64 (153 * (wrap64 (Int.tdiv (wrap64 ((wrap64 (5 * (wrap64 ((wrap64 ((wrap64 (a0 + 719468)) - (wrap64 (t107 * 146097)))) - (wrap64 ((wrap64 ((wrap64 (365 * (wrap64 (Int.tdiv (wrap64 ((wrap64 ((wrap64 ((wrap64 ((wrap64 (a0 + 719468)) - (wrap64 (t107 * 146097)))) - (wrap64 (Int.tdiv (wrap64 ((wrap64 (a0 + 719468)) - (wrap64 (t107 * 146097)))) 1460)))) + (wrap64 (Int.tdiv (wrap64 ((wrap64 (a0 + 719468)) - (wrap64 (t107 * 146097)))) 36524)))) - (wrap64 (Int.tdiv (wrap64 ((wrap64 (a0 + 719468)) - (wrap64 (t107 * 146097)))) 146096)))) 365)))) + (wrap64 (Int.tdiv (wrap64 (Int.tdiv (wrap64 ((wrap64 ((wrap64 ((wrap64 ((wrap64 (a0 + 719468)) - (wrap64 (t107 * 146097)))) - (wrap64 (Int.tdiv (wrap64 ((wrap64 (a0 + 719468)) - (wrap64 (t107 * 146097)))) 1460)))) + (wrap64 (Int.tdiv (wrap64 ((wrap64 (a0 + 719468)) - (wrap64 (t107 * 146097)))) 36524)))) - (wrap64 (Int.tdiv (wrap64 ((wrap64 (a0 + 719468)) - (wrap64 (t107 * 146097)))) 146096)))) 365)) 4)))) - (wrap64 (Int.tdiv (wrap64 (Int.tdiv (wrap64 ((wrap64 ((wrap64 ((wrap64 ((wrap64 (a0 + 719468)) - (wrap64 (t107 * 146097)))) - (wrap64 (Int.tdiv (wrap64 ((wrap64 (a0 + 719468)) - (wrap64 (t107 * 146097)))) 1460)))) + (wrap64 (Int.tdiv (wrap64 ((wrap64 (a0 + 719468)) - (wrap64 (t107 * 146097)))) 36524)))) - (wrap64 (Int.tdiv (wrap64 ((wrap64 (a0 + 719468)) - (wrap64 (t107 * 146097)))) 146096)))) 365)) 100)))))))) + 2)) 153)))) + 2)) 5)))) + 1), none)) else (some (wrap64 ((wrap64 (Int.tdiv (wrap64 ((wrap64 ((wrap64 ((wrap64 ((wrap64 (a0 + 719468)) - (wrap64 (t107 * 146097)))) - (wrap64 (Int.tdiv (wrap64 ((wrap64 (a0 + 719468)) - (wrap64 (t107 * 146097)))) 1460)))) + (wrap64 (Int.tdiv (wrap64 ((wrap64 (a0 + 719468)) - (wrap64 (t107 * 146097)))) 36524)))) - (wrap64 (Int.tdiv (wrap64 ((wrap64 (a0 + 719468)) - (wrap64 (t107 * 146097)))) 146096)))) 365)) + (wrap64 (t107 * 400))), wrap64 ((wrap64 (Int.tdiv (wrap64 ((wrap64 (5 * (wrap64 ((wrap64 ((wrap64 (a0 + 719468)) - (wrap64 (t107 * 146097)))) - (wrap64 ((wrap64 ((wrap64 (365 * (wrap64 (Int.tdiv (wrap64 ((wrap64 ((wrap64 ((wrap64 ((wrap64 (a0 + 719468)) - (wrap64 (t107 * 146097)))) - (wrap64 (Int.tdiv (wrap64 ((wrap64 (a0 + 719468)) - (wrap64 (t107 * 146097)))) 1460)))) + (wrap64 (Int.tdiv (wrap64 ((wrap64 (a0 + 719468)) - (wrap64 (t107 * 146097)))) 36524)))) - (wrap64 (Int.tdiv (wrap64 ((wrap64 (a0 + 719468)) - (wrap64 (t107 * 146097)))) 146096)))) 365)))) + (wrap64 (Int.tdiv (wrap64 (Int.tdiv (wrap64 ((wrap64 ((wrap64 ((wrap64 ((wrap64 (a0 + 719468)) - (wrap64 (t107 * 146097)))) - (wrap64 (Int.tdiv (wrap64 ((wrap64 (a0 + 719468)) - (wrap64 (t107 * 146097)))) 1460)))) + (wrap64 (Int.tdiv (wrap64 ((wrap64 (a0 + 719468)) - (wrap64 (t107 * 146097)))) 36524)))) - (wrap64 (Int.tdiv (wrap64 ((wrap64 (a0 + 719468)) - (wrap64 (t107 * 146097)))) 146096)))) 365)) 4)))) - (wrap64 (Int.tdiv (wrap64 (Int.tdiv (wrap64 ((wrap64 ((wrap64 ((wrap64 ((wrap64 (a0 + 719468)) - (wrap64 (t107 * 146097)))) - (wrap64 (Int.tdiv (wrap64 ((wrap64 (a0 + 719468)) - (wrap64 (t107 * 146097)))) 1460)))) + (wrap64 (Int.tdiv (wrap64 ((wrap64 (a0 + 719468)) - (wrap64 (t107 * 146097)))) 36524)))) - (wrap64 (Int.tdiv (wrap64 ((wrap64 (a0 + 719468)) - (wrap64 (t107 * 146097)))) 146096)))) 365)) 100)))))))) + 2)) 153)) + 3), wrap64 ((wrap64 ((wrap64 ((wrap64 ((wrap64 (a0 + 719468)) - (wrap64 (t107 * 146097)))) - (wrap64 ((wrap64 ((wrap64 (365 * (wrap64 (Int.tdiv (wrap64 ((wrap64 ((wrap64 ((wrap64 ((wrap64 (a0 + 719468)) - (wrap64 (t107 * 146097)))) - (wrap64 (Int.tdiv (wrap64 ((wrap64 (a0 + 719468)) - (wrap64 (t107 * 146097)))) 1460)))) + (wrap64 (Int.tdiv (wrap64 ((wrap64 (a0 + 719468)) - (wrap64 (t107 * 146097)))) 36524)))) - (wrap64 (Int.tdiv (wrap64 ((wrap64 (a0 + 719468)) - (wrap64 (t107 * 146097)))) 146096)))) 365)))) + (wrap64 (Int.tdiv (wrap64 (Int.tdiv (wrap64 ((wrap64 ((wrap64 ((wrap64 ((wrap64 (a0 + 719468)) - (wrap64 (t107 * 146097)))) - (wrap64 (Int.tdiv (wrap64 ((wrap64 (a0 + 719468)) - (wrap64 (t107 * 146097)))) 1460)))) + (wrap64 (Int.tdiv (wrap64 ((wrap64 (a0 + 719468)) - (wrap64 (t107 * 146097)))) 36524)))) - (wrap64 (Int.tdiv (wrap64 ((wrap64 (a0 + 719468)) - (wrap64 (t107 * 146097)))) 146096)))) 365)) 4)))) - (wrap64 (Int.tdiv (wrap64 (Int.tdiv (wrap64 ((wrap64 ((wrap64 ((wrap64 ((wrap64 (a0 + 719468)) - (wrap64 (t107 * 146097)))) - (wrap64 (Int.tdiv (wrap64 ((wrap64 (a0 + 719468)) - (wrap64 (t107 * 146097)))) 1460)))) + (wrap64 (Int.tdiv (wrap64 ((wrap64 (a0 + 719468)) - (wrap64 (t107 * 146097)))) 36524)))) - (wrap64 (Int.tdiv (wrap64 ((wrap64 (a0 + 719468)) - (wrap64 (t107 * 146097)))) 146096)))) 365)) 100)))))) - (wrap64 (Int.tdiv (wrap64 ((wrap64 (153 * (wrap64 (Int.tdiv (wrap64 ((wrap64 (5 * (wrap64 ((wrap64 ((wrap64 (a0 + 719468)) - (wrap64 (t107 * 146097)))) - (wrap64 ((wrap64 ((wrap64 (365 * (wrap64 (Int.tdiv (wrap64 ((wrap64 ((wrap64 ((wrap64 ((wrap64 (a0 + 719468)) - (wrap64 (t107 * 146097)))) - (wrap64 (Int.tdiv (wrap64 ((wrap64 (a0 + 719468)) - (wrap64 (t107 * 146097)))) 1460)))) + (wrap64 (Int.tdiv (wrap64 ((wrap64 (a0 + 719468)) - (wrap64 (t107 * 146097)))) 36524)))) - (wrap64 (Int.tdiv (wrap64 ((wrap64 (a0 + 719468)) - (wrap64 (t107 * 146097)))) 146096)))) 365)))) + (wrap64 (Int.tdiv (wrap64 (Int.tdiv (wrap64 ((wrap64 ((wrap64 ((wrap64 ((wrap64 (a0 + 719468)) - (wrap64 (t107 * 146097)))) - (wrap64 (Int.tdiv (wrap64 ((wrap64 (a0 + 719468)) - (wrap64 (t107 * 146097)))) 1460)))) + (wrap64 (Int.tdiv (wrap64 ((wrap64 (a0 + 719468)) - (wrap64 (t107 * 146097)))) 36524)))) - (wrap64 (Int.tdiv (wrap64 ((wrap64 (a0 + 719468)) - (wrap64 (t107 * 146097)))) 146096)))) 365)) 4)))) - (wrap64 (Int.tdiv (wrap64 (Int.tdiv (wrap64 ((wrap64 ((wrap64 ((wrap64 ((wrap64 (a0 + 719468)) - (wrap64 (t107 * 146097)))) - (wrap64 (Int.tdiv (wrap64 ((wrap64 (a0 + 719468)) - (wrap64 (t107 * 146097)))) 1460)))) + (wrap64 (Int.tdiv (wrap64 ((wrap64 (a0 + 719468)) - (wrap64 (t107 * 146097)))) 36524)))) - (wrap64 (Int.tdiv (wrap64 ((wrap64 (a0 + 719468)) - (wrap64 (t107 * 146097)))) 146096)))) 365)) 100)))))))) + 2)) 153)))) + 2)) 5)))) + 1), none))) = some (r1, r2, r3, r4) := H
        have A7 := Aside0.mk A70
        clear A70
        by_cases c8 : (wrap64 ((wrap64 (Int.tdiv (wrap64 ((wrap64 (5 * (wrap64 ((wrap64 ((wrap64 (a0 + 719468)) - (wrap64 (t107 * 146097)))) - (wrap64 ((wrap64 ((wrap64 (365 * (wrap64 (Int.tdiv (wrap64 ((wrap64 ((wrap64 ((wrap64 ((wrap64 (a0 + 719468)) - (wrap64 (t107 * 146097)))) - (wrap64 (Int.tdiv (wrap64 ((wrap64 (a0 + 719468)) - (wrap64 (t107 * 146097)))) 1460)))) + (wrap64 (Int.tdiv (wrap64 ((wrap64 (a0 + 719468)) - (wrap64 (t107 * 146097)))) 36524)))) - (wrap64 (Int.tdiv (wrap64 ((wrap64 (a0 + 719468)) - (wrap64 (t107 * 146097)))) 146096)))) 365)))) + (wrap64 (Int.tdiv (wrap64 (Int.tdiv (wrap64 ((wrap64 ((wrap64 ((wrap64 ((wrap64 (a0 + 719468)) - (wrap64 (t107 * 146097)))) - (wrap64 (Int.tdiv (wrap64 ((wrap64 (a0 + 719468)) - (wrap64 (t107 * 146097)))) 1460)))) + (wrap64 (Int.tdiv (wrap64 ((wrap64 (a0 + 719468)) - (wrap64 (t107 * 146097)))) 36524)))) - (wrap64 (Int.tdiv (wrap64 ((wrap64 (a0 + 719468)) - (wrap64 (t107 * 146097)))) 146096)))) 365)) 4)))) - (wrap64 (Int.tdiv (wrap64 (Int.tdiv (wrap64 ((wrap64 ((wrap64 ((wrap64 ((wrap64 (a0 + 719468)) - (wrap64 (t107 * 146097)))) - (wrap64 (Int.tdiv (wrap64 ((wrap64 (a0 + 719468)) - (wrap64 (t107 * 146097)))) 1460)))) + (wrap64 (Int.tdiv (wrap64 ((wrap64 (a0 + 719468)) - (wrap64 (t107 * 146097)))) 36524)))) - (wrap64 (Int.tdiv (wrap64 ((wrap64 (a0 + 719468)) - (wrap64 (t107 * 146097)))) 146096)))) 365)) 100)))))))) + 2)) 153)) + 3)) > 12
        · rw [if_pos c8] at H
          have c8b0 : decide (12 < (wrap64 ((wrap64 (Int.tdiv (wrap64 ((wrap64 (5 * (wrap64 ((wrap64 ((wrap64 (a0 + 719468)) - (wrap64 (t107 * 146097)))) - (wrap64 ((wrap64 ((wrap64 (365 * (wrap64 (Int.tdiv (wrap64 ((wrap64 ((wrap64 ((wrap64 ((wrap64 (a0 + 719468)) - (wrap64 (t107 * 146097)))) - (wrap64 (Int.tdiv (wrap64 ((wrap64 (a0 + 719468)) - (wrap64 (t107 * 146097)))) 1460)))) + (wrap64 (Int.tdiv (wrap64 ((wrap64 (a0 + 719468)) - (wrap64 (t107 * 146097)))) 36524)))) - (wrap64 (Int.tdiv (wrap64 ((wrap64 (a0 + 719468)) - (wrap64 (t107 * 146097)))) 146096)))) 365)))) + (wrap64 (Int.tdiv (wrap64 (Int.tdiv (wrap64 ((wrap64 ((wrap64 ((wrap64 ((wrap64 (a0 + 719468)) - (wrap64 (t107 * 146097)))) - (wrap64 (Int.tdiv (wrap64 ((wrap64 (a0 + 719468)) - (wrap64 (t107 * 146097)))) 1460)))) + (wrap64 (Int.tdiv (wrap64 ((wrap64 (a0 + 719468)) - (wrap64 (t107 * 146097)))) 36524)))) - (wrap64 (Int.tdiv (wrap64 ((wrap64 (a0 + 719468)) - (wrap64 (t107 * 146097)))) 146096)))) 365)) 4)))) - (wrap64 (Int.tdiv (wrap64 (Int.tdiv (wrap64 ((wrap64 ((wrap64 ((wrap64 ((wrap64 (a0 + 719468)) - (wrap64 (t107 * 146097)))) - (wrap64 (Int.tdiv (wrap64 ((wrap64 (a0 + 719468)) - (wrap64 (t107 * 146097)))) 1460)))) + (wrap64 (Int.tdiv (wrap64 ((wrap64 (a0 + 719468)) - (wrap64 (t107 * 146097)))) 36524)))) - (wrap64 (Int.tdiv (wrap64 ((wrap64 (a0 + 719468)) - (wrap64 (t107 * 146097)))) 146096)))) 365)) 100)))))))) + 2)) 153)) + 3))) = true := decide_eq_true c8
          clear c8
          simp only [Option.some.injEq, Prod.mk.injEq] at H
          obtain ⟨rfl, rfl, rfl, rfl⟩ := H
          go_wp2_with (first | ((with_reducible refine gate_callee (f := 42) rfl ?_); refine goesL_ (some 24) rfl rfl Try.func42 (by kernel_rfl) rfl #[.int .i64 (wrap64 (a0 + 719468)), .int .i64 146097] rfl (by (try simp only [List.map_toArray, List.map_cons, List.map_nil]); first | done | rfl | (simp only [List.length_drop, List.length_take]; rfl) | (refine congrArg (fun z_ => #[Value.int IntKind.i64 z_]) (?_ : Go.RowKit.wrap64 (IntKind.u8.wrap _) = _); rw [IntKind.wrap_u8]; unfold Go.RowKit.wrap64; omega)) ?_; (with_reducible refine (day_floor.calls (wrap64 (a0 + 719468)) 146097 t107 _ A7.out).mono ?_); rintro e w' ⟨rfl, ⟨nd, rfl⟩⟩; refine ⟨_, rfl, ?_⟩))
          refine bodyPost_ret (results_list (rs := [.tmp 2, .tmp 3, .tmp 4, .tmp 5]) rfl (by simp) (.tmp (.tmp (.tmp (.tmp .nil))))) rfl ?_
          exact ⟨by first | rfl | (simp; done) | (simp [*]; done), by repeat (first | exact Drawn0.refl _ | apply Drawn0.step)⟩
        · rw [if_neg c8] at H
          have c8b0 : decide (12 < (wrap64 ((wrap64 (Int.tdiv (wrap64 ((wrap64 (5 * (wrap64 ((wrap64 ((wrap64 (a0 + 719468)) - (wrap64 (t107 * 146097)))) - (wrap64 ((wrap64 ((wrap64 (365 * (wrap64 (Int.tdiv (wrap64 ((wrap64 ((wrap64 ((wrap64 ((wrap64 (a0 + 719468)) - (wrap64 (t107 * 146097)))) - (wrap64 (Int.tdiv (wrap64 ((wrap64 (a0 + 719468)) - (wrap64 (t107 * 146097)))) 1460)))) + (wrap64 (Int.tdiv (wrap64 ((wrap64 (a0 + 719468)) - (wrap64 (t107 * 146097)))) 36524)))) - (wrap64 (Int.tdiv (wrap64 ((wrap64 (a0 + 719468)) - (wrap64 (t107 * 146097)))) 146096)))) 365)))) + (wrap64 (Int.tdiv (wrap64 (Int.tdiv (wrap64 ((wrap64 ((wrap64 ((wrap64 ((wrap64 (a0 + 719468)) - (wrap64 (t107 * 146097)))) - (wrap64 (Int.tdiv (wrap64 ((wrap64 (a0 + 719468)) - (wrap64 (t107 * 146097)))) 1460)))) + (wrap64 (Int.tdiv (wrap64 ((wrap64 (a0 + 719468)) - (wrap64 (t107 * 146097)))) 36524)))) - (wrap64 (Int.tdiv (wrap64 ((wrap64 (a0 + 719468)) - (wrap64 (t107 * 146097)))) 146096)))) 365)) 4)))) - (wrap64 (Int.tdiv (wrap64 (Int.tdiv (wrap64 ((wrap64 ((wrap64 ((wrap64 ((wrap64 (a0 + 719468)) - (wrap64 (t107 * 146097)))) - (wrap64 (Int.tdiv (wrap64 ((wrap64 (a0 + 719468)) - (wrap64 (t107 * 146097)))) 1460)))) + (wrap64 (Int.tdiv (wrap64 ((wrap64 (a0 + 719468)) - (wrap64 (t107 * 146097)))) 36524)))) - (wrap64 (Int.tdiv (wrap64 ((wrap64 (a0 + 719468)) - (wrap64 (t107 * 146097)))) 146096)))) 365)) 100)))))))) + 2)) 153)) + 3))) = false := decide_eq_false c8
          clear c8
          simp only [Option.some.injEq, Prod.mk.injEq] at H
          obtain ⟨rfl, rfl, rfl, rfl⟩ := H
          go_wp2_with (first | ((with_reducible refine gate_callee (f := 42) rfl ?_); refine goesL_ (some 24) rfl rfl Try.func42 (by kernel_rfl) rfl #[.int .i64 (wrap64 (a0 + 719468)), .int .i64 146097] rfl (by (try simp only [List.map_toArray, List.map_cons, List.map_nil]); first | done | rfl | (simp only [List.length_drop, List.length_take]; rfl) | (refine congrArg (fun z_ => #[Value.int IntKind.i64 z_]) (?_ : Go.RowKit.wrap64 (IntKind.u8.wrap _) = _); rw [IntKind.wrap_u8]; unfold Go.RowKit.wrap64; omega)) ?_; (with_reducible refine (day_floor.calls (wrap64 (a0 + 719468)) 146097 t107 _ A7.out).mono ?_); rintro e w' ⟨rfl, ⟨nd, rfl⟩⟩; refine ⟨_, rfl, ?_⟩))
          refine bodyPost_ret (results_list (rs := [.tmp 2, .tmp 3, .tmp 4, .tmp 5]) rfl (by simp) (.tmp (.tmp (.tmp (.tmp .nil))))) rfl ?_
          exact ⟨by first | rfl | (simp; done) | (simp [*]; done), by repeat (first | exact Drawn0.refl _ | apply Drawn0.step)⟩

/-! ### day_Start: function 43 -/
def day_Start.f (a0 : Int) : Option (Int × Option Int) := if a0 < (-20000) then (some (0, some 13)) else (if a0 > 20000 then (some (0, some 13)) else ((day_number.f a0 1 1).bind fun t108 => (some (t108, none))))
set_option maxHeartbeats 8000000 in
set_option maxRecDepth 100000 in
theorem day_Start.calls (a0 : Int) (r1 : Int) (r2 : Option Int) (w : World) (h : day_Start.f a0 = some (r1, r2)) :
    Calls Try.prog 43 #[.int .i64 a0] w fun e w' => e = .returned (.tuple #[.int .i64 r1, errW r2]) ∧ Drawn0 w w' := by
  have hu24 := Try.underlying24
  have hu31 := Try.underlying31
  have H : (if a0 < (-20000) then (some (0, some 13)) else (if a0 > 20000 then (some (0, some 13)) else ((day_number.f a0 1 1).bind fun t108 => (some (t108, none))))) = some (r1, r2) := h
  clear h
  by_cases c2 : a0 < (-20000)
  · rw [if_pos c2] at H
    have c2b0 : decide (a0 < (-20000)) = true := decide_eq_true c2
    clear c2
    simp only [Option.some.injEq, Prod.mk.injEq] at H
    obtain ⟨rfl, rfl⟩ := H
    go_enter Try.func43, Try.ntmps43
    go_wp2
    go_ret2
    exact ⟨by first | rfl | (simp; done) | (simp [*]; done), by repeat (first | exact Drawn0.refl _ | apply Drawn0.step)⟩
  · rw [if_neg c2] at H
    have c2b0 : decide (a0 < (-20000)) = false := decide_eq_false c2
    clear c2
    by_cases c3 : a0 > 20000
    · rw [if_pos c3] at H
      have c3b0 : decide (20000 < a0) = true := decide_eq_true c3
      clear c3
      simp only [Option.some.injEq, Prod.mk.injEq] at H
      obtain ⟨rfl, rfl⟩ := H
      go_enter Try.func43, Try.ntmps43
      go_wp2
      go_ret2
      exact ⟨by first | rfl | (simp; done) | (simp [*]; done), by repeat (first | exact Drawn0.refl _ | apply Drawn0.step)⟩
    · rw [if_neg c3] at H
      have c3b0 : decide (20000 < a0) = false := decide_eq_false c3
      clear c3
      replace H := Option.bind_eq_some_iff.mp H
      obtain ⟨t108, A40, H⟩ := H
      replace H : (some (t108, none)) = some (r1, r2) := H
      have A4 := Aside0.mk A40
      clear A40
      simp only [Option.some.injEq, Prod.mk.injEq] at H
      obtain ⟨rfl, rfl⟩ := H
      go_enter Try.func43, Try.ntmps43
      go_wp2_with (first | ((with_reducible refine gate_callee (f := 57) rfl ?_); refine goesL_ (some 12) rfl rfl Try.func57 (by kernel_rfl) rfl #[.int .i64 a0, .int .i64 1, .int .i64 1] rfl (by (try simp only [List.map_toArray, List.map_cons, List.map_nil]); first | done | rfl | (simp only [List.length_drop, List.length_take]; rfl) | (refine congrArg (fun z_ => #[Value.int IntKind.i64 z_]) (?_ : Go.RowKit.wrap64 (IntKind.u8.wrap _) = _); rw [IntKind.wrap_u8]; unfold Go.RowKit.wrap64; omega)) ?_; (with_reducible refine (day_number.calls a0 1 1 t108 _ A4.out).mono ?_); rintro e w' ⟨rfl, ⟨nd, rfl⟩⟩; refine ⟨_, rfl, ?_⟩))
      go_ret2
      exact ⟨by first | rfl | (simp; done) | (simp [*]; done), by repeat (first | exact Drawn0.refl _ | apply Drawn0.step)⟩

/-! ### week_monday: function 26 -/
def week_monday.f (a0 : Int) : Option (Int × Option Int) := (day_Start.f a0).bind fun bt109 => (if bt109.2.isNone = true then ((day_Weekday.f (wrap64 (bt109.1 + 3))).bind fun t112 => (some (wrap64 ((wrap64 (bt109.1 + 3)) - (wrap64 (t112 - 1))), none))) else (some (0, some (bt109.2.getD 0))))
set_option maxHeartbeats 8000000 in
set_option maxRecDepth 100000 in
theorem week_monday.calls (a0 : Int) (r1 : Int) (r2 : Option Int) (w : World) (h : week_monday.f a0 = some (r1, r2)) :
    Calls Try.prog 26 #[.int .i64 a0] w fun e w' => e = .returned (.tuple #[.int .i64 r1, errW r2]) ∧ Drawn0 w w' := by
  have hu24 := Try.underlying24
  have hu31 := Try.underlying31
  have H : ((day_Start.f a0).bind fun bt109 => (if bt109.2.isNone = true then ((day_Weekday.f (wrap64 (bt109.1 + 3))).bind fun t112 => (some (wrap64 ((wrap64 (bt109.1 + 3)) - (wrap64 (t112 - 1))), none))) else (some (0, some (bt109.2.getD 0))))) = some (r1, r2) := h
  clear h
  replace H := Option.bind_eq_some_iff.mp H
  obtain ⟨⟨t109, t110⟩, A20, H⟩ := H
  replace H : (if t110.isNone = true then ((day_Weekday.f (wrap64 (t109 + 3))).bind fun t112 => (some (wrap64 ((wrap64 (t109 + 3)) - (wrap64 (t112 - 1))), none))) else (some (0, some (t110.getD 0)))) = some (r1, r2) := H
  have A2 := Aside0.mk A20
  clear A20
  rcases t110 with _ | q111
  · have H1 : ((day_Weekday.f (wrap64 (t109 + 3))).bind fun t112 => (some (wrap64 ((wrap64 (t109 + 3)) - (wrap64 (t112 - 1))), none))) = some (r1, r2) := by rw [if_pos (show (none : Option Int).isNone = true by rfl)] at H; exact H
    clear H
    have H := H1
    clear H1
    try simp only [errW_none, errW_some]
    replace H := Option.bind_eq_some_iff.mp H
    obtain ⟨t112, A30, H⟩ := H
    replace H : (some (wrap64 ((wrap64 (t109 + 3)) - (wrap64 (t112 - 1))), none)) = some (r1, r2) := H
    have A3 := Aside0.mk A30
    clear A30
    simp only [Option.some.injEq, Prod.mk.injEq] at H
    obtain ⟨rfl, rfl⟩ := H
    go_enter Try.func26, Try.ntmps26
    go_wp2_with (first | ((with_reducible refine gate_callee (f := 43) rfl ?_); refine goesL_ (some 8) rfl rfl Try.func43 (by kernel_rfl) rfl #[.int .i64 a0] rfl (by (try simp only [List.map_toArray, List.map_cons, List.map_nil]); first | done | rfl | (simp only [List.length_drop, List.length_take]; rfl) | (refine congrArg (fun z_ => #[Value.int IntKind.i64 z_]) (?_ : Go.RowKit.wrap64 (IntKind.u8.wrap _) = _); rw [IntKind.wrap_u8]; unfold Go.RowKit.wrap64; omega)) ?_; (with_reducible refine (day_Start.calls a0 t109 none _ A2.out).mono ?_); rintro e w' ⟨rfl, ⟨nd, rfl⟩⟩; refine ⟨_, rfl, ?_⟩; (try simp only [errW_none, errW_some])) | ((with_reducible refine gate_callee (f := 24) rfl ?_); refine goesL_ (some 18) rfl rfl Try.func24 (by kernel_rfl) rfl #[.int .i64 (wrap64 (t109 + 3))] rfl (by (try simp only [List.map_toArray, List.map_cons, List.map_nil]); first | done | rfl | (simp only [List.length_drop, List.length_take]; rfl) | (refine congrArg (fun z_ => #[Value.int IntKind.i64 z_]) (?_ : Go.RowKit.wrap64 (IntKind.u8.wrap _) = _); rw [IntKind.wrap_u8]; unfold Go.RowKit.wrap64; omega)) ?_; (with_reducible refine (day_Weekday.calls (wrap64 (t109 + 3)) t112 _ A3.out).mono ?_); rintro e w' ⟨rfl, ⟨nd, rfl⟩⟩; refine ⟨_, rfl, ?_⟩))
    go_ret2
    exact ⟨by first | rfl | (simp; done) | (simp [*]; done), by repeat (first | exact Drawn0.refl _ | apply Drawn0.step)⟩
  · have H1 : (some (0, some q111)) = some (r1, r2) := by rw [if_neg (show ¬ (some q111).isNone = true by simp)] at H; exact H
    clear H
    have H := H1
    clear H1
    try simp only [errW_none, errW_some]
    simp only [Option.some.injEq, Prod.mk.injEq] at H
    obtain ⟨rfl, rfl⟩ := H
    go_enter Try.func26, Try.ntmps26
    go_wp2_with (first | ((with_reducible refine gate_callee (f := 43) rfl ?_); refine goesL_ (some 8) rfl rfl Try.func43 (by kernel_rfl) rfl #[.int .i64 a0] rfl (by (try simp only [List.map_toArray, List.map_cons, List.map_nil]); first | done | rfl | (simp only [List.length_drop, List.length_take]; rfl) | (refine congrArg (fun z_ => #[Value.int IntKind.i64 z_]) (?_ : Go.RowKit.wrap64 (IntKind.u8.wrap _) = _); rw [IntKind.wrap_u8]; unfold Go.RowKit.wrap64; omega)) ?_; (with_reducible refine (day_Start.calls a0 t109 (some q111) _ A2.out).mono ?_); rintro e w' ⟨rfl, ⟨nd, rfl⟩⟩; refine ⟨_, rfl, ?_⟩; (try simp only [errW_none, errW_some])))
    go_ret2
    exact ⟨by first | rfl | (simp; done) | (simp [*]; done), by repeat (first | exact Drawn0.refl _ | apply Drawn0.step)⟩

/-! ### week_Of: function 8 -/
def week_Of.l0 : Nat → Int → Int → Int → Int → Int → Option (Int × Int × Int × Option Int)
  | 0, _, _, _, _, _ => none
  | k + 1, x0, x26, x750, x751, x752 => if x26 < 3 then (if 0 ≤ x26 then ((week_monday.f (rd [x750, x751, x752] x26)).bind fun bt118 => (if bt118.2.isNone = true then (if x0 ≥ bt118.1 then ((day_Weekday.f x0).bind fun t121 => (some (rd [x750, x751, x752] x26, wrap64 ((wrap64 (Int.tdiv (wrap64 (x0 - bt118.1)) 7)) + 1), t121, none))) else (week_Of.l0 k x0 (wrap64 (x26 + 1)) x750 x751 x752)) else (some (0, 0, 0, some (bt118.2.getD 0))))) else (none)) else (some (0, 0, 0, some 13))
def week_Of.f (k : Nat) (a0 : Int) : Option (Int × Int × Int × Option Int) := (day_Date.f k a0).bind fun bt113 => (if bt113.2.2.2.isNone = true then (week_Of.l0 k a0 0 (wrap64 (bt113.1 + 1)) bt113.1 (wrap64 (bt113.1 - 1))) else (some (0, 0, 0, some (bt113.2.2.2.getD 0))))
theorem week_Of.mono_l : ∀ k, (∀ y0 y1 y2 y3 y4, LeO (week_Of.l0 k y0 y1 y2 y3 y4) (week_Of.l0 (k + 1) y0 y1 y2 y3 y4))
  | 0 => fun _ _ _ _ _ r h => by simp [week_Of.l0] at h
  | k + 1 => by
    have ih0 := week_Of.mono_l k
    · intro y0 y1 y2 y3 y4
      unfold week_Of.l0
      repeat' first
      | (with_reducible exact ih0 _ _ _ _ _)
      | (with_reducible exact day_Date.mono _ _)
      | (with_reducible exact LeO.refl _)
      | (with_reducible exact LeO.none _)
      | (with_reducible refine LeO.ite ?_ ?_)
      | (with_reducible refine LeO.bind ?_ (fun _ => ?_))
      | exact ih0 _ _ _ _ _
      | exact day_Date.mono _ _
      | exact LeO.none _
      | refine LeO.ite ?_ ?_
      | refine LeO.bind ?_ (fun _ => ?_)
theorem week_Of.mono : ∀ a0 k, LeO (week_Of.f k a0) (week_Of.f (k + 1) a0) := by
  intro a0 k
  have ih0 := week_Of.mono_l k
  unfold week_Of.f
  repeat' first
      | (with_reducible exact ih0 _ _ _ _ _)
      | (with_reducible exact day_Date.mono _ _)
      | (with_reducible exact LeO.refl _)
      | (with_reducible exact LeO.none _)
      | (with_reducible refine LeO.ite ?_ ?_)
      | (with_reducible refine LeO.bind ?_ (fun _ => ?_))
      | exact ih0 _ _ _ _ _
      | exact day_Date.mono _ _
      | exact LeO.none _
      | refine LeO.ite ?_ ?_
      | refine LeO.bind ?_ (fun _ => ?_)
set_option maxHeartbeats 8000000 in
set_option maxRecDepth 100000 in
theorem week_Of.calls (k : Nat) (a0 : Int) (r1 : Int) (r2 : Int) (r3 : Int) (r4 : Option Int) (w : World) (h : week_Of.f k a0 = some (r1, r2, r3, r4)) :
    Calls Try.prog 8 #[.int .i64 a0] w fun e w' => e = .returned (.tuple #[.int .i64 r1, .int .i64 r2, .int .i64 r3, errW r4]) ∧ Drawn0 w w' := by
  have hu50 := Try.underlying50
  have hu24 := Try.underlying24
  have hu31 := Try.underlying31
  have H : ((day_Date.f k a0).bind fun bt113 => (if bt113.2.2.2.isNone = true then (week_Of.l0 k a0 0 (wrap64 (bt113.1 + 1)) bt113.1 (wrap64 (bt113.1 - 1))) else (some (0, 0, 0, some (bt113.2.2.2.getD 0))))) = some (r1, r2, r3, r4) := h
  clear h
  replace H := Option.bind_eq_some_iff.mp H
  obtain ⟨⟨t113, t114, t115, t116⟩, A20, H⟩ := H
  replace H : (if t116.isNone = true then (week_Of.l0 k a0 0 (wrap64 (t113 + 1)) t113 (wrap64 (t113 - 1))) else (some (0, 0, 0, some (t116.getD 0)))) = some (r1, r2, r3, r4) := H
  have A2 := Aside0.mk A20
  clear A20
  rcases t116 with _ | q117
  · have H1 : (week_Of.l0 k a0 0 (wrap64 (t113 + 1)) t113 (wrap64 (t113 - 1))) = some (r1, r2, r3, r4) := by rw [if_pos (show (none : Option Int).isNone = true by rfl)] at H; exact H
    clear H
    have H := H1
    clear H1
    try simp only [errW_none, errW_some]
    have H' := Aside0.mk H
    clear H
    go_enter Try.func8, Try.ntmps8
    go_wp2_with (first | ((with_reducible refine gate_callee (f := 25) rfl ?_); refine goesL_ (some 12) rfl rfl Try.func25 (by kernel_rfl) rfl #[.int .i64 a0] rfl (by (try simp only [List.map_toArray, List.map_cons, List.map_nil]); first | done | rfl | (simp only [List.length_drop, List.length_take]; rfl) | (refine congrArg (fun z_ => #[Value.int IntKind.i64 z_]) (?_ : Go.RowKit.wrap64 (IntKind.u8.wrap _) = _); rw [IntKind.wrap_u8]; unfold Go.RowKit.wrap64; omega)) ?_; (with_reducible refine (day_Date.calls k a0 t113 t114 t115 none _ A2.out).mono ?_); rintro e w' ⟨rfl, ⟨nd, rfl⟩⟩; refine ⟨_, rfl, ?_⟩; (try simp only [errW_none, errW_some])))
    go_loopg [26] k (fun kq v26 w' => ∃ (x26_1 : Int), v26 = .int .i64 x26_1 ∧ Aside0 (week_Of.l0 kq a0 x26_1 (wrap64 (t113 + 1)) t113 (wrap64 (t113 - 1)) = some (r1, r2, r3, r4)) ∧ Aside0 (kq ≤ k) ∧ Drawn0 w w')
    case atStart => exact ⟨(0), (by first | rfl | (simp; done) | (simp [*]; done)), H', ⟨Nat.le_refl _⟩, by repeat (first | exact Drawn0.refl _ | apply Drawn0.step)⟩
    case round =>
      clear H'
      try clear q1
      try clear c2
      try clear p2
      try clear q117
      obtain ⟨x26_1, rfl, HA, HK1, ⟨m1, rfl⟩⟩ := hrel
      cases gk with
      | zero => exact absurd HA.out (by simp [week_Of.l0])
      | succ k1 =>
        have H := HA.out
        clear HA
        simp only [week_Of.l0] at H
        by_cases c3 : x26_1 < 3
        · rw [if_pos c3] at H
          have c3b0 : decide (x26_1 < 3) = true := decide_eq_true c3
          clear c3
          by_cases c4 : 0 ≤ x26_1
          · rw [if_pos c4] at H
            have c4b0 := eq_true c4
            have c4b1 : decide (0 ≤ x26_1) = true := decide_eq_true c4
            clear c4
            have c5b0 := eq_true (of_decide_eq_true (by first | (with_reducible assumption) | assumption) : x26_1 < 3)
            replace H := Option.bind_eq_some_iff.mp H
            obtain ⟨⟨t118, t119⟩, A60, H⟩ := H
            replace H : (if t119.isNone = true then (if a0 ≥ t118 then ((day_Weekday.f a0).bind fun t121 => (some (rd [(wrap64 (t113 + 1)), t113, (wrap64 (t113 - 1))] x26_1, wrap64 ((wrap64 (Int.tdiv (wrap64 (a0 - t118)) 7)) + 1), t121, none))) else (week_Of.l0 k1 a0 (wrap64 (x26_1 + 1)) (wrap64 (t113 + 1)) t113 (wrap64 (t113 - 1)))) else (some (0, 0, 0, some (t119.getD 0)))) = some (r1, r2, r3, r4) := H
            have A6 := Aside0.mk A60
            clear A60
            rcases t119 with _ | q120
            · have H1 : (if a0 ≥ t118 then ((day_Weekday.f a0).bind fun t121 => (some (rd [(wrap64 (t113 + 1)), t113, (wrap64 (t113 - 1))] x26_1, wrap64 ((wrap64 (Int.tdiv (wrap64 (a0 - t118)) 7)) + 1), t121, none))) else (week_Of.l0 k1 a0 (wrap64 (x26_1 + 1)) (wrap64 (t113 + 1)) t113 (wrap64 (t113 - 1)))) = some (r1, r2, r3, r4) := by rw [if_pos (show (none : Option Int).isNone = true by rfl)] at H; exact H
              clear H
              have H := H1
              clear H1
              try simp only [errW_none, errW_some]
              by_cases c7 : a0 ≥ t118
              · rw [if_pos c7] at H
                have c7b0 : decide (t118 ≤ a0) = true := decide_eq_true c7
                clear c7
                replace H := Option.bind_eq_some_iff.mp H
                obtain ⟨t121, A80, H⟩ := H
                replace H : (some (rd [(wrap64 (t113 + 1)), t113, (wrap64 (t113 - 1))] x26_1, wrap64 ((wrap64 (Int.tdiv (wrap64 (a0 - t118)) 7)) + 1), t121, none)) = some (r1, r2, r3, r4) := H
                have A8 := Aside0.mk A80
                clear A80
                simp only [Option.some.injEq, Prod.mk.injEq] at H
                obtain ⟨rfl, rfl, rfl, rfl⟩ := H
                go_wp2_with (first | ((with_reducible refine gate_callee (f := 26) rfl ?_); refine goesL_ (some 31) rfl rfl Try.func26 (by kernel_rfl) rfl #[.int .i64 (rd [(wrap64 (t113 + 1)), t113, (wrap64 (t113 - 1))] x26_1)] rfl (by (try simp only [List.map_toArray, List.map_cons, List.map_nil]); first | done | rfl | (simp only [List.length_drop, List.length_take]; rfl) | (refine congrArg (fun z_ => #[Value.int IntKind.i64 z_]) (?_ : Go.RowKit.wrap64 (IntKind.u8.wrap _) = _); rw [IntKind.wrap_u8]; unfold Go.RowKit.wrap64; omega)) ?_; (with_reducible refine (week_monday.calls (rd [(wrap64 (t113 + 1)), t113, (wrap64 (t113 - 1))] x26_1) t118 none _ A6.out).mono ?_); rintro e w' ⟨rfl, ⟨nd, rfl⟩⟩; refine ⟨_, rfl, ?_⟩; (try simp only [errW_none, errW_some])) | ((with_reducible refine gate_callee (f := 24) rfl ?_); refine goesL_ (some 47) rfl rfl Try.func24 (by kernel_rfl) rfl #[.int .i64 a0] rfl (by (try simp only [List.map_toArray, List.map_cons, List.map_nil]); first | done | rfl | (simp only [List.length_drop, List.length_take]; rfl) | (refine congrArg (fun z_ => #[Value.int IntKind.i64 z_]) (?_ : Go.RowKit.wrap64 (IntKind.u8.wrap _) = _); rw [IntKind.wrap_u8]; unfold Go.RowKit.wrap64; omega)) ?_; (with_reducible refine (day_Weekday.calls a0 t121 _ A8.out).mono ?_); rintro e w' ⟨rfl, ⟨nd, rfl⟩⟩; refine ⟨_, rfl, ?_⟩))
                refine bodyPost_ret (results_list (rs := [.tmp 2, .tmp 3, .tmp 4, .tmp 5]) rfl (by simp) (.tmp (.tmp (.tmp (.tmp .nil))))) rfl ?_
                exact ⟨by first | rfl | (simp; done) | (simp [*]; done), by repeat (first | exact Drawn0.refl _ | apply Drawn0.step)⟩
              · rw [if_neg c7] at H
                have c7b0 : decide (t118 ≤ a0) = false := decide_eq_false c7
                clear c7
                have H' := Aside0.mk H
                clear H
                go_wp2_with (first | ((with_reducible refine gate_callee (f := 26) rfl ?_); refine goesL_ (some 31) rfl rfl Try.func26 (by kernel_rfl) rfl #[.int .i64 (rd [(wrap64 (t113 + 1)), t113, (wrap64 (t113 - 1))] x26_1)] rfl (by (try simp only [List.map_toArray, List.map_cons, List.map_nil]); first | done | rfl | (simp only [List.length_drop, List.length_take]; rfl) | (refine congrArg (fun z_ => #[Value.int IntKind.i64 z_]) (?_ : Go.RowKit.wrap64 (IntKind.u8.wrap _) = _); rw [IntKind.wrap_u8]; unfold Go.RowKit.wrap64; omega)) ?_; (with_reducible refine (week_monday.calls (rd [(wrap64 (t113 + 1)), t113, (wrap64 (t113 - 1))] x26_1) t118 none _ A6.out).mono ?_); rintro e w' ⟨rfl, ⟨nd, rfl⟩⟩; refine ⟨_, rfl, ?_⟩; (try simp only [errW_none, errW_some])))
                go_roundg k1
                case measure => have := HK1.out; omega
                case rel => exact ⟨(wrap64 (x26_1 + 1)), (by first | rfl | (simp; done) | (simp [*]; done)), H', ⟨by have := HK1.out; omega⟩, by repeat (first | exact Drawn0.refl _ | apply Drawn0.step)⟩
            · have H1 : (some (0, 0, 0, some q120)) = some (r1, r2, r3, r4) := by rw [if_neg (show ¬ (some q120).isNone = true by simp)] at H; exact H
              clear H
              have H := H1
              clear H1
              try simp only [errW_none, errW_some]
              simp only [Option.some.injEq, Prod.mk.injEq] at H
              obtain ⟨rfl, rfl, rfl, rfl⟩ := H
              go_wp2_with (first | ((with_reducible refine gate_callee (f := 26) rfl ?_); refine goesL_ (some 31) rfl rfl Try.func26 (by kernel_rfl) rfl #[.int .i64 (rd [(wrap64 (t113 + 1)), t113, (wrap64 (t113 - 1))] x26_1)] rfl (by (try simp only [List.map_toArray, List.map_cons, List.map_nil]); first | done | rfl | (simp only [List.length_drop, List.length_take]; rfl) | (refine congrArg (fun z_ => #[Value.int IntKind.i64 z_]) (?_ : Go.RowKit.wrap64 (IntKind.u8.wrap _) = _); rw [IntKind.wrap_u8]; unfold Go.RowKit.wrap64; omega)) ?_; (with_reducible refine (week_monday.calls (rd [(wrap64 (t113 + 1)), t113, (wrap64 (t113 - 1))] x26_1) t118 (some q120) _ A6.out).mono ?_); rintro e w' ⟨rfl, ⟨nd, rfl⟩⟩; refine ⟨_, rfl, ?_⟩; (try simp only [errW_none, errW_some])))
              refine bodyPost_ret (results_list (rs := [.tmp 2, .tmp 3, .tmp 4, .tmp 5]) rfl (by simp) (.tmp (.tmp (.tmp (.tmp .nil))))) rfl ?_
              exact ⟨by first | rfl | (simp; done) | (simp [*]; done), by repeat (first | exact Drawn0.refl _ | apply Drawn0.step)⟩
          · rw [if_neg c4] at H
            exact absurd H (by simp)
        · rw [if_neg c3] at H
          have c3b0 : decide (x26_1 < 3) = false := decide_eq_false c3
          clear c3
          simp only [Option.some.injEq, Prod.mk.injEq] at H
          obtain ⟨rfl, rfl, rfl, rfl⟩ := H
          go_wp2
          refine bodyPost_ret (results_list (rs := [.tmp 2, .tmp 3, .tmp 4, .tmp 5]) rfl (by simp) (.tmp (.tmp (.tmp (.tmp .nil))))) rfl ?_
          exact ⟨by first | rfl | (simp; done) | (simp [*]; done), by repeat (first | exact Drawn0.refl _ | apply Drawn0.step)⟩
  · have H1 : (some (0, 0, 0, some q117)) = some (r1, r2, r3, r4) := by rw [if_neg (show ¬ (some q117).isNone = true by simp)] at H; exact H
    clear H
    have H := H1
    clear H1
    try simp only [errW_none, errW_some]
    simp only [Option.some.injEq, Prod.mk.injEq] at H
    obtain ⟨rfl, rfl, rfl, rfl⟩ := H
    go_enter Try.func8, Try.ntmps8
    go_wp2_with (first | ((with_reducible refine gate_callee (f := 25) rfl ?_); refine goesL_ (some 12) rfl rfl Try.func25 (by kernel_rfl) rfl #[.int .i64 a0] rfl (by (try simp only [List.map_toArray, List.map_cons, List.map_nil]); first | done | rfl | (simp only [List.length_drop, List.length_take]; rfl) | (refine congrArg (fun z_ => #[Value.int IntKind.i64 z_]) (?_ : Go.RowKit.wrap64 (IntKind.u8.wrap _) = _); rw [IntKind.wrap_u8]; unfold Go.RowKit.wrap64; omega)) ?_; (with_reducible refine (day_Date.calls k a0 t113 t114 t115 (some q117) _ A2.out).mono ?_); rintro e w' ⟨rfl, ⟨nd, rfl⟩⟩; refine ⟨_, rfl, ?_⟩; (try simp only [errW_none, errW_some])))
    refine bodyPost_ret (results_list (rs := [.tmp 2, .tmp 3, .tmp 4, .tmp 5]) rfl (by simp) (.tmp (.tmp (.tmp (.tmp .nil))))) rfl ?_
    exact ⟨by first | rfl | (simp; done) | (simp [*]; done), by repeat (first | exact Drawn0.refl _ | apply Drawn0.step)⟩

/-! ### slices_Reverse_byte_byte: function 64 -/
def slices_Reverse_byte_byte.l0 : Nat → List Int → Int → Int → Option (List Int)
  | 0, _, _, _ => none
  | k + 1, x0, x2, x3 => if x2 < x3 then (if 0 ≤ x3 then (if x3 < (x0.length : Int) then (if 0 ≤ x2 then (if x2 < (x0.length : Int) then (slices_Reverse_byte_byte.l0 k ((x0.set (x2 : Int).toNat (rd x0 x3)).set (x3 : Int).toNat (rd x0 x2)) (wrap64 (x2 + 1)) (wrap64 (x3 - 1))) else (none)) else (none)) else (none)) else (none)) else (some x0)
def slices_Reverse_byte_byte.f (k : Nat) (l0 : List Int) : Option (List Int) := slices_Reverse_byte_byte.l0 k l0 0 (wrap64 ((l0.length : Int) - 1))
theorem slices_Reverse_byte_byte.mono_l : ∀ k, (∀ y0 y1 y2, LeO (slices_Reverse_byte_byte.l0 k y0 y1 y2) (slices_Reverse_byte_byte.l0 (k + 1) y0 y1 y2))
  | 0 => fun _ _ _ r h => by simp [slices_Reverse_byte_byte.l0] at h
  | k + 1 => by
    have ih0 := slices_Reverse_byte_byte.mono_l k
    · intro y0 y1 y2
      unfold slices_Reverse_byte_byte.l0
      repeat' first
      | (with_reducible exact ih0 _ _ _)
      | (with_reducible exact LeO.refl _)
      | (with_reducible exact LeO.none _)
      | (with_reducible refine LeO.ite ?_ ?_)
      | (with_reducible refine LeO.bind ?_ (fun _ => ?_))
      | exact ih0 _ _ _
      | exact LeO.none _
      | refine LeO.ite ?_ ?_
      | refine LeO.bind ?_ (fun _ => ?_)
theorem slices_Reverse_byte_byte.mono : ∀ a0 k, LeO (slices_Reverse_byte_byte.f k a0) (slices_Reverse_byte_byte.f (k + 1) a0) := by
  intro a0 k
  have ih0 := slices_Reverse_byte_byte.mono_l k
  unfold slices_Reverse_byte_byte.f
  repeat' first
      | (with_reducible exact ih0 _ _ _)
      | (with_reducible exact LeO.refl _)
      | (with_reducible exact LeO.none _)
      | (with_reducible refine LeO.ite ?_ ?_)
      | (with_reducible refine LeO.bind ?_ (fun _ => ?_))
      | exact ih0 _ _ _
      | exact LeO.none _
      | refine LeO.ite ?_ ?_
      | refine LeO.bind ?_ (fun _ => ?_)
def slices_Reverse_byte_byte.T3 : Bool × List (List Nat × List Nat) := (true, [([], []), ([], []), ([], []), ([], []), ([], []), ([], []), ([4, 5], [4, 5]), ([6], [6]), ([], []), ([], []), ([8, 9], [8, 9]), ([10], [10]), ([0, 1, 0, 1, 4, 5, 6, 7, 11], [0, 1]), ([12, 7, 0, 1, 4, 5, 6, 7, 11], [7, 12]), ([2, 3, 0, 1, 2, 3, 4, 5, 6, 7, 8, 9, 10, 11, 12, 13], [2, 3]), ([14, 11, 13, 0, 1, 2, 3, 4, 5, 6, 7, 8, 9, 10, 11, 12, 13], [11, 14])])
def slices_Reverse_byte_byte.B3 : List Nat := [0, 0, 0, 0, 0, 0, 48, 112, 0, 0, 768, 1792, 4083, 8179, 16383, 32767]
theorem slices_Reverse_byte_byte.tab3 : rtab .any (opsOf Try.f64 3) = slices_Reverse_byte_byte.T3 := by kernel_rfl
theorem slices_Reverse_byte_byte.bits3 : waitsOk slices_Reverse_byte_byte.T3.2 slices_Reverse_byte_byte.B3 = true := by kernel_rfl
set_option maxHeartbeats 8000000 in
set_option maxRecDepth 100000 in
theorem slices_Reverse_byte_byte.calls (k : Nat) (P0_ : Nat → Prop) (u9000_ : Value) (l0 : List Int) (r : List Int) (w0 w : World) (hB : Below w0.heap.size w0 w) (ho0 : Kd.R (Kd.int .u8) 5 w w0.heap.size P0_ u9000_ l0) (h : slices_Reverse_byte_byte.f k l0 = some r) :
    Calls Try.prog 64 #[u9000_] w fun e w' => e = .returned (.tuple #[]) ∧ Kd.R (Kd.int .u8) 5 w' w0.heap.size (fun k_ => (P0_ k_ ∨ w.heap.size ≤ k_)) u9000_ r ∧ Below w0.heap.size w0 w' ∧ Kept w w' (fun k_ => P0_ k_) := by
  have HO0 := Aside0.mk (show Kd.R (Kd.int .u8) 5 w w0.heap.size (fun k_ => (P0_ k_ ∨ w.heap.size ≤ k_)) u9000_ l0 from Kd.R_mono ho0 (fun k_ hk => (.inl hk)))
  have HK := Aside0.mk (Kept.refl w (fun k_ => P0_ k_))
  have HW0 := Aside0.mk hB.size
  have HB := Aside0.mk hB
  clear hB
  have H : (slices_Reverse_byte_byte.l0 k l0 0 (wrap64 ((l0.length : Int) - 1))) = some r := h
  clear h
  have H' := Aside0.mk H
  clear H
  obtain ⟨Ao2, co2, eo2⟩ := Kd.R_slice HO0.out
  subst eo2
  go_enter Try.func64, Try.ntmps64
  go_wp2
  go_loopg [2, 3] k (fun kq v2 v3 w' => ∃ (x0_1 : List Int) (x2_1 : Int) (x3_1 : Int), v2 = .int .i64 x2_1 ∧ v3 = .int .i64 x3_1 ∧ Aside0 (slices_Reverse_byte_byte.l0 kq x0_1 x2_1 x3_1 = some r) ∧ Aside0 (kq ≤ k) ∧ Aside0 (Kd.R (Kd.int .u8) 5 w' w0.heap.size (fun k_ => (P0_ k_ ∨ w.heap.size ≤ k_)) (.slice Ao2 l0.length co2) x0_1) ∧ Aside0 (Kept w w' (fun k_ => P0_ k_)) ∧ Aside0 (Below w0.heap.size w0 w'))
  case atStart => exact ⟨(l0), (0), (wrap64 ((l0.length : Int) - 1)), (by first | rfl | (simp; done) | (simp [*]; done)), (by first | rfl | (simp; done) | (simp [*]; done)), H', ⟨Nat.le_refl _⟩, ⟨by (with_reducible repeat (first | apply Kd.R_alloc | apply Kd.R_drewN | apply Kd.R_drew)); exact HO0.out⟩, ⟨by repeat (first | (with_reducible first | exact HK.out | apply Kept.alloc | apply Kept.drewN | apply Kept.drew) | exact HK.out)⟩, ⟨by repeat (first | (with_reducible first | exact HB.out | apply below_alloc | apply pw_below_drewN | apply below_drew1) | exact HB.out)⟩⟩
  case round =>
    clear H'
    try clear p2
    obtain ⟨x0_1, x2_1, x3_1, rfl, rfl, HA, HK1, HO_0, HK, HB⟩ := hrel
    have hl0_1 := (Kd.R_reads' HO_0.out).1
    rw [hl0_1] at HO_0
    (try simp only [hl0_1])
    cases gk with
    | zero => exact absurd HA.out (by simp [slices_Reverse_byte_byte.l0])
    | succ k1 =>
      have H := HA.out
      clear HA
      simp only [slices_Reverse_byte_byte.l0] at H
      by_cases c3 : x2_1 < x3_1
      · rw [if_pos c3] at H
        have c3b0 : decide (x2_1 < x3_1) = true := decide_eq_true c3
        clear c3
        by_cases c4 : 0 ≤ x3_1
        · rw [if_pos c4] at H
          have c4b0 : decide (0 ≤ x3_1) = true := decide_eq_true c4
          clear c4
          by_cases c5 : x3_1 < (x0_1.length : Int)
          · rw [if_pos c5] at H
            have c5b0 : decide (x3_1 < (x0_1.length : Int)) = true := decide_eq_true c5
            clear c5
            by_cases c6 : 0 ≤ x2_1
            · rw [if_pos c6] at H
              have c6b0 : decide (0 ≤ x2_1) = true := decide_eq_true c6
              clear c6
              by_cases c7 : x2_1 < (x0_1.length : Int)
              · rw [if_pos c7] at H
                have c7b0 : decide (x2_1 < (x0_1.length : Int)) = true := decide_eq_true c7
                clear c7
                obtain ⟨y124, hy124⟩ : ∃ y_ : List Int, y_ = (x0_1.set (x2_1 : Int).toNat (rd x0_1 x3_1)) := ⟨_, rfl⟩
                replace H : (slices_Reverse_byte_byte.l0 k1 (y124.set (x3_1 : Int).toNat (rd x0_1 x2_1)) (wrap64 (x2_1 + 1)) (wrap64 (x3_1 - 1))) = some r := by first | (rw [hy124]; with_reducible exact H) | (have H2_ := (Option.bind_some _ _).symm.trans H; rw [hy124]; with_reducible exact H2_) | (have H2_ := (Option.bind_some _ _).symm.trans H; with_reducible exact H2_) | with_reducible exact H | (rw [hy124]; exact H) | exact H
                have Ny124 := Aside0.mk hy124
                clear hy124
                obtain ⟨y125, hy125⟩ : ∃ y_ : List Int, y_ = (y124.set (x3_1 : Int).toNat (rd x0_1 x2_1)) := ⟨_, rfl⟩
                replace H : (slices_Reverse_byte_byte.l0 k1 y125 (wrap64 (x2_1 + 1)) (wrap64 (x3_1 - 1))) = some r := by first | (rw [hy125]; with_reducible exact H) | (have H2_ := (Option.bind_some _ _).symm.trans H; rw [hy125]; with_reducible exact H2_) | (have H2_ := (Option.bind_some _ _).symm.trans H; with_reducible exact H2_) | with_reducible exact H | (rw [hy125]; exact H) | exact H
                have Ny125 := Aside0.mk hy125
                clear hy125
                have H' := Aside0.mk H
                clear H
                try go_wp2
                have n0_ := Aside0.mk (Kd.R_drew HO_0.out)
                have n1_ := Aside0.mk (Kept.drew HK.out)
                have n2_ := Aside0.mk (below_drew1 HB.out)
                clear HO_0
                clear HK
                clear HB
                have HO_0 := n0_
                have HK := n1_
                have HB := n2_
                clear n0_ n1_ n2_
                have p122 : 0 ≤ (x3_1 : Int) := of_decide_eq_true (by first | (with_reducible assumption) | assumption)
                have q122 : x3_1 < (x0_1.length : Int) := of_decide_eq_true (by first | (with_reducible assumption) | assumption)
                obtain ⟨ad122, e122, hx122_0⟩ := Kd.at_int (Kd.R_reads' HO_0.out).2.2 x3_1 p122 q122
                cases e122
                replace p122 := eq_true p122
                replace q122 := eq_true q122
                have p123 : 0 ≤ (x2_1 : Int) := of_decide_eq_true (by first | (with_reducible assumption) | assumption)
                have q123 : x2_1 < (x0_1.length : Int) := of_decide_eq_true (by first | (with_reducible assumption) | assumption)
                obtain ⟨ad123, e123, hx123_0⟩ := Kd.at_int (Kd.R_reads' HO_0.out).2.2 x2_1 p123 q123
                obtain rfl : ad122 = ad123 := (by injection e123)
                replace p123 := eq_true p123
                replace q123 := eq_true q123
                have p8 : 0 ≤ (x2_1 : Int) := of_decide_eq_true (by first | (with_reducible assumption) | assumption)
                have q8 : (x2_1 : Int) < ((x0_1.length : Int) : Int) := of_decide_eq_true (by first | (with_reducible assumption) | assumption)
                obtain ⟨go8, co8, eo8, gb8, gl8, cl8, HG8⟩ := Kd.R_form HO_0.out (by omega)
                (first | cases eo8 | (injection eo8 with ea_ en_ ec_; (first | subst ea_ | (injection ea_ with ea_; subst ea_)); subst ec_; clear en_))
                have GB8 := Aside0.mk gb8
                have GG8 := Aside0.mk HG8
                clear gb8 gl8 HG8
                have HMgo8 := Aside0.mk (show (P0_ go8 ∨ w.heap.size ≤ go8) from (HO_0.out.1 _ rfl))
                (first | simp only [add_plain] at hx122_0 | skip)
                (first | simp only [add_plain] at hx123_0 | skip)
                obtain ⟨hx8_0, hf8_0⟩ := Kd.R_celln 0 HO_0.out (x2_1 : Int) p8 q8
                replace p8 := eq_true p8
                replace q8 := eq_true q8
                have HP11 := Kd.R_putn HO_0.out (x2_1 : Int) (rd x0_1 x3_1)
                rw [← Ny124.out] at HP11
                have HQ11 := Aside0.mk HP11
                clear HP11
                have p9 : 0 ≤ (x3_1 : Int) := of_decide_eq_true (by first | (with_reducible assumption) | assumption)
                have q9 : (x3_1 : Int) < ((x0_1.length : Int) : Int) := of_decide_eq_true (by first | (with_reducible assumption) | assumption)
                obtain ⟨hx9_0, hf9_0⟩ := Kd.R_celln 0 HQ11.out (x3_1 : Int) p9 q9
                replace p9 := eq_true p9
                replace q9 := eq_true q9
                have HP12 := Kd.R_putn HQ11.out (x3_1 : Int) (rd x0_1 x2_1)
                rw [← Ny125.out] at HP12
                have HQ12 := Aside0.mk HP12
                clear HP12
                refine start_ (n := 16) (S := fun w' => w'.cell? ⟨go8, (x3_1).toNat, none⟩ = some (.int .u8 (rd x0_1 x3_1)) ∧ w'.cell? ⟨go8, (x2_1).toNat, none⟩ = some (.int .u8 (rd x0_1 x2_1))) (ds := [13, 15]) #[false, false, false, false, false, false, false, false, false, false, false, false, false, false, false, false] (by kernel_rfl) rfl rfl ⟨hx122_0, hx123_0⟩ (fun hHeld => ?_); refine with_tabW slices_Reverse_byte_byte.tab3 slices_Reverse_byte_byte.bits3 (fun HT_ HW_ => ?_)
                generalize wr.drew = w10 at HO_0 HK HB GG8 HQ11 HQ12 hf8_0 hf9_0 hx122_0 hx123_0 hx8_0 hx9_0 hHeld ⊢
                refine pure_ (i := 0) (N := some 14) (v := ?_) (a' := ?_) #[true, false, false, false, false, false, false, false, false, false, false, false, false, false, false, false] rfl rfl (any_of HT_.out (by kernel_rfl)) (fun _ _ _ h => h) (Or.inl ⟨by rfl, ?_⟩) ?_ ?_
                rotate_left
                · intro w'
                  go_simp
                  with_reducible rfl
                rotate_left
                · simp only [Act.put, List.setIfInBounds_toArray, List.set_cons_zero, List.set_cons_succ, i64_w, i32_w]
                  rfl
                refine pure_ (i := 1) (N := some 15) (v := ?_) (a' := ?_) #[true, true, false, false, false, false, false, false, false, false, false, false, false, false, false, false] rfl rfl (any_of HT_.out (by kernel_rfl)) (fun _ _ _ h => h) (Or.inl ⟨by rfl, ?_⟩) ?_ ?_
                rotate_left
                · intro w'
                  go_simp
                  with_reducible rfl
                rotate_left
                · simp only [Act.put, List.setIfInBounds_toArray, List.set_cons_zero, List.set_cons_succ, i64_w, i32_w]
                  rfl
                refine pure_ (i := 2) (N := some 16) (v := ?_) (a' := ?_) #[true, true, true, false, false, false, false, false, false, false, false, false, false, false, false, false] rfl rfl (any_of HT_.out (by kernel_rfl)) (fun _ _ _ h => h) (Or.inl ⟨by rfl, ?_⟩) ?_ ?_
                rotate_left
                · intro w'
                  go_simp
                  with_reducible rfl
                rotate_left
                · simp only [Act.put, List.setIfInBounds_toArray, List.set_cons_zero, List.set_cons_succ, i64_w, i32_w]
                  rfl
                refine pure_ (i := 3) (N := some 17) (v := ?_) (a' := ?_) #[true, true, true, true, false, false, false, false, false, false, false, false, false, false, false, false] rfl rfl (any_of HT_.out (by kernel_rfl)) (fun _ _ _ h => h) (Or.inl ⟨by rfl, ?_⟩) ?_ ?_
                rotate_left
                · intro w'
                  go_simp
                  with_reducible rfl
                rotate_left
                · simp only [Act.put, List.setIfInBounds_toArray, List.set_cons_zero, List.set_cons_succ, i64_w, i32_w]
                  rfl
                refine pure_ (i := 4) (N := some 18) (v := ?_) (a' := ?_) #[true, true, true, true, true, false, false, false, false, false, false, false, false, false, false, false] rfl rfl (any_of HT_.out (by kernel_rfl)) (fun _ _ _ h => h) (Or.inl ⟨by rfl, ?_⟩) ?_ ?_
                rotate_left
                · intro w'
                  go_simp
                  with_reducible rfl
                rotate_left
                · simp only [Act.put, List.setIfInBounds_toArray, List.set_cons_zero, List.set_cons_succ, i64_w, i32_w]
                  rfl
                refine pure_ (i := 5) (N := some 19) (v := ?_) (a' := ?_) #[true, true, true, true, true, true, false, false, false, false, false, false, false, false, false, false] rfl rfl (any_of HT_.out (by kernel_rfl)) (fun _ _ _ h => h) (Or.inl ⟨by rfl, ?_⟩) ?_ ?_
                rotate_left
                · intro w'
                  go_simp
                  with_reducible rfl
                rotate_left
                · simp only [Act.put, List.setIfInBounds_toArray, List.set_cons_zero, List.set_cons_succ, i64_w, i32_w]
                  rfl
                refine pure_ (i := 6) (N := some 20) (v := ?_) (a' := ?_) #[true, true, true, true, true, true, true, false, false, false, false, false, false, false, false, false] rfl rfl (any_of HT_.out (by kernel_rfl)) (fun _ _ _ h => h) (Or.inl ⟨by rfl, ?_⟩) ?_ ?_
                rotate_left
                · intro w'
                  go_simp
                  with_reducible rfl
                rotate_left
                · simp only [Act.put, List.setIfInBounds_toArray, List.set_cons_zero, List.set_cons_succ, i64_w, i32_w]
                  rfl
                refine pure_ (i := 8) (N := some 22) (v := ?_) (a' := ?_) #[true, true, true, true, true, true, true, false, true, false, false, false, false, false, false, false] rfl rfl (any_of HT_.out (by kernel_rfl)) (fun _ _ _ h => h) (Or.inl ⟨by rfl, ?_⟩) ?_ ?_
                rotate_left
                · intro w'
                  go_simp
                  with_reducible rfl
                rotate_left
                · simp only [Act.put, List.setIfInBounds_toArray, List.set_cons_zero, List.set_cons_succ, i64_w, i32_w]
                  rfl
                refine pure_ (i := 9) (N := some 23) (v := ?_) (a' := ?_) #[true, true, true, true, true, true, true, false, true, true, false, false, false, false, false, false] rfl rfl (any_of HT_.out (by kernel_rfl)) (fun _ _ _ h => h) (Or.inl ⟨by rfl, ?_⟩) ?_ ?_
                rotate_left
                · intro w'
                  go_simp
                  with_reducible rfl
                rotate_left
                · simp only [Act.put, List.setIfInBounds_toArray, List.set_cons_zero, List.set_cons_succ, i64_w, i32_w]
                  rfl
                refine pure_ (i := 10) (N := some 24) (v := ?_) (a' := ?_) #[true, true, true, true, true, true, true, false, true, true, true, false, false, false, false, false] rfl rfl (any_of HT_.out (by kernel_rfl)) (fun _ _ _ h => h) (Or.inl ⟨by rfl, ?_⟩) ?_ ?_
                rotate_left
                · intro w'
                  go_simp
                  with_reducible rfl
                rotate_left
                · simp only [Act.put, List.setIfInBounds_toArray, List.set_cons_zero, List.set_cons_succ, i64_w, i32_w]
                  rfl
                refine take_ (i := 7) (N := some 21) (v := ?_) (a' := ?_) #[true, true, true, true, true, true, true, true, true, true, true, false, false, false, false, false] rfl rfl (take_ofW HT_.out HW_.out (by kernel_rfl)) (fun _ _ _ h => h) (Or.inl ⟨by rfl, ?_⟩) hHeld ?_ ?_
                rotate_left
                · rintro w' ⟨s0, s1⟩
                  go_simp
                  with_reducible rfl
                rotate_left
                · simp only [Act.put, List.setIfInBounds_toArray, List.set_cons_zero, List.set_cons_succ, i64_w, i32_w]
                  rfl
                refine take_ (i := 11) (N := some 25) (v := ?_) (a' := ?_) #[true, true, true, true, true, true, true, true, true, true, true, true, false, false, false, false] rfl rfl (take_ofW HT_.out HW_.out (by kernel_rfl)) (fun _ _ _ h => h) (Or.inl ⟨by rfl, ?_⟩) hHeld ?_ ?_
                rotate_left
                · rintro w' ⟨s0, s1⟩
                  go_simp
                  with_reducible rfl
                rotate_left
                · simp only [Act.put, List.setIfInBounds_toArray, List.set_cons_zero, List.set_cons_succ, i64_w, i32_w]
                  rfl
                refine pure_ (i := 12) (N := some 26) (v := ?_) (a' := ?_) #[true, true, true, true, true, true, true, true, true, true, true, true, true, false, false, false] rfl rfl (any_of HT_.out (by kernel_rfl)) (fun _ _ _ h => h) (Or.inl ⟨by rfl, ?_⟩) ?_ ?_
                rotate_left
                · intro w'
                  go_simp
                  with_reducible rfl
                rotate_left
                · simp only [Act.put, List.setIfInBounds_toArray, List.set_cons_zero, List.set_cons_succ, i64_w, i32_w]
                  rfl
                refine last_ (i := 13) (N := none) #[true, true, true, true, true, true, true, true, true, true, true, true, true, true, false, false] rfl rfl (one_of HT_.out (by kernel_rfl)) (by decide) (fun K hK => ?_)
                refine skip_ (w1 := ?_) (by rfl) rfl ?_ ?_
                rotate_left
                · go_simp
                  rfl
                refine hK.out _ _ ?_
                clear hK K
                refine pure_ (i := 14) (N := some 27) (v := ?_) (a' := ?_) #[true, true, true, true, true, true, true, true, true, true, true, true, true, true, true, false] rfl rfl (any_of HT_.out (by kernel_rfl)) (fun _ _ _ h => h) (Or.inl ⟨by rfl, ?_⟩) ?_ ?_
                rotate_left
                · intro w'
                  go_simp
                  with_reducible rfl
                rotate_left
                · simp only [Act.put, List.setIfInBounds_toArray, List.set_cons_zero, List.set_cons_succ, i64_w, i32_w]
                  rfl
                refine last_ (i := 15) (N := none) #[true, true, true, true, true, true, true, true, true, true, true, true, true, true, true, true] rfl rfl (one_of HT_.out (by kernel_rfl)) (by decide) (fun K hK => ?_)
                refine skip_ (w1 := ?_) (by rfl) rfl ?_ ?_
                rotate_left
                · go_simp
                  rfl
                refine hK.out _ _ ?_
                clear hK K
                refine done_ (done_of HT_.out (by kernel_rfl)) ?_
                try go_wp2
                (try simp only [← hl0_1])
                go_roundg k1
                case measure => have := HK1.out; omega
                case rel => exact ⟨(y125), (wrap64 (x2_1 + 1)), (wrap64 (x3_1 - 1)), (by first | rfl | (simp; done) | (simp [*]; done)), (by first | rfl | (simp; done) | (simp [*]; done)), H', ⟨by have := HK1.out; omega⟩, ⟨by (try simp only [hl0_1]); (with_reducible repeat (first | apply Kd.R_alloc | apply Kd.R_drewN | apply Kd.R_drew)); exact HQ12.out⟩, ⟨by repeat (first | (with_reducible first | exact HK.out | apply Kept.alloc | apply Kept.drewN | apply Kept.drew | refine Kept.setCell ?_ HMgo8.out _ | refine Kept.setCell ?_ HMgo8.out _) | exact HK.out)⟩, ⟨by repeat (first | (with_reducible first | exact HB.out | apply below_alloc | apply pw_below_drewN | apply below_drew1 | refine below_set ?_ GB8.out | refine below_set ?_ GB8.out) | exact HB.out)⟩⟩
              · rw [if_neg c7] at H
                exact absurd H (by simp)
            · rw [if_neg c6] at H
              exact absurd H (by simp)
          · rw [if_neg c5] at H
            exact absurd H (by simp)
        · rw [if_neg c4] at H
          exact absurd H (by simp)
      · rw [if_neg c3] at H
        have c3b0 : decide (x2_1 < x3_1) = false := decide_eq_false c3
        clear c3
        obtain rfl := Option.some.inj H
        go_wp2
        first | go_end0 | ((try simp only [Exit.inBlock, Exit.then]); refine bodyPost_ret (results_none rfl _ _ _) rfl ?_)
        exact ⟨by first | rfl | (simp [errW_none, errW_some] <;> rfl) | (simp [*, errW_none, errW_some] <;> rfl), (by first | exact (by (with_reducible repeat (first | apply Kd.R_alloc | apply Kd.R_drewN | apply Kd.R_drew)); exact HO_0.out) | (simp only [hl0_1]; exact (by (with_reducible repeat (first | apply Kd.R_alloc | apply Kd.R_drewN | apply Kd.R_drew)); exact HO_0.out))), by repeat (first | (with_reducible first | exact HB.out | apply below_alloc | apply pw_below_drewN | apply below_drew1) | exact HB.out), by repeat (first | (with_reducible first | exact HK.out | apply Kept.alloc | apply Kept.drewN | apply Kept.drew) | exact HK.out)⟩

end Go.Proofs.Ytmcicjjaneaokaa.MWeekTexts
