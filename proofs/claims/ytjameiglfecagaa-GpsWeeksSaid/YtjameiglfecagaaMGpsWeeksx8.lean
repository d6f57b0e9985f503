-- This text was written by a program of this session (a changed scratch copy of a tool of the kit; NOTES.md tells the changes).
import Derived.Test.YtjameiglfecagaaMGpsWeeksx0
import Derived.Test.YtjameiglfecagaaMGpsWeeksx1
import Derived.Test.YtjameiglfecagaaMGpsWeeksx4
import Derived.Test.YtjameiglfecagaaMGpsWeeksx5
import Derived.Test.YtjameiglfecagaaMGpsWeeksx6
import Derived.Test.YtjameiglfecagaaMGpsWeeksx7
namespace Go.Proofs.Ytjameiglfecagaa.MGpsWeeks
open Go.RowKit Go.Proofs.YtjameiglfecagaaW.PrintWords Go.Proofs.YtjameiglfecagaaW.PrintLast Go.Proofs.YtjameiglfecagaaW.PrintMore
attribute [local go_sem] max2_int min2_int max_two min_two max_three min_three max_four min_four   -- for this text's walks alone
set_option linter.unusedVariables false
set_option linter.unusedSimpArgs false

/-! ### horologeref13_Fold: function 19 -/
def horologeref13_Fold.l0 : Nat → Int → Int → Int → Int → Option (Int)
  | 0, _, _, _, _ => none
  | k + 1, x0, x1, x5, x6 => if x6 < x1 then (horologeref13_Fold.l0 k x0 x1 (wrap64 (x5 * 2)) (wrap64 (x6 + 1))) else (if x5 = 0 then (none) else (if (Int.tmod x0 x5) < 0 then (some (wrap64 ((Int.tmod x0 x5) + x5))) else (some (Int.tmod x0 x5))))
def horologeref13_Fold.f (k : Nat) (a0 : Int) (a1 : Int) : Option (Int) := horologeref13_Fold.l0 k a0 a1 1 0
theorem horologeref13_Fold.mono_l : ∀ k, (∀ y0 y1 y2 y3, LeO (horologeref13_Fold.l0 k y0 y1 y2 y3) (horologeref13_Fold.l0 (k + 1) y0 y1 y2 y3))
  | 0 => fun _ _ _ _ r h => by simp [horologeref13_Fold.l0] at h
  | k + 1 => by
    have ih0 := horologeref13_Fold.mono_l k
    · intro y0 y1 y2 y3
      unfold horologeref13_Fold.l0
      repeat' first
      | (with_reducible exact ih0 _ _ _ _)
      | (with_reducible exact LeO.refl _)
      | (with_reducible exact LeO.none _)
      | (with_reducible refine LeO.ite ?_ ?_)
      | (with_reducible refine LeO.bind ?_ (fun _ => ?_))
      | exact ih0 _ _ _ _
      | exact LeO.none _
      | refine LeO.ite ?_ ?_
      | refine LeO.bind ?_ (fun _ => ?_)
theorem horologeref13_Fold.mono : ∀ a0 a1 k, LeO (horologeref13_Fold.f k a0 a1) (horologeref13_Fold.f (k + 1) a0 a1) := by
  intro a0 a1 k
  have ih0 := horologeref13_Fold.mono_l k
  unfold horologeref13_Fold.f
  repeat' first
      | (with_reducible exact ih0 _ _ _ _)
      | (with_reducible exact LeO.refl _)
      | (with_reducible exact LeO.none _)
      | (with_reducible refine LeO.ite ?_ ?_)
      | (with_reducible refine LeO.bind ?_ (fun _ => ?_))
      | exact ih0 _ _ _ _
      | exact LeO.none _
      | refine LeO.ite ?_ ?_
      | refine LeO.bind ?_ (fun _ => ?_)
set_option maxHeartbeats 8000000 in
set_option maxRecDepth 100000 in
theorem horologeref13_Fold.calls (k : Nat) (a0 : Int) (a1 : Int) (r : Int) (w : World) (h : horologeref13_Fold.f k a0 a1 = some r) :
    Calls Try.prog 19 #[.int .i64 a0, .int .i64 a1] w fun e w' => e = .returned (.int .i64 r) ∧ Drawn0 w w' := by
  have H : (horologeref13_Fold.l0 k a0 a1 1 0) = some r := h
  clear h
  have H' := Aside0.mk H
  clear H
  go_enter Try.func19, Try.ntmps19
  go_wp2
  go_loopg [5, 6] k (fun kq v5 v6 w' => ∃ (x5_1 : Int) (x6_1 : Int), v5 = .int .i64 x5_1 ∧ v6 = .int .i64 x6_1 ∧ Aside0 (horologeref13_Fold.l0 kq a0 a1 x5_1 x6_1 = some r) ∧ Aside0 (kq ≤ k) ∧ Drawn0 w w')
  case atStart => exact ⟨(1), (0), (by first | rfl | (simp; done) | (simp [*]; done)), (by first | rfl | (simp; done) | (simp [*]; done)), H', ⟨Nat.le_refl _⟩, by repeat (first | exact Drawn0.refl _ | apply Drawn0.step)⟩
  case round =>
    clear H'
    try clear c1
    try clear p2
    obtain ⟨x5_1, x6_1, rfl, rfl, HA, HK1, ⟨m1, rfl⟩⟩ := hrel
    cases gk with
    | zero => exact absurd HA.out (by simp [horologeref13_Fold.l0])
    | succ k1 =>
      have H := HA.out
      clear HA
      simp only [horologeref13_Fold.l0] at H
      by_cases c3 : x6_1 < a1
      · rw [if_pos c3] at H
        have c3b0 : decide (x6_1 < a1) = true := decide_eq_true c3
        clear c3
        have H' := Aside0.mk H
        clear H
        go_wp2
        go_roundg k1
        case measure => have := HK1.out; omega
        case rel => exact ⟨(wrap64 (x5_1 * 2)), (wrap64 (x6_1 + 1)), (by first | rfl | (simp; done) | (simp [*]; done)), (by first | rfl | (simp; done) | (simp [*]; done)), H', ⟨by have := HK1.out; omega⟩, by repeat (first | exact Drawn0.refl _ | apply Drawn0.step)⟩
      · rw [if_neg c3] at H
        have c3b0 : decide (x6_1 < a1) = false := decide_eq_false c3
        clear c3
        by_cases c4 : x5_1 = 0
        · rw [if_pos c4] at H
          exact absurd H (by simp)
        · rw [if_neg c4] at H
          have c4b0 : (x5_1 == 0) = false := beq_eq_false_iff_ne.mpr c4
          have c4b1 : (x5_1 != 0) = true := bne_iff_ne.mpr c4
          by_cases c5 : (Int.tmod a0 x5_1) < 0
          · rw [if_pos c5] at H
            have c5b0 : decide ((Int.tmod a0 x5_1) < 0) = true := decide_eq_true c5
            clear c5
            obtain rfl := Option.some.inj H
            go_wp2
            go_ret
            exact ⟨by first | rfl | (simp; done) | (simp [*]; done), by repeat (first | exact Drawn0.refl _ | apply Drawn0.step)⟩
          · rw [if_neg c5] at H
            have c5b0 : decide ((Int.tmod a0 x5_1) < 0) = false := decide_eq_false c5
            clear c5
            obtain rfl := Option.some.inj H
            go_wp2
            go_ret
            exact ⟨by first | rfl | (simp; done) | (simp [*]; done), by repeat (first | exact Drawn0.refl _ | apply Drawn0.step)⟩

/-! ### horologelaw14_GpsWeeks: function 4 -/
mutual
def horologelaw14_GpsWeeks.j0 : Nat → Int → Int → Int → Int → Option Int → ByteArray → Option Int → Int → Int → Int → ByteArray → Option (Bool)
  | 0, _, _, _, _, _, _, _, _, _, _, _ => none
  | k + 1, x1, x2, x7, x8, x9, x10, x11, x12, x13, x14, x15 => if x7 = x12 then (if x8 = x13 then (if x10.toList = x15.toList then ((horologenum_Num.f x9).bind fun t336 => (if t336 = x14 then ((horologenum_Num.f x11).bind fun t337 => (horologelaw14_GpsWeeks.j1 k x1 x2 (t337 != x14))) else (horologelaw14_GpsWeeks.j1 k x1 x2 true))) else (horologelaw14_GpsWeeks.j1 k x1 x2 true)) else (horologelaw14_GpsWeeks.j1 k x1 x2 true)) else (horologelaw14_GpsWeeks.j1 k x1 x2 true)
def horologelaw14_GpsWeeks.j1 : Nat → Int → Int → Bool → Option (Bool)
  | 0, _, _, _ => none
  | k + 1, x1, x2, x66 => if x66 = true then (some false) else ((gps_Tai.f k x1 x2).bind fun bt338 => ((horologeref14_Tai.f k x1 x2).bind fun bt340 => (if bt338.1 = bt340.1 then ((horologenum_Num.f bt338.2).bind fun t342 => (if t342 = bt340.2 then ((gps_Short.f x1).bind fun t343 => ((horologeref13_Fold.f k x1 10).bind fun t344 => (some (t343 == t344)))) else (some false))) else (some false))))
end
def horologelaw14_GpsWeeks.f (k : Nat) (a0 : Int) (a1 : Int) (a2 : Int) : Option (Bool) := (horologelaw14_alive.f k).bind fun t326 => (if t326 = true then ((gps_Of.f k a0).bind fun bt327 => ((gps_Put.f k a0).bind fun bt330 => ((horologeref14_Of.f k a0).bind fun bt332 => (if bt332.2.2 = 0 then ((horologeref14_Put.f k bt332.1 bt332.2.1).bind fun t335 => (horologelaw14_GpsWeeks.j0 k a1 a2 bt327.1 bt327.2.1 bt327.2.2 bt330.1 bt330.2 bt332.1 bt332.2.1 bt332.2.2 t335)) else (horologelaw14_GpsWeeks.j0 k a1 a2 bt327.1 bt327.2.1 bt327.2.2 bt330.1 bt330.2 bt332.1 bt332.2.1 bt332.2.2 (⟨#[]⟩ : ByteArray)))))) else (some false))
theorem horologelaw14_GpsWeeks.mono_l : ∀ k, (∀ y0 y1 y2 y3 y4 y5 y6 y7 y8 y9 y10, LeO (horologelaw14_GpsWeeks.j0 k y0 y1 y2 y3 y4 y5 y6 y7 y8 y9 y10) (horologelaw14_GpsWeeks.j0 (k + 1) y0 y1 y2 y3 y4 y5 y6 y7 y8 y9 y10)) ∧ (∀ y0 y1 y2, LeO (horologelaw14_GpsWeeks.j1 k y0 y1 y2) (horologelaw14_GpsWeeks.j1 (k + 1) y0 y1 y2))
  | 0 => ⟨fun _ _ _ _ _ _ _ _ _ _ _ r h => by simp [horologelaw14_GpsWeeks.j0] at h, fun _ _ _ r h => by simp [horologelaw14_GpsWeeks.j1] at h⟩
  | k + 1 => by
    obtain ⟨ih0, ih1⟩ := horologelaw14_GpsWeeks.mono_l k
    refine ⟨?_, ?_⟩
    · intro y0 y1 y2 y3 y4 y5 y6 y7 y8 y9 y10
      unfold horologelaw14_GpsWeeks.j0
      repeat' first
      | (with_reducible exact ih0 _ _ _ _ _ _ _ _ _ _ _)
      | (with_reducible exact ih1 _ _ _)
      | (with_reducible exact gps_Of.mono _ _)
      | (with_reducible exact gps_Put.mono _ _)
      | (with_reducible exact gps_Tai.mono _ _ _)
      | (with_reducible exact horologelaw14_alive.mono _)
      | (with_reducible exact horologeref13_Fold.mono _ _ _)
      | (with_reducible exact horologeref14_Of.mono _ _)
      | (with_reducible exact horologeref14_Put.mono _ _ _)
      | (with_reducible exact horologeref14_Tai.mono _ _ _)
      | (with_reducible exact LeO.refl _)
      | (with_reducible exact LeO.none _)
      | (with_reducible refine LeO.ite ?_ ?_)
      | (with_reducible refine LeO.bind ?_ (fun _ => ?_))
      | exact ih0 _ _ _ _ _ _ _ _ _ _ _
      | exact ih1 _ _ _
      | exact gps_Of.mono _ _
      | exact gps_Put.mono _ _
      | exact gps_Tai.mono _ _ _
      | exact horologelaw14_alive.mono _
      | exact horologeref13_Fold.mono _ _ _
      | exact horologeref14_Of.mono _ _
      | exact horologeref14_Put.mono _ _ _
      | exact horologeref14_Tai.mono _ _ _
      | exact LeO.none _
      | refine LeO.ite ?_ ?_
      | refine LeO.bind ?_ (fun _ => ?_)
    · intro y0 y1 y2
      unfold horologelaw14_GpsWeeks.j1
      repeat' first
      | (with_reducible exact ih0 _ _ _ _ _ _ _ _ _ _ _)
      | (with_reducible exact ih1 _ _ _)
      | (with_reducible exact gps_Of.mono _ _)
      | (with_reducible exact gps_Put.mono _ _)
      | (with_reducible exact gps_Tai.mono _ _ _)
      | (with_reducible exact horologelaw14_alive.mono _)
      | (with_reducible exact horologeref13_Fold.mono _ _ _)
      | (with_reducible exact horologeref14_Of.mono _ _)
      | (with_reducible exact horologeref14_Put.mono _ _ _)
      | (with_reducible exact horologeref14_Tai.mono _ _ _)
      | (with_reducible exact LeO.refl _)
      | (with_reducible exact LeO.none _)
      | (with_reducible refine LeO.ite ?_ ?_)
      | (with_reducible refine LeO.bind ?_ (fun _ => ?_))
      | exact ih0 _ _ _ _ _ _ _ _ _ _ _
      | exact ih1 _ _ _
      | exact gps_Of.mono _ _
      | exact gps_Put.mono _ _
      | exact gps_Tai.mono _ _ _
      | exact horologelaw14_alive.mono _
      | exact horologeref13_Fold.mono _ _ _
      | exact horologeref14_Of.mono _ _
      | exact horologeref14_Put.mono _ _ _
      | exact horologeref14_Tai.mono _ _ _
      | exact LeO.none _
      | refine LeO.ite ?_ ?_
      | refine LeO.bind ?_ (fun _ => ?_)
theorem horologelaw14_GpsWeeks.mono : ∀ a0 a1 a2 k, LeO (horologelaw14_GpsWeeks.f k a0 a1 a2) (horologelaw14_GpsWeeks.f (k + 1) a0 a1 a2) := by
  intro a0 a1 a2 k
  obtain ⟨ih0, ih1⟩ := horologelaw14_GpsWeeks.mono_l k
  unfold horologelaw14_GpsWeeks.f
  repeat' first
      | (with_reducible exact ih0 _ _ _ _ _ _ _ _ _ _ _)
      | (with_reducible exact ih1 _ _ _)
      | (with_reducible exact gps_Of.mono _ _)
      | (with_reducible exact gps_Put.mono _ _)
      | (with_reducible exact gps_Tai.mono _ _ _)
      | (with_reducible exact horologelaw14_alive.mono _)
      | (with_reducible exact horologeref13_Fold.mono _ _ _)
      | (with_reducible exact horologeref14_Of.mono _ _)
      | (with_reducible exact horologeref14_Put.mono _ _ _)
      | (with_reducible exact horologeref14_Tai.mono _ _ _)
      | (with_reducible exact LeO.refl _)
      | (with_reducible exact LeO.none _)
      | (with_reducible refine LeO.ite ?_ ?_)
      | (with_reducible refine LeO.bind ?_ (fun _ => ?_))
      | exact ih0 _ _ _ _ _ _ _ _ _ _ _
      | exact ih1 _ _ _
      | exact gps_Of.mono _ _
      | exact gps_Put.mono _ _
      | exact gps_Tai.mono _ _ _
      | exact horologelaw14_alive.mono _
      | exact horologeref13_Fold.mono _ _ _
      | exact horologeref14_Of.mono _ _
      | exact horologeref14_Put.mono _ _ _
      | exact horologeref14_Tai.mono _ _ _
      | exact LeO.none _
      | refine LeO.ite ?_ ?_
      | refine LeO.bind ?_ (fun _ => ?_)
set_option maxHeartbeats 8000000 in
set_option maxRecDepth 100000 in
theorem horologelaw14_GpsWeeks.calls (k : Nat) (a0 : Int) (a1 : Int) (a2 : Int) (r : Bool) (w : World) (h : horologelaw14_GpsWeeks.f k a0 a1 a2 = some r) :
    Calls Try.prog 4 #[.int .i64 a0, .int .i64 a1, .int .i64 a2] w fun e w' => e = .returned (.bool r) ∧ Below w.heap.size w w' := by
  have HB := Aside0.mk (Below.refl w.heap.size w)
  have H : ((horologelaw14_alive.f k).bind fun t326 => (if t326 = true then ((gps_Of.f k a0).bind fun bt327 => ((gps_Put.f k a0).bind fun bt330 => ((horologeref14_Of.f k a0).bind fun bt332 => (if bt332.2.2 = 0 then ((horologeref14_Put.f k bt332.1 bt332.2.1).bind fun t335 => (horologelaw14_GpsWeeks.j0 k a1 a2 bt327.1 bt327.2.1 bt327.2.2 bt330.1 bt330.2 bt332.1 bt332.2.1 bt332.2.2 t335)) else (horologelaw14_GpsWeeks.j0 k a1 a2 bt327.1 bt327.2.1 bt327.2.2 bt330.1 bt330.2 bt332.1 bt332.2.1 bt332.2.2 (⟨#[]⟩ : ByteArray)))))) else (some false))) = some r := h
  clear h
  replace H := Option.bind_eq_some_iff.mp H
  obtain ⟨t326, A40, H⟩ := H
  replace H : (if t326 = true then ((gps_Of.f k a0).bind fun bt327 => ((gps_Put.f k a0).bind fun bt330 => ((horologeref14_Of.f k a0).bind fun bt332 => (if bt332.2.2 = 0 then ((horologeref14_Put.f k bt332.1 bt332.2.1).bind fun t335 => (horologelaw14_GpsWeeks.j0 k a1 a2 bt327.1 bt327.2.1 bt327.2.2 bt330.1 bt330.2 bt332.1 bt332.2.1 bt332.2.2 t335)) else (horologelaw14_GpsWeeks.j0 k a1 a2 bt327.1 bt327.2.1 bt327.2.2 bt330.1 bt330.2 bt332.1 bt332.2.1 bt332.2.2 (⟨#[]⟩ : ByteArray)))))) else (some false)) = some r := H
  have A4 := Aside0.mk A40
  clear A40
  by_cases c5 : t326 = true
  · subst c5
    have H1 : ((gps_Of.f k a0).bind fun bt327 => ((gps_Put.f k a0).bind fun bt330 => ((horologeref14_Of.f k a0).bind fun bt332 => (if bt332.2.2 = 0 then ((horologeref14_Put.f k bt332.1 bt332.2.1).bind fun t335 => (horologelaw14_GpsWeeks.j0 k a1 a2 bt327.1 bt327.2.1 bt327.2.2 bt330.1 bt330.2 bt332.1 bt332.2.1 bt332.2.2 t335)) else (horologelaw14_GpsWeeks.j0 k a1 a2 bt327.1 bt327.2.1 bt327.2.2 bt330.1 bt330.2 bt332.1 bt332.2.1 bt332.2.2 (⟨#[]⟩ : ByteArray)))))) = some r := by rw [if_pos rfl] at H; exact H
    clear H
    have H := H1
    clear H1
    replace H := Option.bind_eq_some_iff.mp H
    obtain ⟨⟨t327, t328, t329⟩, A60, H⟩ := H
    replace H : ((gps_Put.f k a0).bind fun bt330 => ((horologeref14_Of.f k a0).bind fun bt332 => (if bt332.2.2 = 0 then ((horologeref14_Put.f k bt332.1 bt332.2.1).bind fun t335 => (horologelaw14_GpsWeeks.j0 k a1 a2 t327 t328 t329 bt330.1 bt330.2 bt332.1 bt332.2.1 bt332.2.2 t335)) else (horologelaw14_GpsWeeks.j0 k a1 a2 t327 t328 t329 bt330.1 bt330.2 bt332.1 bt332.2.1 bt332.2.2 (⟨#[]⟩ : ByteArray))))) = some r := H
    have A6 := Aside0.mk A60
    clear A60
    replace H := Option.bind_eq_some_iff.mp H
    obtain ⟨⟨t330, t331⟩, A70, H⟩ := H
    replace H : ((horologeref14_Of.f k a0).bind fun bt332 => (if bt332.2.2 = 0 then ((horologeref14_Put.f k bt332.1 bt332.2.1).bind fun t335 => (horologelaw14_GpsWeeks.j0 k a1 a2 t327 t328 t329 t330 t331 bt332.1 bt332.2.1 bt332.2.2 t335)) else (horologelaw14_GpsWeeks.j0 k a1 a2 t327 t328 t329 t330 t331 bt332.1 bt332.2.1 bt332.2.2 (⟨#[]⟩ : ByteArray)))) = some r := H
    have A7 := Aside0.mk A70
    clear A70
    replace H := Option.bind_eq_some_iff.mp H
    obtain ⟨⟨t332, t333, t334⟩, A80, H⟩ := H
    replace H : (if t334 = 0 then ((horologeref14_Put.f k t332 t333).bind fun t335 => (horologelaw14_GpsWeeks.j0 k a1 a2 t327 t328 t329 t330 t331 t332 t333 t334 t335)) else (horologelaw14_GpsWeeks.j0 k a1 a2 t327 t328 t329 t330 t331 t332 t333 t334 (⟨#[]⟩ : ByteArray))) = some r := H
    have A8 := Aside0.mk A80
    clear A80
    have HC9 := Aside0.mk H
    clear H
    go_enter Try.func4, Try.ntmps4
    go_upto_if 38 with (first | ((with_reducible refine gate_callee (f := 7) rfl ?_); refine goesL_ (some 18) rfl rfl Try.func7 (by kernel_rfl) rfl #[] rfl (by (try simp only [List.map_toArray, List.map_cons, List.map_nil]); first | done | rfl | (simp only [List.length_drop, List.length_take]; rfl) | (refine congrArg (fun z_ => #[Value.int IntKind.i64 z_]) (?_ : Go.RowKit.wrap64 (IntKind.u8.wrap _) = _); rw [IntKind.wrap_u8]; unfold Go.RowKit.wrap64; omega)) ?_; (with_reducible refine (horologelaw14_alive.calls k  true _ A4.out).mono ?_); rintro e w' ⟨rfl, ⟨nd, rfl⟩⟩; refine ⟨_, rfl, ?_⟩) | ((with_reducible refine gate_callee (f := 14) rfl ?_); refine goesL_ (some 22) rfl rfl Try.func14 (by kernel_rfl) rfl #[.int .i64 a0] rfl (by (try simp only [List.map_toArray, List.map_cons, List.map_nil]); first | done | rfl | (simp only [List.length_drop, List.length_take]; rfl) | (refine congrArg (fun z_ => #[Value.int IntKind.i64 z_]) (?_ : Go.RowKit.wrap64 (IntKind.u8.wrap _) = _); rw [IntKind.wrap_u8]; unfold Go.RowKit.wrap64; omega)) ?_; (with_reducible refine (gps_Of.calls k a0 t327 t328 t329 _ A6.out).mono ?_); rintro e w' ⟨rfl, ⟨nd, rfl⟩⟩; refine ⟨_, rfl, ?_⟩; (try simp only [errW_none, errW_some])) | ((with_reducible refine gate_callee (f := 15) rfl ?_); refine goesL_ (some 28) rfl rfl Try.func15 (by kernel_rfl) rfl #[.int .i64 a0] rfl (by (try simp only [List.map_toArray, List.map_cons, List.map_nil]); first | done | rfl | (simp only [List.length_drop, List.length_take]; rfl) | (refine congrArg (fun z_ => #[Value.int IntKind.i64 z_]) (?_ : Go.RowKit.wrap64 (IntKind.u8.wrap _) = _); rw [IntKind.wrap_u8]; unfold Go.RowKit.wrap64; omega)) ?_; (with_reducible refine (gps_Put.calls k a0 t330 t331 _ A7.out).mono ?_); rintro e w10 ⟨rfl, hb⟩; refine ⟨_, rfl, ?_⟩; have n0_ := Aside0.mk (below_step (by repeat (first | (with_reducible first | exact HB.out | apply below_alloc | apply pw_below_drewN | apply below_drew1) | exact HB.out)) hb); clear HB; have HB := n0_; clear n0_; (try clear hb); (try clear hb2); (try clear hk); (try clear hi); (try simp only [errW_none, errW_some])) | ((with_reducible refine gate_callee (f := 12) rfl ?_); refine goesL_ (some 33) rfl rfl Try.func12 (by kernel_rfl) rfl #[.int .i64 a0] rfl (by (try simp only [List.map_toArray, List.map_cons, List.map_nil]); first | done | rfl | (simp only [List.length_drop, List.length_take]; rfl) | (refine congrArg (fun z_ => #[Value.int IntKind.i64 z_]) (?_ : Go.RowKit.wrap64 (IntKind.u8.wrap _) = _); rw [IntKind.wrap_u8]; unfold Go.RowKit.wrap64; omega)) ?_; (with_reducible refine (horologeref14_Of.calls k a0 t332 t333 t334 _ A8.out).mono ?_); rintro e w11 ⟨rfl, hb⟩; refine ⟨_, rfl, ?_⟩; have n0_ := Aside0.mk (below_step (by repeat (first | (with_reducible first | exact HB.out | apply below_alloc | apply pw_below_drewN | apply below_drew1) | exact HB.out)) hb); clear HB; have HB := n0_; clear n0_; (try clear hb); (try clear hb2); (try clear hk); (try clear hi)))
    (try simp only [Act.put, List.setIfInBounds_toArray, List.set_cons_zero, List.set_cons_succ])
    go_cut [15] (fun v15 wc => ∃ (kq : Nat) (x15_8 : ByteArray), v15 = .string x15_8 ∧ Aside0 (horologelaw14_GpsWeeks.j0 kq a1 a2 t327 t328 t329 t330 t331 t332 t333 t334 x15_8 = some r) ∧ Aside0 (kq ≤ k) ∧ Aside0 (Below w.heap.size w wc))
    case first =>
      have H := HC9.out
      clear HC9
      by_cases c12 : t334 = 0
      · rw [if_pos c12] at H
        have c12b0 : (t334 == 0) = true := beq_iff_eq.mpr c12
        have c12b1 : (t334 != 0) = false := bne_eq_false_iff_eq.mpr c12
        clear c12
        (first | rw [c12b0] | (simp only [i64_w, i32_w]; rw [c12b0]) | skip)
        replace H := Option.bind_eq_some_iff.mp H
        obtain ⟨t335, A130, H⟩ := H
        replace H : (horologelaw14_GpsWeeks.j0 k a1 a2 t327 t328 t329 t330 t331 t332 t333 t334 t335) = some r := H
        have A13 := Aside0.mk A130
        clear A130
        have H' := Aside0.mk H
        clear H
        go_wp2_with (first | ((with_reducible refine gate_callee (f := 16) rfl ?_); refine goesL_ (some 41) rfl rfl Try.func16 (by kernel_rfl) rfl #[.int .i64 t332, .int .i64 t333] rfl (by (try simp only [List.map_toArray, List.map_cons, List.map_nil]); first | done | rfl | (simp only [List.length_drop, List.length_take]; rfl) | (refine congrArg (fun z_ => #[Value.int IntKind.i64 z_]) (?_ : Go.RowKit.wrap64 (IntKind.u8.wrap _) = _); rw [IntKind.wrap_u8]; unfold Go.RowKit.wrap64; omega)) ?_; (with_reducible refine (horologeref14_Put.calls k t332 t333 t335 _ A13.out).mono ?_); rintro e w14 ⟨rfl, hb⟩; refine ⟨_, rfl, ?_⟩; have n0_ := Aside0.mk (below_step (by repeat (first | (with_reducible first | exact HB.out | apply below_alloc | apply pw_below_drewN | apply below_drew1) | exact HB.out)) hb); clear HB; have HB := n0_; clear n0_; (try clear hb); (try clear hb2); (try clear hk); (try clear hi)))
        go_meet
        case rel => exact ⟨_, (t335), (by first | rfl | (simp; done) | (simp [*]; done)), H', ⟨by first | omega | exact Nat.le_refl _⟩, ⟨by repeat (first | (with_reducible first | exact HB.out | apply below_alloc | apply pw_below_drewN | apply below_drew1) | exact HB.out)⟩⟩
      · rw [if_neg c12] at H
        have c12b0 : (t334 == 0) = false := beq_eq_false_iff_ne.mpr c12
        have c12b1 : (t334 != 0) = true := bne_iff_ne.mpr c12
        (first | rw [c12b0] | (simp only [i64_w, i32_w]; rw [c12b0]) | skip)
        have H' := Aside0.mk H
        clear H
        go_wp2
        go_meet
        case rel => exact ⟨_, ((⟨#[]⟩ : ByteArray)), (by first | rfl | (simp; done) | (simp [*]; done)), H', ⟨by first | omega | exact Nat.le_refl _⟩, ⟨by repeat (first | (with_reducible first | exact HB.out | apply below_alloc | apply pw_below_drewN | apply below_drew1) | exact HB.out)⟩⟩
    case rest =>
      clear HC9
      try clear c1
      try clear p2
      try clear c4
      try clear c5
      try clear p6
      try clear c7
      try clear c12
      try clear c12b0
      try clear c12b1
      try clear c14
      obtain ⟨kq, x15_8, rfl, HA, HJ8, HB⟩ := hcut
      cases kq with
      | zero => exact absurd HA.out (by simp [horologelaw14_GpsWeeks.j0])
      | succ kj8 =>
        have H := HA.out
        clear HA
        simp only [horologelaw14_GpsWeeks.j0] at H
        have HC15 := Aside0.mk H
        clear H
        go_upto_region 9 with (fail)
        go_cut [66] (fun v66 wc => ∃ (kq : Nat) (x66_14 : Bool), v66 = .bool x66_14 ∧ Aside0 (horologelaw14_GpsWeeks.j1 kq a1 a2 x66_14 = some r) ∧ Aside0 (kq ≤ kj8) ∧ Aside0 (Below w.heap.size w wc))
        case first =>
          have H := HC15.out
          clear HC15
          by_cases c16 : t327 = t332
          · rw [if_pos c16] at H
            have c16b0 : (t327 == t332) = true := beq_iff_eq.mpr c16
            have c16b1 : (t327 != t332) = false := bne_eq_false_iff_eq.mpr c16
            clear c16
            (first | rw [c16b0] | (simp only [i64_w, i32_w]; rw [c16b0]) | skip)
            by_cases c17 : t328 = t333
            · rw [if_pos c17] at H
              have c17b0 : (t328 == t333) = true := beq_iff_eq.mpr c17
              have c17b1 : (t328 != t333) = false := bne_eq_false_iff_eq.mpr c17
              clear c17
              by_cases c18 : t330.toList = x15_8.toList
              · rw [if_pos c18] at H
                have c18b0 : (t330.toList == x15_8.toList) = true := beq_iff_eq.mpr c18
                have c18b1 : (t330.toList != x15_8.toList) = false := bne_eq_false_iff_eq.mpr c18
                clear c18
                replace H := Option.bind_eq_some_iff.mp H
                obtain ⟨t336, A190, H⟩ := H
                replace H : (if t336 = t334 then ((horologenum_Num.f t331).bind fun t337 => (horologelaw14_GpsWeeks.j1 kj8 a1 a2 (t337 != t334))) else (horologelaw14_GpsWeeks.j1 kj8 a1 a2 true)) = some r := H
                have A19 := Aside0.mk A190
                clear A190
                by_cases c20 : t336 = t334
                · rw [if_pos c20] at H
                  have c20b0 : (t336 == t334) = true := beq_iff_eq.mpr c20
                  have c20b1 : (t336 != t334) = false := bne_eq_false_iff_eq.mpr c20
                  clear c20
                  replace H := Option.bind_eq_some_iff.mp H
                  obtain ⟨t337, A210, H⟩ := H
                  replace H : (horologelaw14_GpsWeeks.j1 kj8 a1 a2 (t337 != t334)) = some r := H
                  have A21 := Aside0.mk A210
                  clear A210
                  have H' := Aside0.mk H
                  clear H
                  have CA19 := fun W => horologenum_Num.calls t329 t336 W A19.out
                  try simp only [errW_none, errW_some] at CA19
                  go_wp2_with (first | (go_at_call 10; (with_reducible refine (CA19 _).mono ?_); rintro e w' ⟨rfl, ⟨nd, rfl⟩⟩; have CA21 := fun W => horologenum_Num.calls t331 t337 W A21.out; try simp only [errW_none, errW_some] at CA21) | (go_at_call 10; (with_reducible refine (CA21 _).mono ?_); rintro e w' ⟨rfl, ⟨nd, rfl⟩⟩))
                  go_meet
                  case rel => exact ⟨_, ((t337 != t334)), (by first | rfl | (simp; done) | (simp [*]; done)), H', ⟨by have := HJ8.out; first | omega | exact Nat.le_refl _⟩, ⟨by repeat (first | (with_reducible first | exact HB.out | apply below_alloc | apply pw_below_drewN | apply below_drew1) | exact HB.out)⟩⟩
                · rw [if_neg c20] at H
                  have c20b0 : (t336 == t334) = false := beq_eq_false_iff_ne.mpr c20
                  have c20b1 : (t336 != t334) = true := bne_iff_ne.mpr c20
                  have H' := Aside0.mk H
                  clear H
                  have CA19 := fun W => horologenum_Num.calls t329 t336 W A19.out
                  try simp only [errW_none, errW_some] at CA19
                  go_wp2_with (first | (go_at_call 10; (with_reducible refine (CA19 _).mono ?_); rintro e w' ⟨rfl, ⟨nd, rfl⟩⟩))
                  go_meet
                  case rel => exact ⟨_, (true), (by first | rfl | (simp; done) | (simp [*]; done)), H', ⟨by have := HJ8.out; first | omega | exact Nat.le_refl _⟩, ⟨by repeat (first | (with_reducible first | exact HB.out | apply below_alloc | apply pw_below_drewN | apply below_drew1) | exact HB.out)⟩⟩
              · rw [if_neg c18] at H
                have c18b0 : (t330.toList == x15_8.toList) = false := beq_eq_false_iff_ne.mpr c18
                have c18b1 : (t330.toList != x15_8.toList) = true := bne_iff_ne.mpr c18
                have H' := Aside0.mk H
                clear H
                go_wp2
                go_meet
                case rel => exact ⟨_, (true), (by first | rfl | (simp; done) | (simp [*]; done)), H', ⟨by have := HJ8.out; first | omega | exact Nat.le_refl _⟩, ⟨by repeat (first | (with_reducible first | exact HB.out | apply below_alloc | apply pw_below_drewN | apply below_drew1) | exact HB.out)⟩⟩
            · rw [if_neg c17] at H
              have c17b0 : (t328 == t333) = false := beq_eq_false_iff_ne.mpr c17
              have c17b1 : (t328 != t333) = true := bne_iff_ne.mpr c17
              have H' := Aside0.mk H
              clear H
              go_wp2
              go_meet
              case rel => exact ⟨_, (true), (by first | rfl | (simp; done) | (simp [*]; done)), H', ⟨by have := HJ8.out; first | omega | exact Nat.le_refl _⟩, ⟨by repeat (first | (with_reducible first | exact HB.out | apply below_alloc | apply pw_below_drewN | apply below_drew1) | exact HB.out)⟩⟩
          · rw [if_neg c16] at H
            have c16b0 : (t327 == t332) = false := beq_eq_false_iff_ne.mpr c16
            have c16b1 : (t327 != t332) = true := bne_iff_ne.mpr c16
            (first | rw [c16b0] | (simp only [i64_w, i32_w]; rw [c16b0]) | skip)
            have H' := Aside0.mk H
            clear H
            go_wp2
            go_meet
            case rel => exact ⟨_, (true), (by first | rfl | (simp; done) | (simp [*]; done)), H', ⟨by have := HJ8.out; first | omega | exact Nat.le_refl _⟩, ⟨by repeat (first | (with_reducible first | exact HB.out | apply below_alloc | apply pw_below_drewN | apply below_drew1) | exact HB.out)⟩⟩
        case rest =>
          clear HC15
          try clear c1
          try clear c2
          try clear p2
          try clear c4
          try clear c5
          try clear p6
          try clear c7
          try clear c12
          try clear c12b0
          try clear c12b1
          try clear c14
          try clear c15
          try clear c16
          try clear c16b0
          try clear c16b1
          try clear c17
          try clear c17b0
          try clear c17b1
          try clear c18
          try clear c18b0
          try clear c18b1
          try clear c20
          try clear c20b0
          try clear c20b1
          try clear p2
          try clear p6
          obtain ⟨kq, x66_14, rfl, HA, HJ14, HB⟩ := hcut
          cases kq with
          | zero => exact absurd HA.out (by simp [horologelaw14_GpsWeeks.j1])
          | succ kj14 =>
            have H := HA.out
            clear HA
            simp only [horologelaw14_GpsWeeks.j1] at H
            by_cases c22 : x66_14 = true
            · subst c22
              have H1 : (some false) = some r := by rw [if_pos rfl] at H; exact H
              clear H
              have H := H1
              clear H1
              obtain rfl := Option.some.inj H
              go_wp2
              go_ret
              exact ⟨by first | rfl | (simp [errW_none, errW_some] <;> rfl) | (simp [*, errW_none, errW_some] <;> rfl), by repeat (first | (with_reducible first | exact HB.out | apply below_alloc | apply pw_below_drewN | apply below_drew1) | exact HB.out)⟩
            · replace c22 := Bool.eq_false_iff.mpr c22
              subst c22
              have H1 : ((gps_Tai.f kj14 a1 a2).bind fun bt338 => ((horologeref14_Tai.f kj14 a1 a2).bind fun bt340 => (if bt338.1 = bt340.1 then ((horologenum_Num.f bt338.2).bind fun t342 => (if t342 = bt340.2 then ((gps_Short.f a1).bind fun t343 => ((horologeref13_Fold.f kj14 a1 10).bind fun t344 => (some (t343 == t344)))) else (some false))) else (some false)))) = some r := by rw [if_neg (show ¬ (false = true) by decide)] at H; exact H
              clear H
              have H := H1
              clear H1
              replace H := Option.bind_eq_some_iff.mp H
              obtain ⟨⟨t338, t339⟩, A230, H⟩ := H
              replace H : ((horologeref14_Tai.f kj14 a1 a2).bind fun bt340 => (if t338 = bt340.1 then ((horologenum_Num.f t339).bind fun t342 => (if t342 = bt340.2 then ((gps_Short.f a1).bind fun t343 => ((horologeref13_Fold.f kj14 a1 10).bind fun t344 => (some (t343 == t344)))) else (some false))) else (some false))) = some r := H
              have A23 := Aside0.mk A230
              clear A230
              replace H := Option.bind_eq_some_iff.mp H
              obtain ⟨⟨t340, t341⟩, A240, H⟩ := H
              replace H : (if t338 = t340 then ((horologenum_Num.f t339).bind fun t342 => (if t342 = t341 then ((gps_Short.f a1).bind fun t343 => ((horologeref13_Fold.f kj14 a1 10).bind fun t344 => (some (t343 == t344)))) else (some false))) else (some false)) = some r := H
              have A24 := Aside0.mk A240
              clear A240
              by_cases c25 : t338 = t340
              · rw [if_pos c25] at H
                have c25b0 : (t338 == t340) = true := beq_iff_eq.mpr c25
                have c25b1 : (t338 != t340) = false := bne_eq_false_iff_eq.mpr c25
                clear c25
                replace H := Option.bind_eq_some_iff.mp H
                obtain ⟨t342, A260, H⟩ := H
                replace H : (if t342 = t341 then ((gps_Short.f a1).bind fun t343 => ((horologeref13_Fold.f kj14 a1 10).bind fun t344 => (some (t343 == t344)))) else (some false)) = some r := H
                have A26 := Aside0.mk A260
                clear A260
                by_cases c27 : t342 = t341
                · rw [if_pos c27] at H
                  have c27b0 : (t342 == t341) = true := beq_iff_eq.mpr c27
                  have c27b1 : (t342 != t341) = false := bne_eq_false_iff_eq.mpr c27
                  clear c27
                  replace H := Option.bind_eq_some_iff.mp H
                  obtain ⟨t343, A280, H⟩ := H
                  replace H : ((horologeref13_Fold.f kj14 a1 10).bind fun t344 => (some (t343 == t344))) = some r := H
                  have A28 := Aside0.mk A280
                  clear A280
                  replace H := Option.bind_eq_some_iff.mp H
                  obtain ⟨t344, A290, H⟩ := H
                  replace H : (some (t343 == t344)) = some r := H
                  have A29 := Aside0.mk A290
                  clear A290
                  obtain rfl := Option.some.inj H
                  go_wp2_with (first | ((with_reducible refine gate_callee (f := 17) rfl ?_); refine goesL_ (some 70) rfl rfl Try.func17 (by kernel_rfl) rfl #[.int .i64 a1, .int .i64 a2] rfl (by (try simp only [List.map_toArray, List.map_cons, List.map_nil]); first | done | rfl | (simp only [List.length_drop, List.length_take]; rfl) | (refine congrArg (fun z_ => #[Value.int IntKind.i64 z_]) (?_ : Go.RowKit.wrap64 (IntKind.u8.wrap _) = _); rw [IntKind.wrap_u8]; unfold Go.RowKit.wrap64; omega)) ?_; (with_reducible refine (gps_Tai.calls kj14 a1 a2 t338 t339 _ A23.out).mono ?_); rintro e w30 ⟨rfl, hb⟩; refine ⟨_, rfl, ?_⟩; have n0_ := Aside0.mk (below_step (by repeat (first | (with_reducible first | exact HB.out | apply below_alloc | apply pw_below_drewN | apply below_drew1) | exact HB.out)) hb); clear HB; have HB := n0_; clear n0_; (try clear hb); (try clear hb2); (try clear hk); (try clear hi); (try simp only [errW_none, errW_some])) | ((with_reducible refine gate_callee (f := 13) rfl ?_); refine goesL_ (some 76) rfl rfl Try.func13 (by kernel_rfl) rfl #[.int .i64 a1, .int .i64 a2] rfl (by (try simp only [List.map_toArray, List.map_cons, List.map_nil]); first | done | rfl | (simp only [List.length_drop, List.length_take]; rfl) | (refine congrArg (fun z_ => #[Value.int IntKind.i64 z_]) (?_ : Go.RowKit.wrap64 (IntKind.u8.wrap _) = _); rw [IntKind.wrap_u8]; unfold Go.RowKit.wrap64; omega)) ?_; (with_reducible refine (horologeref14_Tai.calls kj14 a1 a2 t340 t341 _ A24.out).mono ?_); rintro e w31 ⟨rfl, hb⟩; refine ⟨_, rfl, ?_⟩; have n0_ := Aside0.mk (below_step (by repeat (first | (with_reducible first | exact HB.out | apply below_alloc | apply pw_below_drewN | apply below_drew1) | exact HB.out)) hb); clear HB; have HB := n0_; clear n0_; (try clear hb); (try clear hb2); (try clear hk); (try clear hi); have CA26 := fun W => horologenum_Num.calls t339 t342 W A26.out; try simp only [errW_none, errW_some] at CA26) | (go_at_call 10; (with_reducible refine (CA26 _).mono ?_); rintro e w' ⟨rfl, ⟨nd, rfl⟩⟩) | (go_at_call 18; (with_reducible refine (gps_Short.calls a1 t343 _ A28.out).mono ?_); rintro e w' ⟨rfl, ⟨nd, rfl⟩⟩) | (go_at_call 19; (with_reducible refine (horologeref13_Fold.calls kj14 a1 10 t344 _ A29.out).mono ?_); rintro e w' ⟨rfl, ⟨nd, rfl⟩⟩))
                  go_ret
                  exact ⟨by first | rfl | (simp [errW_none, errW_some] <;> rfl) | (simp [*, errW_none, errW_some] <;> rfl), by repeat (first | (with_reducible first | exact HB.out | apply below_alloc | apply pw_below_drewN | apply below_drew1) | exact HB.out)⟩
                · rw [if_neg c27] at H
                  have c27b0 : (t342 == t341) = false := beq_eq_false_iff_ne.mpr c27
                  have c27b1 : (t342 != t341) = true := bne_iff_ne.mpr c27
                  obtain rfl := Option.some.inj H
                  go_wp2_with (first | ((with_reducible refine gate_callee (f := 17) rfl ?_); refine goesL_ (some 70) rfl rfl Try.func17 (by kernel_rfl) rfl #[.int .i64 a1, .int .i64 a2] rfl (by (try simp only [List.map_toArray, List.map_cons, List.map_nil]); first | done | rfl | (simp only [List.length_drop, List.length_take]; rfl) | (refine congrArg (fun z_ => #[Value.int IntKind.i64 z_]) (?_ : Go.RowKit.wrap64 (IntKind.u8.wrap _) = _); rw [IntKind.wrap_u8]; unfold Go.RowKit.wrap64; omega)) ?_; (with_reducible refine (gps_Tai.calls kj14 a1 a2 t338 t339 _ A23.out).mono ?_); rintro e w32 ⟨rfl, hb⟩; refine ⟨_, rfl, ?_⟩; have n0_ := Aside0.mk (below_step (by repeat (first | (with_reducible first | exact HB.out | apply below_alloc | apply pw_below_drewN | apply below_drew1) | exact HB.out)) hb); clear HB; have HB := n0_; clear n0_; (try clear hb); (try clear hb2); (try clear hk); (try clear hi); (try simp only [errW_none, errW_some])) | ((with_reducible refine gate_callee (f := 13) rfl ?_); refine goesL_ (some 76) rfl rfl Try.func13 (by kernel_rfl) rfl #[.int .i64 a1, .int .i64 a2] rfl (by (try simp only [List.map_toArray, List.map_cons, List.map_nil]); first | done | rfl | (simp only [List.length_drop, List.length_take]; rfl) | (refine congrArg (fun z_ => #[Value.int IntKind.i64 z_]) (?_ : Go.RowKit.wrap64 (IntKind.u8.wrap _) = _); rw [IntKind.wrap_u8]; unfold Go.RowKit.wrap64; omega)) ?_; (with_reducible refine (horologeref14_Tai.calls kj14 a1 a2 t340 t341 _ A24.out).mono ?_); rintro e w33 ⟨rfl, hb⟩; refine ⟨_, rfl, ?_⟩; have n0_ := Aside0.mk (below_step (by repeat (first | (with_reducible first | exact HB.out | apply below_alloc | apply pw_below_drewN | apply below_drew1) | exact HB.out)) hb); clear HB; have HB := n0_; clear n0_; (try clear hb); (try clear hb2); (try clear hk); (try clear hi); have CA26 := fun W => horologenum_Num.calls t339 t342 W A26.out; try simp only [errW_none, errW_some] at CA26) | (go_at_call 10; (with_reducible refine (CA26 _).mono ?_); rintro e w' ⟨rfl, ⟨nd, rfl⟩⟩))
                  go_ret
                  exact ⟨by first | rfl | (simp [errW_none, errW_some] <;> rfl) | (simp [*, errW_none, errW_some] <;> rfl), by repeat (first | (with_reducible first | exact HB.out | apply below_alloc | apply pw_below_drewN | apply below_drew1) | exact HB.out)⟩
              · rw [if_neg c25] at H
                have c25b0 : (t338 == t340) = false := beq_eq_false_iff_ne.mpr c25
                have c25b1 : (t338 != t340) = true := bne_iff_ne.mpr c25
                obtain rfl := Option.some.inj H
                go_wp2_with (first | ((with_reducible refine gate_callee (f := 17) rfl ?_); refine goesL_ (some 70) rfl rfl Try.func17 (by kernel_rfl) rfl #[.int .i64 a1, .int .i64 a2] rfl (by (try simp only [List.map_toArray, List.map_cons, List.map_nil]); first | done | rfl | (simp only [List.length_drop, List.length_take]; rfl) | (refine congrArg (fun z_ => #[Value.int IntKind.i64 z_]) (?_ : Go.RowKit.wrap64 (IntKind.u8.wrap _) = _); rw [IntKind.wrap_u8]; unfold Go.RowKit.wrap64; omega)) ?_; (with_reducible refine (gps_Tai.calls kj14 a1 a2 t338 t339 _ A23.out).mono ?_); rintro e w34 ⟨rfl, hb⟩; refine ⟨_, rfl, ?_⟩; have n0_ := Aside0.mk (below_step (by repeat (first | (with_reducible first | exact HB.out | apply below_alloc | apply pw_below_drewN | apply below_drew1) | exact HB.out)) hb); clear HB; have HB := n0_; clear n0_; (try clear hb); (try clear hb2); (try clear hk); (try clear hi); (try simp only [errW_none, errW_some])) | ((with_reducible refine gate_callee (f := 13) rfl ?_); refine goesL_ (some 76) rfl rfl Try.func13 (by kernel_rfl) rfl #[.int .i64 a1, .int .i64 a2] rfl (by (try simp only [List.map_toArray, List.map_cons, List.map_nil]); first | done | rfl | (simp only [List.length_drop, List.length_take]; rfl) | (refine congrArg (fun z_ => #[Value.int IntKind.i64 z_]) (?_ : Go.RowKit.wrap64 (IntKind.u8.wrap _) = _); rw [IntKind.wrap_u8]; unfold Go.RowKit.wrap64; omega)) ?_; (with_reducible refine (horologeref14_Tai.calls kj14 a1 a2 t340 t341 _ A24.out).mono ?_); rintro e w35 ⟨rfl, hb⟩; refine ⟨_, rfl, ?_⟩; have n0_ := Aside0.mk (below_step (by repeat (first | (with_reducible first | exact HB.out | apply below_alloc | apply pw_below_drewN | apply below_drew1) | exact HB.out)) hb); clear HB; have HB := n0_; clear n0_; (try clear hb); (try clear hb2); (try clear hk); (try clear hi)))
                go_ret
                exact ⟨by first | rfl | (simp [errW_none, errW_some] <;> rfl) | (simp [*, errW_none, errW_some] <;> rfl), by repeat (first | (with_reducible first | exact HB.out | apply below_alloc | apply pw_below_drewN | apply below_drew1) | exact HB.out)⟩
  · replace c5 := Bool.eq_false_iff.mpr c5
    subst c5
    have H1 : (some false) = some r := by rw [if_neg (show ¬ (false = true) by decide)] at H; exact H
    clear H
    have H := H1
    clear H1
    obtain rfl := Option.some.inj H
    go_enter Try.func4, Try.ntmps4
    go_wp2_with (first | ((with_reducible refine gate_callee (f := 7) rfl ?_); refine goesL_ (some 18) rfl rfl Try.func7 (by kernel_rfl) rfl #[] rfl (by (try simp only [List.map_toArray, List.map_cons, List.map_nil]); first | done | rfl | (simp only [List.length_drop, List.length_take]; rfl) | (refine congrArg (fun z_ => #[Value.int IntKind.i64 z_]) (?_ : Go.RowKit.wrap64 (IntKind.u8.wrap _) = _); rw [IntKind.wrap_u8]; unfold Go.RowKit.wrap64; omega)) ?_; (with_reducible refine (horologelaw14_alive.calls k  false _ A4.out).mono ?_); rintro e w' ⟨rfl, ⟨nd, rfl⟩⟩; refine ⟨_, rfl, ?_⟩))
    go_ret
    exact ⟨by first | rfl | (simp [errW_none, errW_some] <;> rfl) | (simp [*, errW_none, errW_some] <;> rfl), by repeat (first | (with_reducible first | exact HB.out | apply below_alloc | apply pw_below_drewN | apply below_drew1) | exact HB.out)⟩

/-- THE ONE PURE STATEMENT of horologelaw14_GpsWeeks: yours. -/
def horologelaw14_GpsWeeks.Pure : Prop := ∀ (a0 : Int) (a1 : Int) (a2 : Int), (Lit.int .i64 a0).wf = true → (Lit.int .i64 a1).wf = true → (Lit.int .i64 a2).wf = true → ∃ k, horologelaw14_GpsWeeks.f k a0 a1 a2 = some true
theorem horologelaw14_GpsWeeks.walk (P : horologelaw14_GpsWeeks.Pure) (a0 : Int) (a1 : Int) (a2 : Int) (w : World) (w0 : (Lit.int .i64 a0).wf = true) (w1 : (Lit.int .i64 a1).wf = true) (w2 : (Lit.int .i64 a2).wf = true) :
    Calls Try.prog 4 #[.int .i64 a0, .int .i64 a1, .int .i64 a2] w fun e w' => e = .returned (.bool true) ∧ Below w.heap.size w w' := by
  obtain ⟨k, h⟩ := P a0 a1 a2 w0 w1 w2
  refine (horologelaw14_GpsWeeks.calls k a0 a1 a2 true w h).mono ?_
  rintro e w' ⟨rfl, hd⟩
  exact ⟨rfl, hd⟩

end Go.Proofs.Ytjameiglfecagaa.MGpsWeeks
