-- This text was written by a program of this session (a changed scratch copy of a tool of the kit; NOTES.md tells the changes).
import Derived.Test.YtmgeiennacgleaaMDayDatesx0
import Derived.Test.YtmgeiennacgleaaMDayDatesx1
import Derived.Test.YtmgeiennacgleaaMDayDatesx2
namespace Go.Proofs.Ytmgeiennacgleaa.MDayDates
open Go.RowKit Go.Proofs.YtmgeiennacgleaaW.PrintWords Go.Proofs.YtmgeiennacgleaaW.PrintLast Go.Proofs.YtmgeiennacgleaaW.PrintMore
attribute [local go_sem] max2_int min2_int max_two min_two max_three min_three max_four min_four   -- for this text's walks alone
set_option linter.unusedVariables false
set_option linter.unusedSimpArgs false

/-! ### horologelaw05_DayDates: function 4 -/
mutual
def horologelaw05_DayDates.j0 : Nat → Int → Int → Int → Int → Int → Int → Bool → Option (Bool)
  | 0, _, _, _, _, _, _, _ => none
  | k + 1, x0, x1, x2, x7, x9, x11, x53 => if x53 = true then (some false) else ((day_Month.f k x0 x1).bind fun bt145 => ((day_Days.f x0).bind fun bt147 => ((horologeref05_Year.f x0).bind fun t149 => (if t149 = true then (if bt147.2.isNone = true then ((horologeref05_Days.f x0).bind fun t153 => (horologelaw05_DayDates.j1 k x0 x1 x2 x7 x9 x11 bt145.1 bt145.2 (bt147.1 != t153))) else (horologelaw05_DayDates.j1 k x0 x1 x2 x7 x9 x11 bt145.1 bt145.2 true)) else (if bt145.1 = 0 then (if bt147.1 = 0 then (if x7 = 0 then (if x9 = 0 then ((horologenum_Is.f bt145.2 13).bind fun t150 => (if t150 = true then ((horologenum_Is.f bt147.2 13).bind fun t151 => (some t151)) else (some false))) else (some false)) else (some false)) else (some false)) else (some false))))))
def horologelaw05_DayDates.j1 : Nat → Int → Int → Int → Int → Int → Int → Int → Option Int → Bool → Option (Bool)
  | 0, _, _, _, _, _, _, _, _, _ => none
  | k + 1, x0, x1, x2, x7, x9, x11, x12, x13, x97 => if x97 = true then (some false) else (if x1 < 1 then (horologelaw05_DayDates.j2 k x0 x1 x2 x7 x9 x11 x12 x13 true) else (horologelaw05_DayDates.j2 k x0 x1 x2 x7 x9 x11 x12 x13 (decide (x1 > 12))))
def horologelaw05_DayDates.j2 : Nat → Int → Int → Int → Int → Int → Int → Int → Option Int → Bool → Option (Bool)
  | 0, _, _, _, _, _, _, _, _, _ => none
  | k + 1, x0, x1, x2, x7, x9, x11, x12, x13, x103 => if x103 = true then (if x12 = 0 then (if x7 = 0 then (if x9 = 0 then ((horologenum_Is.f x13 1).bind fun t154 => (some t154)) else (some false)) else (some false)) else (some false)) else (if x13.isNone = true then ((horologeref05_Month.f x0 x1).bind fun t156 => (horologelaw05_DayDates.j3 k x0 x1 x2 x7 x9 x11 (x12 != t156))) else (horologelaw05_DayDates.j3 k x0 x1 x2 x7 x9 x11 true))
def horologelaw05_DayDates.j3 : Nat → Int → Int → Int → Int → Int → Int → Bool → Option (Bool)
  | 0, _, _, _, _, _, _, _ => none
  | k + 1, x0, x1, x2, x7, x9, x11, x126 => if x126 = true then (some false) else (if x11 = 0 then ((horologeref05_Of.f k x0 x1 x2).bind fun t157 => (if x7 = t157 then ((horologeref05_Start.f k x0).bind fun t158 => (some (x9 == (wrap64 ((wrap64 (t157 - t158)) + 1))))) else (some false))) else (if x7 = 0 then (some (x9 == 0)) else (some false)))
end
def horologelaw05_DayDates.f (k : Nat) (a0 : Int) (a1 : Int) (a2 : Int) : Option (Bool) := (horologelaw05_alive.f k).bind fun t135 => (if t135 = true then ((day_Of.f k a0 a1 a2).bind fun bt136 => ((day_YearDay.f k a0 a1 a2).bind fun bt138 => ((horologeref05_Check.f k a0 a1 a2).bind fun t140 => ((horologenum_Num.f bt136.2).bind fun t141 => (if t141 = t140 then ((horologenum_Num.f bt138.2).bind fun t142 => (if t142 = t140 then ((day_Leap.f a0).bind fun t143 => ((horologeref05_Leap.f a0).bind fun t144 => (horologelaw05_DayDates.j0 k a0 a1 a2 bt136.1 bt138.1 t140 (t143 != t144)))) else (horologelaw05_DayDates.j0 k a0 a1 a2 bt136.1 bt138.1 t140 true))) else (horologelaw05_DayDates.j0 k a0 a1 a2 bt136.1 bt138.1 t140 true)))))) else (some false))
theorem horologelaw05_DayDates.mono_l : ∀ k, (∀ y0 y1 y2 y3 y4 y5 y6, LeO (horologelaw05_DayDates.j0 k y0 y1 y2 y3 y4 y5 y6) (horologelaw05_DayDates.j0 (k + 1) y0 y1 y2 y3 y4 y5 y6)) ∧ (∀ y0 y1 y2 y3 y4 y5 y6 y7 y8, LeO (horologelaw05_DayDates.j1 k y0 y1 y2 y3 y4 y5 y6 y7 y8) (horologelaw05_DayDates.j1 (k + 1) y0 y1 y2 y3 y4 y5 y6 y7 y8)) ∧ (∀ y0 y1 y2 y3 y4 y5 y6 y7 y8, LeO (horologelaw05_DayDates.j2 k y0 y1 y2 y3 y4 y5 y6 y7 y8) (horologelaw05_DayDates.j2 (k + 1) y0 y1 y2 y3 y4 y5 y6 y7 y8)) ∧ (∀ y0 y1 y2 y3 y4 y5 y6, LeO (horologelaw05_DayDates.j3 k y0 y1 y2 y3 y4 y5 y6) (horologelaw05_DayDates.j3 (k + 1) y0 y1 y2 y3 y4 y5 y6))
  | 0 => ⟨fun _ _ _ _ _ _ _ r h => by simp [horologelaw05_DayDates.j0] at h, fun _ _ _ _ _ _ _ _ _ r h => by simp [horologelaw05_DayDates.j1] at h, fun _ _ _ _ _ _ _ _ _ r h => by simp [horologelaw05_DayDates.j2] at h, fun _ _ _ _ _ _ _ r h => by simp [horologelaw05_DayDates.j3] at h⟩
  | k + 1 => by
    obtain ⟨ih0, ih1, ih2, ih3⟩ := horologelaw05_DayDates.mono_l k
    refine ⟨?_, ?_, ?_, ?_⟩
    · intro y0 y1 y2 y3 y4 y5 y6
      unfold horologelaw05_DayDates.j0
      repeat' first
      | (with_reducible exact ih0 _ _ _ _ _ _ _)
      | (with_reducible exact ih1 _ _ _ _ _ _ _ _ _)
      | (with_reducible exact ih2 _ _ _ _ _ _ _ _ _)
      | (with_reducible exact ih3 _ _ _ _ _ _ _)
      | (with_reducible exact day_Month.mono _ _ _)
      | (with_reducible exact day_Of.mono _ _ _ _)
      | (with_reducible exact day_YearDay.mono _ _ _ _)
      | (with_reducible exact horologelaw05_alive.mono _)
      | (with_reducible exact horologeref05_Check.mono _ _ _ _)
      | (with_reducible exact horologeref05_Of.mono _ _ _ _)
      | (with_reducible exact horologeref05_Start.mono _ _)
      | (with_reducible exact LeO.refl _)
      | (with_reducible exact LeO.none _)
      | (with_reducible refine LeO.ite ?_ ?_)
      | (with_reducible refine LeO.bind ?_ (fun _ => ?_))
      | exact ih0 _ _ _ _ _ _ _
      | exact ih1 _ _ _ _ _ _ _ _ _
      | exact ih2 _ _ _ _ _ _ _ _ _
      | exact ih3 _ _ _ _ _ _ _
      | exact day_Month.mono _ _ _
      | exact day_Of.mono _ _ _ _
      | exact day_YearDay.mono _ _ _ _
      | exact horologelaw05_alive.mono _
      | exact horologeref05_Check.mono _ _ _ _
      | exact horologeref05_Of.mono _ _ _ _
      | exact horologeref05_Start.mono _ _
      | exact LeO.none _
      | refine LeO.ite ?_ ?_
      | refine LeO.bind ?_ (fun _ => ?_)
    · intro y0 y1 y2 y3 y4 y5 y6 y7 y8
      unfold horologelaw05_DayDates.j1
      repeat' first
      | (with_reducible exact ih0 _ _ _ _ _ _ _)
      | (with_reducible exact ih1 _ _ _ _ _ _ _ _ _)
      | (with_reducible exact ih2 _ _ _ _ _ _ _ _ _)
      | (with_reducible exact ih3 _ _ _ _ _ _ _)
      | (with_reducible exact day_Month.mono _ _ _)
      | (with_reducible exact day_Of.mono _ _ _ _)
      | (with_reducible exact day_YearDay.mono _ _ _ _)
      | (with_reducible exact horologelaw05_alive.mono _)
      | (with_reducible exact horologeref05_Check.mono _ _ _ _)
      | (with_reducible exact horologeref05_Of.mono _ _ _ _)
      | (with_reducible exact horologeref05_Start.mono _ _)
      | (with_reducible exact LeO.refl _)
      | (with_reducible exact LeO.none _)
      | (with_reducible refine LeO.ite ?_ ?_)
      | (with_reducible refine LeO.bind ?_ (fun _ => ?_))
      | exact ih0 _ _ _ _ _ _ _
      | exact ih1 _ _ _ _ _ _ _ _ _
      | exact ih2 _ _ _ _ _ _ _ _ _
      | exact ih3 _ _ _ _ _ _ _
      | exact day_Month.mono _ _ _
      | exact day_Of.mono _ _ _ _
      | exact day_YearDay.mono _ _ _ _
      | exact horologelaw05_alive.mono _
      | exact horologeref05_Check.mono _ _ _ _
      | exact horologeref05_Of.mono _ _ _ _
      | exact horologeref05_Start.mono _ _
      | exact LeO.none _
      | refine LeO.ite ?_ ?_
      | refine LeO.bind ?_ (fun _ => ?_)
    · intro y0 y1 y2 y3 y4 y5 y6 y7 y8
      unfold horologelaw05_DayDates.j2
      repeat' first
      | (with_reducible exact ih0 _ _ _ _ _ _ _)
      | (with_reducible exact ih1 _ _ _ _ _ _ _ _ _)
      | (with_reducible exact ih2 _ _ _ _ _ _ _ _ _)
      | (with_reducible exact ih3 _ _ _ _ _ _ _)
      | (with_reducible exact day_Month.mono _ _ _)
      | (with_reducible exact day_Of.mono _ _ _ _)
      | (with_reducible exact day_YearDay.mono _ _ _ _)
      | (with_reducible exact horologelaw05_alive.mono _)
      | (with_reducible exact horologeref05_Check.mono _ _ _ _)
      | (with_reducible exact horologeref05_Of.mono _ _ _ _)
      | (with_reducible exact horologeref05_Start.mono _ _)
      | (with_reducible exact LeO.refl _)
      | (with_reducible exact LeO.none _)
      | (with_reducible refine LeO.ite ?_ ?_)
      | (with_reducible refine LeO.bind ?_ (fun _ => ?_))
      | exact ih0 _ _ _ _ _ _ _
      | exact ih1 _ _ _ _ _ _ _ _ _
      | exact ih2 _ _ _ _ _ _ _ _ _
      | exact ih3 _ _ _ _ _ _ _
      | exact day_Month.mono _ _ _
      | exact day_Of.mono _ _ _ _
      | exact day_YearDay.mono _ _ _ _
      | exact horologelaw05_alive.mono _
      | exact horologeref05_Check.mono _ _ _ _
      | exact horologeref05_Of.mono _ _ _ _
      | exact horologeref05_Start.mono _ _
      | exact LeO.none _
      | refine LeO.ite ?_ ?_
      | refine LeO.bind ?_ (fun _ => ?_)
    · intro y0 y1 y2 y3 y4 y5 y6
      unfold horologelaw05_DayDates.j3
      repeat' first
      | (with_reducible exact ih0 _ _ _ _ _ _ _)
      | (with_reducible exact ih1 _ _ _ _ _ _ _ _ _)
      | (with_reducible exact ih2 _ _ _ _ _ _ _ _ _)
      | (with_reducible exact ih3 _ _ _ _ _ _ _)
      | (with_reducible exact day_Month.mono _ _ _)
      | (with_reducible exact day_Of.mono _ _ _ _)
      | (with_reducible exact day_YearDay.mono _ _ _ _)
      | (with_reducible exact horologelaw05_alive.mono _)
      | (with_reducible exact horologeref05_Check.mono _ _ _ _)
      | (with_reducible exact horologeref05_Of.mono _ _ _ _)
      | (with_reducible exact horologeref05_Start.mono _ _)
      | (with_reducible exact LeO.refl _)
      | (with_reducible exact LeO.none _)
      | (with_reducible refine LeO.ite ?_ ?_)
      | (with_reducible refine LeO.bind ?_ (fun _ => ?_))
      | exact ih0 _ _ _ _ _ _ _
      | exact ih1 _ _ _ _ _ _ _ _ _
      | exact ih2 _ _ _ _ _ _ _ _ _
      | exact ih3 _ _ _ _ _ _ _
      | exact day_Month.mono _ _ _
      | exact day_Of.mono _ _ _ _
      | exact day_YearDay.mono _ _ _ _
      | exact horologelaw05_alive.mono _
      | exact horologeref05_Check.mono _ _ _ _
      | exact horologeref05_Of.mono _ _ _ _
      | exact horologeref05_Start.mono _ _
      | exact LeO.none _
      | refine LeO.ite ?_ ?_
      | refine LeO.bind ?_ (fun _ => ?_)
theorem horologelaw05_DayDates.mono : ∀ a0 a1 a2 k, LeO (horologelaw05_DayDates.f k a0 a1 a2) (horologelaw05_DayDates.f (k + 1) a0 a1 a2) := by
  intro a0 a1 a2 k
  obtain ⟨ih0, ih1, ih2, ih3⟩ := horologelaw05_DayDates.mono_l k
  unfold horologelaw05_DayDates.f
  repeat' first
      | (with_reducible exact ih0 _ _ _ _ _ _ _)
      | (with_reducible exact ih1 _ _ _ _ _ _ _ _ _)
      | (with_reducible exact ih2 _ _ _ _ _ _ _ _ _)
      | (with_reducible exact ih3 _ _ _ _ _ _ _)
      | (with_reducible exact day_Month.mono _ _ _)
      | (with_reducible exact day_Of.mono _ _ _ _)
      | (with_reducible exact day_YearDay.mono _ _ _ _)
      | (with_reducible exact horologelaw05_alive.mono _)
      | (with_reducible exact horologeref05_Check.mono _ _ _ _)
      | (with_reducible exact horologeref05_Of.mono _ _ _ _)
      | (with_reducible exact horologeref05_Start.mono _ _)
      | (with_reducible exact LeO.refl _)
      | (with_reducible exact LeO.none _)
      | (with_reducible refine LeO.ite ?_ ?_)
      | (with_reducible refine LeO.bind ?_ (fun _ => ?_))
      | exact ih0 _ _ _ _ _ _ _
      | exact ih1 _ _ _ _ _ _ _ _ _
      | exact ih2 _ _ _ _ _ _ _ _ _
      | exact ih3 _ _ _ _ _ _ _
      | exact day_Month.mono _ _ _
      | exact day_Of.mono _ _ _ _
      | exact day_YearDay.mono _ _ _ _
      | exact horologelaw05_alive.mono _
      | exact horologeref05_Check.mono _ _ _ _
      | exact horologeref05_Of.mono _ _ _ _
      | exact horologeref05_Start.mono _ _
      | exact LeO.none _
      | refine LeO.ite ?_ ?_
      | refine LeO.bind ?_ (fun _ => ?_)
set_option maxHeartbeats 8000000 in
set_option maxRecDepth 100000 in
theorem horologelaw05_DayDates.calls (k : Nat) (a0 : Int) (a1 : Int) (a2 : Int) (r : Bool) (w : World) (h : horologelaw05_DayDates.f k a0 a1 a2 = some r) :
    Calls Try.prog 4 #[.int .i64 a0, .int .i64 a1, .int .i64 a2] w fun e w' => e = .returned (.bool r) ∧ Below w.heap.size w w' := by
  have hu27 := Try.underlying27
  have hu38 := Try.underlying38
  have HB := Aside0.mk (Below.refl w.heap.size w)
  have H : ((horologelaw05_alive.f k).bind fun t135 => (if t135 = true then ((day_Of.f k a0 a1 a2).bind fun bt136 => ((day_YearDay.f k a0 a1 a2).bind fun bt138 => ((horologeref05_Check.f k a0 a1 a2).bind fun t140 => ((horologenum_Num.f bt136.2).bind fun t141 => (if t141 = t140 then ((horologenum_Num.f bt138.2).bind fun t142 => (if t142 = t140 then ((day_Leap.f a0).bind fun t143 => ((horologeref05_Leap.f a0).bind fun t144 => (horologelaw05_DayDates.j0 k a0 a1 a2 bt136.1 bt138.1 t140 (t143 != t144)))) else (horologelaw05_DayDates.j0 k a0 a1 a2 bt136.1 bt138.1 t140 true))) else (horologelaw05_DayDates.j0 k a0 a1 a2 bt136.1 bt138.1 t140 true)))))) else (some false))) = some r := h
  clear h
  replace H := Option.bind_eq_some_iff.mp H
  obtain ⟨t135, A40, H⟩ := H
  replace H : (if t135 = true then ((day_Of.f k a0 a1 a2).bind fun bt136 => ((day_YearDay.f k a0 a1 a2).bind fun bt138 => ((horologeref05_Check.f k a0 a1 a2).bind fun t140 => ((horologenum_Num.f bt136.2).bind fun t141 => (if t141 = t140 then ((horologenum_Num.f bt138.2).bind fun t142 => (if t142 = t140 then ((day_Leap.f a0).bind fun t143 => ((horologeref05_Leap.f a0).bind fun t144 => (horologelaw05_DayDates.j0 k a0 a1 a2 bt136.1 bt138.1 t140 (t143 != t144)))) else (horologelaw05_DayDates.j0 k a0 a1 a2 bt136.1 bt138.1 t140 true))) else (horologelaw05_DayDates.j0 k a0 a1 a2 bt136.1 bt138.1 t140 true)))))) else (some false)) = some r := H
  have A4 := Aside0.mk A40
  clear A40
  by_cases c5 : t135 = true
  · subst c5
    have H1 : ((day_Of.f k a0 a1 a2).bind fun bt136 => ((day_YearDay.f k a0 a1 a2).bind fun bt138 => ((horologeref05_Check.f k a0 a1 a2).bind fun t140 => ((horologenum_Num.f bt136.2).bind fun t141 => (if t141 = t140 then ((horologenum_Num.f bt138.2).bind fun t142 => (if t142 = t140 then ((day_Leap.f a0).bind fun t143 => ((horologeref05_Leap.f a0).bind fun t144 => (horologelaw05_DayDates.j0 k a0 a1 a2 bt136.1 bt138.1 t140 (t143 != t144)))) else (horologelaw05_DayDates.j0 k a0 a1 a2 bt136.1 bt138.1 t140 true))) else (horologelaw05_DayDates.j0 k a0 a1 a2 bt136.1 bt138.1 t140 true)))))) = some r := by rw [if_pos rfl] at H; exact H
    clear H
    have H := H1
    clear H1
    replace H := Option.bind_eq_some_iff.mp H
    obtain ⟨⟨t136, t137⟩, A60, H⟩ := H
    replace H : ((day_YearDay.f k a0 a1 a2).bind fun bt138 => ((horologeref05_Check.f k a0 a1 a2).bind fun t140 => ((horologenum_Num.f t137).bind fun t141 => (if t141 = t140 then ((horologenum_Num.f bt138.2).bind fun t142 => (if t142 = t140 then ((day_Leap.f a0).bind fun t143 => ((horologeref05_Leap.f a0).bind fun t144 => (horologelaw05_DayDates.j0 k a0 a1 a2 t136 bt138.1 t140 (t143 != t144)))) else (horologelaw05_DayDates.j0 k a0 a1 a2 t136 bt138.1 t140 true))) else (horologelaw05_DayDates.j0 k a0 a1 a2 t136 bt138.1 t140 true))))) = some r := H
    have A6 := Aside0.mk A60
    clear A60
    replace H := Option.bind_eq_some_iff.mp H
    obtain ⟨⟨t138, t139⟩, A70, H⟩ := H
    replace H : ((horologeref05_Check.f k a0 a1 a2).bind fun t140 => ((horologenum_Num.f t137).bind fun t141 => (if t141 = t140 then ((horologenum_Num.f t139).bind fun t142 => (if t142 = t140 then ((day_Leap.f a0).bind fun t143 => ((horologeref05_Leap.f a0).bind fun t144 => (horologelaw05_DayDates.j0 k a0 a1 a2 t136 t138 t140 (t143 != t144)))) else (horologelaw05_DayDates.j0 k a0 a1 a2 t136 t138 t140 true))) else (horologelaw05_DayDates.j0 k a0 a1 a2 t136 t138 t140 true)))) = some r := H
    have A7 := Aside0.mk A70
    clear A70
    replace H := Option.bind_eq_some_iff.mp H
    obtain ⟨t140, A80, H⟩ := H
    replace H : ((horologenum_Num.f t137).bind fun t141 => (if t141 = t140 then ((horologenum_Num.f t139).bind fun t142 => (if t142 = t140 then ((day_Leap.f a0).bind fun t143 => ((horologeref05_Leap.f a0).bind fun t144 => (horologelaw05_DayDates.j0 k a0 a1 a2 t136 t138 t140 (t143 != t144)))) else (horologelaw05_DayDates.j0 k a0 a1 a2 t136 t138 t140 true))) else (horologelaw05_DayDates.j0 k a0 a1 a2 t136 t138 t140 true))) = some r := H
    have A8 := Aside0.mk A80
    clear A80
    have HC9 := Aside0.mk H
    clear H
    go_enter Try.func4, Try.ntmps4
    go_upto_region 6 with (first | ((with_reducible refine gate_callee (f := 8) rfl ?_); refine goesL_ (some 17) rfl rfl Try.func8 (by kernel_rfl) rfl #[] rfl (by (try simp only [List.map_toArray, List.map_cons, List.map_nil]); first | done | rfl | (simp only [List.length_drop, List.length_take]; rfl)) ?_; (with_reducible refine (horologelaw05_alive.calls k  true _ A4.out).mono ?_); rintro e w' ⟨rfl, ⟨nd, rfl⟩⟩; refine ⟨_, rfl, ?_⟩) | ((with_reducible refine gate_callee (f := 10) rfl ?_); refine goesL_ (some 23) rfl rfl Try.func10 (by kernel_rfl) rfl #[.int .i64 a0, .int .i64 a1, .int .i64 a2] rfl (by (try simp only [List.map_toArray, List.map_cons, List.map_nil]); first | done | rfl | (simp only [List.length_drop, List.length_take]; rfl)) ?_; (with_reducible refine (day_Of.calls k a0 a1 a2 t136 t137 _ A6.out).mono ?_); rintro e w' ⟨rfl, ⟨nd, rfl⟩⟩; refine ⟨_, rfl, ?_⟩; (try simp only [errW_none, errW_some])) | ((with_reducible refine gate_callee (f := 11) rfl ?_); refine goesL_ (some 30) rfl rfl Try.func11 (by kernel_rfl) rfl #[.int .i64 a0, .int .i64 a1, .int .i64 a2] rfl (by (try simp only [List.map_toArray, List.map_cons, List.map_nil]); first | done | rfl | (simp only [List.length_drop, List.length_take]; rfl)) ?_; (with_reducible refine (day_YearDay.calls k a0 a1 a2 t138 t139 _ A7.out).mono ?_); rintro e w' ⟨rfl, ⟨nd, rfl⟩⟩; refine ⟨_, rfl, ?_⟩; (try simp only [errW_none, errW_some])) | ((with_reducible refine gate_callee (f := 12) rfl ?_); refine goesL_ (some 36) rfl rfl Try.func12 (by kernel_rfl) rfl #[.int .i64 a0, .int .i64 a1, .int .i64 a2] rfl (by (try simp only [List.map_toArray, List.map_cons, List.map_nil]); first | done | rfl | (simp only [List.length_drop, List.length_take]; rfl)) ?_; (with_reducible refine (horologeref05_Check.calls k a0 a1 a2 t140 _ A8.out).mono ?_); rintro e w10 ⟨rfl, hb⟩; refine ⟨_, rfl, ?_⟩; have n0_ := Aside0.mk (below_step (by repeat (first | (with_reducible first | exact HB.out | apply below_alloc | apply pw_below_drewN | apply below_drew1) | exact HB.out)) hb); clear HB; have HB := n0_; clear n0_; (try clear hb); (try clear hb2); (try clear hk); (try clear hi)))
    (try simp only [Act.put, List.setIfInBounds_toArray, List.set_cons_zero, List.set_cons_succ])
    go_cut [53] (fun v53 wc => ∃ (kq : Nat) (x53_8 : Bool), v53 = .bool x53_8 ∧ Aside0 (horologelaw05_DayDates.j0 kq a0 a1 a2 t136 t138 t140 x53_8 = some r) ∧ Aside0 (kq ≤ k) ∧ Aside0 (Below w.heap.size w wc))
    case first =>
      have H := HC9.out
      clear HC9
      replace H := Option.bind_eq_some_iff.mp H
      obtain ⟨t141, A110, H⟩ := H
      replace H : (if t141 = t140 then ((horologenum_Num.f t139).bind fun t142 => (if t142 = t140 then ((day_Leap.f a0).bind fun t143 => ((horologeref05_Leap.f a0).bind fun t144 => (horologelaw05_DayDates.j0 k a0 a1 a2 t136 t138 t140 (t143 != t144)))) else (horologelaw05_DayDates.j0 k a0 a1 a2 t136 t138 t140 true))) else (horologelaw05_DayDates.j0 k a0 a1 a2 t136 t138 t140 true)) = some r := H
      have A11 := Aside0.mk A110
      clear A110
      by_cases c12 : t141 = t140
      · rw [if_pos c12] at H
        have c12b0 : (t141 == t140) = true := beq_iff_eq.mpr c12
        have c12b1 : (t141 != t140) = false := bne_eq_false_iff_eq.mpr c12
        clear c12
        (first | rw [c12b0] | (simp only [i64_w, i32_w]; rw [c12b0]) | skip)
        replace H := Option.bind_eq_some_iff.mp H
        obtain ⟨t142, A130, H⟩ := H
        replace H : (if t142 = t140 then ((day_Leap.f a0).bind fun t143 => ((horologeref05_Leap.f a0).bind fun t144 => (horologelaw05_DayDates.j0 k a0 a1 a2 t136 t138 t140 (t143 != t144)))) else (horologelaw05_DayDates.j0 k a0 a1 a2 t136 t138 t140 true)) = some r := H
        have A13 := Aside0.mk A130
        clear A130
        by_cases c14 : t142 = t140
        · rw [if_pos c14] at H
          have c14b0 : (t142 == t140) = true := beq_iff_eq.mpr c14
          have c14b1 : (t142 != t140) = false := bne_eq_false_iff_eq.mpr c14
          clear c14
          replace H := Option.bind_eq_some_iff.mp H
          obtain ⟨t143, A150, H⟩ := H
          replace H : ((horologeref05_Leap.f a0).bind fun t144 => (horologelaw05_DayDates.j0 k a0 a1 a2 t136 t138 t140 (t143 != t144))) = some r := H
          have A15 := Aside0.mk A150
          clear A150
          replace H := Option.bind_eq_some_iff.mp H
          obtain ⟨t144, A160, H⟩ := H
          replace H : (horologelaw05_DayDates.j0 k a0 a1 a2 t136 t138 t140 (t143 != t144)) = some r := H
          have A16 := Aside0.mk A160
          clear A160
          have H' := Aside0.mk H
          clear H
          have CA11 := fun W => horologenum_Num.calls t137 t141 W A11.out
          try simp only [errW_none, errW_some] at CA11
          go_wp2_with (first | (go_at_call 13; (with_reducible refine (CA11 _).mono ?_); rintro e w' ⟨rfl, ⟨nd, rfl⟩⟩; have CA13 := fun W => horologenum_Num.calls t139 t142 W A13.out; try simp only [errW_none, errW_some] at CA13) | (go_at_call 13; (with_reducible refine (CA13 _).mono ?_); rintro e w' ⟨rfl, ⟨nd, rfl⟩⟩) | (go_at_call 14; (with_reducible refine (day_Leap.calls a0 t143 _ A15.out).mono ?_); rintro e w' ⟨rfl, ⟨nd, rfl⟩⟩) | (go_at_call 15; (with_reducible refine (horologeref05_Leap.calls a0 t144 _ A16.out).mono ?_); rintro e w' ⟨rfl, ⟨nd, rfl⟩⟩))
          go_meet
          case rel => exact ⟨_, ((t143 != t144)), (by first | rfl | (simp; done) | (simp [*]; done)), H', ⟨by first | omega | exact Nat.le_refl _⟩, ⟨by repeat (first | (with_reducible first | exact HB.out | apply below_alloc | apply pw_below_drewN | apply below_drew1) | exact HB.out)⟩⟩
        · rw [if_neg c14] at H
          have c14b0 : (t142 == t140) = false := beq_eq_false_iff_ne.mpr c14
          have c14b1 : (t142 != t140) = true := bne_iff_ne.mpr c14
          have H' := Aside0.mk H
          clear H
          have CA11 := fun W => horologenum_Num.calls t137 t141 W A11.out
          try simp only [errW_none, errW_some] at CA11
          go_wp2_with (first | (go_at_call 13; (with_reducible refine (CA11 _).mono ?_); rintro e w' ⟨rfl, ⟨nd, rfl⟩⟩; have CA13 := fun W => horologenum_Num.calls t139 t142 W A13.out; try simp only [errW_none, errW_some] at CA13) | (go_at_call 13; (with_reducible refine (CA13 _).mono ?_); rintro e w' ⟨rfl, ⟨nd, rfl⟩⟩))
          go_meet
          case rel => exact ⟨_, (true), (by first | rfl | (simp; done) | (simp [*]; done)), H', ⟨by first | omega | exact Nat.le_refl _⟩, ⟨by repeat (first | (with_reducible first | exact HB.out | apply below_alloc | apply pw_below_drewN | apply below_drew1) | exact HB.out)⟩⟩
      · rw [if_neg c12] at H
        have c12b0 : (t141 == t140) = false := beq_eq_false_iff_ne.mpr c12
        have c12b1 : (t141 != t140) = true := bne_iff_ne.mpr c12
        (first | rw [c12b0] | (simp only [i64_w, i32_w]; rw [c12b0]) | skip)
        have H' := Aside0.mk H
        clear H
        have CA11 := fun W => horologenum_Num.calls t137 t141 W A11.out
        try simp only [errW_none, errW_some] at CA11
        go_wp2_with (first | (go_at_call 13; (with_reducible refine (CA11 _).mono ?_); rintro e w' ⟨rfl, ⟨nd, rfl⟩⟩))
        go_meet
        case rel => exact ⟨_, (true), (by first | rfl | (simp; done) | (simp [*]; done)), H', ⟨by first | omega | exact Nat.le_refl _⟩, ⟨by repeat (first | (with_reducible first | exact HB.out | apply below_alloc | apply pw_below_drewN | apply below_drew1) | exact HB.out)⟩⟩
    case rest =>
      clear HC9
      try clear c1
      try clear p2
      try clear c4
      try clear c5
      try clear c8
      try clear c10
      try clear c11
      try clear c12
      try clear c12b0
      try clear c12b1
      try clear c14
      try clear c14b0
      try clear c14b1
      obtain ⟨kq, x53_8, rfl, HA, HJ8, HB⟩ := hcut
      cases kq with
      | zero => exact absurd HA.out (by simp [horologelaw05_DayDates.j0])
      | succ kj8 =>
        have H := HA.out
        clear HA
        simp only [horologelaw05_DayDates.j0] at H
        by_cases c17 : x53_8 = true
        · subst c17
          have H1 : (some false) = some r := by rw [if_pos rfl] at H; exact H
          clear H
          have H := H1
          clear H1
          obtain rfl := Option.some.inj H
          go_wp2
          go_ret
          exact ⟨by first | rfl | (simp [errW_none, errW_some] <;> rfl) | (simp [*, errW_none, errW_some] <;> rfl), by repeat (first | (with_reducible first | exact HB.out | apply below_alloc | apply pw_below_drewN | apply below_drew1) | exact HB.out)⟩
        · replace c17 := Bool.eq_false_iff.mpr c17
          subst c17
          have H1 : ((day_Month.f kj8 a0 a1).bind fun bt145 => ((day_Days.f a0).bind fun bt147 => ((horologeref05_Year.f a0).bind fun t149 => (if t149 = true then (if bt147.2.isNone = true then ((horologeref05_Days.f a0).bind fun t153 => (horologelaw05_DayDates.j1 kj8 a0 a1 a2 t136 t138 t140 bt145.1 bt145.2 (bt147.1 != t153))) else (horologelaw05_DayDates.j1 kj8 a0 a1 a2 t136 t138 t140 bt145.1 bt145.2 true)) else (if bt145.1 = 0 then (if bt147.1 = 0 then (if t136 = 0 then (if t138 = 0 then ((horologenum_Is.f bt145.2 13).bind fun t150 => (if t150 = true then ((horologenum_Is.f bt147.2 13).bind fun t151 => (some t151)) else (some false))) else (some false)) else (some false)) else (some false)) else (some false)))))) = some r := by rw [if_neg (show ¬ (false = true) by decide)] at H; exact H
          clear H
          have H := H1
          clear H1
          replace H := Option.bind_eq_some_iff.mp H
          obtain ⟨⟨t145, t146⟩, A180, H⟩ := H
          replace H : ((day_Days.f a0).bind fun bt147 => ((horologeref05_Year.f a0).bind fun t149 => (if t149 = true then (if bt147.2.isNone = true then ((horologeref05_Days.f a0).bind fun t153 => (horologelaw05_DayDates.j1 kj8 a0 a1 a2 t136 t138 t140 t145 t146 (bt147.1 != t153))) else (horologelaw05_DayDates.j1 kj8 a0 a1 a2 t136 t138 t140 t145 t146 true)) else (if t145 = 0 then (if bt147.1 = 0 then (if t136 = 0 then (if t138 = 0 then ((horologenum_Is.f t146 13).bind fun t150 => (if t150 = true then ((horologenum_Is.f bt147.2 13).bind fun t151 => (some t151)) else (some false))) else (some false)) else (some false)) else (some false)) else (some false))))) = some r := H
          have A18 := Aside0.mk A180
          clear A180
          replace H := Option.bind_eq_some_iff.mp H
          obtain ⟨⟨t147, t148⟩, A190, H⟩ := H
          replace H : ((horologeref05_Year.f a0).bind fun t149 => (if t149 = true then (if t148.isNone = true then ((horologeref05_Days.f a0).bind fun t153 => (horologelaw05_DayDates.j1 kj8 a0 a1 a2 t136 t138 t140 t145 t146 (t147 != t153))) else (horologelaw05_DayDates.j1 kj8 a0 a1 a2 t136 t138 t140 t145 t146 true)) else (if t145 = 0 then (if t147 = 0 then (if t136 = 0 then (if t138 = 0 then ((horologenum_Is.f t146 13).bind fun t150 => (if t150 = true then ((horologenum_Is.f t148 13).bind fun t151 => (some t151)) else (some false))) else (some false)) else (some false)) else (some false)) else (some false)))) = some r := H
          have A19 := Aside0.mk A190
          clear A190
          replace H := Option.bind_eq_some_iff.mp H
          obtain ⟨t149, A200, H⟩ := H
          replace H : (if t149 = true then (if t148.isNone = true then ((horologeref05_Days.f a0).bind fun t153 => (horologelaw05_DayDates.j1 kj8 a0 a1 a2 t136 t138 t140 t145 t146 (t147 != t153))) else (horologelaw05_DayDates.j1 kj8 a0 a1 a2 t136 t138 t140 t145 t146 true)) else (if t145 = 0 then (if t147 = 0 then (if t136 = 0 then (if t138 = 0 then ((horologenum_Is.f t146 13).bind fun t150 => (if t150 = true then ((horologenum_Is.f t148 13).bind fun t151 => (some t151)) else (some false))) else (some false)) else (some false)) else (some false)) else (some false))) = some r := H
          have A20 := Aside0.mk A200
          clear A200
          by_cases c21 : t149 = true
          · subst c21
            have H1 : (if t148.isNone = true then ((horologeref05_Days.f a0).bind fun t153 => (horologelaw05_DayDates.j1 kj8 a0 a1 a2 t136 t138 t140 t145 t146 (t147 != t153))) else (horologelaw05_DayDates.j1 kj8 a0 a1 a2 t136 t138 t140 t145 t146 true)) = some r := by rw [if_pos rfl] at H; exact H
            clear H
            have H := H1
            clear H1
            have HC22 := Aside0.mk H
            clear H
            go_upto_region 12 with (first | ((with_reducible refine gate_callee (f := 16) rfl ?_); refine goesL_ (some 57) rfl rfl Try.func16 (by kernel_rfl) rfl #[.int .i64 a0, .int .i64 a1] rfl (by (try simp only [List.map_toArray, List.map_cons, List.map_nil]); first | done | rfl | (simp only [List.length_drop, List.length_take]; rfl)) ?_; (with_reducible refine (day_Month.calls kj8 a0 a1 t145 t146 _ A18.out).mono ?_); rintro e w' ⟨rfl, ⟨nd, rfl⟩⟩; refine ⟨_, rfl, ?_⟩; (try simp only [errW_none, errW_some])) | ((with_reducible refine gate_callee (f := 17) rfl ?_); refine goesL_ (some 62) rfl rfl Try.func17 (by kernel_rfl) rfl #[.int .i64 a0] rfl (by (try simp only [List.map_toArray, List.map_cons, List.map_nil]); first | done | rfl | (simp only [List.length_drop, List.length_take]; rfl)) ?_; (with_reducible refine (day_Days.calls a0 t147 t148 _ A19.out).mono ?_); rintro e w' ⟨rfl, ⟨nd, rfl⟩⟩; refine ⟨_, rfl, ?_⟩; (try simp only [errW_none, errW_some])) | ((with_reducible refine gate_callee (f := 18) rfl ?_); refine goesL_ (some 66) rfl rfl Try.func18 (by kernel_rfl) rfl #[.int .i64 a0] rfl (by (try simp only [List.map_toArray, List.map_cons, List.map_nil]); first | done | rfl | (simp only [List.length_drop, List.length_take]; rfl)) ?_; (with_reducible refine (horologeref05_Year.calls a0 true _ A20.out).mono ?_); rintro e w' ⟨rfl, ⟨nd, rfl⟩⟩; refine ⟨_, rfl, ?_⟩))
            (try simp only [Act.put, List.setIfInBounds_toArray, List.set_cons_zero, List.set_cons_succ])
            go_cut [97] (fun v97 wc => ∃ (kq : Nat) (x97_21 : Bool), v97 = .bool x97_21 ∧ Aside0 (horologelaw05_DayDates.j1 kq a0 a1 a2 t136 t138 t140 t145 t146 x97_21 = some r) ∧ Aside0 (kq ≤ kj8) ∧ Aside0 (Below w.heap.size w wc))
            case first =>
              have H := HC22.out
              clear HC22
              rcases t148 with _ | q152
              · have H1 : ((horologeref05_Days.f a0).bind fun t153 => (horologelaw05_DayDates.j1 kj8 a0 a1 a2 t136 t138 t140 t145 t146 (t147 != t153))) = some r := by rw [if_pos (show (none : Option Int).isNone = true by rfl)] at H; exact H
                clear H
                have H := H1
                clear H1
                try simp only [errW_none, errW_some]
                replace H := Option.bind_eq_some_iff.mp H
                obtain ⟨t153, A230, H⟩ := H
                replace H : (horologelaw05_DayDates.j1 kj8 a0 a1 a2 t136 t138 t140 t145 t146 (t147 != t153)) = some r := H
                have A23 := Aside0.mk A230
                clear A230
                have H' := Aside0.mk H
                clear H
                go_wp2_with (first | (go_at_call 20; (with_reducible refine (horologeref05_Days.calls a0 t153 _ A23.out).mono ?_); rintro e w' ⟨rfl, ⟨nd, rfl⟩⟩))
                go_meet
                case rel => exact ⟨_, ((t147 != t153)), (by first | rfl | (simp; done) | (simp [*]; done)), H', ⟨by have := HJ8.out; first | omega | exact Nat.le_refl _⟩, ⟨by repeat (first | (with_reducible first | exact HB.out | apply below_alloc | apply pw_below_drewN | apply below_drew1) | exact HB.out)⟩⟩
              · have H1 : (horologelaw05_DayDates.j1 kj8 a0 a1 a2 t136 t138 t140 t145 t146 true) = some r := by rw [if_neg (show ¬ (some q152).isNone = true by simp)] at H; exact H
                clear H
                have H := H1
                clear H1
                try simp only [errW_none, errW_some]
                have H' := Aside0.mk H
                clear H
                go_wp2
                go_meet
                case rel => exact ⟨_, (true), (by first | rfl | (simp; done) | (simp [*]; done)), H', ⟨by have := HJ8.out; first | omega | exact Nat.le_refl _⟩, ⟨by repeat (first | (with_reducible first | exact HB.out | apply below_alloc | apply pw_below_drewN | apply below_drew1) | exact HB.out)⟩⟩
            case rest =>
              clear HC22
              try clear c1
              try clear q1
              try clear c2
              try clear p2
              try clear c4
              try clear c5
              try clear c8
              try clear c10
              try clear c11
              try clear c12
              try clear c12b0
              try clear c12b1
              try clear c14
              try clear c14b0
              try clear c14b1
              try clear q15
              try clear c16
              try clear c17
              try clear c18
              try clear c21
              try clear p2
              try clear q152
              obtain ⟨kq, x97_21, rfl, HA, HJ21, HB⟩ := hcut
              cases kq with
              | zero => exact absurd HA.out (by simp [horologelaw05_DayDates.j1])
              | succ kj21 =>
                have H := HA.out
                clear HA
                simp only [horologelaw05_DayDates.j1] at H
                by_cases c24 : x97_21 = true
                · subst c24
                  have H1 : (some false) = some r := by rw [if_pos rfl] at H; exact H
                  clear H
                  have H := H1
                  clear H1
                  obtain rfl := Option.some.inj H
                  go_wp2
                  go_ret
                  exact ⟨by first | rfl | (simp [errW_none, errW_some] <;> rfl) | (simp [*, errW_none, errW_some] <;> rfl), by repeat (first | (with_reducible first | exact HB.out | apply below_alloc | apply pw_below_drewN | apply below_drew1) | exact HB.out)⟩
                · replace c24 := Bool.eq_false_iff.mpr c24
                  subst c24
                  have H1 : (if a1 < 1 then (horologelaw05_DayDates.j2 kj21 a0 a1 a2 t136 t138 t140 t145 t146 true) else (horologelaw05_DayDates.j2 kj21 a0 a1 a2 t136 t138 t140 t145 t146 (decide (a1 > 12)))) = some r := by rw [if_neg (show ¬ (false = true) by decide)] at H; exact H
                  clear H
                  have H := H1
                  clear H1
                  have HC25 := Aside0.mk H
                  clear H
                  go_upto_region 14 with (fail)
                  go_cut [103] (fun v103 wc => ∃ (kq : Nat) (x103_24 : Bool), v103 = .bool x103_24 ∧ Aside0 (horologelaw05_DayDates.j2 kq a0 a1 a2 t136 t138 t140 t145 t146 x103_24 = some r) ∧ Aside0 (kq ≤ kj21) ∧ Aside0 (Below w.heap.size w wc))
                  case first =>
                    have H := HC25.out
                    clear HC25
                    by_cases c26 : a1 < 1
                    · rw [if_pos c26] at H
                      have c26b0 : decide (a1 < 1) = true := decide_eq_true c26
                      clear c26
                      (first | rw [c26b0] | (simp only [i64_w, i32_w]; rw [c26b0]) | skip)
                      have H' := Aside0.mk H
                      clear H
                      go_wp2
                      go_meet
                      case rel => exact ⟨_, (true), (by first | rfl | (simp; done) | (simp [*]; done)), H', ⟨by have := HJ8.out; have := HJ21.out; first | omega | exact Nat.le_refl _⟩, ⟨by repeat (first | (with_reducible first | exact HB.out | apply below_alloc | apply pw_below_drewN | apply below_drew1) | exact HB.out)⟩⟩
                    · rw [if_neg c26] at H
                      have c26b0 : decide (a1 < 1) = false := decide_eq_false c26
                      clear c26
                      (first | rw [c26b0] | (simp only [i64_w, i32_w]; rw [c26b0]) | skip)
                      have H' := Aside0.mk H
                      clear H
                      go_wp2
                      go_meet
                      case rel => exact ⟨_, (decide (a1 > 12)), (by first | rfl | (simp; done) | (simp [*]; done)), H', ⟨by have := HJ8.out; have := HJ21.out; first | omega | exact Nat.le_refl _⟩, ⟨by repeat (first | (with_reducible first | exact HB.out | apply below_alloc | apply pw_below_drewN | apply below_drew1) | exact HB.out)⟩⟩
                  case rest =>
                    clear HC25
                    try clear c1
                    try clear q1
                    try clear c2
                    try clear p2
                    try clear c4
                    try clear c5
                    try clear c8
                    try clear c10
                    try clear c11
                    try clear c12
                    try clear c12b0
                    try clear c12b1
                    try clear c14
                    try clear c14b0
                    try clear c14b1
                    try clear q15
                    try clear c16
                    try clear c17
                    try clear c18
                    try clear c21
                    try clear c24
                    try clear c26
                    try clear c26b0
                    try clear p2
                    try clear q1
                    try clear q15
                    try clear q152
                    obtain ⟨kq, x103_24, rfl, HA, HJ24, HB⟩ := hcut
                    cases kq with
                    | zero => exact absurd HA.out (by simp [horologelaw05_DayDates.j2])
                    | succ kj24 =>
                      have H := HA.out
                      clear HA
                      simp only [horologelaw05_DayDates.j2] at H
                      by_cases c27 : x103_24 = true
                      · subst c27
                        have H1 : (if t145 = 0 then (if t136 = 0 then (if t138 = 0 then ((horologenum_Is.f t146 1).bind fun t154 => (some t154)) else (some false)) else (some false)) else (some false)) = some r := by rw [if_pos rfl] at H; exact H
                        clear H
                        have H := H1
                        clear H1
                        by_cases c28 : t145 = 0
                        · rw [if_pos c28] at H
                          have c28b0 : (t145 == 0) = true := beq_iff_eq.mpr c28
                          have c28b1 : (t145 != 0) = false := bne_eq_false_iff_eq.mpr c28
                          clear c28
                          by_cases c29 : t136 = 0
                          · rw [if_pos c29] at H
                            have c29b0 : (t136 == 0) = true := beq_iff_eq.mpr c29
                            have c29b1 : (t136 != 0) = false := bne_eq_false_iff_eq.mpr c29
                            clear c29
                            by_cases c30 : t138 = 0
                            · rw [if_pos c30] at H
                              have c30b0 : (t138 == 0) = true := beq_iff_eq.mpr c30
                              have c30b1 : (t138 != 0) = false := bne_eq_false_iff_eq.mpr c30
                              clear c30
                              replace H := Option.bind_eq_some_iff.mp H
                              obtain ⟨t154, A310, H⟩ := H
                              replace H : (some t154) = some r := H
                              have A31 := Aside0.mk A310
                              clear A310
                              obtain rfl := Option.some.inj H
                              have CA31 := fun W => horologenum_Is.calls t146 1 t154 W A31.out
                              try simp only [errW_none, errW_some] at CA31
                              go_wp2_with (first | (go_at_call 19; (with_reducible refine (CA31 _).mono ?_); rintro e w' ⟨rfl, ⟨nd, rfl⟩⟩))
                              go_ret
                              exact ⟨by first | rfl | (simp [errW_none, errW_some] <;> rfl) | (simp [*, errW_none, errW_some] <;> rfl), by repeat (first | (with_reducible first | exact HB.out | apply below_alloc | apply pw_below_drewN | apply below_drew1) | exact HB.out)⟩
                            · rw [if_neg c30] at H
                              have c30b0 : (t138 == 0) = false := beq_eq_false_iff_ne.mpr c30
                              have c30b1 : (t138 != 0) = true := bne_iff_ne.mpr c30
                              obtain rfl := Option.some.inj H
                              go_wp2
                              go_ret
                              exact ⟨by first | rfl | (simp [errW_none, errW_some] <;> rfl) | (simp [*, errW_none, errW_some] <;> rfl), by repeat (first | (with_reducible first | exact HB.out | apply below_alloc | apply pw_below_drewN | apply below_drew1) | exact HB.out)⟩
                          · rw [if_neg c29] at H
                            have c29b0 : (t136 == 0) = false := beq_eq_false_iff_ne.mpr c29
                            have c29b1 : (t136 != 0) = true := bne_iff_ne.mpr c29
                            obtain rfl := Option.some.inj H
                            go_wp2
                            go_ret
                            exact ⟨by first | rfl | (simp [errW_none, errW_some] <;> rfl) | (simp [*, errW_none, errW_some] <;> rfl), by repeat (first | (with_reducible first | exact HB.out | apply below_alloc | apply pw_below_drewN | apply below_drew1) | exact HB.out)⟩
                        · rw [if_neg c28] at H
                          have c28b0 : (t145 == 0) = false := beq_eq_false_iff_ne.mpr c28
                          have c28b1 : (t145 != 0) = true := bne_iff_ne.mpr c28
                          obtain rfl := Option.some.inj H
                          go_wp2
                          go_ret
                          exact ⟨by first | rfl | (simp [errW_none, errW_some] <;> rfl) | (simp [*, errW_none, errW_some] <;> rfl), by repeat (first | (with_reducible first | exact HB.out | apply below_alloc | apply pw_below_drewN | apply below_drew1) | exact HB.out)⟩
                      · replace c27 := Bool.eq_false_iff.mpr c27
                        subst c27
                        have H1 : (if t146.isNone = true then ((horologeref05_Month.f a0 a1).bind fun t156 => (horologelaw05_DayDates.j3 kj24 a0 a1 a2 t136 t138 t140 (t145 != t156))) else (horologelaw05_DayDates.j3 kj24 a0 a1 a2 t136 t138 t140 true)) = some r := by rw [if_neg (show ¬ (false = true) by decide)] at H; exact H
                        clear H
                        have H := H1
                        clear H1
                        have HC32 := Aside0.mk H
                        clear H
                        go_upto_region 16 with (fail)
                        go_cut [126] (fun v126 wc => ∃ (kq : Nat) (x126_31 : Bool), v126 = .bool x126_31 ∧ Aside0 (horologelaw05_DayDates.j3 kq a0 a1 a2 t136 t138 t140 x126_31 = some r) ∧ Aside0 (kq ≤ kj24) ∧ Aside0 (Below w.heap.size w wc))
                        case first =>
                          have H := HC32.out
                          clear HC32
                          rcases t146 with _ | q155
                          · have H1 : ((horologeref05_Month.f a0 a1).bind fun t156 => (horologelaw05_DayDates.j3 kj24 a0 a1 a2 t136 t138 t140 (t145 != t156))) = some r := by rw [if_pos (show (none : Option Int).isNone = true by rfl)] at H; exact H
                            clear H
                            have H := H1
                            clear H1
                            try simp only [errW_none, errW_some]
                            replace H := Option.bind_eq_some_iff.mp H
                            obtain ⟨t156, A330, H⟩ := H
                            replace H : (horologelaw05_DayDates.j3 kj24 a0 a1 a2 t136 t138 t140 (t145 != t156)) = some r := H
                            have A33 := Aside0.mk A330
                            clear A330
                            have H' := Aside0.mk H
                            clear H
                            go_wp2_with (first | (go_at_call 21; (with_reducible refine (horologeref05_Month.calls a0 a1 t156 _ A33.out).mono ?_); rintro e w34 ⟨rfl, hb⟩; have n0_ := Aside0.mk (below_step (by repeat (first | (with_reducible first | exact HB.out | apply below_alloc | apply pw_below_drewN | apply below_drew1) | exact HB.out)) hb); clear HB; have HB := n0_; clear n0_; (try clear hb); (try clear hb2); (try clear hk); (try clear hi)))
                            go_meet
                            case rel => exact ⟨_, ((t145 != t156)), (by first | rfl | (simp; done) | (simp [*]; done)), H', ⟨by have := HJ8.out; have := HJ21.out; have := HJ24.out; first | omega | exact Nat.le_refl _⟩, ⟨by repeat (first | (with_reducible first | exact HB.out | apply below_alloc | apply pw_below_drewN | apply below_drew1) | exact HB.out)⟩⟩
                          · have H1 : (horologelaw05_DayDates.j3 kj24 a0 a1 a2 t136 t138 t140 true) = some r := by rw [if_neg (show ¬ (some q155).isNone = true by simp)] at H; exact H
                            clear H
                            have H := H1
                            clear H1
                            try simp only [errW_none, errW_some]
                            have H' := Aside0.mk H
                            clear H
                            go_wp2
                            go_meet
                            case rel => exact ⟨_, (true), (by first | rfl | (simp; done) | (simp [*]; done)), H', ⟨by have := HJ8.out; have := HJ21.out; have := HJ24.out; first | omega | exact Nat.le_refl _⟩, ⟨by repeat (first | (with_reducible first | exact HB.out | apply below_alloc | apply pw_below_drewN | apply below_drew1) | exact HB.out)⟩⟩
                        case rest =>
                          clear HC32
                          try clear c1
                          try clear q1
                          try clear c2
                          try clear p2
                          try clear c3
                          try clear c4
                          try clear c5
                          try clear c8
                          try clear c10
                          try clear c11
                          try clear c12
                          try clear c12b0
                          try clear c12b1
                          try clear c14
                          try clear c14b0
                          try clear c14b1
                          try clear q15
                          try clear c16
                          try clear c17
                          try clear c18
                          try clear c21
                          try clear c24
                          try clear c26
                          try clear c26b0
                          try clear c27
                          try clear c28
                          try clear c28b0
                          try clear c28b1
                          try clear c29
                          try clear c29b0
                          try clear c29b1
                          try clear c30
                          try clear c30b0
                          try clear c30b1
                          try clear p2
                          try clear q1
                          try clear q15
                          try clear q152
                          try clear q155
                          obtain ⟨kq, x126_31, rfl, HA, HJ31, HB⟩ := hcut
                          cases kq with
                          | zero => exact absurd HA.out (by simp [horologelaw05_DayDates.j3])
                          | succ kj31 =>
                            have H := HA.out
                            clear HA
                            simp only [horologelaw05_DayDates.j3] at H
                            by_cases c35 : x126_31 = true
                            · subst c35
                              have H1 : (some false) = some r := by rw [if_pos rfl] at H; exact H
                              clear H
                              have H := H1
                              clear H1
                              obtain rfl := Option.some.inj H
                              go_wp2
                              go_ret
                              exact ⟨by first | rfl | (simp [errW_none, errW_some] <;> rfl) | (simp [*, errW_none, errW_some] <;> rfl), by repeat (first | (with_reducible first | exact HB.out | apply below_alloc | apply pw_below_drewN | apply below_drew1) | exact HB.out)⟩
                            · replace c35 := Bool.eq_false_iff.mpr c35
                              subst c35
                              have H1 : (if t140 = 0 then ((horologeref05_Of.f kj31 a0 a1 a2).bind fun t157 => (if t136 = t157 then ((horologeref05_Start.f kj31 a0).bind fun t158 => (some (t138 == (wrap64 ((wrap64 (t157 - t158)) + 1))))) else (some false))) else (if t136 = 0 then (some (t138 == 0)) else (some false))) = some r := by rw [if_neg (show ¬ (false = true) by decide)] at H; exact H
                              clear H
                              have H := H1
                              clear H1
                              by_cases c36 : t140 = 0
                              · rw [if_pos c36] at H
                                have c36b0 : (t140 == 0) = true := beq_iff_eq.mpr c36
                                have c36b1 : (t140 != 0) = false := bne_eq_false_iff_eq.mpr c36
                                clear c36
                                replace H := Option.bind_eq_some_iff.mp H
                                obtain ⟨t157, A370, H⟩ := H
                                replace H : (if t136 = t157 then ((horologeref05_Start.f kj31 a0).bind fun t158 => (some (t138 == (wrap64 ((wrap64 (t157 - t158)) + 1))))) else (some false)) = some r := H
                                have A37 := Aside0.mk A370
                                clear A370
                                by_cases c38 : t136 = t157
                                · rw [if_pos c38] at H
                                  have c38b0 : (t136 == t157) = true := beq_iff_eq.mpr c38
                                  have c38b1 : (t136 != t157) = false := bne_eq_false_iff_eq.mpr c38
                                  clear c38
                                  replace H := Option.bind_eq_some_iff.mp H
                                  obtain ⟨t158, A390, H⟩ := H
                                  replace H : (some (t138 == (wrap64 ((wrap64 (t157 - t158)) + 1)))) = some r := H
                                  have A39 := Aside0.mk A390
                                  clear A390
                                  obtain rfl := Option.some.inj H
                                  go_wp2_with (first | ((with_reducible refine gate_callee (f := 22) rfl ?_); refine goesL_ (some 138) rfl rfl Try.func22 (by kernel_rfl) rfl #[.int .i64 a0, .int .i64 a1, .int .i64 a2] rfl (by (try simp only [List.map_toArray, List.map_cons, List.map_nil]); first | done | rfl | (simp only [List.length_drop, List.length_take]; rfl)) ?_; (with_reducible refine (horologeref05_Of.calls kj31 a0 a1 a2 t157 _ A37.out).mono ?_); rintro e w40 ⟨rfl, hb⟩; refine ⟨_, rfl, ?_⟩; have n0_ := Aside0.mk (below_step (by repeat (first | (with_reducible first | exact HB.out | apply below_alloc | apply pw_below_drewN | apply below_drew1) | exact HB.out)) hb); clear HB; have HB := n0_; clear n0_; (try clear hb); (try clear hb2); (try clear hk); (try clear hi)) | (go_at_call 23; (with_reducible refine (horologeref05_Start.calls kj31 a0 t158 _ A39.out).mono ?_); rintro e w' ⟨rfl, ⟨nd, rfl⟩⟩))
                                  go_ret
                                  exact ⟨by first | rfl | (simp [errW_none, errW_some] <;> rfl) | (simp [*, errW_none, errW_some] <;> rfl), by repeat (first | (with_reducible first | exact HB.out | apply below_alloc | apply pw_below_drewN | apply below_drew1) | exact HB.out)⟩
                                · rw [if_neg c38] at H
                                  have c38b0 : (t136 == t157) = false := beq_eq_false_iff_ne.mpr c38
                                  have c38b1 : (t136 != t157) = true := bne_iff_ne.mpr c38
                                  obtain rfl := Option.some.inj H
                                  go_wp2_with (first | ((with_reducible refine gate_callee (f := 22) rfl ?_); refine goesL_ (some 138) rfl rfl Try.func22 (by kernel_rfl) rfl #[.int .i64 a0, .int .i64 a1, .int .i64 a2] rfl (by (try simp only [List.map_toArray, List.map_cons, List.map_nil]); first | done | rfl | (simp only [List.length_drop, List.length_take]; rfl)) ?_; (with_reducible refine (horologeref05_Of.calls kj31 a0 a1 a2 t157 _ A37.out).mono ?_); rintro e w41 ⟨rfl, hb⟩; refine ⟨_, rfl, ?_⟩; have n0_ := Aside0.mk (below_step (by repeat (first | (with_reducible first | exact HB.out | apply below_alloc | apply pw_below_drewN | apply below_drew1) | exact HB.out)) hb); clear HB; have HB := n0_; clear n0_; (try clear hb); (try clear hb2); (try clear hk); (try clear hi)))
                                  go_ret
                                  exact ⟨by first | rfl | (simp [errW_none, errW_some] <;> rfl) | (simp [*, errW_none, errW_some] <;> rfl), by repeat (first | (with_reducible first | exact HB.out | apply below_alloc | apply pw_below_drewN | apply below_drew1) | exact HB.out)⟩
                              · rw [if_neg c36] at H
                                have c36b0 : (t140 == 0) = false := beq_eq_false_iff_ne.mpr c36
                                have c36b1 : (t140 != 0) = true := bne_iff_ne.mpr c36
                                by_cases c42 : t136 = 0
                                · rw [if_pos c42] at H
                                  have c42b0 : (t136 == 0) = true := beq_iff_eq.mpr c42
                                  have c42b1 : (t136 != 0) = false := bne_eq_false_iff_eq.mpr c42
                                  clear c42
                                  obtain rfl := Option.some.inj H
                                  go_wp2
                                  go_ret
                                  exact ⟨by first | rfl | (simp [errW_none, errW_some] <;> rfl) | (simp [*, errW_none, errW_some] <;> rfl), by repeat (first | (with_reducible first | exact HB.out | apply below_alloc | apply pw_below_drewN | apply below_drew1) | exact HB.out)⟩
                                · rw [if_neg c42] at H
                                  have c42b0 : (t136 == 0) = false := beq_eq_false_iff_ne.mpr c42
                                  have c42b1 : (t136 != 0) = true := bne_iff_ne.mpr c42
                                  obtain rfl := Option.some.inj H
                                  go_wp2
                                  go_ret
                                  exact ⟨by first | rfl | (simp [errW_none, errW_some] <;> rfl) | (simp [*, errW_none, errW_some] <;> rfl), by repeat (first | (with_reducible first | exact HB.out | apply below_alloc | apply pw_below_drewN | apply below_drew1) | exact HB.out)⟩
          · replace c21 := Bool.eq_false_iff.mpr c21
            subst c21
            have H1 : (if t145 = 0 then (if t147 = 0 then (if t136 = 0 then (if t138 = 0 then ((horologenum_Is.f t146 13).bind fun t150 => (if t150 = true then ((horologenum_Is.f t148 13).bind fun t151 => (some t151)) else (some false))) else (some false)) else (some false)) else (some false)) else (some false)) = some r := by rw [if_neg (show ¬ (false = true) by decide)] at H; exact H
            clear H
            have H := H1
            clear H1
            by_cases c43 : t145 = 0
            · rw [if_pos c43] at H
              have c43b0 : (t145 == 0) = true := beq_iff_eq.mpr c43
              have c43b1 : (t145 != 0) = false := bne_eq_false_iff_eq.mpr c43
              clear c43
              by_cases c44 : t147 = 0
              · rw [if_pos c44] at H
                have c44b0 : (t147 == 0) = true := beq_iff_eq.mpr c44
                have c44b1 : (t147 != 0) = false := bne_eq_false_iff_eq.mpr c44
                clear c44
                by_cases c45 : t136 = 0
                · rw [if_pos c45] at H
                  have c45b0 : (t136 == 0) = true := beq_iff_eq.mpr c45
                  have c45b1 : (t136 != 0) = false := bne_eq_false_iff_eq.mpr c45
                  clear c45
                  by_cases c46 : t138 = 0
                  · rw [if_pos c46] at H
                    have c46b0 : (t138 == 0) = true := beq_iff_eq.mpr c46
                    have c46b1 : (t138 != 0) = false := bne_eq_false_iff_eq.mpr c46
                    clear c46
                    replace H := Option.bind_eq_some_iff.mp H
                    obtain ⟨t150, A470, H⟩ := H
                    replace H : (if t150 = true then ((horologenum_Is.f t148 13).bind fun t151 => (some t151)) else (some false)) = some r := H
                    have A47 := Aside0.mk A470
                    clear A470
                    by_cases c48 : t150 = true
                    · subst c48
                      have H1 : ((horologenum_Is.f t148 13).bind fun t151 => (some t151)) = some r := by rw [if_pos rfl] at H; exact H
                      clear H
                      have H := H1
                      clear H1
                      replace H := Option.bind_eq_some_iff.mp H
                      obtain ⟨t151, A490, H⟩ := H
                      replace H : (some t151) = some r := H
                      have A49 := Aside0.mk A490
                      clear A490
                      obtain rfl := Option.some.inj H
                      go_wp2_with (first | ((with_reducible refine gate_callee (f := 16) rfl ?_); refine goesL_ (some 57) rfl rfl Try.func16 (by kernel_rfl) rfl #[.int .i64 a0, .int .i64 a1] rfl (by (try simp only [List.map_toArray, List.map_cons, List.map_nil]); first | done | rfl | (simp only [List.length_drop, List.length_take]; rfl)) ?_; (with_reducible refine (day_Month.calls kj8 a0 a1 t145 t146 _ A18.out).mono ?_); rintro e w' ⟨rfl, ⟨nd, rfl⟩⟩; refine ⟨_, rfl, ?_⟩; (try simp only [errW_none, errW_some])) | ((with_reducible refine gate_callee (f := 17) rfl ?_); refine goesL_ (some 62) rfl rfl Try.func17 (by kernel_rfl) rfl #[.int .i64 a0] rfl (by (try simp only [List.map_toArray, List.map_cons, List.map_nil]); first | done | rfl | (simp only [List.length_drop, List.length_take]; rfl)) ?_; (with_reducible refine (day_Days.calls a0 t147 t148 _ A19.out).mono ?_); rintro e w' ⟨rfl, ⟨nd, rfl⟩⟩; refine ⟨_, rfl, ?_⟩; (try simp only [errW_none, errW_some])) | ((with_reducible refine gate_callee (f := 18) rfl ?_); refine goesL_ (some 66) rfl rfl Try.func18 (by kernel_rfl) rfl #[.int .i64 a0] rfl (by (try simp only [List.map_toArray, List.map_cons, List.map_nil]); first | done | rfl | (simp only [List.length_drop, List.length_take]; rfl)) ?_; (with_reducible refine (horologeref05_Year.calls a0 false _ A20.out).mono ?_); rintro e w' ⟨rfl, ⟨nd, rfl⟩⟩; refine ⟨_, rfl, ?_⟩; have CA47 := fun W => horologenum_Is.calls t146 13 true W A47.out; try simp only [errW_none, errW_some] at CA47) | (go_at_call 19; (with_reducible refine (CA47 _).mono ?_); rintro e w' ⟨rfl, ⟨nd, rfl⟩⟩; have CA49 := fun W => horologenum_Is.calls t148 13 t151 W A49.out; try simp only [errW_none, errW_some] at CA49) | (go_at_call 19; (with_reducible refine (CA49 _).mono ?_); rintro e w' ⟨rfl, ⟨nd, rfl⟩⟩))
                      go_ret
                      exact ⟨by first | rfl | (simp [errW_none, errW_some] <;> rfl) | (simp [*, errW_none, errW_some] <;> rfl), by repeat (first | (with_reducible first | exact HB.out | apply below_alloc | apply pw_below_drewN | apply below_drew1) | exact HB.out)⟩
                    · replace c48 := Bool.eq_false_iff.mpr c48
                      subst c48
                      have H1 : (some false) = some r := by rw [if_neg (show ¬ (false = true) by decide)] at H; exact H
                      clear H
                      have H := H1
                      clear H1
                      obtain rfl := Option.some.inj H
                      go_wp2_with (first | ((with_reducible refine gate_callee (f := 16) rfl ?_); refine goesL_ (some 57) rfl rfl Try.func16 (by kernel_rfl) rfl #[.int .i64 a0, .int .i64 a1] rfl (by (try simp only [List.map_toArray, List.map_cons, List.map_nil]); first | done | rfl | (simp only [List.length_drop, List.length_take]; rfl)) ?_; (with_reducible refine (day_Month.calls kj8 a0 a1 t145 t146 _ A18.out).mono ?_); rintro e w' ⟨rfl, ⟨nd, rfl⟩⟩; refine ⟨_, rfl, ?_⟩; (try simp only [errW_none, errW_some])) | ((with_reducible refine gate_callee (f := 17) rfl ?_); refine goesL_ (some 62) rfl rfl Try.func17 (by kernel_rfl) rfl #[.int .i64 a0] rfl (by (try simp only [List.map_toArray, List.map_cons, List.map_nil]); first | done | rfl | (simp only [List.length_drop, List.length_take]; rfl)) ?_; (with_reducible refine (day_Days.calls a0 t147 t148 _ A19.out).mono ?_); rintro e w' ⟨rfl, ⟨nd, rfl⟩⟩; refine ⟨_, rfl, ?_⟩; (try simp only [errW_none, errW_some])) | ((with_reducible refine gate_callee (f := 18) rfl ?_); refine goesL_ (some 66) rfl rfl Try.func18 (by kernel_rfl) rfl #[.int .i64 a0] rfl (by (try simp only [List.map_toArray, List.map_cons, List.map_nil]); first | done | rfl | (simp only [List.length_drop, List.length_take]; rfl)) ?_; (with_reducible refine (horologeref05_Year.calls a0 false _ A20.out).mono ?_); rintro e w' ⟨rfl, ⟨nd, rfl⟩⟩; refine ⟨_, rfl, ?_⟩; have CA47 := fun W => horologenum_Is.calls t146 13 false W A47.out; try simp only [errW_none, errW_some] at CA47) | (go_at_call 19; (with_reducible refine (CA47 _).mono ?_); rintro e w' ⟨rfl, ⟨nd, rfl⟩⟩))
                      go_ret
                      exact ⟨by first | rfl | (simp [errW_none, errW_some] <;> rfl) | (simp [*, errW_none, errW_some] <;> rfl), by repeat (first | (with_reducible first | exact HB.out | apply below_alloc | apply pw_below_drewN | apply below_drew1) | exact HB.out)⟩
                  · rw [if_neg c46] at H
                    have c46b0 : (t138 == 0) = false := beq_eq_false_iff_ne.mpr c46
                    have c46b1 : (t138 != 0) = true := bne_iff_ne.mpr c46
                    obtain rfl := Option.some.inj H
                    go_wp2_with (first | ((with_reducible refine gate_callee (f := 16) rfl ?_); refine goesL_ (some 57) rfl rfl Try.func16 (by kernel_rfl) rfl #[.int .i64 a0, .int .i64 a1] rfl (by (try simp only [List.map_toArray, List.map_cons, List.map_nil]); first | done | rfl | (simp only [List.length_drop, List.length_take]; rfl)) ?_; (with_reducible refine (day_Month.calls kj8 a0 a1 t145 t146 _ A18.out).mono ?_); rintro e w' ⟨rfl, ⟨nd, rfl⟩⟩; refine ⟨_, rfl, ?_⟩; (try simp only [errW_none, errW_some])) | ((with_reducible refine gate_callee (f := 17) rfl ?_); refine goesL_ (some 62) rfl rfl Try.func17 (by kernel_rfl) rfl #[.int .i64 a0] rfl (by (try simp only [List.map_toArray, List.map_cons, List.map_nil]); first | done | rfl | (simp only [List.length_drop, List.length_take]; rfl)) ?_; (with_reducible refine (day_Days.calls a0 t147 t148 _ A19.out).mono ?_); rintro e w' ⟨rfl, ⟨nd, rfl⟩⟩; refine ⟨_, rfl, ?_⟩; (try simp only [errW_none, errW_some])) | ((with_reducible refine gate_callee (f := 18) rfl ?_); refine goesL_ (some 66) rfl rfl Try.func18 (by kernel_rfl) rfl #[.int .i64 a0] rfl (by (try simp only [List.map_toArray, List.map_cons, List.map_nil]); first | done | rfl | (simp only [List.length_drop, List.length_take]; rfl)) ?_; (with_reducible refine (horologeref05_Year.calls a0 false _ A20.out).mono ?_); rintro e w' ⟨rfl, ⟨nd, rfl⟩⟩; refine ⟨_, rfl, ?_⟩))
                    go_ret
                    exact ⟨by first | rfl | (simp [errW_none, errW_some] <;> rfl) | (simp [*, errW_none, errW_some] <;> rfl), by repeat (first | (with_reducible first | exact HB.out | apply below_alloc | apply pw_below_drewN | apply below_drew1) | exact HB.out)⟩
                · rw [if_neg c45] at H
                  have c45b0 : (t136 == 0) = false := beq_eq_false_iff_ne.mpr c45
                  have c45b1 : (t136 != 0) = true := bne_iff_ne.mpr c45
                  obtain rfl := Option.some.inj H
                  go_wp2_with (first | ((with_reducible refine gate_callee (f := 16) rfl ?_); refine goesL_ (some 57) rfl rfl Try.func16 (by kernel_rfl) rfl #[.int .i64 a0, .int .i64 a1] rfl (by (try simp only [List.map_toArray, List.map_cons, List.map_nil]); first | done | rfl | (simp only [List.length_drop, List.length_take]; rfl)) ?_; (with_reducible refine (day_Month.calls kj8 a0 a1 t145 t146 _ A18.out).mono ?_); rintro e w' ⟨rfl, ⟨nd, rfl⟩⟩; refine ⟨_, rfl, ?_⟩; (try simp only [errW_none, errW_some])) | ((with_reducible refine gate_callee (f := 17) rfl ?_); refine goesL_ (some 62) rfl rfl Try.func17 (by kernel_rfl) rfl #[.int .i64 a0] rfl (by (try simp only [List.map_toArray, List.map_cons, List.map_nil]); first | done | rfl | (simp only [List.length_drop, List.length_take]; rfl)) ?_; (with_reducible refine (day_Days.calls a0 t147 t148 _ A19.out).mono ?_); rintro e w' ⟨rfl, ⟨nd, rfl⟩⟩; refine ⟨_, rfl, ?_⟩; (try simp only [errW_none, errW_some])) | ((with_reducible refine gate_callee (f := 18) rfl ?_); refine goesL_ (some 66) rfl rfl Try.func18 (by kernel_rfl) rfl #[.int .i64 a0] rfl (by (try simp only [List.map_toArray, List.map_cons, List.map_nil]); first | done | rfl | (simp only [List.length_drop, List.length_take]; rfl)) ?_; (with_reducible refine (horologeref05_Year.calls a0 false _ A20.out).mono ?_); rintro e w' ⟨rfl, ⟨nd, rfl⟩⟩; refine ⟨_, rfl, ?_⟩))
                  go_ret
                  exact ⟨by first | rfl | (simp [errW_none, errW_some] <;> rfl) | (simp [*, errW_none, errW_some] <;> rfl), by repeat (first | (with_reducible first | exact HB.out | apply below_alloc | apply pw_below_drewN | apply below_drew1) | exact HB.out)⟩
              · rw [if_neg c44] at H
                have c44b0 : (t147 == 0) = false := beq_eq_false_iff_ne.mpr c44
                have c44b1 : (t147 != 0) = true := bne_iff_ne.mpr c44
                obtain rfl := Option.some.inj H
                go_wp2_with (first | ((with_reducible refine gate_callee (f := 16) rfl ?_); refine goesL_ (some 57) rfl rfl Try.func16 (by kernel_rfl) rfl #[.int .i64 a0, .int .i64 a1] rfl (by (try simp only [List.map_toArray, List.map_cons, List.map_nil]); first | done | rfl | (simp only [List.length_drop, List.length_take]; rfl)) ?_; (with_reducible refine (day_Month.calls kj8 a0 a1 t145 t146 _ A18.out).mono ?_); rintro e w' ⟨rfl, ⟨nd, rfl⟩⟩; refine ⟨_, rfl, ?_⟩; (try simp only [errW_none, errW_some])) | ((with_reducible refine gate_callee (f := 17) rfl ?_); refine goesL_ (some 62) rfl rfl Try.func17 (by kernel_rfl) rfl #[.int .i64 a0] rfl (by (try simp only [List.map_toArray, List.map_cons, List.map_nil]); first | done | rfl | (simp only [List.length_drop, List.length_take]; rfl)) ?_; (with_reducible refine (day_Days.calls a0 t147 t148 _ A19.out).mono ?_); rintro e w' ⟨rfl, ⟨nd, rfl⟩⟩; refine ⟨_, rfl, ?_⟩; (try simp only [errW_none, errW_some])) | ((with_reducible refine gate_callee (f := 18) rfl ?_); refine goesL_ (some 66) rfl rfl Try.func18 (by kernel_rfl) rfl #[.int .i64 a0] rfl (by (try simp only [List.map_toArray, List.map_cons, List.map_nil]); first | done | rfl | (simp only [List.length_drop, List.length_take]; rfl)) ?_; (with_reducible refine (horologeref05_Year.calls a0 false _ A20.out).mono ?_); rintro e w' ⟨rfl, ⟨nd, rfl⟩⟩; refine ⟨_, rfl, ?_⟩))
                go_ret
                exact ⟨by first | rfl | (simp [errW_none, errW_some] <;> rfl) | (simp [*, errW_none, errW_some] <;> rfl), by repeat (first | (with_reducible first | exact HB.out | apply below_alloc | apply pw_below_drewN | apply below_drew1) | exact HB.out)⟩
            · rw [if_neg c43] at H
              have c43b0 : (t145 == 0) = false := beq_eq_false_iff_ne.mpr c43
              have c43b1 : (t145 != 0) = true := bne_iff_ne.mpr c43
              obtain rfl := Option.some.inj H
              go_wp2_with (first | ((with_reducible refine gate_callee (f := 16) rfl ?_); refine goesL_ (some 57) rfl rfl Try.func16 (by kernel_rfl) rfl #[.int .i64 a0, .int .i64 a1] rfl (by (try simp only [List.map_toArray, List.map_cons, List.map_nil]); first | done | rfl | (simp only [List.length_drop, List.length_take]; rfl)) ?_; (with_reducible refine (day_Month.calls kj8 a0 a1 t145 t146 _ A18.out).mono ?_); rintro e w' ⟨rfl, ⟨nd, rfl⟩⟩; refine ⟨_, rfl, ?_⟩; (try simp only [errW_none, errW_some])) | ((with_reducible refine gate_callee (f := 17) rfl ?_); refine goesL_ (some 62) rfl rfl Try.func17 (by kernel_rfl) rfl #[.int .i64 a0] rfl (by (try simp only [List.map_toArray, List.map_cons, List.map_nil]); first | done | rfl | (simp only [List.length_drop, List.length_take]; rfl)) ?_; (with_reducible refine (day_Days.calls a0 t147 t148 _ A19.out).mono ?_); rintro e w' ⟨rfl, ⟨nd, rfl⟩⟩; refine ⟨_, rfl, ?_⟩; (try simp only [errW_none, errW_some])) | ((with_reducible refine gate_callee (f := 18) rfl ?_); refine goesL_ (some 66) rfl rfl Try.func18 (by kernel_rfl) rfl #[.int .i64 a0] rfl (by (try simp only [List.map_toArray, List.map_cons, List.map_nil]); first | done | rfl | (simp only [List.length_drop, List.length_take]; rfl)) ?_; (with_reducible refine (horologeref05_Year.calls a0 false _ A20.out).mono ?_); rintro e w' ⟨rfl, ⟨nd, rfl⟩⟩; refine ⟨_, rfl, ?_⟩))
              go_ret
              exact ⟨by first | rfl | (simp [errW_none, errW_some] <;> rfl) | (simp [*, errW_none, errW_some] <;> rfl), by repeat (first | (with_reducible first | exact HB.out | apply below_alloc | apply pw_below_drewN | apply below_drew1) | exact HB.out)⟩
  · replace c5 := Bool.eq_false_iff.mpr c5
    subst c5
    have H1 : (some false) = some r := by rw [if_neg (show ¬ (false = true) by decide)] at H; exact H
    clear H
    have H := H1
    clear H1
    obtain rfl := Option.some.inj H
    go_enter Try.func4, Try.ntmps4
    go_wp2_with (first | ((with_reducible refine gate_callee (f := 8) rfl ?_); refine goesL_ (some 17) rfl rfl Try.func8 (by kernel_rfl) rfl #[] rfl (by (try simp only [List.map_toArray, List.map_cons, List.map_nil]); first | done | rfl | (simp only [List.length_drop, List.length_take]; rfl)) ?_; (with_reducible refine (horologelaw05_alive.calls k  false _ A4.out).mono ?_); rintro e w' ⟨rfl, ⟨nd, rfl⟩⟩; refine ⟨_, rfl, ?_⟩))
    go_ret
    exact ⟨by first | rfl | (simp [errW_none, errW_some] <;> rfl) | (simp [*, errW_none, errW_some] <;> rfl), by repeat (first | (with_reducible first | exact HB.out | apply below_alloc | apply pw_below_drewN | apply below_drew1) | exact HB.out)⟩

/-- THE ONE PURE STATEMENT of horologelaw05_DayDates: yours. -/
def horologelaw05_DayDates.Pure : Prop := ∀ (a0 : Int) (a1 : Int) (a2 : Int), (Lit.int .i64 a0).wf = true → (Lit.int .i64 a1).wf = true → (Lit.int .i64 a2).wf = true → ∃ k, horologelaw05_DayDates.f k a0 a1 a2 = some true
theorem horologelaw05_DayDates.walk (P : horologelaw05_DayDates.Pure) (a0 : Int) (a1 : Int) (a2 : Int) (w : World) (w0 : (Lit.int .i64 a0).wf = true) (w1 : (Lit.int .i64 a1).wf = true) (w2 : (Lit.int .i64 a2).wf = true) :
    Calls Try.prog 4 #[.int .i64 a0, .int .i64 a1, .int .i64 a2] w fun e w' => e = .returned (.bool true) ∧ Below w.heap.size w w' := by
  obtain ⟨k, h⟩ := P a0 a1 a2 w0 w1 w2
  refine (horologelaw05_DayDates.calls k a0 a1 a2 true w h).mono ?_
  rintro e w' ⟨rfl, hd⟩
  exact ⟨rfl, hd⟩

end Go.Proofs.Ytmgeiennacgleaa.MDayDates
