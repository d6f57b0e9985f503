-- This text was written by a program of this session (a changed scratch copy of a tool of the kit; NOTES.md tells the changes).
import Derived.Test.YtlhjgkfhjmjcgaaMMjdFivesx0
import Derived.Test.YtlhjgkfhjmjcgaaMMjdFivesx1
import Derived.Test.YtlhjgkfhjmjcgaaMMjdFivesx2
import Derived.Test.YtlhjgkfhjmjcgaaMMjdFivesx3
import Derived.Test.YtlhjgkfhjmjcgaaMMjdFivesx4
import Derived.Test.YtlhjgkfhjmjcgaaMMjdFivesx7
namespace Go.Proofs.Ytlhjgkfhjmjcgaa.MMjdFives
open Go.RowKit Go.Proofs.YtlhjgkfhjmjcgaaW.PrintWords Go.Proofs.YtlhjgkfhjmjcgaaW.PrintLast Go.Proofs.YtlhjgkfhjmjcgaaW.PrintMore
attribute [local go_sem] max2_int min2_int max_two min_two max_three min_three max_four min_four   -- for this text's walks alone
set_option linter.unusedVariables false
set_option linter.unusedSimpArgs false

/-! ### horologelaw07_MjdFives: function 4 -/
mutual
def horologelaw07_MjdFives.j0 : Nat → ByteArray → ByteArray → Option Int → Int → Int → Bool → Option (Bool)
  | 0, _, _, _, _, _, _ => none
  | k + 1, x1, x5, x6, x7, x8, x37 => if x37 = true then (horologelaw07_MjdFives.j1 k x1 x5 x6 x7 1) else (horologelaw07_MjdFives.j1 k x1 x5 x6 x7 x8)
def horologelaw07_MjdFives.j1 : Nat → ByteArray → ByteArray → Option Int → Int → Int → Option (Bool)
  | 0, _, _, _, _, _ => none
  | k + 1, x1, x5, x6, x7, x8 => if x8 = 0 then ((horologeref02_Raw.f k x7 5).bind fun t308 => (horologelaw07_MjdFives.j2 k x1 x5 x6 x8 t308)) else (horologelaw07_MjdFives.j2 k x1 x5 x6 x8 (⟨#[]⟩ : ByteArray))
def horologelaw07_MjdFives.j2 : Nat → ByteArray → ByteArray → Option Int → Int → ByteArray → Option (Bool)
  | 0, _, _, _, _, _ => none
  | k + 1, x1, x5, x6, x8, x9 => if x5.toList = x9.toList then ((horologenum_Num.f x6).bind fun t309 => (horologelaw07_MjdFives.j3 k x1 (t309 != x8))) else (horologelaw07_MjdFives.j3 k x1 true)
def horologelaw07_MjdFives.j3 : Nat → ByteArray → Bool → Option (Bool)
  | 0, _, _ => none
  | k + 1, x1, x50 => if x50 = true then (some false) else ((mjd_ParseFive.f k x1).bind fun bt310 => (if (x1.size : Int) = 5 then ((horologeref02_Many.f k x1).bind fun t312 => (horologelaw07_MjdFives.j4 k x1 bt310.2 bt310.1 (t312 != 5))) else (horologelaw07_MjdFives.j4 k x1 bt310.2 bt310.1 true)))
def horologelaw07_MjdFives.j4 : Nat → ByteArray → Option Int → Int → Bool → Option (Bool)
  | 0, _, _, _, _ => none
  | k + 1, x1, x6, x10, x63 => if x63 = true then (if x10 = 0 then ((horologenum_Is.f x6 2).bind fun t313 => (some t313)) else (some false)) else ((horologeref02_Whole.f k x1 5 5).bind fun bt314 => (if x6.isNone = true then (some (x10 == (wrap64 (bt314.1 - 40587)))) else (some false)))
end
def horologelaw07_MjdFives.f (k : Nat) (a0 : Int) (a1 : ByteArray) : Option (Bool) := (horologelaw07_alive.f).bind fun t303 => (if t303 = true then (if (a1.size : Int) > 100 then (some true) else ((mjd_Five.f k a0).bind fun bt304 => ((horologeref07_Count.f k 1 a0).bind fun bt306 => (if bt306.2 = 0 then (if bt306.1 < 0 then (horologelaw07_MjdFives.j0 k a1 bt304.1 bt304.2 bt306.1 bt306.2 true) else (horologelaw07_MjdFives.j0 k a1 bt304.1 bt304.2 bt306.1 bt306.2 (decide (bt306.1 > 99999)))) else (horologelaw07_MjdFives.j0 k a1 bt304.1 bt304.2 bt306.1 bt306.2 false))))) else (some false))
theorem horologelaw07_MjdFives.mono_l : ∀ k, (∀ y0 y1 y2 y3 y4 y5, LeO (horologelaw07_MjdFives.j0 k y0 y1 y2 y3 y4 y5) (horologelaw07_MjdFives.j0 (k + 1) y0 y1 y2 y3 y4 y5)) ∧ (∀ y0 y1 y2 y3 y4, LeO (horologelaw07_MjdFives.j1 k y0 y1 y2 y3 y4) (horologelaw07_MjdFives.j1 (k + 1) y0 y1 y2 y3 y4)) ∧ (∀ y0 y1 y2 y3 y4, LeO (horologelaw07_MjdFives.j2 k y0 y1 y2 y3 y4) (horologelaw07_MjdFives.j2 (k + 1) y0 y1 y2 y3 y4)) ∧ (∀ y0 y1, LeO (horologelaw07_MjdFives.j3 k y0 y1) (horologelaw07_MjdFives.j3 (k + 1) y0 y1)) ∧ (∀ y0 y1 y2 y3, LeO (horologelaw07_MjdFives.j4 k y0 y1 y2 y3) (horologelaw07_MjdFives.j4 (k + 1) y0 y1 y2 y3))
  | 0 => ⟨fun _ _ _ _ _ _ r h => by simp [horologelaw07_MjdFives.j0] at h, fun _ _ _ _ _ r h => by simp [horologelaw07_MjdFives.j1] at h, fun _ _ _ _ _ r h => by simp [horologelaw07_MjdFives.j2] at h, fun _ _ r h => by simp [horologelaw07_MjdFives.j3] at h, fun _ _ _ _ r h => by simp [horologelaw07_MjdFives.j4] at h⟩
  | k + 1 => by
    obtain ⟨ih0, ih1, ih2, ih3, ih4⟩ := horologelaw07_MjdFives.mono_l k
    refine ⟨?_, ?_, ?_, ?_, ?_⟩
    · intro y0 y1 y2 y3 y4 y5
      unfold horologelaw07_MjdFives.j0
      repeat' first
      | (with_reducible exact ih0 _ _ _ _ _ _)
      | (with_reducible exact ih1 _ _ _ _ _)
      | (with_reducible exact ih2 _ _ _ _ _)
      | (with_reducible exact ih3 _ _)
      | (with_reducible exact ih4 _ _ _ _)
      | (with_reducible exact horologeref02_Many.mono _ _)
      | (with_reducible exact horologeref02_Raw.mono _ _ _)
      | (with_reducible exact horologeref02_Whole.mono _ _ _ _)
      | (with_reducible exact horologeref07_Count.mono _ _ _)
      | (with_reducible exact mjd_Five.mono _ _)
      | (with_reducible exact mjd_ParseFive.mono _ _)
      | (with_reducible exact LeO.refl _)
      | (with_reducible exact LeO.none _)
      | (with_reducible refine LeO.ite ?_ ?_)
      | (with_reducible refine LeO.bind ?_ (fun _ => ?_))
      | exact ih0 _ _ _ _ _ _
      | exact ih1 _ _ _ _ _
      | exact ih2 _ _ _ _ _
      | exact ih3 _ _
      | exact ih4 _ _ _ _
      | exact horologeref02_Many.mono _ _
      | exact horologeref02_Raw.mono _ _ _
      | exact horologeref02_Whole.mono _ _ _ _
      | exact horologeref07_Count.mono _ _ _
      | exact mjd_Five.mono _ _
      | exact mjd_ParseFive.mono _ _
      | exact LeO.none _
      | refine LeO.ite ?_ ?_
      | refine LeO.bind ?_ (fun _ => ?_)
    · intro y0 y1 y2 y3 y4
      unfold horologelaw07_MjdFives.j1
      repeat' first
      | (with_reducible exact ih0 _ _ _ _ _ _)
      | (with_reducible exact ih1 _ _ _ _ _)
      | (with_reducible exact ih2 _ _ _ _ _)
      | (with_reducible exact ih3 _ _)
      | (with_reducible exact ih4 _ _ _ _)
      | (with_reducible exact horologeref02_Many.mono _ _)
      | (with_reducible exact horologeref02_Raw.mono _ _ _)
      | (with_reducible exact horologeref02_Whole.mono _ _ _ _)
      | (with_reducible exact horologeref07_Count.mono _ _ _)
      | (with_reducible exact mjd_Five.mono _ _)
      | (with_reducible exact mjd_ParseFive.mono _ _)
      | (with_reducible exact LeO.refl _)
      | (with_reducible exact LeO.none _)
      | (with_reducible refine LeO.ite ?_ ?_)
      | (with_reducible refine LeO.bind ?_ (fun _ => ?_))
      | exact ih0 _ _ _ _ _ _
      | exact ih1 _ _ _ _ _
      | exact ih2 _ _ _ _ _
      | exact ih3 _ _
      | exact ih4 _ _ _ _
      | exact horologeref02_Many.mono _ _
      | exact horologeref02_Raw.mono _ _ _
      | exact horologeref02_Whole.mono _ _ _ _
      | exact horologeref07_Count.mono _ _ _
      | exact mjd_Five.mono _ _
      | exact mjd_ParseFive.mono _ _
      | exact LeO.none _
      | refine LeO.ite ?_ ?_
      | refine LeO.bind ?_ (fun _ => ?_)
    · intro y0 y1 y2 y3 y4
      unfold horologelaw07_MjdFives.j2
      repeat' first
      | (with_reducible exact ih0 _ _ _ _ _ _)
      | (with_reducible exact ih1 _ _ _ _ _)
      | (with_reducible exact ih2 _ _ _ _ _)
      | (with_reducible exact ih3 _ _)
      | (with_reducible exact ih4 _ _ _ _)
      | (with_reducible exact horologeref02_Many.mono _ _)
      | (with_reducible exact horologeref02_Raw.mono _ _ _)
      | (with_reducible exact horologeref02_Whole.mono _ _ _ _)
      | (with_reducible exact horologeref07_Count.mono _ _ _)
      | (with_reducible exact mjd_Five.mono _ _)
      | (with_reducible exact mjd_ParseFive.mono _ _)
      | (with_reducible exact LeO.refl _)
      | (with_reducible exact LeO.none _)
      | (with_reducible refine LeO.ite ?_ ?_)
      | (with_reducible refine LeO.bind ?_ (fun _ => ?_))
      | exact ih0 _ _ _ _ _ _
      | exact ih1 _ _ _ _ _
      | exact ih2 _ _ _ _ _
      | exact ih3 _ _
      | exact ih4 _ _ _ _
      | exact horologeref02_Many.mono _ _
      | exact horologeref02_Raw.mono _ _ _
      | exact horologeref02_Whole.mono _ _ _ _
      | exact horologeref07_Count.mono _ _ _
      | exact mjd_Five.mono _ _
      | exact mjd_ParseFive.mono _ _
      | exact LeO.none _
      | refine LeO.ite ?_ ?_
      | refine LeO.bind ?_ (fun _ => ?_)
    · intro y0 y1
      unfold horologelaw07_MjdFives.j3
      repeat' first
      | (with_reducible exact ih0 _ _ _ _ _ _)
      | (with_reducible exact ih1 _ _ _ _ _)
      | (with_reducible exact ih2 _ _ _ _ _)
      | (with_reducible exact ih3 _ _)
      | (with_reducible exact ih4 _ _ _ _)
      | (with_reducible exact horologeref02_Many.mono _ _)
      | (with_reducible exact horologeref02_Raw.mono _ _ _)
      | (with_reducible exact horologeref02_Whole.mono _ _ _ _)
      | (with_reducible exact horologeref07_Count.mono _ _ _)
      | (with_reducible exact mjd_Five.mono _ _)
      | (with_reducible exact mjd_ParseFive.mono _ _)
      | (with_reducible exact LeO.refl _)
      | (with_reducible exact LeO.none _)
      | (with_reducible refine LeO.ite ?_ ?_)
      | (with_reducible refine LeO.bind ?_ (fun _ => ?_))
      | exact ih0 _ _ _ _ _ _
      | exact ih1 _ _ _ _ _
      | exact ih2 _ _ _ _ _
      | exact ih3 _ _
      | exact ih4 _ _ _ _
      | exact horologeref02_Many.mono _ _
      | exact horologeref02_Raw.mono _ _ _
      | exact horologeref02_Whole.mono _ _ _ _
      | exact horologeref07_Count.mono _ _ _
      | exact mjd_Five.mono _ _
      | exact mjd_ParseFive.mono _ _
      | exact LeO.none _
      | refine LeO.ite ?_ ?_
      | refine LeO.bind ?_ (fun _ => ?_)
    · intro y0 y1 y2 y3
      unfold horologelaw07_MjdFives.j4
      repeat' first
      | (with_reducible exact ih0 _ _ _ _ _ _)
      | (with_reducible exact ih1 _ _ _ _ _)
      | (with_reducible exact ih2 _ _ _ _ _)
      | (with_reducible exact ih3 _ _)
      | (with_reducible exact ih4 _ _ _ _)
      | (with_reducible exact horologeref02_Many.mono _ _)
      | (with_reducible exact horologeref02_Raw.mono _ _ _)
      | (with_reducible exact horologeref02_Whole.mono _ _ _ _)
      | (with_reducible exact horologeref07_Count.mono _ _ _)
      | (with_reducible exact mjd_Five.mono _ _)
      | (with_reducible exact mjd_ParseFive.mono _ _)
      | (with_reducible exact LeO.refl _)
      | (with_reducible exact LeO.none _)
      | (with_reducible refine LeO.ite ?_ ?_)
      | (with_reducible refine LeO.bind ?_ (fun _ => ?_))
      | exact ih0 _ _ _ _ _ _
      | exact ih1 _ _ _ _ _
      | exact ih2 _ _ _ _ _
      | exact ih3 _ _
      | exact ih4 _ _ _ _
      | exact horologeref02_Many.mono _ _
      | exact horologeref02_Raw.mono _ _ _
      | exact horologeref02_Whole.mono _ _ _ _
      | exact horologeref07_Count.mono _ _ _
      | exact mjd_Five.mono _ _
      | exact mjd_ParseFive.mono _ _
      | exact LeO.none _
      | refine LeO.ite ?_ ?_
      | refine LeO.bind ?_ (fun _ => ?_)
theorem horologelaw07_MjdFives.mono : ∀ a0 a1 k, LeO (horologelaw07_MjdFives.f k a0 a1) (horologelaw07_MjdFives.f (k + 1) a0 a1) := by
  intro a0 a1 k
  obtain ⟨ih0, ih1, ih2, ih3, ih4⟩ := horologelaw07_MjdFives.mono_l k
  unfold horologelaw07_MjdFives.f
  repeat' first
      | (with_reducible exact ih0 _ _ _ _ _ _)
      | (with_reducible exact ih1 _ _ _ _ _)
      | (with_reducible exact ih2 _ _ _ _ _)
      | (with_reducible exact ih3 _ _)
      | (with_reducible exact ih4 _ _ _ _)
      | (with_reducible exact horologeref02_Many.mono _ _)
      | (with_reducible exact horologeref02_Raw.mono _ _ _)
      | (with_reducible exact horologeref02_Whole.mono _ _ _ _)
      | (with_reducible exact horologeref07_Count.mono _ _ _)
      | (with_reducible exact mjd_Five.mono _ _)
      | (with_reducible exact mjd_ParseFive.mono _ _)
      | (with_reducible exact LeO.refl _)
      | (with_reducible exact LeO.none _)
      | (with_reducible refine LeO.ite ?_ ?_)
      | (with_reducible refine LeO.bind ?_ (fun _ => ?_))
      | exact ih0 _ _ _ _ _ _
      | exact ih1 _ _ _ _ _
      | exact ih2 _ _ _ _ _
      | exact ih3 _ _
      | exact ih4 _ _ _ _
      | exact horologeref02_Many.mono _ _
      | exact horologeref02_Raw.mono _ _ _
      | exact horologeref02_Whole.mono _ _ _ _
      | exact horologeref07_Count.mono _ _ _
      | exact mjd_Five.mono _ _
      | exact mjd_ParseFive.mono _ _
      | exact LeO.none _
      | refine LeO.ite ?_ ?_
      | refine LeO.bind ?_ (fun _ => ?_)
set_option maxHeartbeats 8000000 in
set_option maxRecDepth 100000 in
theorem horologelaw07_MjdFives.calls (k : Nat) (a0 : Int) (a1 : ByteArray) (r : Bool) (w : World) (h : horologelaw07_MjdFives.f k a0 a1 = some r) :
    Calls Try.prog 4 #[.int .i64 a0, .string a1] w fun e w' => e = .returned (.bool r) ∧ Below w.heap.size w w' := by
  have hu24 := Try.underlying24
  have hu42 := Try.underlying42
  have HB := Aside0.mk (Below.refl w.heap.size w)
  have H : ((horologelaw07_alive.f).bind fun t303 => (if t303 = true then (if (a1.size : Int) > 100 then (some true) else ((mjd_Five.f k a0).bind fun bt304 => ((horologeref07_Count.f k 1 a0).bind fun bt306 => (if bt306.2 = 0 then (if bt306.1 < 0 then (horologelaw07_MjdFives.j0 k a1 bt304.1 bt304.2 bt306.1 bt306.2 true) else (horologelaw07_MjdFives.j0 k a1 bt304.1 bt304.2 bt306.1 bt306.2 (decide (bt306.1 > 99999)))) else (horologelaw07_MjdFives.j0 k a1 bt304.1 bt304.2 bt306.1 bt306.2 false))))) else (some false))) = some r := h
  clear h
  replace H := Option.bind_eq_some_iff.mp H
  obtain ⟨t303, A30, H⟩ := H
  replace H : (if t303 = true then (if (a1.size : Int) > 100 then (some true) else ((mjd_Five.f k a0).bind fun bt304 => ((horologeref07_Count.f k 1 a0).bind fun bt306 => (if bt306.2 = 0 then (if bt306.1 < 0 then (horologelaw07_MjdFives.j0 k a1 bt304.1 bt304.2 bt306.1 bt306.2 true) else (horologelaw07_MjdFives.j0 k a1 bt304.1 bt304.2 bt306.1 bt306.2 (decide (bt306.1 > 99999)))) else (horologelaw07_MjdFives.j0 k a1 bt304.1 bt304.2 bt306.1 bt306.2 false))))) else (some false)) = some r := H
  have A3 := Aside0.mk A30
  clear A30
  by_cases c4 : t303 = true
  · subst c4
    have H1 : (if (a1.size : Int) > 100 then (some true) else ((mjd_Five.f k a0).bind fun bt304 => ((horologeref07_Count.f k 1 a0).bind fun bt306 => (if bt306.2 = 0 then (if bt306.1 < 0 then (horologelaw07_MjdFives.j0 k a1 bt304.1 bt304.2 bt306.1 bt306.2 true) else (horologelaw07_MjdFives.j0 k a1 bt304.1 bt304.2 bt306.1 bt306.2 (decide (bt306.1 > 99999)))) else (horologelaw07_MjdFives.j0 k a1 bt304.1 bt304.2 bt306.1 bt306.2 false))))) = some r := by rw [if_pos rfl] at H; exact H
    clear H
    have H := H1
    clear H1
    by_cases c5 : (a1.size : Int) > 100
    · rw [if_pos c5] at H
      have c5b0 : decide (100 < (a1.size : Int)) = true := decide_eq_true c5
      have c5b1 : decide (100 < a1.size) = true := decide_eq_true (by omega)
      clear c5
      obtain rfl := Option.some.inj H
      go_enter Try.func4, Try.ntmps4
      go_wp2_with (first | ((with_reducible refine gate_callee (f := 7) rfl ?_); refine goesL_ (some 13) rfl rfl Try.func7 (by kernel_rfl) rfl #[] rfl (by (try simp only [List.map_toArray, List.map_cons, List.map_nil]); first | done | rfl | (simp only [List.length_drop, List.length_take]; rfl) | (refine congrArg (fun z_ => #[Value.int IntKind.i64 z_]) (?_ : Go.RowKit.wrap64 (IntKind.u8.wrap _) = _); rw [IntKind.wrap_u8]; unfold Go.RowKit.wrap64; omega)) ?_; (with_reducible refine (horologelaw07_alive.calls  true _ A3.out).mono ?_); rintro e w' ⟨rfl, ⟨nd, rfl⟩⟩; refine ⟨_, rfl, ?_⟩))
      go_ret
      exact ⟨by first | rfl | (simp [errW_none, errW_some] <;> rfl) | (simp [*, errW_none, errW_some] <;> rfl), by repeat (first | (with_reducible first | exact HB.out | apply below_alloc | apply pw_below_drewN | apply below_drew1) | exact HB.out)⟩
    · rw [if_neg c5] at H
      have c5b0 : decide (100 < (a1.size : Int)) = false := decide_eq_false c5
      have c5b1 : decide (100 < a1.size) = false := decide_eq_false (by omega)
      clear c5
      replace H := Option.bind_eq_some_iff.mp H
      obtain ⟨⟨t304, t305⟩, A60, H⟩ := H
      replace H : ((horologeref07_Count.f k 1 a0).bind fun bt306 => (if bt306.2 = 0 then (if bt306.1 < 0 then (horologelaw07_MjdFives.j0 k a1 t304 t305 bt306.1 bt306.2 true) else (horologelaw07_MjdFives.j0 k a1 t304 t305 bt306.1 bt306.2 (decide (bt306.1 > 99999)))) else (horologelaw07_MjdFives.j0 k a1 t304 t305 bt306.1 bt306.2 false))) = some r := H
      have A6 := Aside0.mk A60
      clear A60
      replace H := Option.bind_eq_some_iff.mp H
      obtain ⟨⟨t306, t307⟩, A70, H⟩ := H
      replace H : (if t307 = 0 then (if t306 < 0 then (horologelaw07_MjdFives.j0 k a1 t304 t305 t306 t307 true) else (horologelaw07_MjdFives.j0 k a1 t304 t305 t306 t307 (decide (t306 > 99999)))) else (horologelaw07_MjdFives.j0 k a1 t304 t305 t306 t307 false)) = some r := H
      have A7 := Aside0.mk A70
      clear A70
      have HC8 := Aside0.mk H
      clear H
      go_enter Try.func4, Try.ntmps4
      go_upto_region 7 with (first | ((with_reducible refine gate_callee (f := 7) rfl ?_); refine goesL_ (some 13) rfl rfl Try.func7 (by kernel_rfl) rfl #[] rfl (by (try simp only [List.map_toArray, List.map_cons, List.map_nil]); first | done | rfl | (simp only [List.length_drop, List.length_take]; rfl) | (refine congrArg (fun z_ => #[Value.int IntKind.i64 z_]) (?_ : Go.RowKit.wrap64 (IntKind.u8.wrap _) = _); rw [IntKind.wrap_u8]; unfold Go.RowKit.wrap64; omega)) ?_; (with_reducible refine (horologelaw07_alive.calls  true _ A3.out).mono ?_); rintro e w' ⟨rfl, ⟨nd, rfl⟩⟩; refine ⟨_, rfl, ?_⟩) | ((with_reducible refine gate_callee (f := 14) rfl ?_); refine goesL_ (some 20) rfl rfl Try.func14 (by kernel_rfl) rfl #[.int .i64 a0] rfl (by (try simp only [List.map_toArray, List.map_cons, List.map_nil]); first | done | rfl | (simp only [List.length_drop, List.length_take]; rfl) | (refine congrArg (fun z_ => #[Value.int IntKind.i64 z_]) (?_ : Go.RowKit.wrap64 (IntKind.u8.wrap _) = _); rw [IntKind.wrap_u8]; unfold Go.RowKit.wrap64; omega)) ?_; (with_reducible refine (mjd_Five.calls k a0 t304 t305 _ A6.out).mono ?_); rintro e w9 ⟨rfl, hb⟩; refine ⟨_, rfl, ?_⟩; have n0_ := Aside0.mk (below_step (by repeat (first | (with_reducible first | exact HB.out | apply below_alloc | apply pw_below_drewN | apply below_drew1) | exact HB.out)) hb); clear HB; have HB := n0_; clear n0_; (try clear hb); (try clear hb2); (try clear hk); (try clear hi); (try simp only [errW_none, errW_some])) | ((with_reducible refine gate_callee (f := 10) rfl ?_); refine goesL_ (some 25) rfl rfl Try.func10 (by kernel_rfl) rfl #[.int .i64 1, .int .i64 a0] rfl (by (try simp only [List.map_toArray, List.map_cons, List.map_nil]); first | done | rfl | (simp only [List.length_drop, List.length_take]; rfl) | (refine congrArg (fun z_ => #[Value.int IntKind.i64 z_]) (?_ : Go.RowKit.wrap64 (IntKind.u8.wrap _) = _); rw [IntKind.wrap_u8]; unfold Go.RowKit.wrap64; omega)) ?_; (with_reducible refine (horologeref07_Count.calls k 1 a0 t306 t307 _ A7.out).mono ?_); rintro e w10 ⟨rfl, hb⟩; refine ⟨_, rfl, ?_⟩; have n0_ := Aside0.mk (below_step (by repeat (first | (with_reducible first | exact HB.out | apply below_alloc | apply pw_below_drewN | apply below_drew1) | exact HB.out)) hb); clear HB; have HB := n0_; clear n0_; (try clear hb); (try clear hb2); (try clear hk); (try clear hi)))
      (try simp only [Act.put, List.setIfInBounds_toArray, List.set_cons_zero, List.set_cons_succ])
      go_cut [37] (fun v37 wc => ∃ (kq : Nat) (x37_7 : Bool), v37 = .bool x37_7 ∧ Aside0 (horologelaw07_MjdFives.j0 kq a1 t304 t305 t306 t307 x37_7 = some r) ∧ Aside0 (kq ≤ k) ∧ Aside0 (Below w.heap.size w wc))
      case first =>
        have H := HC8.out
        clear HC8
        by_cases c11 : t307 = 0
        · rw [if_pos c11] at H
          have c11b0 : (t307 == 0) = true := beq_iff_eq.mpr c11
          have c11b1 : (t307 != 0) = false := bne_eq_false_iff_eq.mpr c11
          clear c11
          (first | rw [c11b0] | (simp only [i64_w, i32_w]; rw [c11b0]) | skip)
          by_cases c12 : t306 < 0
          · rw [if_pos c12] at H
            have c12b0 : decide (t306 < 0) = true := decide_eq_true c12
            clear c12
            have H' := Aside0.mk H
            clear H
            go_wp2
            go_meet
            case rel => exact ⟨_, (true), (by first | rfl | (simp; done) | (simp [*]; done)), H', ⟨by first | omega | exact Nat.le_refl _⟩, ⟨by repeat (first | (with_reducible first | exact HB.out | apply below_alloc | apply pw_below_drewN | apply below_drew1) | exact HB.out)⟩⟩
          · rw [if_neg c12] at H
            have c12b0 : decide (t306 < 0) = false := decide_eq_false c12
            clear c12
            have H' := Aside0.mk H
            clear H
            go_wp2
            go_meet
            case rel => exact ⟨_, (decide (t306 > 99999)), (by first | rfl | (simp; done) | (simp [*]; done)), H', ⟨by first | omega | exact Nat.le_refl _⟩, ⟨by repeat (first | (with_reducible first | exact HB.out | apply below_alloc | apply pw_below_drewN | apply below_drew1) | exact HB.out)⟩⟩
        · rw [if_neg c11] at H
          have c11b0 : (t307 == 0) = false := beq_eq_false_iff_ne.mpr c11
          have c11b1 : (t307 != 0) = true := bne_iff_ne.mpr c11
          (first | rw [c11b0] | (simp only [i64_w, i32_w]; rw [c11b0]) | skip)
          have H' := Aside0.mk H
          clear H
          go_wp2
          go_meet
          case rel => exact ⟨_, (false), (by first | rfl | (simp; done) | (simp [*]; done)), H', ⟨by first | omega | exact Nat.le_refl _⟩, ⟨by repeat (first | (with_reducible first | exact HB.out | apply below_alloc | apply pw_below_drewN | apply below_drew1) | exact HB.out)⟩⟩
      case rest =>
        clear HC8
        try clear c1
        try clear p2
        try clear c4
        try clear c5
        try clear c5b0
        try clear c5b1
        try clear p6
        try clear c7
        try clear c10
        try clear c11
        try clear c11b0
        try clear c11b1
        try clear c12
        try clear c12b0
        obtain ⟨kq, x37_7, rfl, HA, HJ7, HB⟩ := hcut
        cases kq with
        | zero => exact absurd HA.out (by simp [horologelaw07_MjdFives.j0])
        | succ kj7 =>
          have H := HA.out
          clear HA
          simp only [horologelaw07_MjdFives.j0] at H
          have HC13 := Aside0.mk H
          clear H
          go_upto_if 37 with (fail)
          go_cut [8] (fun v8 wc => ∃ (kq : Nat) (x8_12 : Int), v8 = .int .i64 x8_12 ∧ Aside0 (horologelaw07_MjdFives.j1 kq a1 t304 t305 t306 x8_12 = some r) ∧ Aside0 (kq ≤ kj7) ∧ Aside0 (Below w.heap.size w wc))
          case first =>
            have H := HC13.out
            clear HC13
            by_cases c14 : x37_7 = true
            · subst c14
              have H1 : (horologelaw07_MjdFives.j1 kj7 a1 t304 t305 t306 1) = some r := by rw [if_pos rfl] at H; exact H
              clear H
              have H := H1
              clear H1
              have H' := Aside0.mk H
              clear H
              go_wp2
              go_meet
              case rel => exact ⟨_, (1), (by first | rfl | (simp; done) | (simp [*]; done)), H', ⟨by have := HJ7.out; first | omega | exact Nat.le_refl _⟩, ⟨by repeat (first | (with_reducible first | exact HB.out | apply below_alloc | apply pw_below_drewN | apply below_drew1) | exact HB.out)⟩⟩
            · replace c14 := Bool.eq_false_iff.mpr c14
              subst c14
              have H1 : (horologelaw07_MjdFives.j1 kj7 a1 t304 t305 t306 t307) = some r := by rw [if_neg (show ¬ (false = true) by decide)] at H; exact H
              clear H
              have H := H1
              clear H1
              have H' := Aside0.mk H
              clear H
              go_wp2
              go_meet
              case rel => exact ⟨_, (t307), (by first | rfl | (simp; done) | (simp [*]; done)), H', ⟨by have := HJ7.out; first | omega | exact Nat.le_refl _⟩, ⟨by repeat (first | (with_reducible first | exact HB.out | apply below_alloc | apply pw_below_drewN | apply below_drew1) | exact HB.out)⟩⟩
          case rest =>
            clear HC13
            try clear c1
            try clear p2
            try clear c4
            try clear c5
            try clear c5b0
            try clear c5b1
            try clear p6
            try clear c7
            try clear c10
            try clear c11
            try clear c11b0
            try clear c11b1
            try clear c12
            try clear c12b0
            try clear c14
            try clear p2
            try clear p6
            obtain ⟨kq, x8_12, rfl, HA, HJ12, HB⟩ := hcut
            cases kq with
            | zero => exact absurd HA.out (by simp [horologelaw07_MjdFives.j1])
            | succ kj12 =>
              have H := HA.out
              clear HA
              simp only [horologelaw07_MjdFives.j1] at H
              have HC15 := Aside0.mk H
              clear H
              go_upto_if 39 with (fail)
              go_cut [9] (fun v9 wc => ∃ (kq : Nat) (x9_14 : ByteArray), v9 = .string x9_14 ∧ Aside0 (horologelaw07_MjdFives.j2 kq a1 t304 t305 x8_12 x9_14 = some r) ∧ Aside0 (kq ≤ kj12) ∧ Aside0 (Below w.heap.size w wc))
              case first =>
                have H := HC15.out
                clear HC15
                by_cases c16 : x8_12 = 0
                · rw [if_pos c16] at H
                  have c16b0 : (x8_12 == 0) = true := beq_iff_eq.mpr c16
                  have c16b1 : (x8_12 != 0) = false := bne_eq_false_iff_eq.mpr c16
                  clear c16
                  (first | rw [c16b0] | (simp only [i64_w, i32_w]; rw [c16b0]) | skip)
                  replace H := Option.bind_eq_some_iff.mp H
                  obtain ⟨t308, A170, H⟩ := H
                  replace H : (horologelaw07_MjdFives.j2 kj12 a1 t304 t305 x8_12 t308) = some r := H
                  have A17 := Aside0.mk A170
                  clear A170
                  have H' := Aside0.mk H
                  clear H
                  go_wp2_with (first | ((with_reducible refine gate_callee (f := 15) rfl ?_); refine goesL_ (some 41) rfl rfl Try.func15 (by kernel_rfl) rfl #[.int .i64 t306, .int .i64 5] rfl (by (try simp only [List.map_toArray, List.map_cons, List.map_nil]); first | done | rfl | (simp only [List.length_drop, List.length_take]; rfl) | (refine congrArg (fun z_ => #[Value.int IntKind.i64 z_]) (?_ : Go.RowKit.wrap64 (IntKind.u8.wrap _) = _); rw [IntKind.wrap_u8]; unfold Go.RowKit.wrap64; omega)) ?_; (with_reducible refine (horologeref02_Raw.calls kj12 t306 5 t308 _ A17.out).mono ?_); rintro e w18 ⟨rfl, hb⟩; refine ⟨_, rfl, ?_⟩; have n0_ := Aside0.mk (below_step (by repeat (first | (with_reducible first | exact HB.out | apply below_alloc | apply pw_below_drewN | apply below_drew1) | exact HB.out)) hb); clear HB; have HB := n0_; clear n0_; (try clear hb); (try clear hb2); (try clear hk); (try clear hi)))
                  go_meet
                  case rel => exact ⟨_, (t308), (by first | rfl | (simp; done) | (simp [*]; done)), H', ⟨by have := HJ7.out; have := HJ12.out; first | omega | exact Nat.le_refl _⟩, ⟨by repeat (first | (with_reducible first | exact HB.out | apply below_alloc | apply pw_below_drewN | apply below_drew1) | exact HB.out)⟩⟩
                · rw [if_neg c16] at H
                  have c16b0 : (x8_12 == 0) = false := beq_eq_false_iff_ne.mpr c16
                  have c16b1 : (x8_12 != 0) = true := bne_iff_ne.mpr c16
                  (first | rw [c16b0] | (simp only [i64_w, i32_w]; rw [c16b0]) | skip)
                  have H' := Aside0.mk H
                  clear H
                  go_wp2
                  go_meet
                  case rel => exact ⟨_, ((⟨#[]⟩ : ByteArray)), (by first | rfl | (simp; done) | (simp [*]; done)), H', ⟨by have := HJ7.out; have := HJ12.out; first | omega | exact Nat.le_refl _⟩, ⟨by repeat (first | (with_reducible first | exact HB.out | apply below_alloc | apply pw_below_drewN | apply below_drew1) | exact HB.out)⟩⟩
              case rest =>
                clear HC15
                try clear c1
                try clear p2
                try clear c4
                try clear c5
                try clear c5b0
                try clear c5b1
                try clear p6
                try clear c7
                try clear c10
                try clear c11
                try clear c11b0
                try clear c11b1
                try clear c12
                try clear c12b0
                try clear c14
                try clear c15
                try clear c16
                try clear c16b0
                try clear c16b1
                try clear p2
                try clear p6
                obtain ⟨kq, x9_14, rfl, HA, HJ14, HB⟩ := hcut
                cases kq with
                | zero => exact absurd HA.out (by simp [horologelaw07_MjdFives.j2])
                | succ kj14 =>
                  have H := HA.out
                  clear HA
                  simp only [horologelaw07_MjdFives.j2] at H
                  have HC19 := Aside0.mk H
                  clear H
                  go_upto_region 12 with (fail)
                  go_cut [50] (fun v50 wc => ∃ (kq : Nat) (x50_18 : Bool), v50 = .bool x50_18 ∧ Aside0 (horologelaw07_MjdFives.j3 kq a1 x50_18 = some r) ∧ Aside0 (kq ≤ kj14) ∧ Aside0 (Below w.heap.size w wc))
                  case first =>
                    have H := HC19.out
                    clear HC19
                    by_cases c20 : t304.toList = x9_14.toList
                    · rw [if_pos c20] at H
                      have c20b0 : (t304.toList == x9_14.toList) = true := beq_iff_eq.mpr c20
                      have c20b1 : (t304.toList != x9_14.toList) = false := bne_eq_false_iff_eq.mpr c20
                      clear c20
                      (first | rw [c20b0] | (simp only [i64_w, i32_w]; rw [c20b0]) | skip)
                      replace H := Option.bind_eq_some_iff.mp H
                      obtain ⟨t309, A210, H⟩ := H
                      replace H : (horologelaw07_MjdFives.j3 kj14 a1 (t309 != x8_12)) = some r := H
                      have A21 := Aside0.mk A210
                      clear A210
                      have H' := Aside0.mk H
                      clear H
                      have CA21 := fun W => horologenum_Num.calls t305 t309 W A21.out
                      try simp only [errW_none, errW_some] at CA21
                      go_wp2_with (first | (go_at_call 12; (with_reducible refine (CA21 _).mono ?_); rintro e w' ⟨rfl, ⟨nd, rfl⟩⟩))
                      go_meet
                      case rel => exact ⟨_, ((t309 != x8_12)), (by first | rfl | (simp; done) | (simp [*]; done)), H', ⟨by have := HJ7.out; have := HJ12.out; have := HJ14.out; first | omega | exact Nat.le_refl _⟩, ⟨by repeat (first | (with_reducible first | exact HB.out | apply below_alloc | apply pw_below_drewN | apply below_drew1) | exact HB.out)⟩⟩
                    · rw [if_neg c20] at H
                      have c20b0 : (t304.toList == x9_14.toList) = false := beq_eq_false_iff_ne.mpr c20
                      have c20b1 : (t304.toList != x9_14.toList) = true := bne_iff_ne.mpr c20
                      (first | rw [c20b0] | (simp only [i64_w, i32_w]; rw [c20b0]) | skip)
                      have H' := Aside0.mk H
                      clear H
                      go_wp2
                      go_meet
                      case rel => exact ⟨_, (true), (by first | rfl | (simp; done) | (simp [*]; done)), H', ⟨by have := HJ7.out; have := HJ12.out; have := HJ14.out; first | omega | exact Nat.le_refl _⟩, ⟨by repeat (first | (with_reducible first | exact HB.out | apply below_alloc | apply pw_below_drewN | apply below_drew1) | exact HB.out)⟩⟩
                  case rest =>
                    clear HC19
                    try clear c1
                    try clear c2
                    try clear p2
                    try clear c4
                    try clear c5
                    try clear c5b0
                    try clear c5b1
                    try clear p6
                    try clear c7
                    try clear c10
                    try clear c11
                    try clear c11b0
                    try clear c11b1
                    try clear c12
                    try clear c12b0
                    try clear c14
                    try clear c15
                    try clear c16
                    try clear c16b0
                    try clear c16b1
                    try clear c20
                    try clear c20b0
                    try clear c20b1
                    try clear p2
                    try clear p6
                    obtain ⟨kq, x50_18, rfl, HA, HJ18, HB⟩ := hcut
                    cases kq with
                    | zero => exact absurd HA.out (by simp [horologelaw07_MjdFives.j3])
                    | succ kj18 =>
                      have H := HA.out
                      clear HA
                      simp only [horologelaw07_MjdFives.j3] at H
                      by_cases c22 : x50_18 = true
                      · subst c22
                        have H1 : (some false) = some r := by rw [if_pos rfl] at H; exact H
                        clear H
                        have H := H1
                        clear H1
                        obtain rfl := Option.some.inj H
                        go_wp2
                        go_ret
                        exact ⟨by first | rfl | (simp [errW_none, errW_some] <;> rfl) | (simp [*, errW_none, errW_some] <;> rfl), by repeat (first | (with_reducible first | exact HB.out | apply below_alloc | apply pw_below_drewN | apply below_drew1) | exact HB.out)⟩
                      · replace c22 := Bool.eq_false_iff.mpr c22
                        subst c22
                        have H1 : ((mjd_ParseFive.f kj18 a1).bind fun bt310 => (if (a1.size : Int) = 5 then ((horologeref02_Many.f kj18 a1).bind fun t312 => (horologelaw07_MjdFives.j4 kj18 a1 bt310.2 bt310.1 (t312 != 5))) else (horologelaw07_MjdFives.j4 kj18 a1 bt310.2 bt310.1 true))) = some r := by rw [if_neg (show ¬ (false = true) by decide)] at H; exact H
                        clear H
                        have H := H1
                        clear H1
                        replace H := Option.bind_eq_some_iff.mp H
                        obtain ⟨⟨t310, t311⟩, A230, H⟩ := H
                        replace H : (if (a1.size : Int) = 5 then ((horologeref02_Many.f kj18 a1).bind fun t312 => (horologelaw07_MjdFives.j4 kj18 a1 t311 t310 (t312 != 5))) else (horologelaw07_MjdFives.j4 kj18 a1 t311 t310 true)) = some r := H
                        have A23 := Aside0.mk A230
                        clear A230
                        have HC24 := Aside0.mk H
                        clear H
                        go_upto_region 15 with (first | ((with_reducible refine gate_callee (f := 16) rfl ?_); refine goesL_ (some 53) rfl rfl Try.func16 (by kernel_rfl) rfl #[.string a1] rfl (by (try simp only [List.map_toArray, List.map_cons, List.map_nil]); first | done | rfl | (simp only [List.length_drop, List.length_take]; rfl) | (refine congrArg (fun z_ => #[Value.int IntKind.i64 z_]) (?_ : Go.RowKit.wrap64 (IntKind.u8.wrap _) = _); rw [IntKind.wrap_u8]; unfold Go.RowKit.wrap64; omega)) ?_; (with_reducible refine (mjd_ParseFive.calls kj18 a1 t310 t311 _ A23.out).mono ?_); rintro e w25 ⟨rfl, hb⟩; refine ⟨_, rfl, ?_⟩; have n0_ := Aside0.mk (below_step (by repeat (first | (with_reducible first | exact HB.out | apply below_alloc | apply pw_below_drewN | apply below_drew1) | exact HB.out)) hb); clear HB; have HB := n0_; clear n0_; (try clear hb); (try clear hb2); (try clear hk); (try clear hi); (try simp only [errW_none, errW_some])))
                        (try simp only [Act.put, List.setIfInBounds_toArray, List.set_cons_zero, List.set_cons_succ])
                        go_cut [63] (fun v63 wc => ∃ (kq : Nat) (x63_23 : Bool), v63 = .bool x63_23 ∧ Aside0 (horologelaw07_MjdFives.j4 kq a1 t311 t310 x63_23 = some r) ∧ Aside0 (kq ≤ kj18) ∧ Aside0 (Below w.heap.size w wc))
                        case first =>
                          have H := HC24.out
                          clear HC24
                          by_cases c26 : (a1.size : Int) = 5
                          · rw [if_pos c26] at H
                            have c26b0 : ((a1.size : Int) == 5) = true := beq_iff_eq.mpr c26
                            have c26b1 : ((a1.size : Int) != 5) = false := bne_eq_false_iff_eq.mpr c26
                            clear c26
                            (first | rw [c26b0] | (simp only [i64_w, i32_w]; rw [c26b0]) | skip)
                            replace H := Option.bind_eq_some_iff.mp H
                            obtain ⟨t312, A270, H⟩ := H
                            replace H : (horologelaw07_MjdFives.j4 kj18 a1 t311 t310 (t312 != 5)) = some r := H
                            have A27 := Aside0.mk A270
                            clear A270
                            have H' := Aside0.mk H
                            clear H
                            go_wp2_with (first | (go_at_call 17; (with_reducible refine (horologeref02_Many.calls kj18 a1 t312 _ A27.out).mono ?_); rintro e w' ⟨rfl, ⟨nd, rfl⟩⟩))
                            go_meet
                            case rel => exact ⟨_, ((t312 != 5)), (by first | rfl | (simp; done) | (simp [*]; done)), H', ⟨by have := HJ7.out; have := HJ12.out; have := HJ14.out; have := HJ18.out; first | omega | exact Nat.le_refl _⟩, ⟨by repeat (first | (with_reducible first | exact HB.out | apply below_alloc | apply pw_below_drewN | apply below_drew1) | exact HB.out)⟩⟩
                          · rw [if_neg c26] at H
                            have c26b0 : ((a1.size : Int) == 5) = false := beq_eq_false_iff_ne.mpr c26
                            have c26b1 : ((a1.size : Int) != 5) = true := bne_iff_ne.mpr c26
                            (first | rw [c26b0] | (simp only [i64_w, i32_w]; rw [c26b0]) | skip)
                            have H' := Aside0.mk H
                            clear H
                            go_wp2
                            go_meet
                            case rel => exact ⟨_, (true), (by first | rfl | (simp; done) | (simp [*]; done)), H', ⟨by have := HJ7.out; have := HJ12.out; have := HJ14.out; have := HJ18.out; first | omega | exact Nat.le_refl _⟩, ⟨by repeat (first | (with_reducible first | exact HB.out | apply below_alloc | apply pw_below_drewN | apply below_drew1) | exact HB.out)⟩⟩
                        case rest =>
                          clear HC24
                          try clear c1
                          try clear c2
                          try clear p2
                          try clear c4
                          try clear c5
                          try clear c5b0
                          try clear c5b1
                          try clear p6
                          try clear c7
                          try clear c10
                          try clear c11
                          try clear c11b0
                          try clear c11b1
                          try clear c12
                          try clear c12b0
                          try clear c14
                          try clear c15
                          try clear c16
                          try clear c16b0
                          try clear c16b1
                          try clear c20
                          try clear c20b0
                          try clear c20b1
                          try clear c22
                          try clear c26
                          try clear c26b0
                          try clear c26b1
                          try clear p2
                          try clear p6
                          obtain ⟨kq, x63_23, rfl, HA, HJ23, HB⟩ := hcut
                          cases kq with
                          | zero => exact absurd HA.out (by simp [horologelaw07_MjdFives.j4])
                          | succ kj23 =>
                            have H := HA.out
                            clear HA
                            simp only [horologelaw07_MjdFives.j4] at H
                            by_cases c28 : x63_23 = true
                            · subst c28
                              have H1 : (if t310 = 0 then ((horologenum_Is.f t311 2).bind fun t313 => (some t313)) else (some false)) = some r := by rw [if_pos rfl] at H; exact H
                              clear H
                              have H := H1
                              clear H1
                              by_cases c29 : t310 = 0
                              · rw [if_pos c29] at H
                                have c29b0 : (t310 == 0) = true := beq_iff_eq.mpr c29
                                have c29b1 : (t310 != 0) = false := bne_eq_false_iff_eq.mpr c29
                                clear c29
                                replace H := Option.bind_eq_some_iff.mp H
                                obtain ⟨t313, A300, H⟩ := H
                                replace H : (some t313) = some r := H
                                have A30 := Aside0.mk A300
                                clear A300
                                obtain rfl := Option.some.inj H
                                have CA30 := fun W => horologenum_Is.calls t311 2 t313 W A30.out
                                try simp only [errW_none, errW_some] at CA30
                                go_wp2_with (first | (go_at_call 18; (with_reducible refine (CA30 _).mono ?_); rintro e w' ⟨rfl, ⟨nd, rfl⟩⟩))
                                go_ret
                                exact ⟨by first | rfl | (simp [errW_none, errW_some] <;> rfl) | (simp [*, errW_none, errW_some] <;> rfl), by repeat (first | (with_reducible first | exact HB.out | apply below_alloc | apply pw_below_drewN | apply below_drew1) | exact HB.out)⟩
                              · rw [if_neg c29] at H
                                have c29b0 : (t310 == 0) = false := beq_eq_false_iff_ne.mpr c29
                                have c29b1 : (t310 != 0) = true := bne_iff_ne.mpr c29
                                obtain rfl := Option.some.inj H
                                go_wp2
                                go_ret
                                exact ⟨by first | rfl | (simp [errW_none, errW_some] <;> rfl) | (simp [*, errW_none, errW_some] <;> rfl), by repeat (first | (with_reducible first | exact HB.out | apply below_alloc | apply pw_below_drewN | apply below_drew1) | exact HB.out)⟩
                            · replace c28 := Bool.eq_false_iff.mpr c28
                              subst c28
                              have H1 : ((horologeref02_Whole.f kj23 a1 5 5).bind fun bt314 => (if t311.isNone = true then (some (t310 == (wrap64 (bt314.1 - 40587)))) else (some false))) = some r := by rw [if_neg (show ¬ (false = true) by decide)] at H; exact H
                              clear H
                              have H := H1
                              clear H1
                              replace H := Option.bind_eq_some_iff.mp H
                              obtain ⟨⟨t314, t315⟩, A310, H⟩ := H
                              replace H : (if t311.isNone = true then (some (t310 == (wrap64 (t314 - 40587)))) else (some false)) = some r := H
                              have A31 := Aside0.mk A310
                              clear A310
                              rcases t311 with _ | q316
                              · have H1 : (some (t310 == (wrap64 (t314 - 40587)))) = some r := by rw [if_pos (show (none : Option Int).isNone = true by rfl)] at H; exact H
                                clear H
                                have H := H1
                                clear H1
                                try simp only [errW_none, errW_some]
                                obtain rfl := Option.some.inj H
                                go_wp2_with (first | ((with_reducible refine gate_callee (f := 19) rfl ?_); refine goesL_ (some 72) rfl rfl Try.func19 (by kernel_rfl) rfl #[.string a1, .int .i64 5, .int .i64 5] rfl (by (try simp only [List.map_toArray, List.map_cons, List.map_nil]); first | done | rfl | (simp only [List.length_drop, List.length_take]; rfl) | (refine congrArg (fun z_ => #[Value.int IntKind.i64 z_]) (?_ : Go.RowKit.wrap64 (IntKind.u8.wrap _) = _); rw [IntKind.wrap_u8]; unfold Go.RowKit.wrap64; omega)) ?_; (with_reducible refine (horologeref02_Whole.calls kj23 a1 5 5 t314 t315 _ A31.out).mono ?_); rintro e w32 ⟨rfl, hb⟩; refine ⟨_, rfl, ?_⟩; have n0_ := Aside0.mk (below_step (by repeat (first | (with_reducible first | exact HB.out | apply below_alloc | apply pw_below_drewN | apply below_drew1) | exact HB.out)) hb); clear HB; have HB := n0_; clear n0_; (try clear hb); (try clear hb2); (try clear hk); (try clear hi)))
                                go_ret
                                exact ⟨by first | rfl | (simp [errW_none, errW_some] <;> rfl) | (simp [*, errW_none, errW_some] <;> rfl), by repeat (first | (with_reducible first | exact HB.out | apply below_alloc | apply pw_below_drewN | apply below_drew1) | exact HB.out)⟩
                              · have H1 : (some false) = some r := by rw [if_neg (show ¬ (some q316).isNone = true by simp)] at H; exact H
                                clear H
                                have H := H1
                                clear H1
                                try simp only [errW_none, errW_some]
                                obtain rfl := Option.some.inj H
                                go_wp2_with (first | ((with_reducible refine gate_callee (f := 19) rfl ?_); refine goesL_ (some 72) rfl rfl Try.func19 (by kernel_rfl) rfl #[.string a1, .int .i64 5, .int .i64 5] rfl (by (try simp only [List.map_toArray, List.map_cons, List.map_nil]); first | done | rfl | (simp only [List.length_drop, List.length_take]; rfl) | (refine congrArg (fun z_ => #[Value.int IntKind.i64 z_]) (?_ : Go.RowKit.wrap64 (IntKind.u8.wrap _) = _); rw [IntKind.wrap_u8]; unfold Go.RowKit.wrap64; omega)) ?_; (with_reducible refine (horologeref02_Whole.calls kj23 a1 5 5 t314 t315 _ A31.out).mono ?_); rintro e w33 ⟨rfl, hb⟩; refine ⟨_, rfl, ?_⟩; have n0_ := Aside0.mk (below_step (by repeat (first | (with_reducible first | exact HB.out | apply below_alloc | apply pw_below_drewN | apply below_drew1) | exact HB.out)) hb); clear HB; have HB := n0_; clear n0_; (try clear hb); (try clear hb2); (try clear hk); (try clear hi)))
                                go_ret
                                exact ⟨by first | rfl | (simp [errW_none, errW_some] <;> rfl) | (simp [*, errW_none, errW_some] <;> rfl), by repeat (first | (with_reducible first | exact HB.out | apply below_alloc | apply pw_below_drewN | apply below_drew1) | exact HB.out)⟩
  · replace c4 := Bool.eq_false_iff.mpr c4
    subst c4
    have H1 : (some false) = some r := by rw [if_neg (show ¬ (false = true) by decide)] at H; exact H
    clear H
    have H := H1
    clear H1
    obtain rfl := Option.some.inj H
    go_enter Try.func4, Try.ntmps4
    go_wp2_with (first | ((with_reducible refine gate_callee (f := 7) rfl ?_); refine goesL_ (some 13) rfl rfl Try.func7 (by kernel_rfl) rfl #[] rfl (by (try simp only [List.map_toArray, List.map_cons, List.map_nil]); first | done | rfl | (simp only [List.length_drop, List.length_take]; rfl) | (refine congrArg (fun z_ => #[Value.int IntKind.i64 z_]) (?_ : Go.RowKit.wrap64 (IntKind.u8.wrap _) = _); rw [IntKind.wrap_u8]; unfold Go.RowKit.wrap64; omega)) ?_; (with_reducible refine (horologelaw07_alive.calls  false _ A3.out).mono ?_); rintro e w' ⟨rfl, ⟨nd, rfl⟩⟩; refine ⟨_, rfl, ?_⟩))
    go_ret
    exact ⟨by first | rfl | (simp [errW_none, errW_some] <;> rfl) | (simp [*, errW_none, errW_some] <;> rfl), by repeat (first | (with_reducible first | exact HB.out | apply below_alloc | apply pw_below_drewN | apply below_drew1) | exact HB.out)⟩

/-- THE ONE PURE STATEMENT of horologelaw07_MjdFives: yours. -/
def horologelaw07_MjdFives.Pure : Prop := ∀ (a0 : Int) (a1 : ByteArray), (Lit.int .i64 a0).wf = true → a1.size ≤ 140737488351232 → ∃ k, horologelaw07_MjdFives.f k a0 a1 = some true
theorem horologelaw07_MjdFives.walk (P : horologelaw07_MjdFives.Pure) (a0 : Int) (a1 : ByteArray) (w : World) (w0 : (Lit.int .i64 a0).wf = true) (w1 : a1.size ≤ 140737488351232) :
    Calls Try.prog 4 #[.int .i64 a0, .string a1] w fun e w' => e = .returned (.bool true) ∧ Below w.heap.size w w' := by
  obtain ⟨k, h⟩ := P a0 a1 w0 w1
  refine (horologelaw07_MjdFives.calls k a0 a1 true w h).mono ?_
  rintro e w' ⟨rfl, hd⟩
  exact ⟨rfl, hd⟩

end Go.Proofs.Ytlhjgkfhjmjcgaa.MMjdFives
