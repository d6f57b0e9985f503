-- This text was written by a program of this session (a changed scratch copy of a tool of the kit; NOTES.md tells the changes).
import Derived.Test.YtmgeiennacgleaaMDayNumbersx0
import Derived.Test.YtmgeiennacgleaaMDayNumbersx1
import Derived.Test.YtmgeiennacgleaaMDayNumbersx2
namespace Go.Proofs.Ytmgeiennacgleaa.MDayNumbers
open Go.RowKit Go.Proofs.YtmgeiennacgleaaW.PrintWords Go.Proofs.YtmgeiennacgleaaW.PrintLast Go.Proofs.YtmgeiennacgleaaW.PrintMore
attribute [local go_sem] max2_int min2_int max_two min_two max_three min_three max_four min_four   -- for this text's walks alone
set_option linter.unusedVariables false
set_option linter.unusedSimpArgs false

/-! ### horologelaw05_DayNumbers: function 5 -/
mutual
def horologelaw05_DayNumbers.j0 : Nat → Int → Int → Int → Int → Option Int → Bool → Option (Bool)
  | 0, _, _, _, _, _, _ => none
  | k + 1, x0, x3, x4, x5, x6, x33 => if x33 = true then (some false) else ((horologeref05_First.f k).bind fun t155 => (if x0 < t155 then (horologelaw05_DayNumbers.j1 k x0 x3 x4 x5 x6 true) else ((horologeref05_Last.f k).bind fun t156 => (horologelaw05_DayNumbers.j1 k x0 x3 x4 x5 x6 (decide (x0 > t156))))))
def horologelaw05_DayNumbers.j1 : Nat → Int → Int → Int → Int → Option Int → Bool → Option (Bool)
  | 0, _, _, _, _, _, _ => none
  | k + 1, x0, x3, x4, x5, x6, x41 => if x41 = true then (if x3 = 0 then (if x4 = 0 then (if x5 = 0 then ((horologenum_Is.f x6 13).bind fun t157 => (some t157)) else (some false)) else (some false)) else (some false)) else ((horologeref05_Date.f k x0).bind fun bt158 => (if x6.isNone = true then (if x3 = bt158.1 then (if x4 = bt158.2.1 then (some (x5 == bt158.2.2)) else (some false)) else (some false)) else (some false)))
end
def horologelaw05_DayNumbers.f (k : Nat) (a0 : Int) : Option (Bool) := (horologelaw05_alive.f k).bind fun t144 => (if t144 = true then ((day_Date.f k a0).bind fun bt145 => ((day_First.f).bind fun t149 => ((horologeref05_First.f k).bind fun t150 => (if t149 = t150 then ((day_Last.f).bind fun t151 => ((horologeref05_Last.f k).bind fun t152 => (if t151 = t152 then ((day_Weekday.f a0).bind fun t153 => ((horologeref05_Weekday.f a0).bind fun t154 => (horologelaw05_DayNumbers.j0 k a0 bt145.1 bt145.2.1 bt145.2.2.1 bt145.2.2.2 (t153 != t154)))) else (horologelaw05_DayNumbers.j0 k a0 bt145.1 bt145.2.1 bt145.2.2.1 bt145.2.2.2 true)))) else (horologelaw05_DayNumbers.j0 k a0 bt145.1 bt145.2.1 bt145.2.2.1 bt145.2.2.2 true))))) else (some false))
theorem horologelaw05_DayNumbers.mono_l : ∀ k, (∀ y0 y1 y2 y3 y4 y5, LeO (horologelaw05_DayNumbers.j0 k y0 y1 y2 y3 y4 y5) (horologelaw05_DayNumbers.j0 (k + 1) y0 y1 y2 y3 y4 y5)) ∧ (∀ y0 y1 y2 y3 y4 y5, LeO (horologelaw05_DayNumbers.j1 k y0 y1 y2 y3 y4 y5) (horologelaw05_DayNumbers.j1 (k + 1) y0 y1 y2 y3 y4 y5))
  | 0 => ⟨fun _ _ _ _ _ _ r h => by simp [horologelaw05_DayNumbers.j0] at h, fun _ _ _ _ _ _ r h => by simp [horologelaw05_DayNumbers.j1] at h⟩
  | k + 1 => by
    obtain ⟨ih0, ih1⟩ := horologelaw05_DayNumbers.mono_l k
    refine ⟨?_, ?_⟩
    · intro y0 y1 y2 y3 y4 y5
      unfold horologelaw05_DayNumbers.j0
      repeat' first
      | (with_reducible exact ih0 _ _ _ _ _ _)
      | (with_reducible exact ih1 _ _ _ _ _ _)
      | (with_reducible exact day_Date.mono _ _)
      | (with_reducible exact horologelaw05_alive.mono _)
      | (with_reducible exact horologeref05_Date.mono _ _)
      | (with_reducible exact horologeref05_First.mono _)
      | (with_reducible exact horologeref05_Last.mono _)
      | (with_reducible exact LeO.refl _)
      | (with_reducible exact LeO.none _)
      | (with_reducible refine LeO.ite ?_ ?_)
      | (with_reducible refine LeO.bind ?_ (fun _ => ?_))
      | exact ih0 _ _ _ _ _ _
      | exact ih1 _ _ _ _ _ _
      | exact day_Date.mono _ _
      | exact horologelaw05_alive.mono _
      | exact horologeref05_Date.mono _ _
      | exact horologeref05_First.mono _
      | exact horologeref05_Last.mono _
      | exact LeO.none _
      | refine LeO.ite ?_ ?_
      | refine LeO.bind ?_ (fun _ => ?_)
    · intro y0 y1 y2 y3 y4 y5
      unfold horologelaw05_DayNumbers.j1
      repeat' first
      | (with_reducible exact ih0 _ _ _ _ _ _)
      | (with_reducible exact ih1 _ _ _ _ _ _)
      | (with_reducible exact day_Date.mono _ _)
      | (with_reducible exact horologelaw05_alive.mono _)
      | (with_reducible exact horologeref05_Date.mono _ _)
      | (with_reducible exact horologeref05_First.mono _)
      | (with_reducible exact horologeref05_Last.mono _)
      | (with_reducible exact LeO.refl _)
      | (with_reducible exact LeO.none _)
      | (with_reducible refine LeO.ite ?_ ?_)
      | (with_reducible refine LeO.bind ?_ (fun _ => ?_))
      | exact ih0 _ _ _ _ _ _
      | exact ih1 _ _ _ _ _ _
      | exact day_Date.mono _ _
      | exact horologelaw05_alive.mono _
      | exact horologeref05_Date.mono _ _
      | exact horologeref05_First.mono _
      | exact horologeref05_Last.mono _
      | exact LeO.none _
      | refine LeO.ite ?_ ?_
      | refine LeO.bind ?_ (fun _ => ?_)
theorem horologelaw05_DayNumbers.mono : ∀ a0 k, LeO (horologelaw05_DayNumbers.f k a0) (horologelaw05_DayNumbers.f (k + 1) a0) := by
  intro a0 k
  obtain ⟨ih0, ih1⟩ := horologelaw05_DayNumbers.mono_l k
  unfold horologelaw05_DayNumbers.f
  repeat' first
      | (with_reducible exact ih0 _ _ _ _ _ _)
      | (with_reducible exact ih1 _ _ _ _ _ _)
      | (with_reducible exact day_Date.mono _ _)
      | (with_reducible exact horologelaw05_alive.mono _)
      | (with_reducible exact horologeref05_Date.mono _ _)
      | (with_reducible exact horologeref05_First.mono _)
      | (with_reducible exact horologeref05_Last.mono _)
      | (with_reducible exact LeO.refl _)
      | (with_reducible exact LeO.none _)
      | (with_reducible refine LeO.ite ?_ ?_)
      | (with_reducible refine LeO.bind ?_ (fun _ => ?_))
      | exact ih0 _ _ _ _ _ _
      | exact ih1 _ _ _ _ _ _
      | exact day_Date.mono _ _
      | exact horologelaw05_alive.mono _
      | exact horologeref05_Date.mono _ _
      | exact horologeref05_First.mono _
      | exact horologeref05_Last.mono _
      | exact LeO.none _
      | refine LeO.ite ?_ ?_
      | refine LeO.bind ?_ (fun _ => ?_)
set_option maxHeartbeats 8000000 in
set_option maxRecDepth 100000 in
theorem horologelaw05_DayNumbers.calls (k : Nat) (a0 : Int) (r : Bool) (w : World) (h : horologelaw05_DayNumbers.f k a0 = some r) :
    Calls Try.prog 5 #[.int .i64 a0] w fun e w' => e = .returned (.bool r) ∧ Below w.heap.size w w' := by
  have hu27 := Try.underlying27
  have hu38 := Try.underlying38
  have HB := Aside0.mk (Below.refl w.heap.size w)
  have H : ((horologelaw05_alive.f k).bind fun t144 => (if t144 = true then ((day_Date.f k a0).bind fun bt145 => ((day_First.f).bind fun t149 => ((horologeref05_First.f k).bind fun t150 => (if t149 = t150 then ((day_Last.f).bind fun t151 => ((horologeref05_Last.f k).bind fun t152 => (if t151 = t152 then ((day_Weekday.f a0).bind fun t153 => ((horologeref05_Weekday.f a0).bind fun t154 => (horologelaw05_DayNumbers.j0 k a0 bt145.1 bt145.2.1 bt145.2.2.1 bt145.2.2.2 (t153 != t154)))) else (horologelaw05_DayNumbers.j0 k a0 bt145.1 bt145.2.1 bt145.2.2.1 bt145.2.2.2 true)))) else (horologelaw05_DayNumbers.j0 k a0 bt145.1 bt145.2.1 bt145.2.2.1 bt145.2.2.2 true))))) else (some false))) = some r := h
  clear h
  replace H := Option.bind_eq_some_iff.mp H
  obtain ⟨t144, A20, H⟩ := H
  replace H : (if t144 = true then ((day_Date.f k a0).bind fun bt145 => ((day_First.f).bind fun t149 => ((horologeref05_First.f k).bind fun t150 => (if t149 = t150 then ((day_Last.f).bind fun t151 => ((horologeref05_Last.f k).bind fun t152 => (if t151 = t152 then ((day_Weekday.f a0).bind fun t153 => ((horologeref05_Weekday.f a0).bind fun t154 => (horologelaw05_DayNumbers.j0 k a0 bt145.1 bt145.2.1 bt145.2.2.1 bt145.2.2.2 (t153 != t154)))) else (horologelaw05_DayNumbers.j0 k a0 bt145.1 bt145.2.1 bt145.2.2.1 bt145.2.2.2 true)))) else (horologelaw05_DayNumbers.j0 k a0 bt145.1 bt145.2.1 bt145.2.2.1 bt145.2.2.2 true))))) else (some false)) = some r := H
  have A2 := Aside0.mk A20
  clear A20
  by_cases c3 : t144 = true
  · subst c3
    have H1 : ((day_Date.f k a0).bind fun bt145 => ((day_First.f).bind fun t149 => ((horologeref05_First.f k).bind fun t150 => (if t149 = t150 then ((day_Last.f).bind fun t151 => ((horologeref05_Last.f k).bind fun t152 => (if t151 = t152 then ((day_Weekday.f a0).bind fun t153 => ((horologeref05_Weekday.f a0).bind fun t154 => (horologelaw05_DayNumbers.j0 k a0 bt145.1 bt145.2.1 bt145.2.2.1 bt145.2.2.2 (t153 != t154)))) else (horologelaw05_DayNumbers.j0 k a0 bt145.1 bt145.2.1 bt145.2.2.1 bt145.2.2.2 true)))) else (horologelaw05_DayNumbers.j0 k a0 bt145.1 bt145.2.1 bt145.2.2.1 bt145.2.2.2 true))))) = some r := by rw [if_pos rfl] at H; exact H
    clear H
    have H := H1
    clear H1
    replace H := Option.bind_eq_some_iff.mp H
    obtain ⟨⟨t145, t146, t147, t148⟩, A40, H⟩ := H
    replace H : ((day_First.f).bind fun t149 => ((horologeref05_First.f k).bind fun t150 => (if t149 = t150 then ((day_Last.f).bind fun t151 => ((horologeref05_Last.f k).bind fun t152 => (if t151 = t152 then ((day_Weekday.f a0).bind fun t153 => ((horologeref05_Weekday.f a0).bind fun t154 => (horologelaw05_DayNumbers.j0 k a0 t145 t146 t147 t148 (t153 != t154)))) else (horologelaw05_DayNumbers.j0 k a0 t145 t146 t147 t148 true)))) else (horologelaw05_DayNumbers.j0 k a0 t145 t146 t147 t148 true)))) = some r := H
    have A4 := Aside0.mk A40
    clear A40
    have HC5 := Aside0.mk H
    clear H
    go_enter Try.func5, Try.ntmps5
    go_upto_region 4 with (first | ((with_reducible refine gate_callee (f := 8) rfl ?_); refine goesL_ (some 10) rfl rfl Try.func8 (by kernel_rfl) rfl #[] rfl (by (try simp only [List.map_toArray, List.map_cons, List.map_nil]); first | done | rfl | (simp only [List.length_drop, List.length_take]; rfl)) ?_; (with_reducible refine (horologelaw05_alive.calls k  true _ A2.out).mono ?_); rintro e w' ⟨rfl, ⟨nd, rfl⟩⟩; refine ⟨_, rfl, ?_⟩) | ((with_reducible refine gate_callee (f := 24) rfl ?_); refine goesL_ (some 14) rfl rfl Try.func24 (by kernel_rfl) rfl #[.int .i64 a0] rfl (by (try simp only [List.map_toArray, List.map_cons, List.map_nil]); first | done | rfl | (simp only [List.length_drop, List.length_take]; rfl)) ?_; (with_reducible refine (day_Date.calls k a0 t145 t146 t147 t148 _ A4.out).mono ?_); rintro e w' ⟨rfl, ⟨nd, rfl⟩⟩; refine ⟨_, rfl, ?_⟩; (try simp only [errW_none, errW_some])))
    (try simp only [Act.put, List.setIfInBounds_toArray, List.set_cons_zero, List.set_cons_succ])
    go_cut [33] (fun v33 wc => ∃ (kq : Nat) (x33_4 : Bool), v33 = .bool x33_4 ∧ Aside0 (horologelaw05_DayNumbers.j0 kq a0 t145 t146 t147 t148 x33_4 = some r) ∧ Aside0 (kq ≤ k) ∧ Aside0 (Below w.heap.size w wc))
    case first =>
      have H := HC5.out
      clear HC5
      replace H := Option.bind_eq_some_iff.mp H
      obtain ⟨t149, A60, H⟩ := H
      replace H : ((horologeref05_First.f k).bind fun t150 => (if t149 = t150 then ((day_Last.f).bind fun t151 => ((horologeref05_Last.f k).bind fun t152 => (if t151 = t152 then ((day_Weekday.f a0).bind fun t153 => ((horologeref05_Weekday.f a0).bind fun t154 => (horologelaw05_DayNumbers.j0 k a0 t145 t146 t147 t148 (t153 != t154)))) else (horologelaw05_DayNumbers.j0 k a0 t145 t146 t147 t148 true)))) else (horologelaw05_DayNumbers.j0 k a0 t145 t146 t147 t148 true))) = some r := H
      have A6 := Aside0.mk A60
      clear A60
      replace H := Option.bind_eq_some_iff.mp H
      obtain ⟨t150, A70, H⟩ := H
      replace H : (if t149 = t150 then ((day_Last.f).bind fun t151 => ((horologeref05_Last.f k).bind fun t152 => (if t151 = t152 then ((day_Weekday.f a0).bind fun t153 => ((horologeref05_Weekday.f a0).bind fun t154 => (horologelaw05_DayNumbers.j0 k a0 t145 t146 t147 t148 (t153 != t154)))) else (horologelaw05_DayNumbers.j0 k a0 t145 t146 t147 t148 true)))) else (horologelaw05_DayNumbers.j0 k a0 t145 t146 t147 t148 true)) = some r := H
      have A7 := Aside0.mk A70
      clear A70
      by_cases c8 : t149 = t150
      · rw [if_pos c8] at H
        have c8b0 : (t149 == t150) = true := beq_iff_eq.mpr c8
        have c8b1 : (t149 != t150) = false := bne_eq_false_iff_eq.mpr c8
        clear c8
        (first | rw [c8b0] | (simp only [i64_w, i32_w]; rw [c8b0]) | skip)
        replace H := Option.bind_eq_some_iff.mp H
        obtain ⟨t151, A90, H⟩ := H
        replace H : ((horologeref05_Last.f k).bind fun t152 => (if t151 = t152 then ((day_Weekday.f a0).bind fun t153 => ((horologeref05_Weekday.f a0).bind fun t154 => (horologelaw05_DayNumbers.j0 k a0 t145 t146 t147 t148 (t153 != t154)))) else (horologelaw05_DayNumbers.j0 k a0 t145 t146 t147 t148 true))) = some r := H
        have A9 := Aside0.mk A90
        clear A90
        replace H := Option.bind_eq_some_iff.mp H
        obtain ⟨t152, A100, H⟩ := H
        replace H : (if t151 = t152 then ((day_Weekday.f a0).bind fun t153 => ((horologeref05_Weekday.f a0).bind fun t154 => (horologelaw05_DayNumbers.j0 k a0 t145 t146 t147 t148 (t153 != t154)))) else (horologelaw05_DayNumbers.j0 k a0 t145 t146 t147 t148 true)) = some r := H
        have A10 := Aside0.mk A100
        clear A100
        by_cases c11 : t151 = t152
        · rw [if_pos c11] at H
          have c11b0 : (t151 == t152) = true := beq_iff_eq.mpr c11
          have c11b1 : (t151 != t152) = false := bne_eq_false_iff_eq.mpr c11
          clear c11
          replace H := Option.bind_eq_some_iff.mp H
          obtain ⟨t153, A120, H⟩ := H
          replace H : ((horologeref05_Weekday.f a0).bind fun t154 => (horologelaw05_DayNumbers.j0 k a0 t145 t146 t147 t148 (t153 != t154))) = some r := H
          have A12 := Aside0.mk A120
          clear A120
          replace H := Option.bind_eq_some_iff.mp H
          obtain ⟨t154, A130, H⟩ := H
          replace H : (horologelaw05_DayNumbers.j0 k a0 t145 t146 t147 t148 (t153 != t154)) = some r := H
          have A13 := Aside0.mk A130
          clear A130
          have H' := Aside0.mk H
          clear H
          go_wp2_with (first | ((with_reducible refine gate_callee (f := 25) rfl ?_); refine goesL_ (some 19) rfl rfl Try.func25 (by kernel_rfl) rfl #[] rfl (by (try simp only [List.map_toArray, List.map_cons, List.map_nil]); first | done | rfl | (simp only [List.length_drop, List.length_take]; rfl)) ?_; (with_reducible refine (day_First.calls  t149 _ A6.out).mono ?_); rintro e w' ⟨rfl, ⟨nd, rfl⟩⟩; refine ⟨_, rfl, ?_⟩) | ((with_reducible refine gate_callee (f := 26) rfl ?_); refine goesL_ (some 20) rfl rfl Try.func26 (by kernel_rfl) rfl #[] rfl (by (try simp only [List.map_toArray, List.map_cons, List.map_nil]); first | done | rfl | (simp only [List.length_drop, List.length_take]; rfl)) ?_; (with_reducible refine (horologeref05_First.calls k  t150 _ A7.out).mono ?_); rintro e w' ⟨rfl, ⟨nd, rfl⟩⟩; refine ⟨_, rfl, ?_⟩) | (go_at_call 27; (with_reducible refine (day_Last.calls  t151 _ A9.out).mono ?_); rintro e w' ⟨rfl, ⟨nd, rfl⟩⟩) | (go_at_call 28; (with_reducible refine (horologeref05_Last.calls k  t152 _ A10.out).mono ?_); rintro e w' ⟨rfl, ⟨nd, rfl⟩⟩) | (go_at_call 9; (with_reducible refine (day_Weekday.calls a0 t153 _ A12.out).mono ?_); rintro e w' ⟨rfl, ⟨nd, rfl⟩⟩) | (go_at_call 29; (with_reducible refine (horologeref05_Weekday.calls a0 t154 _ A13.out).mono ?_); rintro e w14 ⟨rfl, hb⟩; have n0_ := Aside0.mk (below_step (by repeat (first | (with_reducible first | exact HB.out | apply below_alloc | apply pw_below_drewN | apply below_drew1) | exact HB.out)) hb); clear HB; have HB := n0_; clear n0_; (try clear hb); (try clear hb2); (try clear hk); (try clear hi)))
          go_meet
          case rel => exact ⟨_, ((t153 != t154)), (by first | rfl | (simp; done) | (simp [*]; done)), H', ⟨by first | omega | exact Nat.le_refl _⟩, ⟨by repeat (first | (with_reducible first | exact HB.out | apply below_alloc | apply pw_below_drewN | apply below_drew1) | exact HB.out)⟩⟩
        · rw [if_neg c11] at H
          have c11b0 : (t151 == t152) = false := beq_eq_false_iff_ne.mpr c11
          have c11b1 : (t151 != t152) = true := bne_iff_ne.mpr c11
          have H' := Aside0.mk H
          clear H
          go_wp2_with (first | ((with_reducible refine gate_callee (f := 25) rfl ?_); refine goesL_ (some 19) rfl rfl Try.func25 (by kernel_rfl) rfl #[] rfl (by (try simp only [List.map_toArray, List.map_cons, List.map_nil]); first | done | rfl | (simp only [List.length_drop, List.length_take]; rfl)) ?_; (with_reducible refine (day_First.calls  t149 _ A6.out).mono ?_); rintro e w' ⟨rfl, ⟨nd, rfl⟩⟩; refine ⟨_, rfl, ?_⟩) | ((with_reducible refine gate_callee (f := 26) rfl ?_); refine goesL_ (some 20) rfl rfl Try.func26 (by kernel_rfl) rfl #[] rfl (by (try simp only [List.map_toArray, List.map_cons, List.map_nil]); first | done | rfl | (simp only [List.length_drop, List.length_take]; rfl)) ?_; (with_reducible refine (horologeref05_First.calls k  t150 _ A7.out).mono ?_); rintro e w' ⟨rfl, ⟨nd, rfl⟩⟩; refine ⟨_, rfl, ?_⟩) | (go_at_call 27; (with_reducible refine (day_Last.calls  t151 _ A9.out).mono ?_); rintro e w' ⟨rfl, ⟨nd, rfl⟩⟩) | (go_at_call 28; (with_reducible refine (horologeref05_Last.calls k  t152 _ A10.out).mono ?_); rintro e w' ⟨rfl, ⟨nd, rfl⟩⟩))
          go_meet
          case rel => exact ⟨_, (true), (by first | rfl | (simp; done) | (simp [*]; done)), H', ⟨by first | omega | exact Nat.le_refl _⟩, ⟨by repeat (first | (with_reducible first | exact HB.out | apply below_alloc | apply pw_below_drewN | apply below_drew1) | exact HB.out)⟩⟩
      · rw [if_neg c8] at H
        have c8b0 : (t149 == t150) = false := beq_eq_false_iff_ne.mpr c8
        have c8b1 : (t149 != t150) = true := bne_iff_ne.mpr c8
        (first | rw [c8b0] | (simp only [i64_w, i32_w]; rw [c8b0]) | skip)
        have H' := Aside0.mk H
        clear H
        go_wp2_with (first | ((with_reducible refine gate_callee (f := 25) rfl ?_); refine goesL_ (some 19) rfl rfl Try.func25 (by kernel_rfl) rfl #[] rfl (by (try simp only [List.map_toArray, List.map_cons, List.map_nil]); first | done | rfl | (simp only [List.length_drop, List.length_take]; rfl)) ?_; (with_reducible refine (day_First.calls  t149 _ A6.out).mono ?_); rintro e w' ⟨rfl, ⟨nd, rfl⟩⟩; refine ⟨_, rfl, ?_⟩) | ((with_reducible refine gate_callee (f := 26) rfl ?_); refine goesL_ (some 20) rfl rfl Try.func26 (by kernel_rfl) rfl #[] rfl (by (try simp only [List.map_toArray, List.map_cons, List.map_nil]); first | done | rfl | (simp only [List.length_drop, List.length_take]; rfl)) ?_; (with_reducible refine (horologeref05_First.calls k  t150 _ A7.out).mono ?_); rintro e w' ⟨rfl, ⟨nd, rfl⟩⟩; refine ⟨_, rfl, ?_⟩))
        go_meet
        case rel => exact ⟨_, (true), (by first | rfl | (simp; done) | (simp [*]; done)), H', ⟨by first | omega | exact Nat.le_refl _⟩, ⟨by repeat (first | (with_reducible first | exact HB.out | apply below_alloc | apply pw_below_drewN | apply below_drew1) | exact HB.out)⟩⟩
    case rest =>
      clear HC5
      try clear c1
      try clear c2
      try clear p2
      try clear c3
      try clear c5
      try clear c8
      try clear c8b0
      try clear c8b1
      try clear c11
      try clear c11b0
      try clear c11b1
      obtain ⟨kq, x33_4, rfl, HA, HJ4, HB⟩ := hcut
      cases kq with
      | zero => exact absurd HA.out (by simp [horologelaw05_DayNumbers.j0])
      | succ kj4 =>
        have H := HA.out
        clear HA
        simp only [horologelaw05_DayNumbers.j0] at H
        by_cases c15 : x33_4 = true
        · subst c15
          have H1 : (some false) = some r := by rw [if_pos rfl] at H; exact H
          clear H
          have H := H1
          clear H1
          obtain rfl := Option.some.inj H
          go_wp2
          go_ret
          exact ⟨by first | rfl | (simp [errW_none, errW_some] <;> rfl) | (simp [*, errW_none, errW_some] <;> rfl), by repeat (first | (with_reducible first | exact HB.out | apply below_alloc | apply pw_below_drewN | apply below_drew1) | exact HB.out)⟩
        · replace c15 := Bool.eq_false_iff.mpr c15
          subst c15
          have H1 : ((horologeref05_First.f kj4).bind fun t155 => (if a0 < t155 then (horologelaw05_DayNumbers.j1 kj4 a0 t145 t146 t147 t148 true) else ((horologeref05_Last.f kj4).bind fun t156 => (horologelaw05_DayNumbers.j1 kj4 a0 t145 t146 t147 t148 (decide (a0 > t156)))))) = some r := by rw [if_neg (show ¬ (false = true) by decide)] at H; exact H
          clear H
          have H := H1
          clear H1
          have HC16 := Aside0.mk H
          clear H
          go_upto_region 6 with (fail)
          go_cut [41] (fun v41 wc => ∃ (kq : Nat) (x41_15 : Bool), v41 = .bool x41_15 ∧ Aside0 (horologelaw05_DayNumbers.j1 kq a0 t145 t146 t147 t148 x41_15 = some r) ∧ Aside0 (kq ≤ kj4) ∧ Aside0 (Below w.heap.size w wc))
          case first =>
            have H := HC16.out
            clear HC16
            replace H := Option.bind_eq_some_iff.mp H
            obtain ⟨t155, A170, H⟩ := H
            replace H : (if a0 < t155 then (horologelaw05_DayNumbers.j1 kj4 a0 t145 t146 t147 t148 true) else ((horologeref05_Last.f kj4).bind fun t156 => (horologelaw05_DayNumbers.j1 kj4 a0 t145 t146 t147 t148 (decide (a0 > t156))))) = some r := H
            have A17 := Aside0.mk A170
            clear A170
            by_cases c18 : a0 < t155
            · rw [if_pos c18] at H
              have c18b0 : decide (a0 < t155) = true := decide_eq_true c18
              clear c18
              (first | rw [c18b0] | (simp only [i64_w, i32_w]; rw [c18b0]) | skip)
              have H' := Aside0.mk H
              clear H
              go_wp2_with (first | ((with_reducible refine gate_callee (f := 26) rfl ?_); refine goesL_ (some 35) rfl rfl Try.func26 (by kernel_rfl) rfl #[] rfl (by (try simp only [List.map_toArray, List.map_cons, List.map_nil]); first | done | rfl | (simp only [List.length_drop, List.length_take]; rfl)) ?_; (with_reducible refine (horologeref05_First.calls kj4  t155 _ A17.out).mono ?_); rintro e w' ⟨rfl, ⟨nd, rfl⟩⟩; refine ⟨_, rfl, ?_⟩))
              go_meet
              case rel => exact ⟨_, (true), (by first | rfl | (simp; done) | (simp [*]; done)), H', ⟨by have := HJ4.out; first | omega | exact Nat.le_refl _⟩, ⟨by repeat (first | (with_reducible first | exact HB.out | apply below_alloc | apply pw_below_drewN | apply below_drew1) | exact HB.out)⟩⟩
            · rw [if_neg c18] at H
              have c18b0 : decide (a0 < t155) = false := decide_eq_false c18
              clear c18
              (first | rw [c18b0] | (simp only [i64_w, i32_w]; rw [c18b0]) | skip)
              replace H := Option.bind_eq_some_iff.mp H
              obtain ⟨t156, A190, H⟩ := H
              replace H : (horologelaw05_DayNumbers.j1 kj4 a0 t145 t146 t147 t148 (decide (a0 > t156))) = some r := H
              have A19 := Aside0.mk A190
              clear A190
              have H' := Aside0.mk H
              clear H
              go_wp2_with (first | ((with_reducible refine gate_callee (f := 26) rfl ?_); refine goesL_ (some 35) rfl rfl Try.func26 (by kernel_rfl) rfl #[] rfl (by (try simp only [List.map_toArray, List.map_cons, List.map_nil]); first | done | rfl | (simp only [List.length_drop, List.length_take]; rfl)) ?_; (with_reducible refine (horologeref05_First.calls kj4  t155 _ A17.out).mono ?_); rintro e w' ⟨rfl, ⟨nd, rfl⟩⟩; refine ⟨_, rfl, ?_⟩) | (go_at_call 28; (with_reducible refine (horologeref05_Last.calls kj4  t156 _ A19.out).mono ?_); rintro e w' ⟨rfl, ⟨nd, rfl⟩⟩))
              go_meet
              case rel => exact ⟨_, (decide (a0 > t156)), (by first | rfl | (simp; done) | (simp [*]; done)), H', ⟨by have := HJ4.out; first | omega | exact Nat.le_refl _⟩, ⟨by repeat (first | (with_reducible first | exact HB.out | apply below_alloc | apply pw_below_drewN | apply below_drew1) | exact HB.out)⟩⟩
          case rest =>
            clear HC16
            try clear c1
            try clear c2
            try clear p2
            try clear c3
            try clear c5
            try clear c8
            try clear c8b0
            try clear c8b1
            try clear c11
            try clear c11b0
            try clear c11b1
            try clear c15
            try clear c18
            try clear c18b0
            try clear p2
            obtain ⟨kq, x41_15, rfl, HA, HJ15, HB⟩ := hcut
            cases kq with
            | zero => exact absurd HA.out (by simp [horologelaw05_DayNumbers.j1])
            | succ kj15 =>
              have H := HA.out
              clear HA
              simp only [horologelaw05_DayNumbers.j1] at H
              by_cases c20 : x41_15 = true
              · subst c20
                have H1 : (if t145 = 0 then (if t146 = 0 then (if t147 = 0 then ((horologenum_Is.f t148 13).bind fun t157 => (some t157)) else (some false)) else (some false)) else (some false)) = some r := by rw [if_pos rfl] at H; exact H
                clear H
                have H := H1
                clear H1
                by_cases c21 : t145 = 0
                · rw [if_pos c21] at H
                  have c21b0 : (t145 == 0) = true := beq_iff_eq.mpr c21
                  have c21b1 : (t145 != 0) = false := bne_eq_false_iff_eq.mpr c21
                  clear c21
                  by_cases c22 : t146 = 0
                  · rw [if_pos c22] at H
                    have c22b0 : (t146 == 0) = true := beq_iff_eq.mpr c22
                    have c22b1 : (t146 != 0) = false := bne_eq_false_iff_eq.mpr c22
                    clear c22
                    by_cases c23 : t147 = 0
                    · rw [if_pos c23] at H
                      have c23b0 : (t147 == 0) = true := beq_iff_eq.mpr c23
                      have c23b1 : (t147 != 0) = false := bne_eq_false_iff_eq.mpr c23
                      clear c23
                      replace H := Option.bind_eq_some_iff.mp H
                      obtain ⟨t157, A240, H⟩ := H
                      replace H : (some t157) = some r := H
                      have A24 := Aside0.mk A240
                      clear A240
                      obtain rfl := Option.some.inj H
                      have CA24 := fun W => horologenum_Is.calls t148 13 t157 W A24.out
                      try simp only [errW_none, errW_some] at CA24
                      go_wp2_with (first | (go_at_call 19; (with_reducible refine (CA24 _).mono ?_); rintro e w' ⟨rfl, ⟨nd, rfl⟩⟩))
                      go_ret
                      exact ⟨by first | rfl | (simp [errW_none, errW_some] <;> rfl) | (simp [*, errW_none, errW_some] <;> rfl), by repeat (first | (with_reducible first | exact HB.out | apply below_alloc | apply pw_below_drewN | apply below_drew1) | exact HB.out)⟩
                    · rw [if_neg c23] at H
                      have c23b0 : (t147 == 0) = false := beq_eq_false_iff_ne.mpr c23
                      have c23b1 : (t147 != 0) = true := bne_iff_ne.mpr c23
                      obtain rfl := Option.some.inj H
                      go_wp2
                      go_ret
                      exact ⟨by first | rfl | (simp [errW_none, errW_some] <;> rfl) | (simp [*, errW_none, errW_some] <;> rfl), by repeat (first | (with_reducible first | exact HB.out | apply below_alloc | apply pw_below_drewN | apply below_drew1) | exact HB.out)⟩
                  · rw [if_neg c22] at H
                    have c22b0 : (t146 == 0) = false := beq_eq_false_iff_ne.mpr c22
                    have c22b1 : (t146 != 0) = true := bne_iff_ne.mpr c22
                    obtain rfl := Option.some.inj H
                    go_wp2
                    go_ret
                    exact ⟨by first | rfl | (simp [errW_none, errW_some] <;> rfl) | (simp [*, errW_none, errW_some] <;> rfl), by repeat (first | (with_reducible first | exact HB.out | apply below_alloc | apply pw_below_drewN | apply below_drew1) | exact HB.out)⟩
                · rw [if_neg c21] at H
                  have c21b0 : (t145 == 0) = false := beq_eq_false_iff_ne.mpr c21
                  have c21b1 : (t145 != 0) = true := bne_iff_ne.mpr c21
                  obtain rfl := Option.some.inj H
                  go_wp2
                  go_ret
                  exact ⟨by first | rfl | (simp [errW_none, errW_some] <;> rfl) | (simp [*, errW_none, errW_some] <;> rfl), by repeat (first | (with_reducible first | exact HB.out | apply below_alloc | apply pw_below_drewN | apply below_drew1) | exact HB.out)⟩
              · replace c20 := Bool.eq_false_iff.mpr c20
                subst c20
                have H1 : ((horologeref05_Date.f kj15 a0).bind fun bt158 => (if t148.isNone = true then (if t145 = bt158.1 then (if t146 = bt158.2.1 then (some (t147 == bt158.2.2)) else (some false)) else (some false)) else (some false))) = some r := by rw [if_neg (show ¬ (false = true) by decide)] at H; exact H
                clear H
                have H := H1
                clear H1
                replace H := Option.bind_eq_some_iff.mp H
                obtain ⟨⟨t158, t159, t160⟩, A250, H⟩ := H
                replace H : (if t148.isNone = true then (if t145 = t158 then (if t146 = t159 then (some (t147 == t160)) else (some false)) else (some false)) else (some false)) = some r := H
                have A25 := Aside0.mk A250
                clear A250
                rcases t148 with _ | q161
                · have H1 : (if t145 = t158 then (if t146 = t159 then (some (t147 == t160)) else (some false)) else (some false)) = some r := by rw [if_pos (show (none : Option Int).isNone = true by rfl)] at H; exact H
                  clear H
                  have H := H1
                  clear H1
                  try simp only [errW_none, errW_some]
                  by_cases c26 : t145 = t158
                  · rw [if_pos c26] at H
                    have c26b0 : (t145 == t158) = true := beq_iff_eq.mpr c26
                    have c26b1 : (t145 != t158) = false := bne_eq_false_iff_eq.mpr c26
                    clear c26
                    by_cases c27 : t146 = t159
                    · rw [if_pos c27] at H
                      have c27b0 : (t146 == t159) = true := beq_iff_eq.mpr c27
                      have c27b1 : (t146 != t159) = false := bne_eq_false_iff_eq.mpr c27
                      clear c27
                      obtain rfl := Option.some.inj H
                      go_wp2_with (first | ((with_reducible refine gate_callee (f := 30) rfl ?_); refine goesL_ (some 58) rfl rfl Try.func30 (by kernel_rfl) rfl #[.int .i64 a0] rfl (by (try simp only [List.map_toArray, List.map_cons, List.map_nil]); first | done | rfl | (simp only [List.length_drop, List.length_take]; rfl)) ?_; (with_reducible refine (horologeref05_Date.calls kj15 a0 t158 t159 t160 _ A25.out).mono ?_); rintro e w28 ⟨rfl, hb⟩; refine ⟨_, rfl, ?_⟩; have n0_ := Aside0.mk (below_step (by repeat (first | (with_reducible first | exact HB.out | apply below_alloc | apply pw_below_drewN | apply below_drew1) | exact HB.out)) hb); clear HB; have HB := n0_; clear n0_; (try clear hb); (try clear hb2); (try clear hk); (try clear hi)))
                      go_ret
                      exact ⟨by first | rfl | (simp [errW_none, errW_some] <;> rfl) | (simp [*, errW_none, errW_some] <;> rfl), by repeat (first | (with_reducible first | exact HB.out | apply below_alloc | apply pw_below_drewN | apply below_drew1) | exact HB.out)⟩
                    · rw [if_neg c27] at H
                      have c27b0 : (t146 == t159) = false := beq_eq_false_iff_ne.mpr c27
                      have c27b1 : (t146 != t159) = true := bne_iff_ne.mpr c27
                      obtain rfl := Option.some.inj H
                      go_wp2_with (first | ((with_reducible refine gate_callee (f := 30) rfl ?_); refine goesL_ (some 58) rfl rfl Try.func30 (by kernel_rfl) rfl #[.int .i64 a0] rfl (by (try simp only [List.map_toArray, List.map_cons, List.map_nil]); first | done | rfl | (simp only [List.length_drop, List.length_take]; rfl)) ?_; (with_reducible refine (horologeref05_Date.calls kj15 a0 t158 t159 t160 _ A25.out).mono ?_); rintro e w29 ⟨rfl, hb⟩; refine ⟨_, rfl, ?_⟩; have n0_ := Aside0.mk (below_step (by repeat (first | (with_reducible first | exact HB.out | apply below_alloc | apply pw_below_drewN | apply below_drew1) | exact HB.out)) hb); clear HB; have HB := n0_; clear n0_; (try clear hb); (try clear hb2); (try clear hk); (try clear hi)))
                      go_ret
                      exact ⟨by first | rfl | (simp [errW_none, errW_some] <;> rfl) | (simp [*, errW_none, errW_some] <;> rfl), by repeat (first | (with_reducible first | exact HB.out | apply below_alloc | apply pw_below_drewN | apply below_drew1) | exact HB.out)⟩
                  · rw [if_neg c26] at H
                    have c26b0 : (t145 == t158) = false := beq_eq_false_iff_ne.mpr c26
                    have c26b1 : (t145 != t158) = true := bne_iff_ne.mpr c26
                    obtain rfl := Option.some.inj H
                    go_wp2_with (first | ((with_reducible refine gate_callee (f := 30) rfl ?_); refine goesL_ (some 58) rfl rfl Try.func30 (by kernel_rfl) rfl #[.int .i64 a0] rfl (by (try simp only [List.map_toArray, List.map_cons, List.map_nil]); first | done | rfl | (simp only [List.length_drop, List.length_take]; rfl)) ?_; (with_reducible refine (horologeref05_Date.calls kj15 a0 t158 t159 t160 _ A25.out).mono ?_); rintro e w30 ⟨rfl, hb⟩; refine ⟨_, rfl, ?_⟩; have n0_ := Aside0.mk (below_step (by repeat (first | (with_reducible first | exact HB.out | apply below_alloc | apply pw_below_drewN | apply below_drew1) | exact HB.out)) hb); clear HB; have HB := n0_; clear n0_; (try clear hb); (try clear hb2); (try clear hk); (try clear hi)))
                    go_ret
                    exact ⟨by first | rfl | (simp [errW_none, errW_some] <;> rfl) | (simp [*, errW_none, errW_some] <;> rfl), by repeat (first | (with_reducible first | exact HB.out | apply below_alloc | apply pw_below_drewN | apply below_drew1) | exact HB.out)⟩
                · have H1 : (some false) = some r := by rw [if_neg (show ¬ (some q161).isNone = true by simp)] at H; exact H
                  clear H
                  have H := H1
                  clear H1
                  try simp only [errW_none, errW_some]
                  obtain rfl := Option.some.inj H
                  go_wp2_with (first | ((with_reducible refine gate_callee (f := 30) rfl ?_); refine goesL_ (some 58) rfl rfl Try.func30 (by kernel_rfl) rfl #[.int .i64 a0] rfl (by (try simp only [List.map_toArray, List.map_cons, List.map_nil]); first | done | rfl | (simp only [List.length_drop, List.length_take]; rfl)) ?_; (with_reducible refine (horologeref05_Date.calls kj15 a0 t158 t159 t160 _ A25.out).mono ?_); rintro e w31 ⟨rfl, hb⟩; refine ⟨_, rfl, ?_⟩; have n0_ := Aside0.mk (below_step (by repeat (first | (with_reducible first | exact HB.out | apply below_alloc | apply pw_below_drewN | apply below_drew1) | exact HB.out)) hb); clear HB; have HB := n0_; clear n0_; (try clear hb); (try clear hb2); (try clear hk); (try clear hi)))
                  go_ret
                  exact ⟨by first | rfl | (simp [errW_none, errW_some] <;> rfl) | (simp [*, errW_none, errW_some] <;> rfl), by repeat (first | (with_reducible first | exact HB.out | apply below_alloc | apply pw_below_drewN | apply below_drew1) | exact HB.out)⟩
  · replace c3 := Bool.eq_false_iff.mpr c3
    subst c3
    have H1 : (some false) = some r := by rw [if_neg (show ¬ (false = true) by decide)] at H; exact H
    clear H
    have H := H1
    clear H1
    obtain rfl := Option.some.inj H
    go_enter Try.func5, Try.ntmps5
    go_wp2_with (first | ((with_reducible refine gate_callee (f := 8) rfl ?_); refine goesL_ (some 10) rfl rfl Try.func8 (by kernel_rfl) rfl #[] rfl (by (try simp only [List.map_toArray, List.map_cons, List.map_nil]); first | done | rfl | (simp only [List.length_drop, List.length_take]; rfl)) ?_; (with_reducible refine (horologelaw05_alive.calls k  false _ A2.out).mono ?_); rintro e w' ⟨rfl, ⟨nd, rfl⟩⟩; refine ⟨_, rfl, ?_⟩))
    go_ret
    exact ⟨by first | rfl | (simp [errW_none, errW_some] <;> rfl) | (simp [*, errW_none, errW_some] <;> rfl), by repeat (first | (with_reducible first | exact HB.out | apply below_alloc | apply pw_below_drewN | apply below_drew1) | exact HB.out)⟩

/-- THE ONE PURE STATEMENT of horologelaw05_DayNumbers: yours. -/
def horologelaw05_DayNumbers.Pure : Prop := ∀ (a0 : Int), (Lit.int .i64 a0).wf = true → ∃ k, horologelaw05_DayNumbers.f k a0 = some true
theorem horologelaw05_DayNumbers.walk (P : horologelaw05_DayNumbers.Pure) (a0 : Int) (w : World) (w0 : (Lit.int .i64 a0).wf = true) :
    Calls Try.prog 5 #[.int .i64 a0] w fun e w' => e = .returned (.bool true) ∧ Below w.heap.size w w' := by
  obtain ⟨k, h⟩ := P a0 w0
  refine (horologelaw05_DayNumbers.calls k a0 true w h).mono ?_
  rintro e w' ⟨rfl, hd⟩
  exact ⟨rfl, hd⟩

end Go.Proofs.Ytmgeiennacgleaa.MDayNumbers
