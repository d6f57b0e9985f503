-- This text was written by a program of this session (a changed scratch copy of a tool of the kit; NOTES.md tells the changes).
import Derived.Test.YtmcicjjaneaokaaMWeekYearsx0
import Derived.Test.YtmcicjjaneaokaaMWeekYearsx2
import Derived.Test.YtmcicjjaneaokaaMWeekYearsx4
import Derived.Test.YtmcicjjaneaokaaMWeekYearsx5
namespace Go.Proofs.Ytmcicjjaneaokaa.MWeekYears
open Go.RowKit Go.Proofs.YtmcicjjaneaokaaW.PrintWords Go.Proofs.YtmcicjjaneaokaaW.PrintLast Go.Proofs.YtmcicjjaneaokaaW.PrintMore
attribute [local go_sem] max2_int min2_int max_two min_two max_three min_three max_four min_four   -- for this text's walks alone
set_option linter.unusedVariables false
set_option linter.unusedSimpArgs false

/-! ### horologelaw06_WeekYears: function 4 -/
mutual
def horologelaw06_WeekYears.j0 : Nat → Int → Int → Option Int → Int → Option Int → Bool → Option (Bool)
  | 0, _, _, _, _, _, _ => none
  | k + 1, x0, x9, x10, x11, x12, x49 => if x49 = true then (some false) else (if x0 < (-10000) then (horologelaw06_WeekYears.j1 k x0 x9 x10 x11 x12 true) else (horologelaw06_WeekYears.j1 k x0 x9 x10 x11 x12 (decide (x0 > 10000))))
def horologelaw06_WeekYears.j1 : Nat → Int → Int → Option Int → Int → Option Int → Bool → Option (Bool)
  | 0, _, _, _, _, _, _ => none
  | k + 1, x0, x9, x10, x11, x12, x55 => if x55 = true then (if x9 = 0 then (if x11 = 0 then ((horologenum_Is.f x10 13).bind fun t311 => (if t311 = true then ((horologenum_Is.f x12 13).bind fun t312 => (some t312)) else (some false))) else (some false)) else (some false)) else (if x10.isNone = true then (if x12.isNone = true then ((horologeref06_Weeks.f k x0).bind fun t315 => (if x9 = t315 then ((horologeref06_Monday.f k x0).bind fun t316 => (some (x11 == t316))) else (some false))) else (some false)) else (some false))
end
def horologelaw06_WeekYears.f (k : Nat) (a0 : Int) (a1 : Int) (a2 : Int) : Option (Bool) := (horologelaw06_alive.f k).bind fun t301 => (if t301 = true then ((week_Day.f a0 a1 a2).bind fun bt302 => ((week_Weeks.f a0).bind fun bt304 => ((week_Monday.f a0).bind fun bt306 => ((horologeref06_Day.f k a0 a1 a2).bind fun bt308 => (if bt302.1 = bt308.1 then ((horologenum_Num.f bt302.2).bind fun t310 => (horologelaw06_WeekYears.j0 k a0 bt304.1 bt304.2 bt306.1 bt306.2 (t310 != bt308.2))) else (horologelaw06_WeekYears.j0 k a0 bt304.1 bt304.2 bt306.1 bt306.2 true)))))) else (some false))
theorem horologelaw06_WeekYears.mono_l : ∀ k, (∀ y0 y1 y2 y3 y4 y5, LeO (horologelaw06_WeekYears.j0 k y0 y1 y2 y3 y4 y5) (horologelaw06_WeekYears.j0 (k + 1) y0 y1 y2 y3 y4 y5)) ∧ (∀ y0 y1 y2 y3 y4 y5, LeO (horologelaw06_WeekYears.j1 k y0 y1 y2 y3 y4 y5) (horologelaw06_WeekYears.j1 (k + 1) y0 y1 y2 y3 y4 y5))
  | 0 => ⟨fun _ _ _ _ _ _ r h => by simp [horologelaw06_WeekYears.j0] at h, fun _ _ _ _ _ _ r h => by simp [horologelaw06_WeekYears.j1] at h⟩
  | k + 1 => by
    obtain ⟨ih0, ih1⟩ := horologelaw06_WeekYears.mono_l k
    refine ⟨?_, ?_⟩
    · intro y0 y1 y2 y3 y4 y5
      unfold horologelaw06_WeekYears.j0
      repeat' first
      | (with_reducible exact ih0 _ _ _ _ _ _)
      | (with_reducible exact ih1 _ _ _ _ _ _)
      | (with_reducible exact horologelaw06_alive.mono _)
      | (with_reducible exact horologeref06_Day.mono _ _ _ _)
      | (with_reducible exact horologeref06_Monday.mono _ _)
      | (with_reducible exact horologeref06_Weeks.mono _ _)
      | (with_reducible exact LeO.refl _)
      | (with_reducible exact LeO.none _)
      | (with_reducible refine LeO.ite ?_ ?_)
      | (with_reducible refine LeO.bind ?_ (fun _ => ?_))
      | exact ih0 _ _ _ _ _ _
      | exact ih1 _ _ _ _ _ _
      | exact horologelaw06_alive.mono _
      | exact horologeref06_Day.mono _ _ _ _
      | exact horologeref06_Monday.mono _ _
      | exact horologeref06_Weeks.mono _ _
      | exact LeO.none _
      | refine LeO.ite ?_ ?_
      | refine LeO.bind ?_ (fun _ => ?_)
    · intro y0 y1 y2 y3 y4 y5
      unfold horologelaw06_WeekYears.j1
      repeat' first
      | (with_reducible exact ih0 _ _ _ _ _ _)
      | (with_reducible exact ih1 _ _ _ _ _ _)
      | (with_reducible exact horologelaw06_alive.mono _)
      | (with_reducible exact horologeref06_Day.mono _ _ _ _)
      | (with_reducible exact horologeref06_Monday.mono _ _)
      | (with_reducible exact horologeref06_Weeks.mono _ _)
      | (with_reducible exact LeO.refl _)
      | (with_reducible exact LeO.none _)
      | (with_reducible refine LeO.ite ?_ ?_)
      | (with_reducible refine LeO.bind ?_ (fun _ => ?_))
      | exact ih0 _ _ _ _ _ _
      | exact ih1 _ _ _ _ _ _
      | exact horologelaw06_alive.mono _
      | exact horologeref06_Day.mono _ _ _ _
      | exact horologeref06_Monday.mono _ _
      | exact horologeref06_Weeks.mono _ _
      | exact LeO.none _
      | refine LeO.ite ?_ ?_
      | refine LeO.bind ?_ (fun _ => ?_)
theorem horologelaw06_WeekYears.mono : ∀ a0 a1 a2 k, LeO (horologelaw06_WeekYears.f k a0 a1 a2) (horologelaw06_WeekYears.f (k + 1) a0 a1 a2) := by
  intro a0 a1 a2 k
  obtain ⟨ih0, ih1⟩ := horologelaw06_WeekYears.mono_l k
  unfold horologelaw06_WeekYears.f
  repeat' first
      | (with_reducible exact ih0 _ _ _ _ _ _)
      | (with_reducible exact ih1 _ _ _ _ _ _)
      | (with_reducible exact horologelaw06_alive.mono _)
      | (with_reducible exact horologeref06_Day.mono _ _ _ _)
      | (with_reducible exact horologeref06_Monday.mono _ _)
      | (with_reducible exact horologeref06_Weeks.mono _ _)
      | (with_reducible exact LeO.refl _)
      | (with_reducible exact LeO.none _)
      | (with_reducible refine LeO.ite ?_ ?_)
      | (with_reducible refine LeO.bind ?_ (fun _ => ?_))
      | exact ih0 _ _ _ _ _ _
      | exact ih1 _ _ _ _ _ _
      | exact horologelaw06_alive.mono _
      | exact horologeref06_Day.mono _ _ _ _
      | exact horologeref06_Monday.mono _ _
      | exact horologeref06_Weeks.mono _ _
      | exact LeO.none _
      | refine LeO.ite ?_ ?_
      | refine LeO.bind ?_ (fun _ => ?_)
set_option maxHeartbeats 8000000 in
set_option maxRecDepth 100000 in
theorem horologelaw06_WeekYears.calls (k : Nat) (a0 : Int) (a1 : Int) (a2 : Int) (r : Bool) (w : World) (h : horologelaw06_WeekYears.f k a0 a1 a2 = some r) :
    Calls Try.prog 4 #[.int .i64 a0, .int .i64 a1, .int .i64 a2] w fun e w' => e = .returned (.bool r) ∧ Below w.heap.size w w' := by
  have hu24 := Try.underlying24
  have hu31 := Try.underlying31
  have HB := Aside0.mk (Below.refl w.heap.size w)
  have H : ((horologelaw06_alive.f k).bind fun t301 => (if t301 = true then ((week_Day.f a0 a1 a2).bind fun bt302 => ((week_Weeks.f a0).bind fun bt304 => ((week_Monday.f a0).bind fun bt306 => ((horologeref06_Day.f k a0 a1 a2).bind fun bt308 => (if bt302.1 = bt308.1 then ((horologenum_Num.f bt302.2).bind fun t310 => (horologelaw06_WeekYears.j0 k a0 bt304.1 bt304.2 bt306.1 bt306.2 (t310 != bt308.2))) else (horologelaw06_WeekYears.j0 k a0 bt304.1 bt304.2 bt306.1 bt306.2 true)))))) else (some false))) = some r := h
  clear h
  replace H := Option.bind_eq_some_iff.mp H
  obtain ⟨t301, A40, H⟩ := H
  replace H : (if t301 = true then ((week_Day.f a0 a1 a2).bind fun bt302 => ((week_Weeks.f a0).bind fun bt304 => ((week_Monday.f a0).bind fun bt306 => ((horologeref06_Day.f k a0 a1 a2).bind fun bt308 => (if bt302.1 = bt308.1 then ((horologenum_Num.f bt302.2).bind fun t310 => (horologelaw06_WeekYears.j0 k a0 bt304.1 bt304.2 bt306.1 bt306.2 (t310 != bt308.2))) else (horologelaw06_WeekYears.j0 k a0 bt304.1 bt304.2 bt306.1 bt306.2 true)))))) else (some false)) = some r := H
  have A4 := Aside0.mk A40
  clear A40
  by_cases c5 : t301 = true
  · subst c5
    have H1 : ((week_Day.f a0 a1 a2).bind fun bt302 => ((week_Weeks.f a0).bind fun bt304 => ((week_Monday.f a0).bind fun bt306 => ((horologeref06_Day.f k a0 a1 a2).bind fun bt308 => (if bt302.1 = bt308.1 then ((horologenum_Num.f bt302.2).bind fun t310 => (horologelaw06_WeekYears.j0 k a0 bt304.1 bt304.2 bt306.1 bt306.2 (t310 != bt308.2))) else (horologelaw06_WeekYears.j0 k a0 bt304.1 bt304.2 bt306.1 bt306.2 true)))))) = some r := by rw [if_pos rfl] at H; exact H
    clear H
    have H := H1
    clear H1
    replace H := Option.bind_eq_some_iff.mp H
    obtain ⟨⟨t302, t303⟩, A60, H⟩ := H
    replace H : ((week_Weeks.f a0).bind fun bt304 => ((week_Monday.f a0).bind fun bt306 => ((horologeref06_Day.f k a0 a1 a2).bind fun bt308 => (if t302 = bt308.1 then ((horologenum_Num.f t303).bind fun t310 => (horologelaw06_WeekYears.j0 k a0 bt304.1 bt304.2 bt306.1 bt306.2 (t310 != bt308.2))) else (horologelaw06_WeekYears.j0 k a0 bt304.1 bt304.2 bt306.1 bt306.2 true))))) = some r := H
    have A6 := Aside0.mk A60
    clear A60
    replace H := Option.bind_eq_some_iff.mp H
    obtain ⟨⟨t304, t305⟩, A70, H⟩ := H
    replace H : ((week_Monday.f a0).bind fun bt306 => ((horologeref06_Day.f k a0 a1 a2).bind fun bt308 => (if t302 = bt308.1 then ((horologenum_Num.f t303).bind fun t310 => (horologelaw06_WeekYears.j0 k a0 t304 t305 bt306.1 bt306.2 (t310 != bt308.2))) else (horologelaw06_WeekYears.j0 k a0 t304 t305 bt306.1 bt306.2 true)))) = some r := H
    have A7 := Aside0.mk A70
    clear A70
    replace H := Option.bind_eq_some_iff.mp H
    obtain ⟨⟨t306, t307⟩, A80, H⟩ := H
    replace H : ((horologeref06_Day.f k a0 a1 a2).bind fun bt308 => (if t302 = bt308.1 then ((horologenum_Num.f t303).bind fun t310 => (horologelaw06_WeekYears.j0 k a0 t304 t305 t306 t307 (t310 != bt308.2))) else (horologelaw06_WeekYears.j0 k a0 t304 t305 t306 t307 true))) = some r := H
    have A8 := Aside0.mk A80
    clear A80
    replace H := Option.bind_eq_some_iff.mp H
    obtain ⟨⟨t308, t309⟩, A90, H⟩ := H
    replace H : (if t302 = t308 then ((horologenum_Num.f t303).bind fun t310 => (horologelaw06_WeekYears.j0 k a0 t304 t305 t306 t307 (t310 != t309))) else (horologelaw06_WeekYears.j0 k a0 t304 t305 t306 t307 true)) = some r := H
    have A9 := Aside0.mk A90
    clear A90
    have HC10 := Aside0.mk H
    clear H
    go_enter Try.func4, Try.ntmps4
    go_upto_region 7 with (first | ((with_reducible refine gate_callee (f := 7) rfl ?_); refine goesL_ (some 15) rfl rfl Try.func7 (by kernel_rfl) rfl #[] rfl (by (try simp only [List.map_toArray, List.map_cons, List.map_nil]); first | done | rfl | (simp only [List.length_drop, List.length_take]; rfl) | (refine congrArg (fun z_ => #[Value.int IntKind.i64 z_]) (?_ : Go.RowKit.wrap64 (IntKind.u8.wrap _) = _); rw [IntKind.wrap_u8]; unfold Go.RowKit.wrap64; omega)) ?_; (with_reducible refine (horologelaw06_alive.calls k  true _ A4.out).mono ?_); rintro e w11 ⟨rfl, hb⟩; refine ⟨_, rfl, ?_⟩; have n0_ := Aside0.mk (below_step (by repeat (first | (with_reducible first | exact HB.out | apply below_alloc | apply pw_below_drewN | apply below_drew1) | exact HB.out)) hb); clear HB; have HB := n0_; clear n0_; (try clear hb); (try clear hb2); (try clear hk); (try clear hi)) | ((with_reducible refine gate_callee (f := 15) rfl ?_); refine goesL_ (some 21) rfl rfl Try.func15 (by kernel_rfl) rfl #[.int .i64 a0, .int .i64 a1, .int .i64 a2] rfl (by (try simp only [List.map_toArray, List.map_cons, List.map_nil]); first | done | rfl | (simp only [List.length_drop, List.length_take]; rfl) | (refine congrArg (fun z_ => #[Value.int IntKind.i64 z_]) (?_ : Go.RowKit.wrap64 (IntKind.u8.wrap _) = _); rw [IntKind.wrap_u8]; unfold Go.RowKit.wrap64; omega)) ?_; (with_reducible refine (week_Day.calls a0 a1 a2 t302 t303 _ A6.out).mono ?_); rintro e w' ⟨rfl, ⟨nd, rfl⟩⟩; refine ⟨_, rfl, ?_⟩; (try simp only [errW_none, errW_some])) | ((with_reducible refine gate_callee (f := 16) rfl ?_); refine goesL_ (some 26) rfl rfl Try.func16 (by kernel_rfl) rfl #[.int .i64 a0] rfl (by (try simp only [List.map_toArray, List.map_cons, List.map_nil]); first | done | rfl | (simp only [List.length_drop, List.length_take]; rfl) | (refine congrArg (fun z_ => #[Value.int IntKind.i64 z_]) (?_ : Go.RowKit.wrap64 (IntKind.u8.wrap _) = _); rw [IntKind.wrap_u8]; unfold Go.RowKit.wrap64; omega)) ?_; (with_reducible refine (week_Weeks.calls a0 t304 t305 _ A7.out).mono ?_); rintro e w' ⟨rfl, ⟨nd, rfl⟩⟩; refine ⟨_, rfl, ?_⟩; (try simp only [errW_none, errW_some])) | ((with_reducible refine gate_callee (f := 17) rfl ?_); refine goesL_ (some 31) rfl rfl Try.func17 (by kernel_rfl) rfl #[.int .i64 a0] rfl (by (try simp only [List.map_toArray, List.map_cons, List.map_nil]); first | done | rfl | (simp only [List.length_drop, List.length_take]; rfl) | (refine congrArg (fun z_ => #[Value.int IntKind.i64 z_]) (?_ : Go.RowKit.wrap64 (IntKind.u8.wrap _) = _); rw [IntKind.wrap_u8]; unfold Go.RowKit.wrap64; omega)) ?_; (with_reducible refine (week_Monday.calls a0 t306 t307 _ A8.out).mono ?_); rintro e w' ⟨rfl, ⟨nd, rfl⟩⟩; refine ⟨_, rfl, ?_⟩; (try simp only [errW_none, errW_some])) | ((with_reducible refine gate_callee (f := 18) rfl ?_); refine goesL_ (some 38) rfl rfl Try.func18 (by kernel_rfl) rfl #[.int .i64 a0, .int .i64 a1, .int .i64 a2] rfl (by (try simp only [List.map_toArray, List.map_cons, List.map_nil]); first | done | rfl | (simp only [List.length_drop, List.length_take]; rfl) | (refine congrArg (fun z_ => #[Value.int IntKind.i64 z_]) (?_ : Go.RowKit.wrap64 (IntKind.u8.wrap _) = _); rw [IntKind.wrap_u8]; unfold Go.RowKit.wrap64; omega)) ?_; (with_reducible refine (horologeref06_Day.calls k a0 a1 a2 t308 t309 _ A9.out).mono ?_); rintro e w12 ⟨rfl, hb⟩; refine ⟨_, rfl, ?_⟩; have n0_ := Aside0.mk (below_step (by repeat (first | (with_reducible first | exact HB.out | apply below_alloc | apply pw_below_drewN | apply below_drew1) | exact HB.out)) hb); clear HB; have HB := n0_; clear n0_; (try clear hb); (try clear hb2); (try clear hk); (try clear hi)))
    (try simp only [Act.put, List.setIfInBounds_toArray, List.set_cons_zero, List.set_cons_succ])
    go_cut [49] (fun v49 wc => ∃ (kq : Nat) (x49_9 : Bool), v49 = .bool x49_9 ∧ Aside0 (horologelaw06_WeekYears.j0 kq a0 t304 t305 t306 t307 x49_9 = some r) ∧ Aside0 (kq ≤ k) ∧ Aside0 (Below w.heap.size w wc))
    case first =>
      have H := HC10.out
      clear HC10
      by_cases c13 : t302 = t308
      · rw [if_pos c13] at H
        have c13b0 : (t302 == t308) = true := beq_iff_eq.mpr c13
        have c13b1 : (t302 != t308) = false := bne_eq_false_iff_eq.mpr c13
        clear c13
        (first | rw [c13b0] | (simp only [i64_w, i32_w]; rw [c13b0]) | skip)
        replace H := Option.bind_eq_some_iff.mp H
        obtain ⟨t310, A140, H⟩ := H
        replace H : (horologelaw06_WeekYears.j0 k a0 t304 t305 t306 t307 (t310 != t309)) = some r := H
        have A14 := Aside0.mk A140
        clear A140
        have H' := Aside0.mk H
        clear H
        have CA14 := fun W => horologenum_Num.calls t303 t310 W A14.out
        try simp only [errW_none, errW_some] at CA14
        go_wp2_with (first | (go_at_call 19; (with_reducible refine (CA14 _).mono ?_); rintro e w' ⟨rfl, ⟨nd, rfl⟩⟩))
        go_meet
        case rel => exact ⟨_, ((t310 != t309)), (by first | rfl | (simp; done) | (simp [*]; done)), H', ⟨by first | omega | exact Nat.le_refl _⟩, ⟨by repeat (first | (with_reducible first | exact HB.out | apply below_alloc | apply pw_below_drewN | apply below_drew1) | exact HB.out)⟩⟩
      · rw [if_neg c13] at H
        have c13b0 : (t302 == t308) = false := beq_eq_false_iff_ne.mpr c13
        have c13b1 : (t302 != t308) = true := bne_iff_ne.mpr c13
        (first | rw [c13b0] | (simp only [i64_w, i32_w]; rw [c13b0]) | skip)
        have H' := Aside0.mk H
        clear H
        go_wp2
        go_meet
        case rel => exact ⟨_, (true), (by first | rfl | (simp; done) | (simp [*]; done)), H', ⟨by first | omega | exact Nat.le_refl _⟩, ⟨by repeat (first | (with_reducible first | exact HB.out | apply below_alloc | apply pw_below_drewN | apply below_drew1) | exact HB.out)⟩⟩
    case rest =>
      clear HC10
      try clear c1
      try clear p2
      try clear c4
      try clear c5
      try clear p6
      try clear c7
      try clear c13
      try clear c13b0
      try clear c13b1
      obtain ⟨kq, x49_9, rfl, HA, HJ9, HB⟩ := hcut
      cases kq with
      | zero => exact absurd HA.out (by simp [horologelaw06_WeekYears.j0])
      | succ kj9 =>
        have H := HA.out
        clear HA
        simp only [horologelaw06_WeekYears.j0] at H
        by_cases c15 : x49_9 = true
        · subst c15
          have H1 : (some false) = some r := by rw [if_pos rfl] at H; exact H
          clear H
          have H := H1
          clear H1
          obtain rfl := Option.some.inj H
          go_wp2
          go_ret
          exact ⟨by first | rfl | (simp [errW_none, errW_some] <;> rfl) | (simp [*, errW_none, errW_some] <;> rfl), by repeat (first | (with_reducible first | exact HB.out | apply below_alloc | apply pw_below_drewN | apply below_drew1) | exact HB.out)⟩
        · replace c15 := Bool.eq_false_iff.mpr c15
          subst c15
          have H1 : (if a0 < (-10000) then (horologelaw06_WeekYears.j1 kj9 a0 t304 t305 t306 t307 true) else (horologelaw06_WeekYears.j1 kj9 a0 t304 t305 t306 t307 (decide (a0 > 10000)))) = some r := by rw [if_neg (show ¬ (false = true) by decide)] at H; exact H
          clear H
          have H := H1
          clear H1
          have HC16 := Aside0.mk H
          clear H
          go_upto_region 9 with (fail)
          go_cut [55] (fun v55 wc => ∃ (kq : Nat) (x55_15 : Bool), v55 = .bool x55_15 ∧ Aside0 (horologelaw06_WeekYears.j1 kq a0 t304 t305 t306 t307 x55_15 = some r) ∧ Aside0 (kq ≤ kj9) ∧ Aside0 (Below w.heap.size w wc))
          case first =>
            have H := HC16.out
            clear HC16
            by_cases c17 : a0 < (-10000)
            · rw [if_pos c17] at H
              have c17b0 : decide (a0 < (-10000)) = true := decide_eq_true c17
              clear c17
              (first | rw [c17b0] | (simp only [i64_w, i32_w]; rw [c17b0]) | skip)
              have H' := Aside0.mk H
              clear H
              go_wp2
              go_meet
              case rel => exact ⟨_, (true), (by first | rfl | (simp; done) | (simp [*]; done)), H', ⟨by have := HJ9.out; first | omega | exact Nat.le_refl _⟩, ⟨by repeat (first | (with_reducible first | exact HB.out | apply below_alloc | apply pw_below_drewN | apply below_drew1) | exact HB.out)⟩⟩
            · rw [if_neg c17] at H
              have c17b0 : decide (a0 < (-10000)) = false := decide_eq_false c17
              clear c17
              (first | rw [c17b0] | (simp only [i64_w, i32_w]; rw [c17b0]) | skip)
              have H' := Aside0.mk H
              clear H
              go_wp2
              go_meet
              case rel => exact ⟨_, (decide (a0 > 10000)), (by first | rfl | (simp; done) | (simp [*]; done)), H', ⟨by have := HJ9.out; first | omega | exact Nat.le_refl _⟩, ⟨by repeat (first | (with_reducible first | exact HB.out | apply below_alloc | apply pw_below_drewN | apply below_drew1) | exact HB.out)⟩⟩
          case rest =>
            clear HC16
            try clear c1
            try clear p2
            try clear c4
            try clear c5
            try clear p6
            try clear c7
            try clear c13
            try clear c13b0
            try clear c13b1
            try clear c15
            try clear c16
            try clear c17
            try clear c17b0
            try clear p2
            try clear p6
            obtain ⟨kq, x55_15, rfl, HA, HJ15, HB⟩ := hcut
            cases kq with
            | zero => exact absurd HA.out (by simp [horologelaw06_WeekYears.j1])
            | succ kj15 =>
              have H := HA.out
              clear HA
              simp only [horologelaw06_WeekYears.j1] at H
              by_cases c18 : x55_15 = true
              · subst c18
                have H1 : (if t304 = 0 then (if t306 = 0 then ((horologenum_Is.f t305 13).bind fun t311 => (if t311 = true then ((horologenum_Is.f t307 13).bind fun t312 => (some t312)) else (some false))) else (some false)) else (some false)) = some r := by rw [if_pos rfl] at H; exact H
                clear H
                have H := H1
                clear H1
                by_cases c19 : t304 = 0
                · rw [if_pos c19] at H
                  have c19b0 : (t304 == 0) = true := beq_iff_eq.mpr c19
                  have c19b1 : (t304 != 0) = false := bne_eq_false_iff_eq.mpr c19
                  clear c19
                  by_cases c20 : t306 = 0
                  · rw [if_pos c20] at H
                    have c20b0 : (t306 == 0) = true := beq_iff_eq.mpr c20
                    have c20b1 : (t306 != 0) = false := bne_eq_false_iff_eq.mpr c20
                    clear c20
                    replace H := Option.bind_eq_some_iff.mp H
                    obtain ⟨t311, A210, H⟩ := H
                    replace H : (if t311 = true then ((horologenum_Is.f t307 13).bind fun t312 => (some t312)) else (some false)) = some r := H
                    have A21 := Aside0.mk A210
                    clear A210
                    by_cases c22 : t311 = true
                    · subst c22
                      have H1 : ((horologenum_Is.f t307 13).bind fun t312 => (some t312)) = some r := by rw [if_pos rfl] at H; exact H
                      clear H
                      have H := H1
                      clear H1
                      replace H := Option.bind_eq_some_iff.mp H
                      obtain ⟨t312, A230, H⟩ := H
                      replace H : (some t312) = some r := H
                      have A23 := Aside0.mk A230
                      clear A230
                      obtain rfl := Option.some.inj H
                      have CA21 := fun W => horologenum_Is.calls t305 13 true W A21.out
                      try simp only [errW_none, errW_some] at CA21
                      go_wp2_with (first | (go_at_call 12; (with_reducible refine (CA21 _).mono ?_); rintro e w' ⟨rfl, ⟨nd, rfl⟩⟩; have CA23 := fun W => horologenum_Is.calls t307 13 t312 W A23.out; try simp only [errW_none, errW_some] at CA23) | (go_at_call 12; (with_reducible refine (CA23 _).mono ?_); rintro e w' ⟨rfl, ⟨nd, rfl⟩⟩))
                      go_ret
                      exact ⟨by first | rfl | (simp [errW_none, errW_some] <;> rfl) | (simp [*, errW_none, errW_some] <;> rfl), by repeat (first | (with_reducible first | exact HB.out | apply below_alloc | apply pw_below_drewN | apply below_drew1) | exact HB.out)⟩
                    · replace c22 := Bool.eq_false_iff.mpr c22
                      subst c22
                      have H1 : (some false) = some r := by rw [if_neg (show ¬ (false = true) by decide)] at H; exact H
                      clear H
                      have H := H1
                      clear H1
                      obtain rfl := Option.some.inj H
                      have CA21 := fun W => horologenum_Is.calls t305 13 false W A21.out
                      try simp only [errW_none, errW_some] at CA21
                      go_wp2_with (first | (go_at_call 12; (with_reducible refine (CA21 _).mono ?_); rintro e w' ⟨rfl, ⟨nd, rfl⟩⟩))
                      go_ret
                      exact ⟨by first | rfl | (simp [errW_none, errW_some] <;> rfl) | (simp [*, errW_none, errW_some] <;> rfl), by repeat (first | (with_reducible first | exact HB.out | apply below_alloc | apply pw_below_drewN | apply below_drew1) | exact HB.out)⟩
                  · rw [if_neg c20] at H
                    have c20b0 : (t306 == 0) = false := beq_eq_false_iff_ne.mpr c20
                    have c20b1 : (t306 != 0) = true := bne_iff_ne.mpr c20
                    obtain rfl := Option.some.inj H
                    go_wp2
                    go_ret
                    exact ⟨by first | rfl | (simp [errW_none, errW_some] <;> rfl) | (simp [*, errW_none, errW_some] <;> rfl), by repeat (first | (with_reducible first | exact HB.out | apply below_alloc | apply pw_below_drewN | apply below_drew1) | exact HB.out)⟩
                · rw [if_neg c19] at H
                  have c19b0 : (t304 == 0) = false := beq_eq_false_iff_ne.mpr c19
                  have c19b1 : (t304 != 0) = true := bne_iff_ne.mpr c19
                  obtain rfl := Option.some.inj H
                  go_wp2
                  go_ret
                  exact ⟨by first | rfl | (simp [errW_none, errW_some] <;> rfl) | (simp [*, errW_none, errW_some] <;> rfl), by repeat (first | (with_reducible first | exact HB.out | apply below_alloc | apply pw_below_drewN | apply below_drew1) | exact HB.out)⟩
              · replace c18 := Bool.eq_false_iff.mpr c18
                subst c18
                have H1 : (if t305.isNone = true then (if t307.isNone = true then ((horologeref06_Weeks.f kj15 a0).bind fun t315 => (if t304 = t315 then ((horologeref06_Monday.f kj15 a0).bind fun t316 => (some (t306 == t316))) else (some false))) else (some false)) else (some false)) = some r := by rw [if_neg (show ¬ (false = true) by decide)] at H; exact H
                clear H
                have H := H1
                clear H1
                rcases t305 with _ | q313
                · have H1 : (if t307.isNone = true then ((horologeref06_Weeks.f kj15 a0).bind fun t315 => (if t304 = t315 then ((horologeref06_Monday.f kj15 a0).bind fun t316 => (some (t306 == t316))) else (some false))) else (some false)) = some r := by rw [if_pos (show (none : Option Int).isNone = true by rfl)] at H; exact H
                  clear H
                  have H := H1
                  clear H1
                  try simp only [errW_none, errW_some]
                  rcases t307 with _ | q314
                  · have H1 : ((horologeref06_Weeks.f kj15 a0).bind fun t315 => (if t304 = t315 then ((horologeref06_Monday.f kj15 a0).bind fun t316 => (some (t306 == t316))) else (some false))) = some r := by rw [if_pos (show (none : Option Int).isNone = true by rfl)] at H; exact H
                    clear H
                    have H := H1
                    clear H1
                    try simp only [errW_none, errW_some]
                    replace H := Option.bind_eq_some_iff.mp H
                    obtain ⟨t315, A240, H⟩ := H
                    replace H : (if t304 = t315 then ((horologeref06_Monday.f kj15 a0).bind fun t316 => (some (t306 == t316))) else (some false)) = some r := H
                    have A24 := Aside0.mk A240
                    clear A240
                    by_cases c25 : t304 = t315
                    · rw [if_pos c25] at H
                      have c25b0 : (t304 == t315) = true := beq_iff_eq.mpr c25
                      have c25b1 : (t304 != t315) = false := bne_eq_false_iff_eq.mpr c25
                      clear c25
                      replace H := Option.bind_eq_some_iff.mp H
                      obtain ⟨t316, A260, H⟩ := H
                      replace H : (some (t306 == t316)) = some r := H
                      have A26 := Aside0.mk A260
                      clear A260
                      obtain rfl := Option.some.inj H
                      go_wp2_with (first | (go_at_call 20; (with_reducible refine (horologeref06_Weeks.calls kj15 a0 t315 _ A24.out).mono ?_); rintro e w27 ⟨rfl, hb⟩; have n0_ := Aside0.mk (below_step (by repeat (first | (with_reducible first | exact HB.out | apply below_alloc | apply pw_below_drewN | apply below_drew1) | exact HB.out)) hb); clear HB; have HB := n0_; clear n0_; (try clear hb); (try clear hb2); (try clear hk); (try clear hi)) | (go_at_call 21; (with_reducible refine (horologeref06_Monday.calls kj15 a0 t316 _ A26.out).mono ?_); rintro e w28 ⟨rfl, hb⟩; have n0_ := Aside0.mk (below_step (by repeat (first | (with_reducible first | exact HB.out | apply below_alloc | apply pw_below_drewN | apply below_drew1) | exact HB.out)) hb); clear HB; have HB := n0_; clear n0_; (try clear hb); (try clear hb2); (try clear hk); (try clear hi)))
                      go_ret
                      exact ⟨by first | rfl | (simp [errW_none, errW_some] <;> rfl) | (simp [*, errW_none, errW_some] <;> rfl), by repeat (first | (with_reducible first | exact HB.out | apply below_alloc | apply pw_below_drewN | apply below_drew1) | exact HB.out)⟩
                    · rw [if_neg c25] at H
                      have c25b0 : (t304 == t315) = false := beq_eq_false_iff_ne.mpr c25
                      have c25b1 : (t304 != t315) = true := bne_iff_ne.mpr c25
                      obtain rfl := Option.some.inj H
                      go_wp2_with (first | (go_at_call 20; (with_reducible refine (horologeref06_Weeks.calls kj15 a0 t315 _ A24.out).mono ?_); rintro e w29 ⟨rfl, hb⟩; have n0_ := Aside0.mk (below_step (by repeat (first | (with_reducible first | exact HB.out | apply below_alloc | apply pw_below_drewN | apply below_drew1) | exact HB.out)) hb); clear HB; have HB := n0_; clear n0_; (try clear hb); (try clear hb2); (try clear hk); (try clear hi)))
                      go_ret
                      exact ⟨by first | rfl | (simp [errW_none, errW_some] <;> rfl) | (simp [*, errW_none, errW_some] <;> rfl), by repeat (first | (with_reducible first | exact HB.out | apply below_alloc | apply pw_below_drewN | apply below_drew1) | exact HB.out)⟩
                  · have H1 : (some false) = some r := by rw [if_neg (show ¬ (some q314).isNone = true by simp)] at H; exact H
                    clear H
                    have H := H1
                    clear H1
                    try simp only [errW_none, errW_some]
                    obtain rfl := Option.some.inj H
                    go_wp2
                    go_ret
                    exact ⟨by first | rfl | (simp [errW_none, errW_some] <;> rfl) | (simp [*, errW_none, errW_some] <;> rfl), by repeat (first | (with_reducible first | exact HB.out | apply below_alloc | apply pw_below_drewN | apply below_drew1) | exact HB.out)⟩
                · have H1 : (some false) = some r := by rw [if_neg (show ¬ (some q313).isNone = true by simp)] at H; exact H
                  clear H
                  have H := H1
                  clear H1
                  try simp only [errW_none, errW_some]
                  obtain rfl := Option.some.inj H
                  go_wp2
                  go_ret
                  exact ⟨by first | rfl | (simp [errW_none, errW_some] <;> rfl) | (simp [*, errW_none, errW_some] <;> rfl), by repeat (first | (with_reducible first | exact HB.out | apply below_alloc | apply pw_below_drewN | apply below_drew1) | exact HB.out)⟩
  · replace c5 := Bool.eq_false_iff.mpr c5
    subst c5
    have H1 : (some false) = some r := by rw [if_neg (show ¬ (false = true) by decide)] at H; exact H
    clear H
    have H := H1
    clear H1
    obtain rfl := Option.some.inj H
    go_enter Try.func4, Try.ntmps4
    go_wp2_with (first | ((with_reducible refine gate_callee (f := 7) rfl ?_); refine goesL_ (some 15) rfl rfl Try.func7 (by kernel_rfl) rfl #[] rfl (by (try simp only [List.map_toArray, List.map_cons, List.map_nil]); first | done | rfl | (simp only [List.length_drop, List.length_take]; rfl) | (refine congrArg (fun z_ => #[Value.int IntKind.i64 z_]) (?_ : Go.RowKit.wrap64 (IntKind.u8.wrap _) = _); rw [IntKind.wrap_u8]; unfold Go.RowKit.wrap64; omega)) ?_; (with_reducible refine (horologelaw06_alive.calls k  false _ A4.out).mono ?_); rintro e w30 ⟨rfl, hb⟩; refine ⟨_, rfl, ?_⟩; have n0_ := Aside0.mk (below_step (by repeat (first | (with_reducible first | exact HB.out | apply below_alloc | apply pw_below_drewN | apply below_drew1) | exact HB.out)) hb); clear HB; have HB := n0_; clear n0_; (try clear hb); (try clear hb2); (try clear hk); (try clear hi)))
    go_ret
    exact ⟨by first | rfl | (simp [errW_none, errW_some] <;> rfl) | (simp [*, errW_none, errW_some] <;> rfl), by repeat (first | (with_reducible first | exact HB.out | apply below_alloc | apply pw_below_drewN | apply below_drew1) | exact HB.out)⟩

/-- THE ONE PURE STATEMENT of horologelaw06_WeekYears: yours. -/
def horologelaw06_WeekYears.Pure : Prop := ∀ (a0 : Int) (a1 : Int) (a2 : Int), (Lit.int .i64 a0).wf = true → (Lit.int .i64 a1).wf = true → (Lit.int .i64 a2).wf = true → ∃ k, horologelaw06_WeekYears.f k a0 a1 a2 = some true
theorem horologelaw06_WeekYears.walk (P : horologelaw06_WeekYears.Pure) (a0 : Int) (a1 : Int) (a2 : Int) (w : World) (w0 : (Lit.int .i64 a0).wf = true) (w1 : (Lit.int .i64 a1).wf = true) (w2 : (Lit.int .i64 a2).wf = true) :
    Calls Try.prog 4 #[.int .i64 a0, .int .i64 a1, .int .i64 a2] w fun e w' => e = .returned (.bool true) ∧ Below w.heap.size w w' := by
  obtain ⟨k, h⟩ := P a0 a1 a2 w0 w1 w2
  refine (horologelaw06_WeekYears.calls k a0 a1 a2 true w h).mono ?_
  rintro e w' ⟨rfl, hd⟩
  exact ⟨rfl, hd⟩

end Go.Proofs.Ytmcicjjaneaokaa.MWeekYears
