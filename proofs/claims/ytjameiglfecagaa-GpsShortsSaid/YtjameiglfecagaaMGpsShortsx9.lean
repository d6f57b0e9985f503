-- This text was written by a program of this session (a changed scratch copy of a tool of the kit; NOTES.md tells the changes).
import Derived.Test.YtjameiglfecagaaMGpsShortsx0
import Derived.Test.YtjameiglfecagaaMGpsShortsx1
import Derived.Test.YtjameiglfecagaaMGpsShortsx2
import Derived.Test.YtjameiglfecagaaMGpsShortsx6
import Derived.Test.YtjameiglfecagaaMGpsShortsx7
import Derived.Test.YtjameiglfecagaaMGpsShortsx8
namespace Go.Proofs.Ytjameiglfecagaa.MGpsShorts
open Go.RowKit Go.Proofs.YtjameiglfecagaaW.PrintWords Go.Proofs.YtjameiglfecagaaW.PrintLast Go.Proofs.YtjameiglfecagaaW.PrintMore
attribute [local go_sem] max2_int min2_int max_two min_two max_three min_three max_four min_four   -- for this text's walks alone
set_option linter.unusedVariables false
set_option linter.unusedSimpArgs false

/-! ### horologelaw14_GpsShorts: function 3 -/
mutual
def horologelaw14_GpsShorts.j0 : Nat → Int → Int → Int → Int → Bool → Option (Bool)
  | 0, _, _, _, _, _ => none
  | k + 1, x0, x1, x2, x9, x37 => if x37 = true then (some false) else ((gps_Near.f k x0 x1 x2).bind fun bt398 => ((horologeref14_Of.f k x2).bind fun bt400 => (if bt400.2.2 = 0 then ((horologeref14_Long.f k x0 bt400.1).bind fun bt403 => (horologelaw14_GpsShorts.j1 k x1 bt398.2 bt403.1 bt403.2 bt398.1 0)) else (horologelaw14_GpsShorts.j1 k x1 bt398.2 x9 bt400.2.2 bt398.1 0))))
def horologelaw14_GpsShorts.j1 : Nat → Int → Option Int → Int → Int → Int → Int → Option (Bool)
  | 0, _, _, _, _, _, _ => none
  | k + 1, x1, x8, x9, x10, x11, x14 => if x10 = 0 then ((horologeref14_Tai.f k x9 x1).bind fun bt405 => (if x11 = bt405.1 then ((horologenum_Num.f x8).bind fun t407 => (some (t407 == bt405.2))) else (some false))) else (if x11 = x14 then ((horologenum_Num.f x8).bind fun t408 => (some (t408 == x10))) else (some false))
end
def horologelaw14_GpsShorts.f (k : Nat) (a0 : Int) (a1 : Int) (a2 : Int) : Option (Bool) := (horologelaw14_alive.f k).bind fun t392 => (if t392 = true then ((gps_Long.f k a0 a2).bind fun bt393 => ((horologeref14_Long.f k a0 a2).bind fun bt395 => (if bt393.1 = bt395.1 then ((horologenum_Num.f bt393.2).bind fun t397 => (horologelaw14_GpsShorts.j0 k a0 a1 a2 bt395.1 (t397 != bt395.2))) else (horologelaw14_GpsShorts.j0 k a0 a1 a2 bt395.1 true)))) else (some false))
theorem horologelaw14_GpsShorts.mono_l : ∀ k, (∀ y0 y1 y2 y3 y4, LeO (horologelaw14_GpsShorts.j0 k y0 y1 y2 y3 y4) (horologelaw14_GpsShorts.j0 (k + 1) y0 y1 y2 y3 y4)) ∧ (∀ y0 y1 y2 y3 y4 y5, LeO (horologelaw14_GpsShorts.j1 k y0 y1 y2 y3 y4 y5) (horologelaw14_GpsShorts.j1 (k + 1) y0 y1 y2 y3 y4 y5))
  | 0 => ⟨fun _ _ _ _ _ r h => by simp [horologelaw14_GpsShorts.j0] at h, fun _ _ _ _ _ _ r h => by simp [horologelaw14_GpsShorts.j1] at h⟩
  | k + 1 => by
    obtain ⟨ih0, ih1⟩ := horologelaw14_GpsShorts.mono_l k
    refine ⟨?_, ?_⟩
    · intro y0 y1 y2 y3 y4
      unfold horologelaw14_GpsShorts.j0
      repeat' first
      | (with_reducible exact ih0 _ _ _ _ _)
      | (with_reducible exact ih1 _ _ _ _ _ _)
      | (with_reducible exact gps_Long.mono _ _ _)
      | (with_reducible exact gps_Near.mono _ _ _ _)
      | (with_reducible exact horologelaw14_alive.mono _)
      | (with_reducible exact horologeref14_Long.mono _ _ _)
      | (with_reducible exact horologeref14_Of.mono _ _)
      | (with_reducible exact horologeref14_Tai.mono _ _ _)
      | (with_reducible exact LeO.refl _)
      | (with_reducible exact LeO.none _)
      | (with_reducible refine LeO.ite ?_ ?_)
      | (with_reducible refine LeO.bind ?_ (fun _ => ?_))
      | exact ih0 _ _ _ _ _
      | exact ih1 _ _ _ _ _ _
      | exact gps_Long.mono _ _ _
      | exact gps_Near.mono _ _ _ _
      | exact horologelaw14_alive.mono _
      | exact horologeref14_Long.mono _ _ _
      | exact horologeref14_Of.mono _ _
      | exact horologeref14_Tai.mono _ _ _
      | exact LeO.none _
      | refine LeO.ite ?_ ?_
      | refine LeO.bind ?_ (fun _ => ?_)
    · intro y0 y1 y2 y3 y4 y5
      unfold horologelaw14_GpsShorts.j1
      repeat' first
      | (with_reducible exact ih0 _ _ _ _ _)
      | (with_reducible exact ih1 _ _ _ _ _ _)
      | (with_reducible exact gps_Long.mono _ _ _)
      | (with_reducible exact gps_Near.mono _ _ _ _)
      | (with_reducible exact horologelaw14_alive.mono _)
      | (with_reducible exact horologeref14_Long.mono _ _ _)
      | (with_reducible exact horologeref14_Of.mono _ _)
      | (with_reducible exact horologeref14_Tai.mono _ _ _)
      | (with_reducible exact LeO.refl _)
      | (with_reducible exact LeO.none _)
      | (with_reducible refine LeO.ite ?_ ?_)
      | (with_reducible refine LeO.bind ?_ (fun _ => ?_))
      | exact ih0 _ _ _ _ _
      | exact ih1 _ _ _ _ _ _
      | exact gps_Long.mono _ _ _
      | exact gps_Near.mono _ _ _ _
      | exact horologelaw14_alive.mono _
      | exact horologeref14_Long.mono _ _ _
      | exact horologeref14_Of.mono _ _
      | exact horologeref14_Tai.mono _ _ _
      | exact LeO.none _
      | refine LeO.ite ?_ ?_
      | refine LeO.bind ?_ (fun _ => ?_)
theorem horologelaw14_GpsShorts.mono : ∀ a0 a1 a2 k, LeO (horologelaw14_GpsShorts.f k a0 a1 a2) (horologelaw14_GpsShorts.f (k + 1) a0 a1 a2) := by
  intro a0 a1 a2 k
  obtain ⟨ih0, ih1⟩ := horologelaw14_GpsShorts.mono_l k
  unfold horologelaw14_GpsShorts.f
  repeat' first
      | (with_reducible exact ih0 _ _ _ _ _)
      | (with_reducible exact ih1 _ _ _ _ _ _)
      | (with_reducible exact gps_Long.mono _ _ _)
      | (with_reducible exact gps_Near.mono _ _ _ _)
      | (with_reducible exact horologelaw14_alive.mono _)
      | (with_reducible exact horologeref14_Long.mono _ _ _)
      | (with_reducible exact horologeref14_Of.mono _ _)
      | (with_reducible exact horologeref14_Tai.mono _ _ _)
      | (with_reducible exact LeO.refl _)
      | (with_reducible exact LeO.none _)
      | (with_reducible refine LeO.ite ?_ ?_)
      | (with_reducible refine LeO.bind ?_ (fun _ => ?_))
      | exact ih0 _ _ _ _ _
      | exact ih1 _ _ _ _ _ _
      | exact gps_Long.mono _ _ _
      | exact gps_Near.mono _ _ _ _
      | exact horologelaw14_alive.mono _
      | exact horologeref14_Long.mono _ _ _
      | exact horologeref14_Of.mono _ _
      | exact horologeref14_Tai.mono _ _ _
      | exact LeO.none _
      | refine LeO.ite ?_ ?_
      | refine LeO.bind ?_ (fun _ => ?_)
set_option maxHeartbeats 8000000 in
set_option maxRecDepth 100000 in
theorem horologelaw14_GpsShorts.calls (k : Nat) (a0 : Int) (a1 : Int) (a2 : Int) (r : Bool) (w : World) (h : horologelaw14_GpsShorts.f k a0 a1 a2 = some r) :
    Calls Try.prog 3 #[.int .i64 a0, .int .i64 a1, .int .i64 a2] w fun e w' => e = .returned (.bool r) ∧ Below w.heap.size w w' := by
  have HB := Aside0.mk (Below.refl w.heap.size w)
  have H : ((horologelaw14_alive.f k).bind fun t392 => (if t392 = true then ((gps_Long.f k a0 a2).bind fun bt393 => ((horologeref14_Long.f k a0 a2).bind fun bt395 => (if bt393.1 = bt395.1 then ((horologenum_Num.f bt393.2).bind fun t397 => (horologelaw14_GpsShorts.j0 k a0 a1 a2 bt395.1 (t397 != bt395.2))) else (horologelaw14_GpsShorts.j0 k a0 a1 a2 bt395.1 true)))) else (some false))) = some r := h
  clear h
  replace H := Option.bind_eq_some_iff.mp H
  obtain ⟨t392, A40, H⟩ := H
  replace H : (if t392 = true then ((gps_Long.f k a0 a2).bind fun bt393 => ((horologeref14_Long.f k a0 a2).bind fun bt395 => (if bt393.1 = bt395.1 then ((horologenum_Num.f bt393.2).bind fun t397 => (horologelaw14_GpsShorts.j0 k a0 a1 a2 bt395.1 (t397 != bt395.2))) else (horologelaw14_GpsShorts.j0 k a0 a1 a2 bt395.1 true)))) else (some false)) = some r := H
  have A4 := Aside0.mk A40
  clear A40
  by_cases c5 : t392 = true
  · subst c5
    have H1 : ((gps_Long.f k a0 a2).bind fun bt393 => ((horologeref14_Long.f k a0 a2).bind fun bt395 => (if bt393.1 = bt395.1 then ((horologenum_Num.f bt393.2).bind fun t397 => (horologelaw14_GpsShorts.j0 k a0 a1 a2 bt395.1 (t397 != bt395.2))) else (horologelaw14_GpsShorts.j0 k a0 a1 a2 bt395.1 true)))) = some r := by rw [if_pos rfl] at H; exact H
    clear H
    have H := H1
    clear H1
    replace H := Option.bind_eq_some_iff.mp H
    obtain ⟨⟨t393, t394⟩, A60, H⟩ := H
    replace H : ((horologeref14_Long.f k a0 a2).bind fun bt395 => (if t393 = bt395.1 then ((horologenum_Num.f t394).bind fun t397 => (horologelaw14_GpsShorts.j0 k a0 a1 a2 bt395.1 (t397 != bt395.2))) else (horologelaw14_GpsShorts.j0 k a0 a1 a2 bt395.1 true))) = some r := H
    have A6 := Aside0.mk A60
    clear A60
    replace H := Option.bind_eq_some_iff.mp H
    obtain ⟨⟨t395, t396⟩, A70, H⟩ := H
    replace H : (if t393 = t395 then ((horologenum_Num.f t394).bind fun t397 => (horologelaw14_GpsShorts.j0 k a0 a1 a2 t395 (t397 != t396))) else (horologelaw14_GpsShorts.j0 k a0 a1 a2 t395 true)) = some r := H
    have A7 := Aside0.mk A70
    clear A70
    have HC8 := Aside0.mk H
    clear H
    go_enter Try.func3, Try.ntmps3
    go_upto_region 5 with (first | ((with_reducible refine gate_callee (f := 7) rfl ?_); refine goesL_ (some 15) rfl rfl Try.func7 (by kernel_rfl) rfl #[] rfl (by (try simp only [List.map_toArray, List.map_cons, List.map_nil]); first | done | rfl | (simp only [List.length_drop, List.length_take]; rfl) | (refine congrArg (fun z_ => #[Value.int IntKind.i64 z_]) (?_ : Go.RowKit.wrap64 (IntKind.u8.wrap _) = _); rw [IntKind.wrap_u8]; unfold Go.RowKit.wrap64; omega)) ?_; (with_reducible refine (horologelaw14_alive.calls k  true _ A4.out).mono ?_); rintro e w' ⟨rfl, ⟨nd, rfl⟩⟩; refine ⟨_, rfl, ?_⟩) | ((with_reducible refine gate_callee (f := 8) rfl ?_); refine goesL_ (some 20) rfl rfl Try.func8 (by kernel_rfl) rfl #[.int .i64 a0, .int .i64 a2] rfl (by (try simp only [List.map_toArray, List.map_cons, List.map_nil]); first | done | rfl | (simp only [List.length_drop, List.length_take]; rfl) | (refine congrArg (fun z_ => #[Value.int IntKind.i64 z_]) (?_ : Go.RowKit.wrap64 (IntKind.u8.wrap _) = _); rw [IntKind.wrap_u8]; unfold Go.RowKit.wrap64; omega)) ?_; (with_reducible refine (gps_Long.calls k a0 a2 t393 t394 _ A6.out).mono ?_); rintro e w' ⟨rfl, ⟨nd, rfl⟩⟩; refine ⟨_, rfl, ?_⟩; (try simp only [errW_none, errW_some])) | ((with_reducible refine gate_callee (f := 9) rfl ?_); refine goesL_ (some 26) rfl rfl Try.func9 (by kernel_rfl) rfl #[.int .i64 a0, .int .i64 a2] rfl (by (try simp only [List.map_toArray, List.map_cons, List.map_nil]); first | done | rfl | (simp only [List.length_drop, List.length_take]; rfl) | (refine congrArg (fun z_ => #[Value.int IntKind.i64 z_]) (?_ : Go.RowKit.wrap64 (IntKind.u8.wrap _) = _); rw [IntKind.wrap_u8]; unfold Go.RowKit.wrap64; omega)) ?_; (with_reducible refine (horologeref14_Long.calls k a0 a2 t395 t396 _ A7.out).mono ?_); rintro e w9 ⟨rfl, hb⟩; refine ⟨_, rfl, ?_⟩; have n0_ := Aside0.mk (below_step (by repeat (first | (with_reducible first | exact HB.out | apply below_alloc | apply pw_below_drewN | apply below_drew1) | exact HB.out)) hb); clear HB; have HB := n0_; clear n0_; (try clear hb); (try clear hb2); (try clear hk); (try clear hi)))
    (try simp only [Act.put, List.setIfInBounds_toArray, List.set_cons_zero, List.set_cons_succ])
    go_cut [37] (fun v37 wc => ∃ (kq : Nat) (x37_7 : Bool), v37 = .bool x37_7 ∧ Aside0 (horologelaw14_GpsShorts.j0 kq a0 a1 a2 t395 x37_7 = some r) ∧ Aside0 (kq ≤ k) ∧ Aside0 (Below w.heap.size w wc))
    case first =>
      have H := HC8.out
      clear HC8
      by_cases c10 : t393 = t395
      · rw [if_pos c10] at H
        have c10b0 : (t393 == t395) = true := beq_iff_eq.mpr c10
        have c10b1 : (t393 != t395) = false := bne_eq_false_iff_eq.mpr c10
        clear c10
        (first | rw [c10b0] | (simp only [i64_w, i32_w]; rw [c10b0]) | skip)
        replace H := Option.bind_eq_some_iff.mp H
        obtain ⟨t397, A110, H⟩ := H
        replace H : (horologelaw14_GpsShorts.j0 k a0 a1 a2 t395 (t397 != t396)) = some r := H
        have A11 := Aside0.mk A110
        clear A110
        have H' := Aside0.mk H
        clear H
        have CA11 := fun W => horologenum_Num.calls t394 t397 W A11.out
        try simp only [errW_none, errW_some] at CA11
        go_wp2_with (first | (go_at_call 10; (with_reducible refine (CA11 _).mono ?_); rintro e w' ⟨rfl, ⟨nd, rfl⟩⟩))
        go_meet
        case rel => exact ⟨_, ((t397 != t396)), (by first | rfl | (simp; done) | (simp [*]; done)), H', ⟨by first | omega | exact Nat.le_refl _⟩, ⟨by repeat (first | (with_reducible first | exact HB.out | apply below_alloc | apply pw_below_drewN | apply below_drew1) | exact HB.out)⟩⟩
      · rw [if_neg c10] at H
        have c10b0 : (t393 == t395) = false := beq_eq_false_iff_ne.mpr c10
        have c10b1 : (t393 != t395) = true := bne_iff_ne.mpr c10
        (first | rw [c10b0] | (simp only [i64_w, i32_w]; rw [c10b0]) | skip)
        have H' := Aside0.mk H
        clear H
        go_wp2
        go_meet
        case rel => exact ⟨_, (true), (by first | rfl | (simp; done) | (simp [*]; done)), H', ⟨by first | omega | exact Nat.le_refl _⟩, ⟨by repeat (first | (with_reducible first | exact HB.out | apply below_alloc | apply pw_below_drewN | apply below_drew1) | exact HB.out)⟩⟩
    case rest =>
      clear HC8
      try clear c1
      try clear p2
      try clear c3
      try clear c5
      try clear p6
      try clear c7
      try clear c8
      try clear c9
      try clear c10
      try clear c10b0
      try clear c10b1
      obtain ⟨kq, x37_7, rfl, HA, HJ7, HB⟩ := hcut
      cases kq with
      | zero => exact absurd HA.out (by simp [horologelaw14_GpsShorts.j0])
      | succ kj7 =>
        have H := HA.out
        clear HA
        simp only [horologelaw14_GpsShorts.j0] at H
        by_cases c12 : x37_7 = true
        · subst c12
          have H1 : (some false) = some r := by rw [if_pos rfl] at H; exact H
          clear H
          have H := H1
          clear H1
          obtain rfl := Option.some.inj H
          go_wp2
          go_ret
          exact ⟨by first | rfl | (simp [errW_none, errW_some] <;> rfl) | (simp [*, errW_none, errW_some] <;> rfl), by repeat (first | (with_reducible first | exact HB.out | apply below_alloc | apply pw_below_drewN | apply below_drew1) | exact HB.out)⟩
        · replace c12 := Bool.eq_false_iff.mpr c12
          subst c12
          have H1 : ((gps_Near.f kj7 a0 a1 a2).bind fun bt398 => ((horologeref14_Of.f kj7 a2).bind fun bt400 => (if bt400.2.2 = 0 then ((horologeref14_Long.f kj7 a0 bt400.1).bind fun bt403 => (horologelaw14_GpsShorts.j1 kj7 a1 bt398.2 bt403.1 bt403.2 bt398.1 0)) else (horologelaw14_GpsShorts.j1 kj7 a1 bt398.2 t395 bt400.2.2 bt398.1 0)))) = some r := by rw [if_neg (show ¬ (false = true) by decide)] at H; exact H
          clear H
          have H := H1
          clear H1
          replace H := Option.bind_eq_some_iff.mp H
          obtain ⟨⟨t398, t399⟩, A130, H⟩ := H
          replace H : ((horologeref14_Of.f kj7 a2).bind fun bt400 => (if bt400.2.2 = 0 then ((horologeref14_Long.f kj7 a0 bt400.1).bind fun bt403 => (horologelaw14_GpsShorts.j1 kj7 a1 t399 bt403.1 bt403.2 t398 0)) else (horologelaw14_GpsShorts.j1 kj7 a1 t399 t395 bt400.2.2 t398 0))) = some r := H
          have A13 := Aside0.mk A130
          clear A130
          replace H := Option.bind_eq_some_iff.mp H
          obtain ⟨⟨t400, t401, t402⟩, A140, H⟩ := H
          replace H : (if t402 = 0 then ((horologeref14_Long.f kj7 a0 t400).bind fun bt403 => (horologelaw14_GpsShorts.j1 kj7 a1 t399 bt403.1 bt403.2 t398 0)) else (horologelaw14_GpsShorts.j1 kj7 a1 t399 t395 t402 t398 0)) = some r := H
          have A14 := Aside0.mk A140
          clear A140
          have HC15 := Aside0.mk H
          clear H
          go_upto_if 52 with (first | ((with_reducible refine gate_callee (f := 11) rfl ?_); refine goesL_ (some 42) rfl rfl Try.func11 (by kernel_rfl) rfl #[.int .i64 a0, .int .i64 a1, .int .i64 a2] rfl (by (try simp only [List.map_toArray, List.map_cons, List.map_nil]); first | done | rfl | (simp only [List.length_drop, List.length_take]; rfl) | (refine congrArg (fun z_ => #[Value.int IntKind.i64 z_]) (?_ : Go.RowKit.wrap64 (IntKind.u8.wrap _) = _); rw [IntKind.wrap_u8]; unfold Go.RowKit.wrap64; omega)) ?_; (with_reducible refine (gps_Near.calls kj7 a0 a1 a2 t398 t399 _ A13.out).mono ?_); rintro e w16 ⟨rfl, hb⟩; refine ⟨_, rfl, ?_⟩; have n0_ := Aside0.mk (below_step (by repeat (first | (with_reducible first | exact HB.out | apply below_alloc | apply pw_below_drewN | apply below_drew1) | exact HB.out)) hb); clear HB; have HB := n0_; clear n0_; (try clear hb); (try clear hb2); (try clear hk); (try clear hi); (try simp only [errW_none, errW_some])) | ((with_reducible refine gate_callee (f := 12) rfl ?_); refine goesL_ (some 47) rfl rfl Try.func12 (by kernel_rfl) rfl #[.int .i64 a2] rfl (by (try simp only [List.map_toArray, List.map_cons, List.map_nil]); first | done | rfl | (simp only [List.length_drop, List.length_take]; rfl) | (refine congrArg (fun z_ => #[Value.int IntKind.i64 z_]) (?_ : Go.RowKit.wrap64 (IntKind.u8.wrap _) = _); rw [IntKind.wrap_u8]; unfold Go.RowKit.wrap64; omega)) ?_; (with_reducible refine (horologeref14_Of.calls kj7 a2 t400 t401 t402 _ A14.out).mono ?_); rintro e w17 ⟨rfl, hb⟩; refine ⟨_, rfl, ?_⟩; have n0_ := Aside0.mk (below_step (by repeat (first | (with_reducible first | exact HB.out | apply below_alloc | apply pw_below_drewN | apply below_drew1) | exact HB.out)) hb); clear HB; have HB := n0_; clear n0_; (try clear hb); (try clear hb2); (try clear hk); (try clear hi)))
          (try simp only [Act.put, List.setIfInBounds_toArray, List.set_cons_zero, List.set_cons_succ])
          go_cut [9, 10] (fun v9 v10 wc => ∃ (kq : Nat) (x9_14 : Int) (x10_14 : Int), v9 = .int .i64 x9_14 ∧ v10 = .int .i64 x10_14 ∧ Aside0 (horologelaw14_GpsShorts.j1 kq a1 t399 x9_14 x10_14 t398 0 = some r) ∧ Aside0 (kq ≤ kj7) ∧ Aside0 (Below w.heap.size w wc))
          case first =>
            have H := HC15.out
            clear HC15
            by_cases c18 : t402 = 0
            · rw [if_pos c18] at H
              have c18b0 : (t402 == 0) = true := beq_iff_eq.mpr c18
              have c18b1 : (t402 != 0) = false := bne_eq_false_iff_eq.mpr c18
              clear c18
              (first | rw [c18b0] | (simp only [i64_w, i32_w]; rw [c18b0]) | skip)
              replace H := Option.bind_eq_some_iff.mp H
              obtain ⟨⟨t403, t404⟩, A190, H⟩ := H
              replace H : (horologelaw14_GpsShorts.j1 kj7 a1 t399 t403 t404 t398 0) = some r := H
              have A19 := Aside0.mk A190
              clear A190
              have H' := Aside0.mk H
              clear H
              go_wp2_with (first | ((with_reducible refine gate_callee (f := 9) rfl ?_); refine goesL_ (some 56) rfl rfl Try.func9 (by kernel_rfl) rfl #[.int .i64 a0, .int .i64 t400] rfl (by (try simp only [List.map_toArray, List.map_cons, List.map_nil]); first | done | rfl | (simp only [List.length_drop, List.length_take]; rfl) | (refine congrArg (fun z_ => #[Value.int IntKind.i64 z_]) (?_ : Go.RowKit.wrap64 (IntKind.u8.wrap _) = _); rw [IntKind.wrap_u8]; unfold Go.RowKit.wrap64; omega)) ?_; (with_reducible refine (horologeref14_Long.calls kj7 a0 t400 t403 t404 _ A19.out).mono ?_); rintro e w20 ⟨rfl, hb⟩; refine ⟨_, rfl, ?_⟩; have n0_ := Aside0.mk (below_step (by repeat (first | (with_reducible first | exact HB.out | apply below_alloc | apply pw_below_drewN | apply below_drew1) | exact HB.out)) hb); clear HB; have HB := n0_; clear n0_; (try clear hb); (try clear hb2); (try clear hk); (try clear hi)))
              go_meet
              case rel => exact ⟨_, (t403), (t404), (by first | rfl | (simp; done) | (simp [*]; done)), (by first | rfl | (simp; done) | (simp [*]; done)), H', ⟨by have := HJ7.out; first | omega | exact Nat.le_refl _⟩, ⟨by repeat (first | (with_reducible first | exact HB.out | apply below_alloc | apply pw_below_drewN | apply below_drew1) | exact HB.out)⟩⟩
            · rw [if_neg c18] at H
              have c18b0 : (t402 == 0) = false := beq_eq_false_iff_ne.mpr c18
              have c18b1 : (t402 != 0) = true := bne_iff_ne.mpr c18
              (first | rw [c18b0] | (simp only [i64_w, i32_w]; rw [c18b0]) | skip)
              have H' := Aside0.mk H
              clear H
              go_wp2
              go_meet
              case rel => exact ⟨_, (t395), (t402), (by first | rfl | (simp; done) | (simp [*]; done)), (by first | rfl | (simp; done) | (simp [*]; done)), H', ⟨by have := HJ7.out; first | omega | exact Nat.le_refl _⟩, ⟨by repeat (first | (with_reducible first | exact HB.out | apply below_alloc | apply pw_below_drewN | apply below_drew1) | exact HB.out)⟩⟩
          case rest =>
            clear HC15
            try clear c1
            try clear p2
            try clear c3
            try clear c5
            try clear p6
            try clear c7
            try clear c8
            try clear c9
            try clear c10
            try clear c10b0
            try clear c10b1
            try clear c11
            try clear c12
            try clear c18
            try clear c18b0
            try clear c18b1
            try clear p2
            try clear p6
            obtain ⟨kq, x9_14, x10_14, rfl, rfl, HA, HJ14, HB⟩ := hcut
            cases kq with
            | zero => exact absurd HA.out (by simp [horologelaw14_GpsShorts.j1])
            | succ kj14 =>
              have H := HA.out
              clear HA
              simp only [horologelaw14_GpsShorts.j1] at H
              by_cases c21 : x10_14 = 0
              · rw [if_pos c21] at H
                have c21b0 : (x10_14 == 0) = true := beq_iff_eq.mpr c21
                have c21b1 : (x10_14 != 0) = false := bne_eq_false_iff_eq.mpr c21
                clear c21
                replace H := Option.bind_eq_some_iff.mp H
                obtain ⟨⟨t405, t406⟩, A220, H⟩ := H
                replace H : (if t398 = t405 then ((horologenum_Num.f t399).bind fun t407 => (some (t407 == t406))) else (some false)) = some r := H
                have A22 := Aside0.mk A220
                clear A220
                by_cases c23 : t398 = t405
                · rw [if_pos c23] at H
                  have c23b0 : (t398 == t405) = true := beq_iff_eq.mpr c23
                  have c23b1 : (t398 != t405) = false := bne_eq_false_iff_eq.mpr c23
                  clear c23
                  replace H := Option.bind_eq_some_iff.mp H
                  obtain ⟨t407, A240, H⟩ := H
                  replace H : (some (t407 == t406)) = some r := H
                  have A24 := Aside0.mk A240
                  clear A240
                  obtain rfl := Option.some.inj H
                  go_wp2_with (first | ((with_reducible refine gate_callee (f := 13) rfl ?_); refine goesL_ (some 64) rfl rfl Try.func13 (by kernel_rfl) rfl #[.int .i64 x9_14, .int .i64 a1] rfl (by (try simp only [List.map_toArray, List.map_cons, List.map_nil]); first | done | rfl | (simp only [List.length_drop, List.length_take]; rfl) | (refine congrArg (fun z_ => #[Value.int IntKind.i64 z_]) (?_ : Go.RowKit.wrap64 (IntKind.u8.wrap _) = _); rw [IntKind.wrap_u8]; unfold Go.RowKit.wrap64; omega)) ?_; (with_reducible refine (horologeref14_Tai.calls kj14 x9_14 a1 t405 t406 _ A22.out).mono ?_); rintro e w25 ⟨rfl, hb⟩; refine ⟨_, rfl, ?_⟩; have n0_ := Aside0.mk (below_step (by repeat (first | (with_reducible first | exact HB.out | apply below_alloc | apply pw_below_drewN | apply below_drew1) | exact HB.out)) hb); clear HB; have HB := n0_; clear n0_; (try clear hb); (try clear hb2); (try clear hk); (try clear hi); have CA24 := fun W => horologenum_Num.calls t399 t407 W A24.out; try simp only [errW_none, errW_some] at CA24) | (go_at_call 10; (with_reducible refine (CA24 _).mono ?_); rintro e w' ⟨rfl, ⟨nd, rfl⟩⟩))
                  go_ret
                  exact ⟨by first | rfl | (simp [errW_none, errW_some] <;> rfl) | (simp [*, errW_none, errW_some] <;> rfl), by repeat (first | (with_reducible first | exact HB.out | apply below_alloc | apply pw_below_drewN | apply below_drew1) | exact HB.out)⟩
                · rw [if_neg c23] at H
                  have c23b0 : (t398 == t405) = false := beq_eq_false_iff_ne.mpr c23
                  have c23b1 : (t398 != t405) = true := bne_iff_ne.mpr c23
                  obtain rfl := Option.some.inj H
                  go_wp2_with (first | ((with_reducible refine gate_callee (f := 13) rfl ?_); refine goesL_ (some 64) rfl rfl Try.func13 (by kernel_rfl) rfl #[.int .i64 x9_14, .int .i64 a1] rfl (by (try simp only [List.map_toArray, List.map_cons, List.map_nil]); first | done | rfl | (simp only [List.length_drop, List.length_take]; rfl) | (refine congrArg (fun z_ => #[Value.int IntKind.i64 z_]) (?_ : Go.RowKit.wrap64 (IntKind.u8.wrap _) = _); rw [IntKind.wrap_u8]; unfold Go.RowKit.wrap64; omega)) ?_; (with_reducible refine (horologeref14_Tai.calls kj14 x9_14 a1 t405 t406 _ A22.out).mono ?_); rintro e w26 ⟨rfl, hb⟩; refine ⟨_, rfl, ?_⟩; have n0_ := Aside0.mk (below_step (by repeat (first | (with_reducible first | exact HB.out | apply below_alloc | apply pw_below_drewN | apply below_drew1) | exact HB.out)) hb); clear HB; have HB := n0_; clear n0_; (try clear hb); (try clear hb2); (try clear hk); (try clear hi)))
                  go_ret
                  exact ⟨by first | rfl | (simp [errW_none, errW_some] <;> rfl) | (simp [*, errW_none, errW_some] <;> rfl), by repeat (first | (with_reducible first | exact HB.out | apply below_alloc | apply pw_below_drewN | apply below_drew1) | exact HB.out)⟩
              · rw [if_neg c21] at H
                have c21b0 : (x10_14 == 0) = false := beq_eq_false_iff_ne.mpr c21
                have c21b1 : (x10_14 != 0) = true := bne_iff_ne.mpr c21
                by_cases c27 : t398 = 0
                · rw [if_pos c27] at H
                  have c27b0 : (t398 == 0) = true := beq_iff_eq.mpr c27
                  have c27b1 : (t398 != 0) = false := bne_eq_false_iff_eq.mpr c27
                  clear c27
                  replace H := Option.bind_eq_some_iff.mp H
                  obtain ⟨t408, A280, H⟩ := H
                  replace H : (some (t408 == x10_14)) = some r := H
                  have A28 := Aside0.mk A280
                  clear A280
                  obtain rfl := Option.some.inj H
                  have CA28 := fun W => horologenum_Num.calls t399 t408 W A28.out
                  try simp only [errW_none, errW_some] at CA28
                  go_wp2_with (first | (go_at_call 10; (with_reducible refine (CA28 _).mono ?_); rintro e w' ⟨rfl, ⟨nd, rfl⟩⟩))
                  go_ret
                  exact ⟨by first | rfl | (simp [errW_none, errW_some] <;> rfl) | (simp [*, errW_none, errW_some] <;> rfl), by repeat (first | (with_reducible first | exact HB.out | apply below_alloc | apply pw_below_drewN | apply below_drew1) | exact HB.out)⟩
                · rw [if_neg c27] at H
                  have c27b0 : (t398 == 0) = false := beq_eq_false_iff_ne.mpr c27
                  have c27b1 : (t398 != 0) = true := bne_iff_ne.mpr c27
                  obtain rfl := Option.some.inj H
                  go_wp2
                  go_ret
                  exact ⟨by first | rfl | (simp [errW_none, errW_some] <;> rfl) | (simp [*, errW_none, errW_some] <;> rfl), by repeat (first | (with_reducible first | exact HB.out | apply below_alloc | apply pw_below_drewN | apply below_drew1) | exact HB.out)⟩
  · replace c5 := Bool.eq_false_iff.mpr c5
    subst c5
    have H1 : (some false) = some r := by rw [if_neg (show ¬ (false = true) by decide)] at H; exact H
    clear H
    have H := H1
    clear H1
    obtain rfl := Option.some.inj H
    go_enter Try.func3, Try.ntmps3
    go_wp2_with (first | ((with_reducible refine gate_callee (f := 7) rfl ?_); refine goesL_ (some 15) rfl rfl Try.func7 (by kernel_rfl) rfl #[] rfl (by (try simp only [List.map_toArray, List.map_cons, List.map_nil]); first | done | rfl | (simp only [List.length_drop, List.length_take]; rfl) | (refine congrArg (fun z_ => #[Value.int IntKind.i64 z_]) (?_ : Go.RowKit.wrap64 (IntKind.u8.wrap _) = _); rw [IntKind.wrap_u8]; unfold Go.RowKit.wrap64; omega)) ?_; (with_reducible refine (horologelaw14_alive.calls k  false _ A4.out).mono ?_); rintro e w' ⟨rfl, ⟨nd, rfl⟩⟩; refine ⟨_, rfl, ?_⟩))
    go_ret
    exact ⟨by first | rfl | (simp [errW_none, errW_some] <;> rfl) | (simp [*, errW_none, errW_some] <;> rfl), by repeat (first | (with_reducible first | exact HB.out | apply below_alloc | apply pw_below_drewN | apply below_drew1) | exact HB.out)⟩

/-- THE ONE PURE STATEMENT of horologelaw14_GpsShorts: yours. -/
def horologelaw14_GpsShorts.Pure : Prop := ∀ (a0 : Int) (a1 : Int) (a2 : Int), (Lit.int .i64 a0).wf = true → (Lit.int .i64 a1).wf = true → (Lit.int .i64 a2).wf = true → ∃ k, horologelaw14_GpsShorts.f k a0 a1 a2 = some true
theorem horologelaw14_GpsShorts.walk (P : horologelaw14_GpsShorts.Pure) (a0 : Int) (a1 : Int) (a2 : Int) (w : World) (w0 : (Lit.int .i64 a0).wf = true) (w1 : (Lit.int .i64 a1).wf = true) (w2 : (Lit.int .i64 a2).wf = true) :
    Calls Try.prog 3 #[.int .i64 a0, .int .i64 a1, .int .i64 a2] w fun e w' => e = .returned (.bool true) ∧ Below w.heap.size w w' := by
  obtain ⟨k, h⟩ := P a0 a1 a2 w0 w1 w2
  refine (horologelaw14_GpsShorts.calls k a0 a1 a2 true w h).mono ?_
  rintro e w' ⟨rfl, hd⟩
  exact ⟨rfl, hd⟩

end Go.Proofs.Ytjameiglfecagaa.MGpsShorts
