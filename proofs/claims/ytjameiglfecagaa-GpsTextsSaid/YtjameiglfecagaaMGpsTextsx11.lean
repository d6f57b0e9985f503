-- This text was written by a program of this session (a changed scratch copy of a tool of the kit; NOTES.md tells the changes).
import Derived.Test.YtjameiglfecagaaMGpsTextsx0
import Derived.Test.YtjameiglfecagaaMGpsTextsx1
import Derived.Test.YtjameiglfecagaaMGpsTextsx4
import Derived.Test.YtjameiglfecagaaMGpsTextsx10
namespace Go.Proofs.Ytjameiglfecagaa.MGpsTexts
open Go.RowKit Go.Proofs.YtjameiglfecagaaW.PrintWords Go.Proofs.YtjameiglfecagaaW.PrintLast Go.Proofs.YtjameiglfecagaaW.PrintMore
attribute [local go_sem] max2_int min2_int max_two min_two max_three min_three max_four min_four   -- for this text's walks alone
set_option linter.unusedVariables false
set_option linter.unusedSimpArgs false

/-! ### horologelaw14_GpsTexts: function 5 -/
def horologelaw14_GpsTexts.f (k : Nat) (a0 : ByteArray) : Option (Bool) := (horologelaw14_alive.f k).bind fun t471 => (if t471 = true then (if (a0.size : Int) > 100 then (some true) else ((gps_Parse.f k a0).bind fun bt472 => ((horologeref14_Parse.f k a0).bind fun bt474 => (if bt472.1 = bt474.1 then ((horologenum_Num.f bt472.2).bind fun t476 => (some (t476 == bt474.2))) else (some false))))) else (some false))
theorem horologelaw14_GpsTexts.mono : ∀ a0 k, LeO (horologelaw14_GpsTexts.f k a0) (horologelaw14_GpsTexts.f (k + 1) a0) := by
  intro a0 k
  unfold horologelaw14_GpsTexts.f
  repeat' first
      | (with_reducible exact gps_Parse.mono _ _)
      | (with_reducible exact horologelaw14_alive.mono _)
      | (with_reducible exact horologeref14_Parse.mono _ _)
      | (with_reducible exact LeO.refl _)
      | (with_reducible exact LeO.none _)
      | (with_reducible refine LeO.ite ?_ ?_)
      | (with_reducible refine LeO.bind ?_ (fun _ => ?_))
      | exact gps_Parse.mono _ _
      | exact horologelaw14_alive.mono _
      | exact horologeref14_Parse.mono _ _
      | exact LeO.none _
      | refine LeO.ite ?_ ?_
      | refine LeO.bind ?_ (fun _ => ?_)
set_option maxHeartbeats 8000000 in
set_option maxRecDepth 100000 in
theorem horologelaw14_GpsTexts.calls (k : Nat) (a0 : ByteArray) (r : Bool) (w : World) (h : horologelaw14_GpsTexts.f k a0 = some r) :
    Calls Try.prog 5 #[.string a0] w fun e w' => e = .returned (.bool r) ∧ Below w.heap.size w w' := by
  have HB := Aside0.mk (Below.refl w.heap.size w)
  have H : ((horologelaw14_alive.f k).bind fun t471 => (if t471 = true then (if (a0.size : Int) > 100 then (some true) else ((gps_Parse.f k a0).bind fun bt472 => ((horologeref14_Parse.f k a0).bind fun bt474 => (if bt472.1 = bt474.1 then ((horologenum_Num.f bt472.2).bind fun t476 => (some (t476 == bt474.2))) else (some false))))) else (some false))) = some r := h
  clear h
  replace H := Option.bind_eq_some_iff.mp H
  obtain ⟨t471, A20, H⟩ := H
  replace H : (if t471 = true then (if (a0.size : Int) > 100 then (some true) else ((gps_Parse.f k a0).bind fun bt472 => ((horologeref14_Parse.f k a0).bind fun bt474 => (if bt472.1 = bt474.1 then ((horologenum_Num.f bt472.2).bind fun t476 => (some (t476 == bt474.2))) else (some false))))) else (some false)) = some r := H
  have A2 := Aside0.mk A20
  clear A20
  by_cases c3 : t471 = true
  · subst c3
    have H1 : (if (a0.size : Int) > 100 then (some true) else ((gps_Parse.f k a0).bind fun bt472 => ((horologeref14_Parse.f k a0).bind fun bt474 => (if bt472.1 = bt474.1 then ((horologenum_Num.f bt472.2).bind fun t476 => (some (t476 == bt474.2))) else (some false))))) = some r := by rw [if_pos rfl] at H; exact H
    clear H
    have H := H1
    clear H1
    by_cases c4 : (a0.size : Int) > 100
    · rw [if_pos c4] at H
      have c4b0 : decide (100 < (a0.size : Int)) = true := decide_eq_true c4
      have c4b1 : decide (100 < a0.size) = true := decide_eq_true (by omega)
      clear c4
      obtain rfl := Option.some.inj H
      go_enter Try.func5, Try.ntmps5
      go_wp2_with (first | ((with_reducible refine gate_callee (f := 7) rfl ?_); refine goesL_ (some 7) rfl rfl Try.func7 (by kernel_rfl) rfl #[] rfl (by (try simp only [List.map_toArray, List.map_cons, List.map_nil]); first | done | rfl | (simp only [List.length_drop, List.length_take]; rfl) | (refine congrArg (fun z_ => #[Value.int IntKind.i64 z_]) (?_ : Go.RowKit.wrap64 (IntKind.u8.wrap _) = _); rw [IntKind.wrap_u8]; unfold Go.RowKit.wrap64; omega)) ?_; (with_reducible refine (horologelaw14_alive.calls k  true _ A2.out).mono ?_); rintro e w' ⟨rfl, ⟨nd, rfl⟩⟩; refine ⟨_, rfl, ?_⟩))
      go_ret
      exact ⟨by first | rfl | (simp [errW_none, errW_some] <;> rfl) | (simp [*, errW_none, errW_some] <;> rfl), by repeat (first | (with_reducible first | exact HB.out | apply below_alloc | apply pw_below_drewN | apply below_drew1) | exact HB.out)⟩
    · rw [if_neg c4] at H
      have c4b0 : decide (100 < (a0.size : Int)) = false := decide_eq_false c4
      have c4b1 : decide (100 < a0.size) = false := decide_eq_false (by omega)
      clear c4
      replace H := Option.bind_eq_some_iff.mp H
      obtain ⟨⟨t472, t473⟩, A50, H⟩ := H
      replace H : ((horologeref14_Parse.f k a0).bind fun bt474 => (if t472 = bt474.1 then ((horologenum_Num.f t473).bind fun t476 => (some (t476 == bt474.2))) else (some false))) = some r := H
      have A5 := Aside0.mk A50
      clear A50
      replace H := Option.bind_eq_some_iff.mp H
      obtain ⟨⟨t474, t475⟩, A60, H⟩ := H
      replace H : (if t472 = t474 then ((horologenum_Num.f t473).bind fun t476 => (some (t476 == t475))) else (some false)) = some r := H
      have A6 := Aside0.mk A60
      clear A60
      by_cases c7 : t472 = t474
      · rw [if_pos c7] at H
        have c7b0 : (t472 == t474) = true := beq_iff_eq.mpr c7
        have c7b1 : (t472 != t474) = false := bne_eq_false_iff_eq.mpr c7
        clear c7
        replace H := Option.bind_eq_some_iff.mp H
        obtain ⟨t476, A80, H⟩ := H
        replace H : (some (t476 == t475)) = some r := H
        have A8 := Aside0.mk A80
        clear A80
        obtain rfl := Option.some.inj H
        go_enter Try.func5, Try.ntmps5
        go_wp2_with (first | ((with_reducible refine gate_callee (f := 7) rfl ?_); refine goesL_ (some 7) rfl rfl Try.func7 (by kernel_rfl) rfl #[] rfl (by (try simp only [List.map_toArray, List.map_cons, List.map_nil]); first | done | rfl | (simp only [List.length_drop, List.length_take]; rfl) | (refine congrArg (fun z_ => #[Value.int IntKind.i64 z_]) (?_ : Go.RowKit.wrap64 (IntKind.u8.wrap _) = _); rw [IntKind.wrap_u8]; unfold Go.RowKit.wrap64; omega)) ?_; (with_reducible refine (horologelaw14_alive.calls k  true _ A2.out).mono ?_); rintro e w' ⟨rfl, ⟨nd, rfl⟩⟩; refine ⟨_, rfl, ?_⟩) | ((with_reducible refine gate_callee (f := 20) rfl ?_); refine goesL_ (some 14) rfl rfl Try.func20 (by kernel_rfl) rfl #[.string a0] rfl (by (try simp only [List.map_toArray, List.map_cons, List.map_nil]); first | done | rfl | (simp only [List.length_drop, List.length_take]; rfl) | (refine congrArg (fun z_ => #[Value.int IntKind.i64 z_]) (?_ : Go.RowKit.wrap64 (IntKind.u8.wrap _) = _); rw [IntKind.wrap_u8]; unfold Go.RowKit.wrap64; omega)) ?_; (with_reducible refine (gps_Parse.calls k a0 t472 t473 _ A5.out).mono ?_); rintro e w9 ⟨rfl, hb⟩; refine ⟨_, rfl, ?_⟩; have n0_ := Aside0.mk (below_step (by repeat (first | (with_reducible first | exact HB.out | apply below_alloc | apply pw_below_drewN | apply below_drew1) | exact HB.out)) hb); clear HB; have HB := n0_; clear n0_; (try clear hb); (try clear hb2); (try clear hk); (try clear hi); (try simp only [errW_none, errW_some])) | ((with_reducible refine gate_callee (f := 21) rfl ?_); refine goesL_ (some 19) rfl rfl Try.func21 (by kernel_rfl) rfl #[.string a0] rfl (by (try simp only [List.map_toArray, List.map_cons, List.map_nil]); first | done | rfl | (simp only [List.length_drop, List.length_take]; rfl) | (refine congrArg (fun z_ => #[Value.int IntKind.i64 z_]) (?_ : Go.RowKit.wrap64 (IntKind.u8.wrap _) = _); rw [IntKind.wrap_u8]; unfold Go.RowKit.wrap64; omega)) ?_; (with_reducible refine (horologeref14_Parse.calls k a0 t474 t475 _ A6.out).mono ?_); rintro e w10 ⟨rfl, hb⟩; refine ⟨_, rfl, ?_⟩; have n0_ := Aside0.mk (below_step (by repeat (first | (with_reducible first | exact HB.out | apply below_alloc | apply pw_below_drewN | apply below_drew1) | exact HB.out)) hb); clear HB; have HB := n0_; clear n0_; (try clear hb); (try clear hb2); (try clear hk); (try clear hi); have CA8 := fun W => horologenum_Num.calls t473 t476 W A8.out; try simp only [errW_none, errW_some] at CA8) | (go_at_call 10; (with_reducible refine (CA8 _).mono ?_); rintro e w' ⟨rfl, ⟨nd, rfl⟩⟩))
        go_ret
        exact ⟨by first | rfl | (simp [errW_none, errW_some] <;> rfl) | (simp [*, errW_none, errW_some] <;> rfl), by repeat (first | (with_reducible first | exact HB.out | apply below_alloc | apply pw_below_drewN | apply below_drew1) | exact HB.out)⟩
      · rw [if_neg c7] at H
        have c7b0 : (t472 == t474) = false := beq_eq_false_iff_ne.mpr c7
        have c7b1 : (t472 != t474) = true := bne_iff_ne.mpr c7
        obtain rfl := Option.some.inj H
        go_enter Try.func5, Try.ntmps5
        go_wp2_with (first | ((with_reducible refine gate_callee (f := 7) rfl ?_); refine goesL_ (some 7) rfl rfl Try.func7 (by kernel_rfl) rfl #[] rfl (by (try simp only [List.map_toArray, List.map_cons, List.map_nil]); first | done | rfl | (simp only [List.length_drop, List.length_take]; rfl) | (refine congrArg (fun z_ => #[Value.int IntKind.i64 z_]) (?_ : Go.RowKit.wrap64 (IntKind.u8.wrap _) = _); rw [IntKind.wrap_u8]; unfold Go.RowKit.wrap64; omega)) ?_; (with_reducible refine (horologelaw14_alive.calls k  true _ A2.out).mono ?_); rintro e w' ⟨rfl, ⟨nd, rfl⟩⟩; refine ⟨_, rfl, ?_⟩) | ((with_reducible refine gate_callee (f := 20) rfl ?_); refine goesL_ (some 14) rfl rfl Try.func20 (by kernel_rfl) rfl #[.string a0] rfl (by (try simp only [List.map_toArray, List.map_cons, List.map_nil]); first | done | rfl | (simp only [List.length_drop, List.length_take]; rfl) | (refine congrArg (fun z_ => #[Value.int IntKind.i64 z_]) (?_ : Go.RowKit.wrap64 (IntKind.u8.wrap _) = _); rw [IntKind.wrap_u8]; unfold Go.RowKit.wrap64; omega)) ?_; (with_reducible refine (gps_Parse.calls k a0 t472 t473 _ A5.out).mono ?_); rintro e w11 ⟨rfl, hb⟩; refine ⟨_, rfl, ?_⟩; have n0_ := Aside0.mk (below_step (by repeat (first | (with_reducible first | exact HB.out | apply below_alloc | apply pw_below_drewN | apply below_drew1) | exact HB.out)) hb); clear HB; have HB := n0_; clear n0_; (try clear hb); (try clear hb2); (try clear hk); (try clear hi); (try simp only [errW_none, errW_some])) | ((with_reducible refine gate_callee (f := 21) rfl ?_); refine goesL_ (some 19) rfl rfl Try.func21 (by kernel_rfl) rfl #[.string a0] rfl (by (try simp only [List.map_toArray, List.map_cons, List.map_nil]); first | done | rfl | (simp only [List.length_drop, List.length_take]; rfl) | (refine congrArg (fun z_ => #[Value.int IntKind.i64 z_]) (?_ : Go.RowKit.wrap64 (IntKind.u8.wrap _) = _); rw [IntKind.wrap_u8]; unfold Go.RowKit.wrap64; omega)) ?_; (with_reducible refine (horologeref14_Parse.calls k a0 t474 t475 _ A6.out).mono ?_); rintro e w12 ⟨rfl, hb⟩; refine ⟨_, rfl, ?_⟩; have n0_ := Aside0.mk (below_step (by repeat (first | (with_reducible first | exact HB.out | apply below_alloc | apply pw_below_drewN | apply below_drew1) | exact HB.out)) hb); clear HB; have HB := n0_; clear n0_; (try clear hb); (try clear hb2); (try clear hk); (try clear hi)))
        go_ret
        exact ⟨by first | rfl | (simp [errW_none, errW_some] <;> rfl) | (simp [*, errW_none, errW_some] <;> rfl), by repeat (first | (with_reducible first | exact HB.out | apply below_alloc | apply pw_below_drewN | apply below_drew1) | exact HB.out)⟩
  · replace c3 := Bool.eq_false_iff.mpr c3
    subst c3
    have H1 : (some false) = some r := by rw [if_neg (show ¬ (false = true) by decide)] at H; exact H
    clear H
    have H := H1
    clear H1
    obtain rfl := Option.some.inj H
    go_enter Try.func5, Try.ntmps5
    go_wp2_with (first | ((with_reducible refine gate_callee (f := 7) rfl ?_); refine goesL_ (some 7) rfl rfl Try.func7 (by kernel_rfl) rfl #[] rfl (by (try simp only [List.map_toArray, List.map_cons, List.map_nil]); first | done | rfl | (simp only [List.length_drop, List.length_take]; rfl) | (refine congrArg (fun z_ => #[Value.int IntKind.i64 z_]) (?_ : Go.RowKit.wrap64 (IntKind.u8.wrap _) = _); rw [IntKind.wrap_u8]; unfold Go.RowKit.wrap64; omega)) ?_; (with_reducible refine (horologelaw14_alive.calls k  false _ A2.out).mono ?_); rintro e w' ⟨rfl, ⟨nd, rfl⟩⟩; refine ⟨_, rfl, ?_⟩))
    go_ret
    exact ⟨by first | rfl | (simp [errW_none, errW_some] <;> rfl) | (simp [*, errW_none, errW_some] <;> rfl), by repeat (first | (with_reducible first | exact HB.out | apply below_alloc | apply pw_below_drewN | apply below_drew1) | exact HB.out)⟩

/-- THE ONE PURE STATEMENT of horologelaw14_GpsTexts: yours. -/
def horologelaw14_GpsTexts.Pure : Prop := ∀ (a0 : ByteArray), a0.size ≤ 140737488351232 → ∃ k, horologelaw14_GpsTexts.f k a0 = some true
theorem horologelaw14_GpsTexts.walk (P : horologelaw14_GpsTexts.Pure) (a0 : ByteArray) (w : World) (w0 : a0.size ≤ 140737488351232) :
    Calls Try.prog 5 #[.string a0] w fun e w' => e = .returned (.bool true) ∧ Below w.heap.size w w' := by
  obtain ⟨k, h⟩ := P a0 w0
  refine (horologelaw14_GpsTexts.calls k a0 true w h).mono ?_
  rintro e w' ⟨rfl, hd⟩
  exact ⟨rfl, hd⟩

end Go.Proofs.Ytjameiglfecagaa.MGpsTexts
