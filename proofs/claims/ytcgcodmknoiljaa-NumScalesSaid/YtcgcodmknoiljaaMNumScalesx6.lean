-- The law's walk: begun by a changed scratch copy of a tool of the kit, written on by hand.
import Derived.Test.YtcgcodmknoiljaaMNumScalesx0
import Derived.Test.YtcgcodmknoiljaaMNumScalesx1
import Derived.Test.YtcgcodmknoiljaaMNumScalesx2
import Derived.Test.YtcgcodmknoiljaaMNumScalesx3
import Derived.Test.YtcgcodmknoiljaaMNumScalesx4
import Derived.Test.YtcgcodmknoiljaaMNumScalesx5
import Derived.Test.YtcgcodmknoiljaaMemBase
namespace Go.Proofs.Ytcgcodmknoiljaa.MNumScales
open Go.RowKit Go.Proofs.YtcgcodmknoiljaaW.PrintWords Go.Proofs.YtcgcodmknoiljaaW.PrintLast Go.Proofs.YtcgcodmknoiljaaW.PrintMore
attribute [local go_sem] max2_int min2_int max_two min_two max_three min_three max_four min_four   -- for this text's walks alone
set_option linter.unusedVariables false
set_option linter.unusedSimpArgs false

/-! ### horologelaw01_NumScales: function 7 -/
def horologelaw01_NumScales.j0 : Nat → Int → Int → Int → Int → Option Int → Bool → Option (Bool)
  | 0, _, _, _, _, _, _ => none
  | k + 1, x0, x1, x2, x7, x8, x30 => if x30 = true then (if x7 = 0 then ((horologenum_Is.f x8 1).bind fun t193 => (some t193)) else (some false)) else ((horologeref01_Of.f k x0).bind fun bt194 => ((horologeref01_Of.f k x1).bind fun bt198 => ((horologeref01_Times.f k bt194.1 bt194.2 bt198.1 bt198.2).bind fun bt202 => ((horologeref01_Of.f k x2).bind fun bt206 => ((horologeref01_Of.f k 9223372036854775807).bind fun bt212 => ((horologeref01_Of.f k 1).bind fun bt216 => ((horologeref01_Plus.f k bt212.1 bt212.2 bt216.1 bt216.2).bind fun bt220 => ((horologeref01_Times.f k bt206.1 bt206.2 bt220.1 bt220.2).bind fun bt224 => ((horologeref01_Less.f k bt202.1 bt202.2 bt224.1 bt224.2).bind fun t229 => (if t229 = true then (if x8.isNone = true then ((horologeref01_Of.f k x7).bind fun bt232 => ((horologeref01_Quotient.f k bt202.1 bt202.2 bt206.1 bt206.2 bt232.1 bt232.2).bind fun t236 => (some t236))) else (some false)) else (if x7 = 0 then ((horologenum_Is.f x8 5).bind fun t230 => (some t230)) else (some false))))))))))))
def horologelaw01_NumScales.f (k : Nat) (a0 : Int) (a1 : Int) (a2 : Int) : Option (Bool) := (horologelaw01_alive.f k).bind fun t190 => (if t190 = true then ((num_Scale.f k a0 a1 a2).bind fun bt191 => (if a0 < 0 then (horologelaw01_NumScales.j0 k a0 a1 a2 bt191.1 bt191.2 true) else (if a1 < 0 then (horologelaw01_NumScales.j0 k a0 a1 a2 bt191.1 bt191.2 true) else (horologelaw01_NumScales.j0 k a0 a1 a2 bt191.1 bt191.2 (decide (a2 < 1)))))) else (some false))
theorem horologelaw01_NumScales.mono_l : ∀ k, (∀ y0 y1 y2 y3 y4 y5, LeO (horologelaw01_NumScales.j0 k y0 y1 y2 y3 y4 y5) (horologelaw01_NumScales.j0 (k + 1) y0 y1 y2 y3 y4 y5))
  | 0 => fun _ _ _ _ _ _ r h => by simp [horologelaw01_NumScales.j0] at h
  | k + 1 => by
    have ih0 := horologelaw01_NumScales.mono_l k
    · intro y0 y1 y2 y3 y4 y5
      unfold horologelaw01_NumScales.j0
      repeat' first
      | (with_reducible exact ih0 _ _ _ _ _ _)
      | (with_reducible exact horologelaw01_alive.mono _)
      | (with_reducible exact horologeref01_Less.mono _ _ _ _ _)
      | (with_reducible exact horologeref01_Of.mono _ _)
      | (with_reducible exact horologeref01_Plus.mono _ _ _ _ _)
      | (with_reducible exact horologeref01_Quotient.mono _ _ _ _ _ _ _)
      | (with_reducible exact horologeref01_Times.mono _ _ _ _ _)
      | (with_reducible exact num_Scale.mono _ _ _ _)
      | (with_reducible exact LeO.refl _)
      | (with_reducible exact LeO.none _)
      | (with_reducible refine LeO.ite ?_ ?_)
      | (with_reducible refine LeO.bind ?_ (fun _ => ?_))
      | exact ih0 _ _ _ _ _ _
      | exact horologelaw01_alive.mono _
      | exact horologeref01_Less.mono _ _ _ _ _
      | exact horologeref01_Of.mono _ _
      | exact horologeref01_Plus.mono _ _ _ _ _
      | exact horologeref01_Quotient.mono _ _ _ _ _ _ _
      | exact horologeref01_Times.mono _ _ _ _ _
      | exact num_Scale.mono _ _ _ _
      | exact LeO.none _
      | refine LeO.ite ?_ ?_
      | refine LeO.bind ?_ (fun _ => ?_)
theorem horologelaw01_NumScales.mono : ∀ a0 a1 a2 k, LeO (horologelaw01_NumScales.f k a0 a1 a2) (horologelaw01_NumScales.f (k + 1) a0 a1 a2) := by
  intro a0 a1 a2 k
  have ih0 := horologelaw01_NumScales.mono_l k
  unfold horologelaw01_NumScales.f
  repeat' first
      | (with_reducible exact ih0 _ _ _ _ _ _)
      | (with_reducible exact horologelaw01_alive.mono _)
      | (with_reducible exact horologeref01_Less.mono _ _ _ _ _)
      | (with_reducible exact horologeref01_Of.mono _ _)
      | (with_reducible exact horologeref01_Plus.mono _ _ _ _ _)
      | (with_reducible exact horologeref01_Quotient.mono _ _ _ _ _ _ _)
      | (with_reducible exact horologeref01_Times.mono _ _ _ _ _)
      | (with_reducible exact num_Scale.mono _ _ _ _)
      | (with_reducible exact LeO.refl _)
      | (with_reducible exact LeO.none _)
      | (with_reducible refine LeO.ite ?_ ?_)
      | (with_reducible refine LeO.bind ?_ (fun _ => ?_))
      | exact ih0 _ _ _ _ _ _
      | exact horologelaw01_alive.mono _
      | exact horologeref01_Less.mono _ _ _ _ _
      | exact horologeref01_Of.mono _ _
      | exact horologeref01_Plus.mono _ _ _ _ _
      | exact horologeref01_Quotient.mono _ _ _ _ _ _ _
      | exact horologeref01_Times.mono _ _ _ _ _
      | exact num_Scale.mono _ _ _ _
      | exact LeO.none _
      | refine LeO.ite ?_ ?_
      | refine LeO.bind ?_ (fun _ => ?_)
/-- A box of a number. -/
def Box (w : World) (g : Nat) (b : Bool) (v : Value) : Prop := w.heap[g]? = some (.cells #[.bool b, v] 33 (0, 0))
/-- What the operations of region 7 leave. -/
def F7 (V0 : Value) (o1 o2 o3 o4 : Bool × List Int) (n0 : Nat) : Nat → Value → World → Prop
  | 0, v, _ => v = V0
  | 1, v, w => QRd w v o1
  | 2, v, w => QRd w v o2
  | 3, v, w => QRd w v o3
  | 4, v, w => QRd w v o4
  | _, v, w => ∃ g, v = .pointer (some ⟨g, 0, none⟩) ∧ n0 ≤ g ∧ Box w g false (.slice none 0 0)
theorem F7.keep {V0 : Value} {o1 o2 o3 o4 : Bool × List Int} {n0 : Nat} : ∀ i v (w w' : World), i < 6 → F7 V0 o1 o2 o3 o4 n0 i v w → Below w.heap.size w w' → F7 V0 o1 o2 o3 o4 n0 i v w' := by
  intro i v w w' _ h hb
  rcases i with _ | _ | _ | _ | _ | i
  · exact h
  · exact QRd.below h hb
  · exact QRd.below h hb
  · exact QRd.below h hb
  · exact QRd.below h hb
  · obtain ⟨g, e, hg, hx⟩ := h
    exact ⟨g, e, hg, blk_below hx hb⟩
/-- What the operations of region 10 leave. -/
def F10 (V3 V4 : Value) (q : Int) (o6 : Bool × List Int) (r : Bool) : Nat → Value → World → Prop
  | 0, v, _ => v = .nilIface
  | 1, v, _ => v = .bool true
  | 2, v, _ => v = .bool true
  | 3, v, _ => v = V3
  | 4, v, _ => v = V4
  | 5, v, _ => v = .int .i64 q
  | 6, v, w => QRd w v o6
  | _, v, _ => v = .bool r
theorem F10.keep {V3 V4 : Value} {q : Int} {o6 : Bool × List Int} {r : Bool} : ∀ i v (w w' : World), i < 10 → F10 V3 V4 q o6 r i v w → Below w.heap.size w w' → F10 V3 V4 q o6 r i v w' := by
  intro i v w w' _ h hb
  rcases i with _ | _ | _ | _ | _ | _ | _ | i
  · exact h
  · exact h
  · exact h
  · exact h
  · exact h
  · exact h
  · exact QRd.below h hb
  · exact h
set_option maxHeartbeats 8000000 in
set_option maxRecDepth 100000 in
theorem horologelaw01_NumScales.calls (k : Nat) (a0 : Int) (a1 : Int) (a2 : Int) (r : Bool) (w : World) (h : horologelaw01_NumScales.f k a0 a1 a2 = some r) :
    Calls Try.prog 7 #[.int .i64 a0, .int .i64 a1, .int .i64 a2] w fun e w' => e = .returned (.bool r) ∧ Below w.heap.size w w' := by
  have hu33 := Try.underlying33
  have hu24 := Try.underlying24
  have hu30 := Try.underlying30
  have HB := Aside0.mk (Below.refl w.heap.size w)
  have H : ((horologelaw01_alive.f k).bind fun t190 => (if t190 = true then ((num_Scale.f k a0 a1 a2).bind fun bt191 => (if a0 < 0 then (horologelaw01_NumScales.j0 k a0 a1 a2 bt191.1 bt191.2 true) else (if a1 < 0 then (horologelaw01_NumScales.j0 k a0 a1 a2 bt191.1 bt191.2 true) else (horologelaw01_NumScales.j0 k a0 a1 a2 bt191.1 bt191.2 (decide (a2 < 1)))))) else (some false))) = some r := h
  clear h
  replace H := Option.bind_eq_some_iff.mp H
  obtain ⟨t190, A40, H⟩ := H
  replace H : (if t190 = true then ((num_Scale.f k a0 a1 a2).bind fun bt191 => (if a0 < 0 then (horologelaw01_NumScales.j0 k a0 a1 a2 bt191.1 bt191.2 true) else (if a1 < 0 then (horologelaw01_NumScales.j0 k a0 a1 a2 bt191.1 bt191.2 true) else (horologelaw01_NumScales.j0 k a0 a1 a2 bt191.1 bt191.2 (decide (a2 < 1)))))) else (some false)) = some r := H
  have A4 := Aside0.mk A40
  clear A40
  by_cases c5 : t190 = true
  · subst c5
    have H1 : ((num_Scale.f k a0 a1 a2).bind fun bt191 => (if a0 < 0 then (horologelaw01_NumScales.j0 k a0 a1 a2 bt191.1 bt191.2 true) else (if a1 < 0 then (horologelaw01_NumScales.j0 k a0 a1 a2 bt191.1 bt191.2 true) else (horologelaw01_NumScales.j0 k a0 a1 a2 bt191.1 bt191.2 (decide (a2 < 1)))))) = some r := by rw [if_pos rfl] at H; exact H
    clear H
    have H := H1
    clear H1
    replace H := Option.bind_eq_some_iff.mp H
    obtain ⟨⟨t191, t192⟩, A60, H⟩ := H
    replace H : (if a0 < 0 then (horologelaw01_NumScales.j0 k a0 a1 a2 t191 t192 true) else (if a1 < 0 then (horologelaw01_NumScales.j0 k a0 a1 a2 t191 t192 true) else (horologelaw01_NumScales.j0 k a0 a1 a2 t191 t192 (decide (a2 < 1))))) = some r := H
    have A6 := Aside0.mk A60
    clear A60
    have HC7 := Aside0.mk H
    clear H
    go_enter Try.func7, Try.ntmps7
    go_upto_region 4 with (first | ((with_reducible refine gate_callee (f := 8) rfl ?_); refine goesL_ (some 12) rfl rfl Try.func8 (by kernel_rfl) rfl #[] rfl (by (try simp only [List.map_toArray, List.map_cons, List.map_nil]); first | done | rfl | (simp only [List.length_drop, List.length_take]; rfl) | (refine congrArg (fun z_ => #[Value.int IntKind.i64 z_]) (?_ : Go.RowKit.wrap64 (IntKind.u8.wrap _) = _); rw [IntKind.wrap_u8]; unfold Go.RowKit.wrap64; omega)) ?_; (with_reducible refine (horologelaw01_alive.calls k  true _ A4.out).mono ?_); rintro e w' ⟨rfl, ⟨nd, rfl⟩⟩; refine ⟨_, rfl, ?_⟩) | ((with_reducible refine gate_callee (f := 28) rfl ?_); refine goesL_ (some 18) rfl rfl Try.func28 (by kernel_rfl) rfl #[.int .i64 a0, .int .i64 a1, .int .i64 a2] rfl (by (try simp only [List.map_toArray, List.map_cons, List.map_nil]); first | done | rfl | (simp only [List.length_drop, List.length_take]; rfl) | (refine congrArg (fun z_ => #[Value.int IntKind.i64 z_]) (?_ : Go.RowKit.wrap64 (IntKind.u8.wrap _) = _); rw [IntKind.wrap_u8]; unfold Go.RowKit.wrap64; omega)) ?_; (with_reducible refine (num_Scale.calls k a0 a1 a2 t191 t192 _ A6.out).mono ?_); rintro e w' ⟨rfl, ⟨nd, rfl⟩⟩; refine ⟨_, rfl, ?_⟩; (try simp only [errW_none, errW_some])))
    (try simp only [Act.put, List.setIfInBounds_toArray, List.set_cons_zero, List.set_cons_succ])
    go_cut [30] (fun v30 wc => ∃ (kq : Nat) (x30_6 : Bool), v30 = .bool x30_6 ∧ Aside0 (horologelaw01_NumScales.j0 kq a0 a1 a2 t191 t192 x30_6 = some r) ∧ Aside0 (kq ≤ k) ∧ Aside0 (Below w.heap.size w wc))
    case first =>
      have H := HC7.out
      clear HC7
      by_cases c8 : a0 < 0
      · rw [if_pos c8] at H
        have c8b0 : decide (a0 < 0) = true := decide_eq_true c8
        clear c8
        (first | rw [c8b0] | (simp only [i64_w, i32_w]; rw [c8b0]) | skip)
        have H' := Aside0.mk H
        clear H
        go_wp2
        go_meet
        case rel => exact ⟨_, (true), (by first | rfl | (simp; done) | (simp [*]; done)), H', ⟨by first | omega | exact Nat.le_refl _⟩, ⟨by repeat (first | (with_reducible first | exact HB.out | apply below_alloc | apply pw_below_drewN | apply below_drew1) | exact HB.out)⟩⟩
      · rw [if_neg c8] at H
        have c8b0 : decide (a0 < 0) = false := decide_eq_false c8
        clear c8
        (first | rw [c8b0] | (simp only [i64_w, i32_w]; rw [c8b0]) | skip)
        by_cases c9 : a1 < 0
        · rw [if_pos c9] at H
          have c9b0 : decide (a1 < 0) = true := decide_eq_true c9
          clear c9
          have H' := Aside0.mk H
          clear H
          go_wp2
          go_meet
          case rel => exact ⟨_, (true), (by first | rfl | (simp; done) | (simp [*]; done)), H', ⟨by first | omega | exact Nat.le_refl _⟩, ⟨by repeat (first | (with_reducible first | exact HB.out | apply below_alloc | apply pw_below_drewN | apply below_drew1) | exact HB.out)⟩⟩
        · rw [if_neg c9] at H
          have c9b0 : decide (a1 < 0) = false := decide_eq_false c9
          clear c9
          have H' := Aside0.mk H
          clear H
          go_wp2
          go_meet
          case rel => exact ⟨_, (decide (a2 < 1)), (by first | rfl | (simp; done) | (simp [*]; done)), H', ⟨by first | omega | exact Nat.le_refl _⟩, ⟨by repeat (first | (with_reducible first | exact HB.out | apply below_alloc | apply pw_below_drewN | apply below_drew1) | exact HB.out)⟩⟩
    case rest =>
      clear HC7
      try clear c2
      try clear p2
      try clear c5
      try clear p6
      try clear c7
      try clear c8
      try clear c8b0
      try clear c9
      try clear c9b0
      obtain ⟨kq, x30_6, rfl, HA, HJ6, HB⟩ := hcut
      cases kq with
      | zero => exact absurd HA.out (by simp [horologelaw01_NumScales.j0])
      | succ kj6 =>
        have H := HA.out
        clear HA
        simp only [horologelaw01_NumScales.j0] at H
        by_cases c10 : x30_6 = true
        · subst c10
          have H1 : (if t191 = 0 then ((horologenum_Is.f t192 1).bind fun t193 => (some t193)) else (some false)) = some r := by rw [if_pos rfl] at H; exact H
          clear H
          have H := H1
          clear H1
          by_cases c11 : t191 = 0
          · rw [if_pos c11] at H
            have c11b0 : (t191 == 0) = true := beq_iff_eq.mpr c11
            have c11b1 : (t191 != 0) = false := bne_eq_false_iff_eq.mpr c11
            clear c11
            replace H := Option.bind_eq_some_iff.mp H
            obtain ⟨t193, A120, H⟩ := H
            replace H : (some t193) = some r := H
            have A12 := Aside0.mk A120
            clear A120
            obtain rfl := Option.some.inj H
            have CA12 := fun W => horologenum_Is.calls t192 1 t193 W A12.out
            try simp only [errW_none, errW_some] at CA12
            go_wp2_with (first | (go_at_call 12; (with_reducible refine (CA12 _).mono ?_); rintro e w' ⟨rfl, ⟨nd, rfl⟩⟩))
            go_ret
            exact ⟨by first | rfl | (simp [errW_none, errW_some] <;> rfl) | (simp [*, errW_none, errW_some] <;> rfl), by repeat (first | (with_reducible first | exact HB.out | apply below_alloc | apply pw_below_drewN | apply below_drew1) | exact HB.out)⟩
          · rw [if_neg c11] at H
            have c11b0 : (t191 == 0) = false := beq_eq_false_iff_ne.mpr c11
            have c11b1 : (t191 != 0) = true := bne_iff_ne.mpr c11
            obtain rfl := Option.some.inj H
            go_wp2
            go_ret
            exact ⟨by first | rfl | (simp [errW_none, errW_some] <;> rfl) | (simp [*, errW_none, errW_some] <;> rfl), by repeat (first | (with_reducible first | exact HB.out | apply below_alloc | apply pw_below_drewN | apply below_drew1) | exact HB.out)⟩
        · replace c10 := Bool.eq_false_iff.mpr c10
          subst c10
          have H1 : ((horologeref01_Of.f kj6 a0).bind fun bt194 => ((horologeref01_Of.f kj6 a1).bind fun bt198 => ((horologeref01_Times.f kj6 bt194.1 bt194.2 bt198.1 bt198.2).bind fun bt202 => ((horologeref01_Of.f kj6 a2).bind fun bt206 => ((horologeref01_Of.f kj6 9223372036854775807).bind fun bt212 => ((horologeref01_Of.f kj6 1).bind fun bt216 => ((horologeref01_Plus.f kj6 bt212.1 bt212.2 bt216.1 bt216.2).bind fun bt220 => ((horologeref01_Times.f kj6 bt206.1 bt206.2 bt220.1 bt220.2).bind fun bt224 => ((horologeref01_Less.f kj6 bt202.1 bt202.2 bt224.1 bt224.2).bind fun t229 => (if t229 = true then (if t192.isNone = true then ((horologeref01_Of.f kj6 t191).bind fun bt232 => ((horologeref01_Quotient.f kj6 bt202.1 bt202.2 bt206.1 bt206.2 bt232.1 bt232.2).bind fun t236 => (some t236))) else (some false)) else (if t191 = 0 then ((horologenum_Is.f t192 5).bind fun t230 => (some t230)) else (some false)))))))))))) = some r := by rw [if_neg (show ¬ (false = true) by decide)] at H; exact H
          clear H
          have H := H1
          clear H1
          replace H := Option.bind_eq_some_iff.mp H
          obtain ⟨⟨t194, t195⟩, A130, H⟩ := H
          replace H : ((horologeref01_Of.f kj6 a1).bind fun bt198 => ((horologeref01_Times.f kj6 t194 t195 bt198.1 bt198.2).bind fun bt202 => ((horologeref01_Of.f kj6 a2).bind fun bt206 => ((horologeref01_Of.f kj6 9223372036854775807).bind fun bt212 => ((horologeref01_Of.f kj6 1).bind fun bt216 => ((horologeref01_Plus.f kj6 bt212.1 bt212.2 bt216.1 bt216.2).bind fun bt220 => ((horologeref01_Times.f kj6 bt206.1 bt206.2 bt220.1 bt220.2).bind fun bt224 => ((horologeref01_Less.f kj6 bt202.1 bt202.2 bt224.1 bt224.2).bind fun t229 => (if t229 = true then (if t192.isNone = true then ((horologeref01_Of.f kj6 t191).bind fun bt232 => ((horologeref01_Quotient.f kj6 bt202.1 bt202.2 bt206.1 bt206.2 bt232.1 bt232.2).bind fun t236 => (some t236))) else (some false)) else (if t191 = 0 then ((horologenum_Is.f t192 5).bind fun t230 => (some t230)) else (some false))))))))))) = some r := H
          have A13 := Aside0.mk A130
          clear A130
          replace H := Option.bind_eq_some_iff.mp H
          obtain ⟨⟨t198, t199⟩, A140, H⟩ := H
          replace H : ((horologeref01_Times.f kj6 t194 t195 t198 t199).bind fun bt202 => ((horologeref01_Of.f kj6 a2).bind fun bt206 => ((horologeref01_Of.f kj6 9223372036854775807).bind fun bt212 => ((horologeref01_Of.f kj6 1).bind fun bt216 => ((horologeref01_Plus.f kj6 bt212.1 bt212.2 bt216.1 bt216.2).bind fun bt220 => ((horologeref01_Times.f kj6 bt206.1 bt206.2 bt220.1 bt220.2).bind fun bt224 => ((horologeref01_Less.f kj6 bt202.1 bt202.2 bt224.1 bt224.2).bind fun t229 => (if t229 = true then (if t192.isNone = true then ((horologeref01_Of.f kj6 t191).bind fun bt232 => ((horologeref01_Quotient.f kj6 bt202.1 bt202.2 bt206.1 bt206.2 bt232.1 bt232.2).bind fun t236 => (some t236))) else (some false)) else (if t191 = 0 then ((horologenum_Is.f t192 5).bind fun t230 => (some t230)) else (some false)))))))))) = some r := H
          have A14 := Aside0.mk A140
          clear A140
          replace H := Option.bind_eq_some_iff.mp H
          obtain ⟨⟨t202, t203⟩, A150, H⟩ := H
          replace H : ((horologeref01_Of.f kj6 a2).bind fun bt206 => ((horologeref01_Of.f kj6 9223372036854775807).bind fun bt212 => ((horologeref01_Of.f kj6 1).bind fun bt216 => ((horologeref01_Plus.f kj6 bt212.1 bt212.2 bt216.1 bt216.2).bind fun bt220 => ((horologeref01_Times.f kj6 bt206.1 bt206.2 bt220.1 bt220.2).bind fun bt224 => ((horologeref01_Less.f kj6 t202 t203 bt224.1 bt224.2).bind fun t229 => (if t229 = true then (if t192.isNone = true then ((horologeref01_Of.f kj6 t191).bind fun bt232 => ((horologeref01_Quotient.f kj6 t202 t203 bt206.1 bt206.2 bt232.1 bt232.2).bind fun t236 => (some t236))) else (some false)) else (if t191 = 0 then ((horologenum_Is.f t192 5).bind fun t230 => (some t230)) else (some false))))))))) = some r := H
          have A15 := Aside0.mk A150
          clear A150
          replace H := Option.bind_eq_some_iff.mp H
          obtain ⟨⟨t206, t207⟩, A160, H⟩ := H
          replace H : ((horologeref01_Of.f kj6 9223372036854775807).bind fun bt212 => ((horologeref01_Of.f kj6 1).bind fun bt216 => ((horologeref01_Plus.f kj6 bt212.1 bt212.2 bt216.1 bt216.2).bind fun bt220 => ((horologeref01_Times.f kj6 t206 t207 bt220.1 bt220.2).bind fun bt224 => ((horologeref01_Less.f kj6 t202 t203 bt224.1 bt224.2).bind fun t229 => (if t229 = true then (if t192.isNone = true then ((horologeref01_Of.f kj6 t191).bind fun bt232 => ((horologeref01_Quotient.f kj6 t202 t203 t206 t207 bt232.1 bt232.2).bind fun t236 => (some t236))) else (some false)) else (if t191 = 0 then ((horologenum_Is.f t192 5).bind fun t230 => (some t230)) else (some false)))))))) = some r := H
          have A16 := Aside0.mk A160
          clear A160
          replace H := Option.bind_eq_some_iff.mp H
          obtain ⟨⟨t212, t213⟩, A170, H⟩ := H
          replace H : ((horologeref01_Of.f kj6 1).bind fun bt216 => ((horologeref01_Plus.f kj6 t212 t213 bt216.1 bt216.2).bind fun bt220 => ((horologeref01_Times.f kj6 t206 t207 bt220.1 bt220.2).bind fun bt224 => ((horologeref01_Less.f kj6 t202 t203 bt224.1 bt224.2).bind fun t229 => (if t229 = true then (if t192.isNone = true then ((horologeref01_Of.f kj6 t191).bind fun bt232 => ((horologeref01_Quotient.f kj6 t202 t203 t206 t207 bt232.1 bt232.2).bind fun t236 => (some t236))) else (some false)) else (if t191 = 0 then ((horologenum_Is.f t192 5).bind fun t230 => (some t230)) else (some false))))))) = some r := H
          have A17 := Aside0.mk A170
          clear A170
          replace H := Option.bind_eq_some_iff.mp H
          obtain ⟨⟨t216, t217⟩, A180, H⟩ := H
          replace H : ((horologeref01_Plus.f kj6 t212 t213 t216 t217).bind fun bt220 => ((horologeref01_Times.f kj6 t206 t207 bt220.1 bt220.2).bind fun bt224 => ((horologeref01_Less.f kj6 t202 t203 bt224.1 bt224.2).bind fun t229 => (if t229 = true then (if t192.isNone = true then ((horologeref01_Of.f kj6 t191).bind fun bt232 => ((horologeref01_Quotient.f kj6 t202 t203 t206 t207 bt232.1 bt232.2).bind fun t236 => (some t236))) else (some false)) else (if t191 = 0 then ((horologenum_Is.f t192 5).bind fun t230 => (some t230)) else (some false)))))) = some r := H
          have A18 := Aside0.mk A180
          clear A180
          replace H := Option.bind_eq_some_iff.mp H
          obtain ⟨⟨t220, t221⟩, A190, H⟩ := H
          replace H : ((horologeref01_Times.f kj6 t206 t207 t220 t221).bind fun bt224 => ((horologeref01_Less.f kj6 t202 t203 bt224.1 bt224.2).bind fun t229 => (if t229 = true then (if t192.isNone = true then ((horologeref01_Of.f kj6 t191).bind fun bt232 => ((horologeref01_Quotient.f kj6 t202 t203 t206 t207 bt232.1 bt232.2).bind fun t236 => (some t236))) else (some false)) else (if t191 = 0 then ((horologenum_Is.f t192 5).bind fun t230 => (some t230)) else (some false))))) = some r := H
          have A19 := Aside0.mk A190
          clear A190
          replace H := Option.bind_eq_some_iff.mp H
          obtain ⟨⟨t224, t225⟩, A200, H⟩ := H
          replace H : ((horologeref01_Less.f kj6 t202 t203 t224 t225).bind fun t229 => (if t229 = true then (if t192.isNone = true then ((horologeref01_Of.f kj6 t191).bind fun bt232 => ((horologeref01_Quotient.f kj6 t202 t203 t206 t207 bt232.1 bt232.2).bind fun t236 => (some t236))) else (some false)) else (if t191 = 0 then ((horologenum_Is.f t192 5).bind fun t230 => (some t230)) else (some false)))) = some r := H
          have A20 := Aside0.mk A200
          clear A200
          replace H := Option.bind_eq_some_iff.mp H
          obtain ⟨t229, A210, H⟩ := H
          replace H : (if t229 = true then (if t192.isNone = true then ((horologeref01_Of.f kj6 t191).bind fun bt232 => ((horologeref01_Quotient.f kj6 t202 t203 t206 t207 bt232.1 bt232.2).bind fun t236 => (some t236))) else (some false)) else (if t191 = 0 then ((horologenum_Is.f t192 5).bind fun t230 => (some t230)) else (some false))) = some r := H
          have A21 := Aside0.mk A210
          clear A210
          have HH := Aside0.mk H
          clear H
          go_wp2_with (first | (go_at_call 13; (with_reducible refine (horologeref01_Of.calls kj6 a0 t194 t195 _ A13.out).mono ?_); rintro e w1 ⟨v1, rfl, h1, hb1⟩; obtain ⟨A1, c1, rfl, hc1, hC1⟩ := Kd.R_reads h1; have P1 := Aside0.mk hC1; have D1 := Aside0.mk hc1; have B1 := Aside0.mk hb1; clear h1 hb1 hc1 hC1) | (go_at_call 13; (with_reducible refine (horologeref01_Of.calls kj6 a1 t198 t199 _ A14.out).mono ?_); rintro e w2 ⟨v2, rfl, h2, hb2⟩; obtain ⟨A2, c2, rfl, hc2, hC2⟩ := Kd.R_reads h2; have P2 := Aside0.mk hC2; have D2 := Aside0.mk hc2; have B2 := Aside0.mk hb2; clear h2 hb2 hc2 hC2) | (go_at_call 18; (with_reducible refine (horologeref01_Times.calls kj6 _ _ _ _ _ _ _ _ t202 t203 _ (Kd.C_below P1.out B2.out) D1.out P2.out D2.out A15.out).mono ?_); rintro e w3 ⟨v3, rfl, h3, hb3⟩; obtain ⟨A3, c3, rfl⟩ := Kd.V_slice h3; have P3 := Aside0.mk (Kd.V_reads' h3).2.2; have D3 := Aside0.mk (Kd.V_reads' h3).2.1; have B3 := Aside0.mk hb3; clear h3 hb3) | (go_at_call 13; (with_reducible refine (horologeref01_Of.calls kj6 a2 t206 t207 _ A16.out).mono ?_); rintro e w4 ⟨v4, rfl, h4, hb4⟩; obtain ⟨A4, c4, rfl, hc4, hC4⟩ := Kd.R_reads h4; have P4 := Aside0.mk hC4; have D4 := Aside0.mk hc4; have B4 := Aside0.mk hb4; clear h4 hb4 hc4 hC4))
          have HBW := Aside0.mk (below_alloc (below_alloc (below_step (below_step (below_step (below_step HB.out B1.out) B2.out) B3.out) B4.out) (.cells #[.bool t202, .slice A3 t203.length c3] 33 (0, 0))) (.cells #[.bool t206, .slice A4 t207.length c4] 33 (0, 0)))
          have b9 := Aside0.mk (show Box ((w4.alloc (.cells #[.bool t202, .slice A3 t203.length c3] 33 (0, 0))).alloc (.cells #[.bool t206, .slice A4 t207.length c4] 33 (0, 0))) w4.heap.size t202 (.slice A3 t203.length c3) from blk_below (blk_new _ _) (below_alloc (Below.refl _ _) _))
          have b10 := Aside0.mk (show Box ((w4.alloc (.cells #[.bool t202, .slice A3 t203.length c3] 33 (0, 0))).alloc (.cells #[.bool t206, .slice A4 t207.length c4] 33 (0, 0))) (w4.heap.size + 1) t206 (.slice A4 t207.length c4) from (World.size_alloc w4 _) ▸ blk_new _ _)
          have R3 := Aside0.mk (Kd.C_alloc (Kd.C_alloc (Kd.C_below P3.out B4.out) (.cells #[.bool t202, .slice A3 t203.length c3] 33 (0, 0))) (.cells #[.bool t206, .slice A4 t207.length c4] 33 (0, 0)))
          have R4 := Aside0.mk (Kd.C_alloc (Kd.C_alloc P4.out (.cells #[.bool t202, .slice A3 t203.length c3] 33 (0, 0))) (.cells #[.bool t206, .slice A4 t207.length c4] 33 (0, 0)))
          generalize (w4.alloc (.cells #[.bool t202, .slice A3 t203.length c3] 33 (0, 0))).alloc (.cells #[.bool t206, .slice A4 t207.length c4] 33 (0, 0)) = W at HBW b9 b10 R3 R4 ⊢
          generalize w4.heap.size + 1 = g10 at b10 ⊢
          generalize w4.heap.size = g9 at b9 ⊢
          refine region_below (T := ?T) (n := 1) [some 44, some 45, some 46, some 47, some 48, some 11] ?hT (F7 (.agg #[.bool t206, .slice A4 t207.length c4]) (t212, t213) (t216, t217) (t220, t221) (t224, t225) W.heap.size) (by kernel_rfl) (by kernel_rfl) F7.keep [0, 1, 2, 3, 4, 5] rfl (.cons (some 44) rfl rfl (fun X wx hG hX K hK => ?_) (.cons (some 45) rfl rfl (fun X wx hG hX K hK => ?_) (.cons (some 46) rfl rfl (fun X wx hG hX K hK => ?_) (.cons (some 47) rfl rfl (fun X wx hG hX K hK => ?_) (.cons (some 48) rfl rfl (fun X wx hG hX K hK => ?_) (.cons (some 11) rfl rfl (fun X wx hG hX K hK => ?_) .nil)))))) (by kernel_rfl) #[true, true, true, true, true, true, false] (by kernel_rfl) ?_
          case hT =>
            intro X
            simp only [fill, Act.put, List.setIfInBounds_toArray, List.set_cons_zero, List.set_cons_succ, Nat.zero_add, Nat.reduceAdd]
            rfl
          · have s0 : wx.cell? ⟨g10, 0, none⟩ = some (.bool t206) := (blk_cell (blk_below (blk_drew b10.out) hG) 0).trans rfl
            have s1 : wx.cell? ⟨g10, 1, none⟩ = some (.slice A4 t207.length c4) := (blk_cell (blk_below (blk_drew b10.out) hG) 1).trans rfl
            refine val_ (w1 := wx) (v := .agg #[.bool t206, .slice A4 t207.length c4]) (by rfl) rfl ?_ (hK.out _ _ _ rfl (Below.refl _ _) rfl)
            go_simp
          · refine goes_ Try.func13 (by kernel_rfl) rfl #[.int .i64 9223372036854775807] (by rfl) rfl rfl (by simp only [List.map_toArray, List.map_cons, List.map_nil]; rfl) ?_
            refine (horologeref01_Of.calls kj6 _ t212 t213 wx A17.out).mono ?_
            rintro e w' ⟨v, rfl, hv, hb⟩
            exact ⟨_, rfl, hK.out _ _ _ rfl hb (QRd.ofR hv)⟩
          · refine goes_ Try.func13 (by kernel_rfl) rfl #[.int .i64 1] (by rfl) rfl rfl (by simp only [List.map_toArray, List.map_cons, List.map_nil]; rfl) ?_
            refine (horologeref01_Of.calls kj6 _ t216 t217 wx A18.out).mono ?_
            rintro e w' ⟨v, rfl, hv, hb⟩
            exact ⟨_, rfl, hK.out _ _ _ rfl hb (QRd.ofR hv)⟩
          · obtain ⟨Aa, ca, ea, hca, hCa⟩ := hX 1 1 (by kernel_rfl)
            obtain ⟨Ab, cb, eb, hcb, hCb⟩ := hX 1 2 (by kernel_rfl)
            refine goes_ Try.func16 (by kernel_rfl) rfl #[X 1, X 2] (by rfl) rfl rfl (by simp only [List.map_toArray, List.map_cons, List.map_nil]; rfl) ?_
            refine calls_args (args2 ea eb) ?_
            refine (horologeref01_Plus.calls kj6 _ _ _ _ _ _ _ _ t220 t221 wx hCa hca hCb hcb A19.out).mono ?_
            rintro e w' ⟨v, rfl, hv, hb⟩
            exact ⟨_, rfl, hK.out _ _ _ rfl hb (QRd.ofV hv)⟩
          · have e0 : X 0 = _ := hX 1 0 (by kernel_rfl)
            obtain ⟨Ab, cb, eb, hcb, hCb⟩ := hX 1 3 (by kernel_rfl)
            refine goes_ Try.func18 (by kernel_rfl) rfl #[X 0, X 3] (by rfl) rfl rfl (by simp only [List.map_toArray, List.map_cons, List.map_nil]; rfl) ?_
            refine calls_args (args2 e0 eb) ?_
            refine (horologeref01_Times.calls kj6 _ _ _ _ _ _ _ _ t224 t225 wx (Kd.C_below R4.out (Below.trans (below_drew (Below.refl _ _)) hG)) D4.out hCb hcb A20.out).mono ?_
            rintro e w' ⟨v, rfl, hv, hb⟩
            exact ⟨_, rfl, hK.out _ _ _ rfl hb (QRd.ofV hv)⟩
          · rw [if_pos (by rfl)]
            go_simp
            exact hK.out _ (.pointer (some ⟨wx.heap.size, 0, none⟩)) _ (by simp only [Act.put, List.setIfInBounds_toArray, List.set_cons_zero, List.set_cons_succ]) (below_alloc (Below.refl _ _) _) ⟨wx.heap.size, rfl, below_size (Below.trans (below_drew (Below.refl W.heap.size W)) hG), blk_new _ _⟩
          intro X wx hG hX
          obtain ⟨g, e11, hg, hx⟩ := hX 5 (by decide)
          obtain ⟨A8, c8, e8, hc8, hC8⟩ := hX 4 (by decide)
          refine tail_ (i := 6) (N := none) #[true, true, true, true, true, true, true] rfl rfl (by kernel_rfl) (fun K hK => ?_)
          have s0 : wx.cell? ⟨g, 0, none⟩ = some (.bool false) := (blk_cell hx 0).trans rfl
          have s1 : wx.cell? ⟨g, 1, none⟩ = some (.slice none 0 0) := (blk_cell hx 1).trans rfl
          have f0 := blk_frozen hx 0
          have f1 := blk_frozen hx 1
          refine skip_ (w1 := ?_) (by rfl) rfl ?_ ?_
          rotate_left
          · go_simp
            rfl
          have hne : ∀ u, u ∈ #[Value.bool false, .slice none 0 0].toList → ∀ x, u ≠ .int .u64 x := by simp
          have hne' : ∀ u, u ∈ #[Value.bool t224, .slice none 0 0].toList → ∀ x, u ≠ .int .u64 x := by simp
          have hx1 := blk_put (cs := #[.bool false, .slice none 0 0]) hx 0 (.bool t224) rfl
          have C3 := Aside0.mk (C_setInt (j := 1) (u := .slice A8 t225.length c8) (C_setInt (j := 0) (u := .bool t224) (Kd.C_below R3.out hG) hx hne) hx1 hne')
          have C4 := Aside0.mk (C_setInt (j := 1) (u := .slice A8 t225.length c8) (C_setInt (j := 0) (u := .bool t224) (Kd.C_below R4.out hG) hx hne) hx1 hne')
          have C8 := Aside0.mk (C_setInt (j := 1) (u := .slice A8 t225.length c8) (C_setInt (j := 0) (u := .bool t224) hC8 hx hne) hx1 hne')
          have n9 : g9 ≠ g := by have := blk_lt b9.out; omega
          have n10 : g10 ≠ g := by have := blk_lt b10.out; omega
          have E9 := Aside0.mk (blk_far (blk_far (blk_below b9.out hG) (p := ⟨g, 0, none⟩) n9 (.bool t224)) (p := ⟨g, 1, none⟩) n9 (.slice A8 t225.length c8))
          have E10 := Aside0.mk (blk_far (blk_far (blk_below b10.out hG) (p := ⟨g, 0, none⟩) n10 (.bool t224)) (p := ⟨g, 1, none⟩) n10 (.slice A8 t225.length c8))
          have E11 := Aside0.mk (blk_put hx1 1 (.slice A8 t225.length c8) rfl)
          have hgw : w.heap.size ≤ g := by have := below_size HBW.out; omega
          have HBZ := Aside0.mk (below_set (j := 1) (v := .slice A8 t225.length c8) (below_set (j := 0) (v := .bool t224) (below_step HBW.out hG) hgw) hgw)
          refine hK.out _ _ (tail_done (by kernel_rfl) ?_)
          clear hK K hG hX hx hx1 hne hne' s0 s1 f0 f1 hC8 HBW b9 b10 R3 R4 n9 n10 hg hgw B1 B2 B3 B4 P1 P2 P3 P4 HB
          generalize (wx.setCell ⟨g, 0, none⟩ (.bool t224)).setCell ⟨g, 1, none⟩ (.slice A8 t225.length c8) = Z at C3 C4 C8 E9 E10 E11 HBZ ⊢
          rw [e11]
          clear e11 e8
          have z90 : Z.cell? ⟨g9, 0, none⟩ = some (.bool t202) := (blk_cell E9.out 0).trans rfl
          have z91 : Z.cell? ⟨g9, 1, none⟩ = some (.slice A3 t203.length c3) := (blk_cell E9.out 1).trans rfl
          have z110 : Z.cell? ⟨g, 0, none⟩ = some (.bool t224) := (blk_cell E11.out 0).trans rfl
          have z111 : Z.cell? ⟨g, 1, none⟩ = some (.slice A8 t225.length c8) := (blk_cell E11.out 1).trans rfl
          cases t229 with
          | false =>
            have H : (if t191 = 0 then ((horologenum_Is.f t192 5).bind fun t230 => (some t230)) else (some false)) = some r := by
              have H := HH.out
              rw [if_neg (show ¬ (false = true) by decide)] at H
              exact H
            clear HH
            by_cases c11 : t191 = 0
            · rw [if_pos c11] at H
              obtain ⟨t193, A120, H⟩ := Option.bind_eq_some_iff.mp H
              have A12 := Aside0.mk A120
              clear A120
              obtain rfl := Option.some.inj H
              subst c11
              have CA12 := Aside0.mk (fun W => horologenum_Is.calls t192 5 t193 W A12.out)
              go_wp2_with (first | (go_at_call 29; (with_reducible refine (horologeref01_Less.calls kj6 _ _ _ _ _ _ _ _ _ _ C3.out D3.out C8.out hc8 A21.out).mono ?_); rintro e wy ⟨rfl, hby⟩; have BY := Aside0.mk (below_step HBZ.out hby); have Y9 := Aside0.mk (blk_below E9.out hby); have Y10 := Aside0.mk (blk_below E10.out hby); have Y3 := Aside0.mk (Kd.C_below C3.out hby); have Y4 := Aside0.mk (Kd.C_below C4.out hby); clear hby z90 z91 z110 z111) | (go_at_call 12; (with_reducible refine (CA12.out _).mono ?_); rintro e w' ⟨rfl, ⟨nd, rfl⟩⟩))
              go_ret
              exact ⟨rfl, pw_below_drewN BY.out _⟩
            · rw [if_neg c11] at H
              obtain rfl := Option.some.inj H
              go_wp2_with (first | (go_at_call 29; (with_reducible refine (horologeref01_Less.calls kj6 _ _ _ _ _ _ _ _ _ _ C3.out D3.out C8.out hc8 A21.out).mono ?_); rintro e wy ⟨rfl, hby⟩; have BY := Aside0.mk (below_step HBZ.out hby); have Y9 := Aside0.mk (blk_below E9.out hby); have Y10 := Aside0.mk (blk_below E10.out hby); have Y3 := Aside0.mk (Kd.C_below C3.out hby); have Y4 := Aside0.mk (Kd.C_below C4.out hby); clear hby z90 z91 z110 z111))
              go_ret
              exact ⟨rfl, BY.out⟩
          | true =>
            have H : (if t192.isNone = true then ((horologeref01_Of.f kj6 t191).bind fun bt232 => ((horologeref01_Quotient.f kj6 t202 t203 t206 t207 bt232.1 bt232.2).bind fun t236 => (some t236))) else (some false)) = some r := by
              have H := HH.out
              rw [if_pos rfl] at H
              exact H
            clear HH
            cases t192 with
            | some q =>
              obtain rfl := Option.some.inj (show some false = some r from H)
              simp only [errW_some]
              go_wp2_with (first | (go_at_call 29; (with_reducible refine (horologeref01_Less.calls kj6 _ _ _ _ _ _ _ _ _ _ C3.out D3.out C8.out hc8 A21.out).mono ?_); rintro e wy ⟨rfl, hby⟩; have BY := Aside0.mk (below_step HBZ.out hby); have Y9 := Aside0.mk (blk_below E9.out hby); have Y10 := Aside0.mk (blk_below E10.out hby); have Y3 := Aside0.mk (Kd.C_below C3.out hby); have Y4 := Aside0.mk (Kd.C_below C4.out hby); clear hby z90 z91 z110 z111 C3 C4 C8 E9 E10 E11 HBZ))
              go_quiet (fail)
              go_wp2
              go_ret
              exact ⟨rfl, pw_below_drewN BY.out _⟩
            | none =>
              obtain ⟨⟨t232, t233⟩, A230, H⟩ := Option.bind_eq_some_iff.mp (show ((horologeref01_Of.f kj6 t191).bind fun bt232 => ((horologeref01_Quotient.f kj6 t202 t203 t206 t207 bt232.1 bt232.2).bind fun t236 => (some t236))) = some r from H)
              obtain ⟨t236, A240, H⟩ := Option.bind_eq_some_iff.mp H
              have A23 := Aside0.mk A230
              have A24 := Aside0.mk A240
              clear A230 A240
              obtain rfl := Option.some.inj H
              clear H
              simp only [errW_none]
              go_wp2_with (first | (go_at_call 29; (with_reducible refine (horologeref01_Less.calls kj6 _ _ _ _ _ _ _ _ _ _ C3.out D3.out C8.out hc8 A21.out).mono ?_); rintro e wy ⟨rfl, hby⟩; have BY := Aside0.mk (below_step HBZ.out hby); have Y9 := Aside0.mk (blk_below E9.out hby); have Y10 := Aside0.mk (blk_below E10.out hby); have Y3 := Aside0.mk (Kd.C_below C3.out hby); have Y4 := Aside0.mk (Kd.C_below C4.out hby); clear hby z90 z91 z110 z111 C3 C4 C8 E9 E10 E11 HBZ))
              refine region_below (T := ?T10) (n := 0) [some 59, some 60, some 61, some 62, some 63, some 64, some 65, some 66, some 67, some 6] ?hT10 (F10 (.agg #[.bool t202, .slice A3 t203.length c3]) (.agg #[.bool t206, .slice A4 t207.length c4]) t191 (t232, t233) t236) (by kernel_rfl) (by kernel_rfl) F10.keep [0, 1, 2, 3, 4, 5, 6, 7, 8, 9] rfl (.cons (some 59) rfl rfl (fun Y wx hG hY K hK => ?_) (.cons (some 60) rfl rfl (fun Y wx hG hY K hK => ?_) (.cons (some 61) rfl rfl (fun Y wx hG hY K hK => ?_) (.cons (some 62) rfl rfl (fun Y wx hG hY K hK => ?_) (.cons (some 63) rfl rfl (fun Y wx hG hY K hK => ?_) (.cons (some 64) rfl rfl (fun Y wx hG hY K hK => ?_) (.cons (some 65) rfl rfl (fun Y wx hG hY K hK => ?_) (.cons (some 66) rfl rfl (fun Y wx hG hY K hK => ?_) (.cons (some 67) rfl rfl (fun Y wx hG hY K hK => ?_) (.cons (some 6) rfl rfl (fun Y wx hG hY K hK => ?_) .nil)))))))))) (by kernel_rfl) #[true, true, true, true, true, true, true, true, true, true] (by kernel_rfl) ?_
              case hT10 =>
                intro Y
                simp only [fill, Act.put, List.setIfInBounds_toArray, List.set_cons_zero, List.set_cons_succ, Nat.zero_add, Nat.reduceAdd]
                rfl
              · skip
                refine val_ (w1 := wx) (v := .nilIface) (by rfl) rfl ?_ (hK.out _ _ _ rfl (Below.refl _ _) rfl)
                go_simp
              · have e0 : Y 0 = .nilIface := hY 1 0 (by kernel_rfl)
                refine val_ (w1 := wx) (v := .bool true) (by rfl) rfl ?_ (hK.out _ _ _ rfl (Below.refl _ _) rfl)
                go_simp
              · have e1 : Y 1 = .bool true := hY 1 1 (by kernel_rfl)
                refine val_ (w1 := wx) (v := .bool true) (by rfl) rfl ?_ (hK.out _ _ _ rfl (Below.refl _ _) rfl)
                go_simp
              · have e2 : Y 2 = .bool true := hY 1 2 (by kernel_rfl)
                have z0 : wx.cell? ⟨g9, 0, none⟩ = some (.bool t202) := (blk_cell (blk_below (blk_drew Y9.out) hG) 0).trans rfl
                have z1 : wx.cell? ⟨g9, 1, none⟩ = some (.slice A3 t203.length c3) := (blk_cell (blk_below (blk_drew Y9.out) hG) 1).trans rfl
                refine val_ (w1 := wx) (v := .agg #[.bool t202, .slice A3 t203.length c3]) (wanted_of rfl rfl (congrArg some e2)) rfl ?_ (hK.out _ _ _ rfl (Below.refl _ _) rfl)
                go_simp
              · have e2 : Y 2 = .bool true := hY 1 2 (by kernel_rfl)
                have z0 : wx.cell? ⟨g10, 0, none⟩ = some (.bool t206) := (blk_cell (blk_below (blk_drew Y10.out) hG) 0).trans rfl
                have z1 : wx.cell? ⟨g10, 1, none⟩ = some (.slice A4 t207.length c4) := (blk_cell (blk_below (blk_drew Y10.out) hG) 1).trans rfl
                refine val_ (w1 := wx) (v := .agg #[.bool t206, .slice A4 t207.length c4]) (wanted_of rfl rfl (congrArg some e2)) rfl ?_ (hK.out _ _ _ rfl (Below.refl _ _) rfl)
                go_simp
              · have e2 : Y 2 = .bool true := hY 1 2 (by kernel_rfl)
                refine val_ (w1 := wx) (v := .int .i64 t191) (wanted_of rfl rfl (congrArg some e2)) rfl ?_ (hK.out _ _ _ rfl (Below.refl _ _) rfl)
                go_simp
              · have e2 : Y 2 = .bool true := hY 1 2 (by kernel_rfl)
                have e5 : Y 5 = .int .i64 t191 := hY 1 5 (by kernel_rfl)
                refine goes_ Try.func13 (by kernel_rfl) rfl #[Y 5] (wanted_of rfl rfl (congrArg some e2)) rfl rfl (by simp only [List.map_toArray, List.map_cons, List.map_nil]; rfl) ?_
                refine calls_args (args1 e5) ?_
                refine (horologeref01_Of.calls kj6 _ t232 t233 wx A23.out).mono ?_
                rintro e w' ⟨v, rfl, hv, hb⟩
                exact ⟨_, rfl, hK.out _ _ _ rfl hb (QRd.ofR hv)⟩
              · have e2 : Y 2 = .bool true := hY 1 2 (by kernel_rfl)
                have e3 : Y 3 = _ := hY 1 3 (by kernel_rfl)
                have e4 : Y 4 = _ := hY 1 4 (by kernel_rfl)
                obtain ⟨Aq, cq, eq, hcq, hCq⟩ := hY 1 6 (by kernel_rfl)
                refine goes_ Try.func14 (by kernel_rfl) rfl #[Y 3, Y 4, Y 6] (wanted_of rfl rfl (congrArg some e2)) rfl rfl (by simp only [List.map_toArray, List.map_cons, List.map_nil]; rfl) ?_
                refine calls_args (args3 e3 e4 eq) ?_
                have hG' := Below.trans (below_drew (Below.refl wy.heap.size wy)) hG
                refine (horologeref01_Quotient.calls kj6 _ _ _ _ _ _ _ _ _ _ _ _ t236 wx (Kd.C_below Y3.out hG') D3.out (Kd.C_below Y4.out hG') D4.out hCq hcq A24.out).mono ?_
                rintro e w' ⟨rfl, hb⟩
                exact ⟨_, rfl, hK.out _ _ _ rfl hb rfl⟩
              · have e2 : Y 2 = .bool true := hY 1 2 (by kernel_rfl)
                have e7 : Y 7 = .bool t236 := hY 1 7 (by kernel_rfl)
                refine val_ (w1 := wx) (v := .bool t236) (by rfl) rfl ?_ (hK.out _ _ _ rfl (Below.refl _ _) rfl)
                go_simp
              · have e8 : Y 8 = .bool t236 := hY 1 8 (by kernel_rfl)
                refine val_ (w1 := wx) (v := .bool t236) (by rfl) rfl ?_ (hK.out _ _ _ rfl (Below.refl _ _) rfl)
                go_simp
              intro Y wx hG hY
              refine tail_done (by kernel_rfl) ?_
              have e9 : Y 9 = .bool t236 := hY 9 (by decide)
              have HBX := Aside0.mk (below_step BY.out hG)
              rw [e9]
              clear hG hY e9
              go_wp2
              go_ret
              exact ⟨rfl, HBX.out⟩
  · replace c5 := Bool.eq_false_iff.mpr c5
    subst c5
    have H1 : (some false) = some r := by rw [if_neg (show ¬ (false = true) by decide)] at H; exact H
    clear H
    have H := H1
    clear H1
    obtain rfl := Option.some.inj H
    go_enter Try.func7, Try.ntmps7
    go_wp2_with (first | ((with_reducible refine gate_callee (f := 8) rfl ?_); refine goesL_ (some 12) rfl rfl Try.func8 (by kernel_rfl) rfl #[] rfl (by (try simp only [List.map_toArray, List.map_cons, List.map_nil]); first | done | rfl | (simp only [List.length_drop, List.length_take]; rfl) | (refine congrArg (fun z_ => #[Value.int IntKind.i64 z_]) (?_ : Go.RowKit.wrap64 (IntKind.u8.wrap _) = _); rw [IntKind.wrap_u8]; unfold Go.RowKit.wrap64; omega)) ?_; (with_reducible refine (horologelaw01_alive.calls k  false _ A4.out).mono ?_); rintro e w' ⟨rfl, ⟨nd, rfl⟩⟩; refine ⟨_, rfl, ?_⟩))
    go_ret
    exact ⟨by first | rfl | (simp [errW_none, errW_some] <;> rfl) | (simp [*, errW_none, errW_some] <;> rfl), by repeat (first | (with_reducible first | exact HB.out | apply below_alloc | apply pw_below_drewN | apply below_drew1) | exact HB.out)⟩

/-- THE ONE PURE STATEMENT of horologelaw01_NumScales: yours. -/
def horologelaw01_NumScales.Pure : Prop := ∀ (a0 : Int) (a1 : Int) (a2 : Int), (Lit.int .i64 a0).wf = true → (Lit.int .i64 a1).wf = true → (Lit.int .i64 a2).wf = true → ∃ k, horologelaw01_NumScales.f k a0 a1 a2 = some true
theorem horologelaw01_NumScales.walk (P : horologelaw01_NumScales.Pure) (a0 : Int) (a1 : Int) (a2 : Int) (w : World) (w0 : (Lit.int .i64 a0).wf = true) (w1 : (Lit.int .i64 a1).wf = true) (w2 : (Lit.int .i64 a2).wf = true) :
    Calls Try.prog 7 #[.int .i64 a0, .int .i64 a1, .int .i64 a2] w fun e w' => e = .returned (.bool true) ∧ Below w.heap.size w w' := by
  obtain ⟨k, h⟩ := P a0 a1 a2 w0 w1 w2
  refine (horologelaw01_NumScales.calls k a0 a1 a2 true w h).mono ?_
  rintro e w' ⟨rfl, hd⟩
  exact ⟨rfl, hd⟩

end Go.Proofs.Ytcgcodmknoiljaa.MNumScales
