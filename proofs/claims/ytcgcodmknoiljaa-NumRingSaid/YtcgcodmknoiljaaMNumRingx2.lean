-- This text was written by a program of this session (a changed scratch copy of a tool of the kit; NOTES.md tells the changes).
import Derived.Test.YtcgcodmknoiljaaMNumRingx0
import Derived.Test.YtcgcodmknoiljaaMNumRingx1
namespace Go.Proofs.Ytcgcodmknoiljaa.MNumRing
open Go.RowKit Go.Proofs.YtcgcodmknoiljaaW.PrintWords Go.Proofs.YtcgcodmknoiljaaW.PrintLast Go.Proofs.YtcgcodmknoiljaaW.PrintMore
attribute [local go_sem] max2_int min2_int max_two min_two max_three min_three max_four min_four   -- for this text's walks alone
set_option linter.unusedVariables false
set_option linter.unusedSimpArgs false

/-! ### horologelaw01_NumRing: function 5 -/
mutual
def horologelaw01_NumRing.j0 : Nat → Int → Int → Int → Int → Option Int → Bool → Option (Bool)
  | 0, _, _, _, _, _, _ => none
  | k + 1, x0, x1, x2, x7, x8, x48 => if x48 = true then (some false) else ((num_Sub.f x7 x1).bind fun bt121 => (if x8.isNone = true then (if bt121.2.isNone = true then (horologelaw01_NumRing.j1 k x0 x1 x2 (bt121.1 != x0)) else (horologelaw01_NumRing.j1 k x0 x1 x2 true)) else (horologelaw01_NumRing.j1 k x0 x1 x2 false)))
def horologelaw01_NumRing.j1 : Nat → Int → Int → Int → Bool → Option (Bool)
  | 0, _, _, _, _ => none
  | k + 1, x0, x1, x2, x65 => if x65 = true then (some false) else ((num_Mul.f k x0 x1).bind fun bt125 => ((num_Mul.f k x1 x0).bind fun bt127 => (if bt125.1 = bt127.1 then ((horologenum_Num.f bt125.2).bind fun t129 => ((horologenum_Num.f bt127.2).bind fun t130 => (horologelaw01_NumRing.j2 k x0 x1 x2 bt125.2 bt125.1 (t129 != t130)))) else (horologelaw01_NumRing.j2 k x0 x1 x2 bt125.2 bt125.1 true))))
def horologelaw01_NumRing.j2 : Nat → Int → Int → Int → Option Int → Int → Bool → Option (Bool)
  | 0, _, _, _, _, _, _ => none
  | k + 1, x0, x1, x2, x8, x13, x87 => if x87 = true then (some false) else ((num_Mul.f k x0 x2).bind fun bt131 => ((num_Add.f x1 x2).bind fun bt133 => (if x8.isNone = true then (if bt131.2.isNone = true then (if bt133.2.isNone = true then (horologelaw01_NumRing.j3 k x0 x1 x13 bt131.1 bt133.1 true) else (horologelaw01_NumRing.j3 k x0 x1 x13 bt131.1 bt133.1 false)) else (horologelaw01_NumRing.j3 k x0 x1 x13 bt131.1 bt133.1 false)) else (horologelaw01_NumRing.j3 k x0 x1 x13 bt131.1 bt133.1 false))))
def horologelaw01_NumRing.j3 : Nat → Int → Int → Int → Int → Int → Bool → Option (Bool)
  | 0, _, _, _, _, _, _ => none
  | k + 1, x0, x1, x13, x15, x17, x109 => if x109 = true then ((num_Add.f x13 x15).bind fun bt138 => ((num_Mul.f k x0 x17).bind fun bt140 => (if bt138.1 = bt140.1 then ((horologenum_Num.f bt138.2).bind fun t142 => ((horologenum_Num.f bt140.2).bind fun t143 => (if t142 = t143 then (horologelaw01_NumRing.j4 k x0 x1) else (some false)))) else (some false)))) else (horologelaw01_NumRing.j4 k x0 x1)
def horologelaw01_NumRing.j4 : Nat → Int → Int → Option (Bool)
  | 0, _, _ => none
  | k + 1, x0, x1 => (num_Div.f k x0 x1).bind fun bt144 => ((num_Mod.f x0 x1).bind fun bt146 => (if bt144.2.isNone = true then (if bt146.2.isNone = true then (if x0 = (wrap64 ((wrap64 (x1 * bt144.1)) + bt146.1)) then (if bt146.1 = 0 then (some true) else (some ((decide (bt146.1 < 0)) == (decide (x1 < 0))))) else (some false)) else (if x1 = 0 then (some true) else (if x0 = (-9223372036854775808) then (some (x1 == (-1))) else (some false)))) else (if x1 = 0 then (some true) else (if x0 = (-9223372036854775808) then (some (x1 == (-1))) else (some false)))))
end
def horologelaw01_NumRing.f (k : Nat) (a0 : Int) (a1 : Int) (a2 : Int) : Option (Bool) := (horologelaw01_alive.f k).bind fun t114 => (if t114 = true then ((num_Add.f a0 a1).bind fun bt115 => ((num_Add.f a1 a0).bind fun bt117 => (if bt115.1 = bt117.1 then ((horologenum_Num.f bt115.2).bind fun t119 => ((horologenum_Num.f bt117.2).bind fun t120 => (horologelaw01_NumRing.j0 k a0 a1 a2 bt115.1 bt115.2 (t119 != t120)))) else (horologelaw01_NumRing.j0 k a0 a1 a2 bt115.1 bt115.2 true)))) else (some false))
theorem horologelaw01_NumRing.mono_l : ∀ k, (∀ y0 y1 y2 y3 y4 y5, LeO (horologelaw01_NumRing.j0 k y0 y1 y2 y3 y4 y5) (horologelaw01_NumRing.j0 (k + 1) y0 y1 y2 y3 y4 y5)) ∧ (∀ y0 y1 y2 y3, LeO (horologelaw01_NumRing.j1 k y0 y1 y2 y3) (horologelaw01_NumRing.j1 (k + 1) y0 y1 y2 y3)) ∧ (∀ y0 y1 y2 y3 y4 y5, LeO (horologelaw01_NumRing.j2 k y0 y1 y2 y3 y4 y5) (horologelaw01_NumRing.j2 (k + 1) y0 y1 y2 y3 y4 y5)) ∧ (∀ y0 y1 y2 y3 y4 y5, LeO (horologelaw01_NumRing.j3 k y0 y1 y2 y3 y4 y5) (horologelaw01_NumRing.j3 (k + 1) y0 y1 y2 y3 y4 y5)) ∧ (∀ y0 y1, LeO (horologelaw01_NumRing.j4 k y0 y1) (horologelaw01_NumRing.j4 (k + 1) y0 y1))
  | 0 => ⟨fun _ _ _ _ _ _ r h => by simp [horologelaw01_NumRing.j0] at h, fun _ _ _ _ r h => by simp [horologelaw01_NumRing.j1] at h, fun _ _ _ _ _ _ r h => by simp [horologelaw01_NumRing.j2] at h, fun _ _ _ _ _ _ r h => by simp [horologelaw01_NumRing.j3] at h, fun _ _ r h => by simp [horologelaw01_NumRing.j4] at h⟩
  | k + 1 => by
    obtain ⟨ih0, ih1, ih2, ih3, ih4⟩ := horologelaw01_NumRing.mono_l k
    refine ⟨?_, ?_, ?_, ?_, ?_⟩
    · intro y0 y1 y2 y3 y4 y5
      unfold horologelaw01_NumRing.j0
      repeat' first
      | (with_reducible exact ih0 _ _ _ _ _ _)
      | (with_reducible exact ih1 _ _ _ _)
      | (with_reducible exact ih2 _ _ _ _ _ _)
      | (with_reducible exact ih3 _ _ _ _ _ _)
      | (with_reducible exact ih4 _ _)
      | (with_reducible exact horologelaw01_alive.mono _)
      | (with_reducible exact num_Div.mono _ _ _)
      | (with_reducible exact num_Mul.mono _ _ _)
      | (with_reducible exact LeO.refl _)
      | (with_reducible exact LeO.none _)
      | (with_reducible refine LeO.ite ?_ ?_)
      | (with_reducible refine LeO.bind ?_ (fun _ => ?_))
      | exact ih0 _ _ _ _ _ _
      | exact ih1 _ _ _ _
      | exact ih2 _ _ _ _ _ _
      | exact ih3 _ _ _ _ _ _
      | exact ih4 _ _
      | exact horologelaw01_alive.mono _
      | exact num_Div.mono _ _ _
      | exact num_Mul.mono _ _ _
      | exact LeO.none _
      | refine LeO.ite ?_ ?_
      | refine LeO.bind ?_ (fun _ => ?_)
    · intro y0 y1 y2 y3
      unfold horologelaw01_NumRing.j1
      repeat' first
      | (with_reducible exact ih0 _ _ _ _ _ _)
      | (with_reducible exact ih1 _ _ _ _)
      | (with_reducible exact ih2 _ _ _ _ _ _)
      | (with_reducible exact ih3 _ _ _ _ _ _)
      | (with_reducible exact ih4 _ _)
      | (with_reducible exact horologelaw01_alive.mono _)
      | (with_reducible exact num_Div.mono _ _ _)
      | (with_reducible exact num_Mul.mono _ _ _)
      | (with_reducible exact LeO.refl _)
      | (with_reducible exact LeO.none _)
      | (with_reducible refine LeO.ite ?_ ?_)
      | (with_reducible refine LeO.bind ?_ (fun _ => ?_))
      | exact ih0 _ _ _ _ _ _
      | exact ih1 _ _ _ _
      | exact ih2 _ _ _ _ _ _
      | exact ih3 _ _ _ _ _ _
      | exact ih4 _ _
      | exact horologelaw01_alive.mono _
      | exact num_Div.mono _ _ _
      | exact num_Mul.mono _ _ _
      | exact LeO.none _
      | refine LeO.ite ?_ ?_
      | refine LeO.bind ?_ (fun _ => ?_)
    · intro y0 y1 y2 y3 y4 y5
      unfold horologelaw01_NumRing.j2
      repeat' first
      | (with_reducible exact ih0 _ _ _ _ _ _)
      | (with_reducible exact ih1 _ _ _ _)
      | (with_reducible exact ih2 _ _ _ _ _ _)
      | (with_reducible exact ih3 _ _ _ _ _ _)
      | (with_reducible exact ih4 _ _)
      | (with_reducible exact horologelaw01_alive.mono _)
      | (with_reducible exact num_Div.mono _ _ _)
      | (with_reducible exact num_Mul.mono _ _ _)
      | (with_reducible exact LeO.refl _)
      | (with_reducible exact LeO.none _)
      | (with_reducible refine LeO.ite ?_ ?_)
      | (with_reducible refine LeO.bind ?_ (fun _ => ?_))
      | exact ih0 _ _ _ _ _ _
      | exact ih1 _ _ _ _
      | exact ih2 _ _ _ _ _ _
      | exact ih3 _ _ _ _ _ _
      | exact ih4 _ _
      | exact horologelaw01_alive.mono _
      | exact num_Div.mono _ _ _
      | exact num_Mul.mono _ _ _
      | exact LeO.none _
      | refine LeO.ite ?_ ?_
      | refine LeO.bind ?_ (fun _ => ?_)
    · intro y0 y1 y2 y3 y4 y5
      unfold horologelaw01_NumRing.j3
      repeat' first
      | (with_reducible exact ih0 _ _ _ _ _ _)
      | (with_reducible exact ih1 _ _ _ _)
      | (with_reducible exact ih2 _ _ _ _ _ _)
      | (with_reducible exact ih3 _ _ _ _ _ _)
      | (with_reducible exact ih4 _ _)
      | (with_reducible exact horologelaw01_alive.mono _)
      | (with_reducible exact num_Div.mono _ _ _)
      | (with_reducible exact num_Mul.mono _ _ _)
      | (with_reducible exact LeO.refl _)
      | (with_reducible exact LeO.none _)
      | (with_reducible refine LeO.ite ?_ ?_)
      | (with_reducible refine LeO.bind ?_ (fun _ => ?_))
      | exact ih0 _ _ _ _ _ _
      | exact ih1 _ _ _ _
      | exact ih2 _ _ _ _ _ _
      | exact ih3 _ _ _ _ _ _
      | exact ih4 _ _
      | exact horologelaw01_alive.mono _
      | exact num_Div.mono _ _ _
      | exact num_Mul.mono _ _ _
      | exact LeO.none _
      | refine LeO.ite ?_ ?_
      | refine LeO.bind ?_ (fun _ => ?_)
    · intro y0 y1
      unfold horologelaw01_NumRing.j4
      repeat' first
      | (with_reducible exact ih0 _ _ _ _ _ _)
      | (with_reducible exact ih1 _ _ _ _)
      | (with_reducible exact ih2 _ _ _ _ _ _)
      | (with_reducible exact ih3 _ _ _ _ _ _)
      | (with_reducible exact ih4 _ _)
      | (with_reducible exact horologelaw01_alive.mono _)
      | (with_reducible exact num_Div.mono _ _ _)
      | (with_reducible exact num_Mul.mono _ _ _)
      | (with_reducible exact LeO.refl _)
      | (with_reducible exact LeO.none _)
      | (with_reducible refine LeO.ite ?_ ?_)
      | (with_reducible refine LeO.bind ?_ (fun _ => ?_))
      | exact ih0 _ _ _ _ _ _
      | exact ih1 _ _ _ _
      | exact ih2 _ _ _ _ _ _
      | exact ih3 _ _ _ _ _ _
      | exact ih4 _ _
      | exact horologelaw01_alive.mono _
      | exact num_Div.mono _ _ _
      | exact num_Mul.mono _ _ _
      | exact LeO.none _
      | refine LeO.ite ?_ ?_
      | refine LeO.bind ?_ (fun _ => ?_)
theorem horologelaw01_NumRing.mono : ∀ a0 a1 a2 k, LeO (horologelaw01_NumRing.f k a0 a1 a2) (horologelaw01_NumRing.f (k + 1) a0 a1 a2) := by
  intro a0 a1 a2 k
  obtain ⟨ih0, ih1, ih2, ih3, ih4⟩ := horologelaw01_NumRing.mono_l k
  unfold horologelaw01_NumRing.f
  repeat' first
      | (with_reducible exact ih0 _ _ _ _ _ _)
      | (with_reducible exact ih1 _ _ _ _)
      | (with_reducible exact ih2 _ _ _ _ _ _)
      | (with_reducible exact ih3 _ _ _ _ _ _)
      | (with_reducible exact ih4 _ _)
      | (with_reducible exact horologelaw01_alive.mono _)
      | (with_reducible exact num_Div.mono _ _ _)
      | (with_reducible exact num_Mul.mono _ _ _)
      | (with_reducible exact LeO.refl _)
      | (with_reducible exact LeO.none _)
      | (with_reducible refine LeO.ite ?_ ?_)
      | (with_reducible refine LeO.bind ?_ (fun _ => ?_))
      | exact ih0 _ _ _ _ _ _
      | exact ih1 _ _ _ _
      | exact ih2 _ _ _ _ _ _
      | exact ih3 _ _ _ _ _ _
      | exact ih4 _ _
      | exact horologelaw01_alive.mono _
      | exact num_Div.mono _ _ _
      | exact num_Mul.mono _ _ _
      | exact LeO.none _
      | refine LeO.ite ?_ ?_
      | refine LeO.bind ?_ (fun _ => ?_)
set_option maxHeartbeats 8000000 in
set_option maxRecDepth 100000 in
theorem horologelaw01_NumRing.calls (k : Nat) (a0 : Int) (a1 : Int) (a2 : Int) (r : Bool) (w : World) (h : horologelaw01_NumRing.f k a0 a1 a2 = some r) :
    Calls Try.prog 5 #[.int .i64 a0, .int .i64 a1, .int .i64 a2] w fun e w' => e = .returned (.bool r) ∧ Drawn0 w w' := by
  have hu24 := Try.underlying24
  have hu30 := Try.underlying30
  have H : ((horologelaw01_alive.f k).bind fun t114 => (if t114 = true then ((num_Add.f a0 a1).bind fun bt115 => ((num_Add.f a1 a0).bind fun bt117 => (if bt115.1 = bt117.1 then ((horologenum_Num.f bt115.2).bind fun t119 => ((horologenum_Num.f bt117.2).bind fun t120 => (horologelaw01_NumRing.j0 k a0 a1 a2 bt115.1 bt115.2 (t119 != t120)))) else (horologelaw01_NumRing.j0 k a0 a1 a2 bt115.1 bt115.2 true)))) else (some false))) = some r := h
  clear h
  replace H := Option.bind_eq_some_iff.mp H
  obtain ⟨t114, A40, H⟩ := H
  replace H : (if t114 = true then ((num_Add.f a0 a1).bind fun bt115 => ((num_Add.f a1 a0).bind fun bt117 => (if bt115.1 = bt117.1 then ((horologenum_Num.f bt115.2).bind fun t119 => ((horologenum_Num.f bt117.2).bind fun t120 => (horologelaw01_NumRing.j0 k a0 a1 a2 bt115.1 bt115.2 (t119 != t120)))) else (horologelaw01_NumRing.j0 k a0 a1 a2 bt115.1 bt115.2 true)))) else (some false)) = some r := H
  have A4 := Aside0.mk A40
  clear A40
  by_cases c5 : t114 = true
  · subst c5
    have H1 : ((num_Add.f a0 a1).bind fun bt115 => ((num_Add.f a1 a0).bind fun bt117 => (if bt115.1 = bt117.1 then ((horologenum_Num.f bt115.2).bind fun t119 => ((horologenum_Num.f bt117.2).bind fun t120 => (horologelaw01_NumRing.j0 k a0 a1 a2 bt115.1 bt115.2 (t119 != t120)))) else (horologelaw01_NumRing.j0 k a0 a1 a2 bt115.1 bt115.2 true)))) = some r := by rw [if_pos rfl] at H; exact H
    clear H
    have H := H1
    clear H1
    replace H := Option.bind_eq_some_iff.mp H
    obtain ⟨⟨t115, t116⟩, A60, H⟩ := H
    replace H : ((num_Add.f a1 a0).bind fun bt117 => (if t115 = bt117.1 then ((horologenum_Num.f t116).bind fun t119 => ((horologenum_Num.f bt117.2).bind fun t120 => (horologelaw01_NumRing.j0 k a0 a1 a2 t115 t116 (t119 != t120)))) else (horologelaw01_NumRing.j0 k a0 a1 a2 t115 t116 true))) = some r := H
    have A6 := Aside0.mk A60
    clear A60
    replace H := Option.bind_eq_some_iff.mp H
    obtain ⟨⟨t117, t118⟩, A70, H⟩ := H
    replace H : (if t115 = t117 then ((horologenum_Num.f t116).bind fun t119 => ((horologenum_Num.f t118).bind fun t120 => (horologelaw01_NumRing.j0 k a0 a1 a2 t115 t116 (t119 != t120)))) else (horologelaw01_NumRing.j0 k a0 a1 a2 t115 t116 true)) = some r := H
    have A7 := Aside0.mk A70
    clear A70
    have HC8 := Aside0.mk H
    clear H
    go_enter Try.func5, Try.ntmps5
    go_upto_region 5 with (first | ((with_reducible refine gate_callee (f := 8) rfl ?_); refine goesL_ (some 25) rfl rfl Try.func8 (by kernel_rfl) rfl #[] rfl (by (try simp only [List.map_toArray, List.map_cons, List.map_nil]); first | done | rfl | (simp only [List.length_drop, List.length_take]; rfl)) ?_; (with_reducible refine (horologelaw01_alive.calls k  true _ A4.out).mono ?_); rintro e w' ⟨rfl, ⟨nd, rfl⟩⟩; refine ⟨_, rfl, ?_⟩) | ((with_reducible refine gate_callee (f := 23) rfl ?_); refine goesL_ (some 30) rfl rfl Try.func23 (by kernel_rfl) rfl #[.int .i64 a0, .int .i64 a1] rfl (by (try simp only [List.map_toArray, List.map_cons, List.map_nil]); first | done | rfl | (simp only [List.length_drop, List.length_take]; rfl)) ?_; (with_reducible refine (num_Add.calls a0 a1 t115 t116 _ A6.out).mono ?_); rintro e w' ⟨rfl, ⟨nd, rfl⟩⟩; refine ⟨_, rfl, ?_⟩; (try simp only [errW_none, errW_some])) | ((with_reducible refine gate_callee (f := 23) rfl ?_); refine goesL_ (some 36) rfl rfl Try.func23 (by kernel_rfl) rfl #[.int .i64 a1, .int .i64 a0] rfl (by (try simp only [List.map_toArray, List.map_cons, List.map_nil]); first | done | rfl | (simp only [List.length_drop, List.length_take]; rfl)) ?_; (with_reducible refine (num_Add.calls a1 a0 t117 t118 _ A7.out).mono ?_); rintro e w' ⟨rfl, ⟨nd, rfl⟩⟩; refine ⟨_, rfl, ?_⟩; (try simp only [errW_none, errW_some])))
    (try simp only [Act.put, List.setIfInBounds_toArray, List.set_cons_zero, List.set_cons_succ])
    go_cut [48] (fun v48 wc => ∃ (kq : Nat) (x48_7 : Bool), v48 = .bool x48_7 ∧ Aside0 (horologelaw01_NumRing.j0 kq a0 a1 a2 t115 t116 x48_7 = some r) ∧ Aside0 (kq ≤ k) ∧ Drawn0 w wc)
    case first =>
      have H := HC8.out
      clear HC8
      by_cases c9 : t115 = t117
      · rw [if_pos c9] at H
        have c9b0 : (t115 == t117) = true := beq_iff_eq.mpr c9
        have c9b1 : (t115 != t117) = false := bne_eq_false_iff_eq.mpr c9
        clear c9
        (first | rw [c9b0] | (simp only [i64_w, i32_w]; rw [c9b0]) | skip)
        replace H := Option.bind_eq_some_iff.mp H
        obtain ⟨t119, A100, H⟩ := H
        replace H : ((horologenum_Num.f t118).bind fun t120 => (horologelaw01_NumRing.j0 k a0 a1 a2 t115 t116 (t119 != t120))) = some r := H
        have A10 := Aside0.mk A100
        clear A100
        replace H := Option.bind_eq_some_iff.mp H
        obtain ⟨t120, A110, H⟩ := H
        replace H : (horologelaw01_NumRing.j0 k a0 a1 a2 t115 t116 (t119 != t120)) = some r := H
        have A11 := Aside0.mk A110
        clear A110
        have H' := Aside0.mk H
        clear H
        have CA10 := fun W => horologenum_Num.calls t116 t119 W A10.out
        try simp only [errW_none, errW_some] at CA10
        go_wp2_with (first | (go_at_call 21; (with_reducible refine (CA10 _).mono ?_); rintro e w' ⟨rfl, ⟨nd, rfl⟩⟩; have CA11 := fun W => horologenum_Num.calls t118 t120 W A11.out; try simp only [errW_none, errW_some] at CA11) | (go_at_call 21; (with_reducible refine (CA11 _).mono ?_); rintro e w' ⟨rfl, ⟨nd, rfl⟩⟩))
        go_meet
        case rel => exact ⟨_, ((t119 != t120)), (by first | rfl | (simp; done) | (simp [*]; done)), H', ⟨by first | omega | exact Nat.le_refl _⟩, by repeat (first | exact Drawn0.refl _ | apply Drawn0.step)⟩
      · rw [if_neg c9] at H
        have c9b0 : (t115 == t117) = false := beq_eq_false_iff_ne.mpr c9
        have c9b1 : (t115 != t117) = true := bne_iff_ne.mpr c9
        (first | rw [c9b0] | (simp only [i64_w, i32_w]; rw [c9b0]) | skip)
        have H' := Aside0.mk H
        clear H
        go_wp2
        go_meet
        case rel => exact ⟨_, (true), (by first | rfl | (simp; done) | (simp [*]; done)), H', ⟨by first | omega | exact Nat.le_refl _⟩, by repeat (first | exact Drawn0.refl _ | apply Drawn0.step)⟩
    case rest =>
      clear HC8
      try clear c2
      try clear p2
      try clear c5
      try clear c8
      try clear c9
      try clear c9b0
      try clear c9b1
      obtain ⟨kq, x48_7, rfl, HA, HJ7, ⟨mc7, rfl⟩⟩ := hcut
      cases kq with
      | zero => exact absurd HA.out (by simp [horologelaw01_NumRing.j0])
      | succ kj7 =>
        have H := HA.out
        clear HA
        simp only [horologelaw01_NumRing.j0] at H
        by_cases c12 : x48_7 = true
        · subst c12
          have H1 : (some false) = some r := by rw [if_pos rfl] at H; exact H
          clear H
          have H := H1
          clear H1
          obtain rfl := Option.some.inj H
          go_wp2
          go_ret
          exact ⟨by first | rfl | (simp; done) | (simp [*]; done), by repeat (first | exact Drawn0.refl _ | apply Drawn0.step)⟩
        · replace c12 := Bool.eq_false_iff.mpr c12
          subst c12
          have H1 : ((num_Sub.f t115 a1).bind fun bt121 => (if t116.isNone = true then (if bt121.2.isNone = true then (horologelaw01_NumRing.j1 kj7 a0 a1 a2 (bt121.1 != a0)) else (horologelaw01_NumRing.j1 kj7 a0 a1 a2 true)) else (horologelaw01_NumRing.j1 kj7 a0 a1 a2 false))) = some r := by rw [if_neg (show ¬ (false = true) by decide)] at H; exact H
          clear H
          have H := H1
          clear H1
          replace H := Option.bind_eq_some_iff.mp H
          obtain ⟨⟨t121, t122⟩, A130, H⟩ := H
          replace H : (if t116.isNone = true then (if t122.isNone = true then (horologelaw01_NumRing.j1 kj7 a0 a1 a2 (t121 != a0)) else (horologelaw01_NumRing.j1 kj7 a0 a1 a2 true)) else (horologelaw01_NumRing.j1 kj7 a0 a1 a2 false)) = some r := H
          have A13 := Aside0.mk A130
          clear A130
          have HC14 := Aside0.mk H
          clear H
          go_upto_region 8 with (first | ((with_reducible refine gate_callee (f := 24) rfl ?_); refine goesL_ (some 52) rfl rfl Try.func24 (by kernel_rfl) rfl #[.int .i64 t115, .int .i64 a1] rfl (by (try simp only [List.map_toArray, List.map_cons, List.map_nil]); first | done | rfl | (simp only [List.length_drop, List.length_take]; rfl)) ?_; (with_reducible refine (num_Sub.calls t115 a1 t121 t122 _ A13.out).mono ?_); rintro e w' ⟨rfl, ⟨nd, rfl⟩⟩; refine ⟨_, rfl, ?_⟩; (try simp only [errW_none, errW_some])))
          (try simp only [Act.put, List.setIfInBounds_toArray, List.set_cons_zero, List.set_cons_succ])
          go_cut [65] (fun v65 wc => ∃ (kq : Nat) (x65_13 : Bool), v65 = .bool x65_13 ∧ Aside0 (horologelaw01_NumRing.j1 kq a0 a1 a2 x65_13 = some r) ∧ Aside0 (kq ≤ kj7) ∧ Drawn0 w wc)
          case first =>
            have H := HC14.out
            clear HC14
            rcases t116 with _ | q123
            · have H1 : (if t122.isNone = true then (horologelaw01_NumRing.j1 kj7 a0 a1 a2 (t121 != a0)) else (horologelaw01_NumRing.j1 kj7 a0 a1 a2 true)) = some r := by rw [if_pos (show (none : Option Int).isNone = true by rfl)] at H; exact H
              clear H
              have H := H1
              clear H1
              try simp only [errW_none, errW_some]
              rcases t122 with _ | q124
              · have H1 : (horologelaw01_NumRing.j1 kj7 a0 a1 a2 (t121 != a0)) = some r := by rw [if_pos (show (none : Option Int).isNone = true by rfl)] at H; exact H
                clear H
                have H := H1
                clear H1
                try simp only [errW_none, errW_some]
                have H' := Aside0.mk H
                clear H
                go_wp2
                go_meet
                case rel => exact ⟨_, ((t121 != a0)), (by first | rfl | (simp; done) | (simp [*]; done)), H', ⟨by have := HJ7.out; first | omega | exact Nat.le_refl _⟩, by repeat (first | exact Drawn0.refl _ | apply Drawn0.step)⟩
              · have H1 : (horologelaw01_NumRing.j1 kj7 a0 a1 a2 true) = some r := by rw [if_neg (show ¬ (some q124).isNone = true by simp)] at H; exact H
                clear H
                have H := H1
                clear H1
                try simp only [errW_none, errW_some]
                have H' := Aside0.mk H
                clear H
                go_wp2
                go_meet
                case rel => exact ⟨_, (true), (by first | rfl | (simp; done) | (simp [*]; done)), H', ⟨by have := HJ7.out; first | omega | exact Nat.le_refl _⟩, by repeat (first | exact Drawn0.refl _ | apply Drawn0.step)⟩
            · have H1 : (horologelaw01_NumRing.j1 kj7 a0 a1 a2 false) = some r := by rw [if_neg (show ¬ (some q123).isNone = true by simp)] at H; exact H
              clear H
              have H := H1
              clear H1
              try simp only [errW_none, errW_some]
              have H' := Aside0.mk H
              clear H
              go_wp2
              go_meet
              case rel => exact ⟨_, (false), (by first | rfl | (simp; done) | (simp [*]; done)), H', ⟨by have := HJ7.out; first | omega | exact Nat.le_refl _⟩, by repeat (first | exact Drawn0.refl _ | apply Drawn0.step)⟩
          case rest =>
            clear HC14
            try clear c1
            try clear q1
            try clear c2
            try clear p2
            try clear c5
            try clear c7
            try clear c8
            try clear c9
            try clear c9b0
            try clear c9b1
            try clear c12
            try clear q12
            try clear p2
            try clear q123
            try clear q124
            obtain ⟨kq, x65_13, rfl, HA, HJ13, ⟨mc13, rfl⟩⟩ := hcut
            cases kq with
            | zero => exact absurd HA.out (by simp [horologelaw01_NumRing.j1])
            | succ kj13 =>
              have H := HA.out
              clear HA
              simp only [horologelaw01_NumRing.j1] at H
              by_cases c15 : x65_13 = true
              · subst c15
                have H1 : (some false) = some r := by rw [if_pos rfl] at H; exact H
                clear H
                have H := H1
                clear H1
                obtain rfl := Option.some.inj H
                go_wp2
                go_ret
                exact ⟨by first | rfl | (simp; done) | (simp [*]; done), by repeat (first | exact Drawn0.refl _ | apply Drawn0.step)⟩
              · replace c15 := Bool.eq_false_iff.mpr c15
                subst c15
                have H1 : ((num_Mul.f kj13 a0 a1).bind fun bt125 => ((num_Mul.f kj13 a1 a0).bind fun bt127 => (if bt125.1 = bt127.1 then ((horologenum_Num.f bt125.2).bind fun t129 => ((horologenum_Num.f bt127.2).bind fun t130 => (horologelaw01_NumRing.j2 kj13 a0 a1 a2 bt125.2 bt125.1 (t129 != t130)))) else (horologelaw01_NumRing.j2 kj13 a0 a1 a2 bt125.2 bt125.1 true)))) = some r := by rw [if_neg (show ¬ (false = true) by decide)] at H; exact H
                clear H
                have H := H1
                clear H1
                replace H := Option.bind_eq_some_iff.mp H
                obtain ⟨⟨t125, t126⟩, A160, H⟩ := H
                replace H : ((num_Mul.f kj13 a1 a0).bind fun bt127 => (if t125 = bt127.1 then ((horologenum_Num.f t126).bind fun t129 => ((horologenum_Num.f bt127.2).bind fun t130 => (horologelaw01_NumRing.j2 kj13 a0 a1 a2 t126 t125 (t129 != t130)))) else (horologelaw01_NumRing.j2 kj13 a0 a1 a2 t126 t125 true))) = some r := H
                have A16 := Aside0.mk A160
                clear A160
                replace H := Option.bind_eq_some_iff.mp H
                obtain ⟨⟨t127, t128⟩, A170, H⟩ := H
                replace H : (if t125 = t127 then ((horologenum_Num.f t126).bind fun t129 => ((horologenum_Num.f t128).bind fun t130 => (horologelaw01_NumRing.j2 kj13 a0 a1 a2 t126 t125 (t129 != t130)))) else (horologelaw01_NumRing.j2 kj13 a0 a1 a2 t126 t125 true)) = some r := H
                have A17 := Aside0.mk A170
                clear A170
                have HC18 := Aside0.mk H
                clear H
                go_upto_region 12 with (first | ((with_reducible refine gate_callee (f := 25) rfl ?_); refine goesL_ (some 69) rfl rfl Try.func25 (by kernel_rfl) rfl #[.int .i64 a0, .int .i64 a1] rfl (by (try simp only [List.map_toArray, List.map_cons, List.map_nil]); first | done | rfl | (simp only [List.length_drop, List.length_take]; rfl)) ?_; (with_reducible refine (num_Mul.calls kj13 a0 a1 t125 t126 _ A16.out).mono ?_); rintro e w' ⟨rfl, ⟨nd, rfl⟩⟩; refine ⟨_, rfl, ?_⟩; (try simp only [errW_none, errW_some])) | ((with_reducible refine gate_callee (f := 25) rfl ?_); refine goesL_ (some 75) rfl rfl Try.func25 (by kernel_rfl) rfl #[.int .i64 a1, .int .i64 a0] rfl (by (try simp only [List.map_toArray, List.map_cons, List.map_nil]); first | done | rfl | (simp only [List.length_drop, List.length_take]; rfl)) ?_; (with_reducible refine (num_Mul.calls kj13 a1 a0 t127 t128 _ A17.out).mono ?_); rintro e w' ⟨rfl, ⟨nd, rfl⟩⟩; refine ⟨_, rfl, ?_⟩; (try simp only [errW_none, errW_some])))
                (try simp only [Act.put, List.setIfInBounds_toArray, List.set_cons_zero, List.set_cons_succ])
                go_cut [87] (fun v87 wc => ∃ (kq : Nat) (x87_17 : Bool), v87 = .bool x87_17 ∧ Aside0 (horologelaw01_NumRing.j2 kq a0 a1 a2 t126 t125 x87_17 = some r) ∧ Aside0 (kq ≤ kj13) ∧ Drawn0 w wc)
                case first =>
                  have H := HC18.out
                  clear HC18
                  by_cases c19 : t125 = t127
                  · rw [if_pos c19] at H
                    have c19b0 : (t125 == t127) = true := beq_iff_eq.mpr c19
                    have c19b1 : (t125 != t127) = false := bne_eq_false_iff_eq.mpr c19
                    clear c19
                    (first | rw [c19b0] | (simp only [i64_w, i32_w]; rw [c19b0]) | skip)
                    replace H := Option.bind_eq_some_iff.mp H
                    obtain ⟨t129, A200, H⟩ := H
                    replace H : ((horologenum_Num.f t128).bind fun t130 => (horologelaw01_NumRing.j2 kj13 a0 a1 a2 t126 t125 (t129 != t130))) = some r := H
                    have A20 := Aside0.mk A200
                    clear A200
                    replace H := Option.bind_eq_some_iff.mp H
                    obtain ⟨t130, A210, H⟩ := H
                    replace H : (horologelaw01_NumRing.j2 kj13 a0 a1 a2 t126 t125 (t129 != t130)) = some r := H
                    have A21 := Aside0.mk A210
                    clear A210
                    have H' := Aside0.mk H
                    clear H
                    have CA20 := fun W => horologenum_Num.calls t126 t129 W A20.out
                    try simp only [errW_none, errW_some] at CA20
                    go_wp2_with (first | (go_at_call 21; (with_reducible refine (CA20 _).mono ?_); rintro e w' ⟨rfl, ⟨nd, rfl⟩⟩; have CA21 := fun W => horologenum_Num.calls t128 t130 W A21.out; try simp only [errW_none, errW_some] at CA21) | (go_at_call 21; (with_reducible refine (CA21 _).mono ?_); rintro e w' ⟨rfl, ⟨nd, rfl⟩⟩))
                    go_meet
                    case rel => exact ⟨_, ((t129 != t130)), (by first | rfl | (simp; done) | (simp [*]; done)), H', ⟨by have := HJ7.out; have := HJ13.out; first | omega | exact Nat.le_refl _⟩, by repeat (first | exact Drawn0.refl _ | apply Drawn0.step)⟩
                  · rw [if_neg c19] at H
                    have c19b0 : (t125 == t127) = false := beq_eq_false_iff_ne.mpr c19
                    have c19b1 : (t125 != t127) = true := bne_iff_ne.mpr c19
                    (first | rw [c19b0] | (simp only [i64_w, i32_w]; rw [c19b0]) | skip)
                    have H' := Aside0.mk H
                    clear H
                    go_wp2
                    go_meet
                    case rel => exact ⟨_, (true), (by first | rfl | (simp; done) | (simp [*]; done)), H', ⟨by have := HJ7.out; have := HJ13.out; first | omega | exact Nat.le_refl _⟩, by repeat (first | exact Drawn0.refl _ | apply Drawn0.step)⟩
                case rest =>
                  clear HC18
                  try clear c1
                  try clear q1
                  try clear c2
                  try clear p2
                  try clear c5
                  try clear c7
                  try clear c8
                  try clear c9
                  try clear c9b0
                  try clear c9b1
                  try clear c12
                  try clear q12
                  try clear c13
                  try clear c15
                  try clear c19
                  try clear c19b0
                  try clear c19b1
                  try clear p2
                  try clear q1
                  try clear q12
                  try clear q123
                  try clear q124
                  obtain ⟨kq, x87_17, rfl, HA, HJ17, ⟨mc17, rfl⟩⟩ := hcut
                  cases kq with
                  | zero => exact absurd HA.out (by simp [horologelaw01_NumRing.j2])
                  | succ kj17 =>
                    have H := HA.out
                    clear HA
                    simp only [horologelaw01_NumRing.j2] at H
                    by_cases c22 : x87_17 = true
                    · subst c22
                      have H1 : (some false) = some r := by rw [if_pos rfl] at H; exact H
                      clear H
                      have H := H1
                      clear H1
                      obtain rfl := Option.some.inj H
                      go_wp2
                      go_ret
                      exact ⟨by first | rfl | (simp; done) | (simp [*]; done), by repeat (first | exact Drawn0.refl _ | apply Drawn0.step)⟩
                    · replace c22 := Bool.eq_false_iff.mpr c22
                      subst c22
                      have H1 : ((num_Mul.f kj17 a0 a2).bind fun bt131 => ((num_Add.f a1 a2).bind fun bt133 => (if t126.isNone = true then (if bt131.2.isNone = true then (if bt133.2.isNone = true then (horologelaw01_NumRing.j3 kj17 a0 a1 t125 bt131.1 bt133.1 true) else (horologelaw01_NumRing.j3 kj17 a0 a1 t125 bt131.1 bt133.1 false)) else (horologelaw01_NumRing.j3 kj17 a0 a1 t125 bt131.1 bt133.1 false)) else (horologelaw01_NumRing.j3 kj17 a0 a1 t125 bt131.1 bt133.1 false)))) = some r := by rw [if_neg (show ¬ (false = true) by decide)] at H; exact H
                      clear H
                      have H := H1
                      clear H1
                      replace H := Option.bind_eq_some_iff.mp H
                      obtain ⟨⟨t131, t132⟩, A230, H⟩ := H
                      replace H : ((num_Add.f a1 a2).bind fun bt133 => (if t126.isNone = true then (if t132.isNone = true then (if bt133.2.isNone = true then (horologelaw01_NumRing.j3 kj17 a0 a1 t125 t131 bt133.1 true) else (horologelaw01_NumRing.j3 kj17 a0 a1 t125 t131 bt133.1 false)) else (horologelaw01_NumRing.j3 kj17 a0 a1 t125 t131 bt133.1 false)) else (horologelaw01_NumRing.j3 kj17 a0 a1 t125 t131 bt133.1 false))) = some r := H
                      have A23 := Aside0.mk A230
                      clear A230
                      replace H := Option.bind_eq_some_iff.mp H
                      obtain ⟨⟨t133, t134⟩, A240, H⟩ := H
                      replace H : (if t126.isNone = true then (if t132.isNone = true then (if t134.isNone = true then (horologelaw01_NumRing.j3 kj17 a0 a1 t125 t131 t133 true) else (horologelaw01_NumRing.j3 kj17 a0 a1 t125 t131 t133 false)) else (horologelaw01_NumRing.j3 kj17 a0 a1 t125 t131 t133 false)) else (horologelaw01_NumRing.j3 kj17 a0 a1 t125 t131 t133 false)) = some r := H
                      have A24 := Aside0.mk A240
                      clear A240
                      have HC25 := Aside0.mk H
                      clear H
                      go_upto_region 16 with (first | ((with_reducible refine gate_callee (f := 25) rfl ?_); refine goesL_ (some 91) rfl rfl Try.func25 (by kernel_rfl) rfl #[.int .i64 a0, .int .i64 a2] rfl (by (try simp only [List.map_toArray, List.map_cons, List.map_nil]); first | done | rfl | (simp only [List.length_drop, List.length_take]; rfl)) ?_; (with_reducible refine (num_Mul.calls kj17 a0 a2 t131 t132 _ A23.out).mono ?_); rintro e w' ⟨rfl, ⟨nd, rfl⟩⟩; refine ⟨_, rfl, ?_⟩; (try simp only [errW_none, errW_some])) | ((with_reducible refine gate_callee (f := 23) rfl ?_); refine goesL_ (some 97) rfl rfl Try.func23 (by kernel_rfl) rfl #[.int .i64 a1, .int .i64 a2] rfl (by (try simp only [List.map_toArray, List.map_cons, List.map_nil]); first | done | rfl | (simp only [List.length_drop, List.length_take]; rfl)) ?_; (with_reducible refine (num_Add.calls a1 a2 t133 t134 _ A24.out).mono ?_); rintro e w' ⟨rfl, ⟨nd, rfl⟩⟩; refine ⟨_, rfl, ?_⟩; (try simp only [errW_none, errW_some])))
                      (try simp only [Act.put, List.setIfInBounds_toArray, List.set_cons_zero, List.set_cons_succ])
                      go_cut [109] (fun v109 wc => ∃ (kq : Nat) (x109_24 : Bool), v109 = .bool x109_24 ∧ Aside0 (horologelaw01_NumRing.j3 kq a0 a1 t125 t131 t133 x109_24 = some r) ∧ Aside0 (kq ≤ kj17) ∧ Drawn0 w wc)
                      case first =>
                        have H := HC25.out
                        clear HC25
                        rcases t126 with _ | q135
                        · have H1 : (if t132.isNone = true then (if t134.isNone = true then (horologelaw01_NumRing.j3 kj17 a0 a1 t125 t131 t133 true) else (horologelaw01_NumRing.j3 kj17 a0 a1 t125 t131 t133 false)) else (horologelaw01_NumRing.j3 kj17 a0 a1 t125 t131 t133 false)) = some r := by rw [if_pos (show (none : Option Int).isNone = true by rfl)] at H; exact H
                          clear H
                          have H := H1
                          clear H1
                          try simp only [errW_none, errW_some]
                          rcases t132 with _ | q136
                          · have H1 : (if t134.isNone = true then (horologelaw01_NumRing.j3 kj17 a0 a1 t125 t131 t133 true) else (horologelaw01_NumRing.j3 kj17 a0 a1 t125 t131 t133 false)) = some r := by rw [if_pos (show (none : Option Int).isNone = true by rfl)] at H; exact H
                            clear H
                            have H := H1
                            clear H1
                            try simp only [errW_none, errW_some]
                            rcases t134 with _ | q137
                            · have H1 : (horologelaw01_NumRing.j3 kj17 a0 a1 t125 t131 t133 true) = some r := by rw [if_pos (show (none : Option Int).isNone = true by rfl)] at H; exact H
                              clear H
                              have H := H1
                              clear H1
                              try simp only [errW_none, errW_some]
                              have H' := Aside0.mk H
                              clear H
                              go_wp2
                              go_meet
                              case rel => exact ⟨_, (true), (by first | rfl | (simp; done) | (simp [*]; done)), H', ⟨by have := HJ7.out; have := HJ13.out; have := HJ17.out; first | omega | exact Nat.le_refl _⟩, by repeat (first | exact Drawn0.refl _ | apply Drawn0.step)⟩
                            · have H1 : (horologelaw01_NumRing.j3 kj17 a0 a1 t125 t131 t133 false) = some r := by rw [if_neg (show ¬ (some q137).isNone = true by simp)] at H; exact H
                              clear H
                              have H := H1
                              clear H1
                              try simp only [errW_none, errW_some]
                              have H' := Aside0.mk H
                              clear H
                              go_wp2
                              go_meet
                              case rel => exact ⟨_, (false), (by first | rfl | (simp; done) | (simp [*]; done)), H', ⟨by have := HJ7.out; have := HJ13.out; have := HJ17.out; first | omega | exact Nat.le_refl _⟩, by repeat (first | exact Drawn0.refl _ | apply Drawn0.step)⟩
                          · have H1 : (horologelaw01_NumRing.j3 kj17 a0 a1 t125 t131 t133 false) = some r := by rw [if_neg (show ¬ (some q136).isNone = true by simp)] at H; exact H
                            clear H
                            have H := H1
                            clear H1
                            try simp only [errW_none, errW_some]
                            have H' := Aside0.mk H
                            clear H
                            go_wp2
                            go_meet
                            case rel => exact ⟨_, (false), (by first | rfl | (simp; done) | (simp [*]; done)), H', ⟨by have := HJ7.out; have := HJ13.out; have := HJ17.out; first | omega | exact Nat.le_refl _⟩, by repeat (first | exact Drawn0.refl _ | apply Drawn0.step)⟩
                        · have H1 : (horologelaw01_NumRing.j3 kj17 a0 a1 t125 t131 t133 false) = some r := by rw [if_neg (show ¬ (some q135).isNone = true by simp)] at H; exact H
                          clear H
                          have H := H1
                          clear H1
                          try simp only [errW_none, errW_some]
                          have H' := Aside0.mk H
                          clear H
                          go_wp2
                          go_meet
                          case rel => exact ⟨_, (false), (by first | rfl | (simp; done) | (simp [*]; done)), H', ⟨by have := HJ7.out; have := HJ13.out; have := HJ17.out; first | omega | exact Nat.le_refl _⟩, by repeat (first | exact Drawn0.refl _ | apply Drawn0.step)⟩
                      case rest =>
                        clear HC25
                        try clear c1
                        try clear q1
                        try clear c2
                        try clear p2
                        try clear c5
                        try clear c7
                        try clear c8
                        try clear c9
                        try clear c9b0
                        try clear c9b1
                        try clear c12
                        try clear q12
                        try clear c13
                        try clear q13
                        try clear c15
                        try clear c17
                        try clear c19
                        try clear c19b0
                        try clear c19b1
                        try clear c22
                        try clear c23
                        try clear c24
                        try clear c25
                        try clear p2
                        try clear q1
                        try clear q12
                        try clear q123
                        try clear q124
                        try clear q135
                        try clear q136
                        try clear q137
                        obtain ⟨kq, x109_24, rfl, HA, HJ24, ⟨mc24, rfl⟩⟩ := hcut
                        cases kq with
                        | zero => exact absurd HA.out (by simp [horologelaw01_NumRing.j3])
                        | succ kj24 =>
                          have H := HA.out
                          clear HA
                          simp only [horologelaw01_NumRing.j3] at H
                          have HC26 := Aside0.mk H
                          clear H
                          go_upto_if 109 with (fail)
                          go_cut [] (fun wc => ∃ (kq : Nat), Aside0 (horologelaw01_NumRing.j4 kq a0 a1 = some r) ∧ Aside0 (kq ≤ kj24) ∧ Drawn0 w wc)
                          case first =>
                            have H := HC26.out
                            clear HC26
                            by_cases c27 : x109_24 = true
                            · subst c27
                              have H1 : ((num_Add.f t125 t131).bind fun bt138 => ((num_Mul.f kj24 a0 t133).bind fun bt140 => (if bt138.1 = bt140.1 then ((horologenum_Num.f bt138.2).bind fun t142 => ((horologenum_Num.f bt140.2).bind fun t143 => (if t142 = t143 then (horologelaw01_NumRing.j4 kj24 a0 a1) else (some false)))) else (some false)))) = some r := by rw [if_pos rfl] at H; exact H
                              clear H
                              have H := H1
                              clear H1
                              replace H := Option.bind_eq_some_iff.mp H
                              obtain ⟨⟨t138, t139⟩, A280, H⟩ := H
                              replace H : ((num_Mul.f kj24 a0 t133).bind fun bt140 => (if t138 = bt140.1 then ((horologenum_Num.f t139).bind fun t142 => ((horologenum_Num.f bt140.2).bind fun t143 => (if t142 = t143 then (horologelaw01_NumRing.j4 kj24 a0 a1) else (some false)))) else (some false))) = some r := H
                              have A28 := Aside0.mk A280
                              clear A280
                              replace H := Option.bind_eq_some_iff.mp H
                              obtain ⟨⟨t140, t141⟩, A290, H⟩ := H
                              replace H : (if t138 = t140 then ((horologenum_Num.f t139).bind fun t142 => ((horologenum_Num.f t141).bind fun t143 => (if t142 = t143 then (horologelaw01_NumRing.j4 kj24 a0 a1) else (some false)))) else (some false)) = some r := H
                              have A29 := Aside0.mk A290
                              clear A290
                              by_cases c30 : t138 = t140
                              · rw [if_pos c30] at H
                                have c30b0 : (t138 == t140) = true := beq_iff_eq.mpr c30
                                have c30b1 : (t138 != t140) = false := bne_eq_false_iff_eq.mpr c30
                                clear c30
                                (first | rw [c30b0] | (simp only [i64_w, i32_w]; rw [c30b0]) | skip)
                                replace H := Option.bind_eq_some_iff.mp H
                                obtain ⟨t142, A310, H⟩ := H
                                replace H : ((horologenum_Num.f t141).bind fun t143 => (if t142 = t143 then (horologelaw01_NumRing.j4 kj24 a0 a1) else (some false))) = some r := H
                                have A31 := Aside0.mk A310
                                clear A310
                                replace H := Option.bind_eq_some_iff.mp H
                                obtain ⟨t143, A320, H⟩ := H
                                replace H : (if t142 = t143 then (horologelaw01_NumRing.j4 kj24 a0 a1) else (some false)) = some r := H
                                have A32 := Aside0.mk A320
                                clear A320
                                by_cases c33 : t142 = t143
                                · rw [if_pos c33] at H
                                  have c33b0 : (t142 == t143) = true := beq_iff_eq.mpr c33
                                  have c33b1 : (t142 != t143) = false := bne_eq_false_iff_eq.mpr c33
                                  clear c33
                                  have H' := Aside0.mk H
                                  clear H
                                  go_wp2_with (first | ((with_reducible refine gate_callee (f := 23) rfl ?_); refine goesL_ (some 113) rfl rfl Try.func23 (by kernel_rfl) rfl #[.int .i64 t125, .int .i64 t131] rfl (by (try simp only [List.map_toArray, List.map_cons, List.map_nil]); first | done | rfl | (simp only [List.length_drop, List.length_take]; rfl)) ?_; (with_reducible refine (num_Add.calls t125 t131 t138 t139 _ A28.out).mono ?_); rintro e w' ⟨rfl, ⟨nd, rfl⟩⟩; refine ⟨_, rfl, ?_⟩; (try simp only [errW_none, errW_some])) | ((with_reducible refine gate_callee (f := 25) rfl ?_); refine goesL_ (some 119) rfl rfl Try.func25 (by kernel_rfl) rfl #[.int .i64 a0, .int .i64 t133] rfl (by (try simp only [List.map_toArray, List.map_cons, List.map_nil]); first | done | rfl | (simp only [List.length_drop, List.length_take]; rfl)) ?_; (with_reducible refine (num_Mul.calls kj24 a0 t133 t140 t141 _ A29.out).mono ?_); rintro e w' ⟨rfl, ⟨nd, rfl⟩⟩; refine ⟨_, rfl, ?_⟩; (try simp only [errW_none, errW_some]); have CA31 := fun W => horologenum_Num.calls t139 t142 W A31.out; try simp only [errW_none, errW_some] at CA31) | (go_at_call 21; (with_reducible refine (CA31 _).mono ?_); rintro e w' ⟨rfl, ⟨nd, rfl⟩⟩; have CA32 := fun W => horologenum_Num.calls t141 t143 W A32.out; try simp only [errW_none, errW_some] at CA32) | (go_at_call 21; (with_reducible refine (CA32 _).mono ?_); rintro e w' ⟨rfl, ⟨nd, rfl⟩⟩))
                                  go_meet
                                  case rel => exact ⟨_, H', ⟨by have := HJ7.out; have := HJ13.out; have := HJ17.out; have := HJ24.out; first | omega | exact Nat.le_refl _⟩, by repeat (first | exact Drawn0.refl _ | apply Drawn0.step)⟩
                                · rw [if_neg c33] at H
                                  have c33b0 : (t142 == t143) = false := beq_eq_false_iff_ne.mpr c33
                                  have c33b1 : (t142 != t143) = true := bne_iff_ne.mpr c33
                                  obtain rfl := Option.some.inj H
                                  go_wp2_with (first | ((with_reducible refine gate_callee (f := 23) rfl ?_); refine goesL_ (some 113) rfl rfl Try.func23 (by kernel_rfl) rfl #[.int .i64 t125, .int .i64 t131] rfl (by (try simp only [List.map_toArray, List.map_cons, List.map_nil]); first | done | rfl | (simp only [List.length_drop, List.length_take]; rfl)) ?_; (with_reducible refine (num_Add.calls t125 t131 t138 t139 _ A28.out).mono ?_); rintro e w' ⟨rfl, ⟨nd, rfl⟩⟩; refine ⟨_, rfl, ?_⟩; (try simp only [errW_none, errW_some])) | ((with_reducible refine gate_callee (f := 25) rfl ?_); refine goesL_ (some 119) rfl rfl Try.func25 (by kernel_rfl) rfl #[.int .i64 a0, .int .i64 t133] rfl (by (try simp only [List.map_toArray, List.map_cons, List.map_nil]); first | done | rfl | (simp only [List.length_drop, List.length_take]; rfl)) ?_; (with_reducible refine (num_Mul.calls kj24 a0 t133 t140 t141 _ A29.out).mono ?_); rintro e w' ⟨rfl, ⟨nd, rfl⟩⟩; refine ⟨_, rfl, ?_⟩; (try simp only [errW_none, errW_some]); have CA31 := fun W => horologenum_Num.calls t139 t142 W A31.out; try simp only [errW_none, errW_some] at CA31) | (go_at_call 21; (with_reducible refine (CA31 _).mono ?_); rintro e w' ⟨rfl, ⟨nd, rfl⟩⟩; have CA32 := fun W => horologenum_Num.calls t141 t143 W A32.out; try simp only [errW_none, errW_some] at CA32) | (go_at_call 21; (with_reducible refine (CA32 _).mono ?_); rintro e w' ⟨rfl, ⟨nd, rfl⟩⟩))
                                  go_ret
                                  exact ⟨by first | rfl | (simp; done) | (simp [*]; done), by repeat (first | exact Drawn0.refl _ | apply Drawn0.step)⟩
                              · rw [if_neg c30] at H
                                have c30b0 : (t138 == t140) = false := beq_eq_false_iff_ne.mpr c30
                                have c30b1 : (t138 != t140) = true := bne_iff_ne.mpr c30
                                (first | rw [c30b0] | (simp only [i64_w, i32_w]; rw [c30b0]) | skip)
                                obtain rfl := Option.some.inj H
                                go_wp2_with (first | ((with_reducible refine gate_callee (f := 23) rfl ?_); refine goesL_ (some 113) rfl rfl Try.func23 (by kernel_rfl) rfl #[.int .i64 t125, .int .i64 t131] rfl (by (try simp only [List.map_toArray, List.map_cons, List.map_nil]); first | done | rfl | (simp only [List.length_drop, List.length_take]; rfl)) ?_; (with_reducible refine (num_Add.calls t125 t131 t138 t139 _ A28.out).mono ?_); rintro e w' ⟨rfl, ⟨nd, rfl⟩⟩; refine ⟨_, rfl, ?_⟩; (try simp only [errW_none, errW_some])) | ((with_reducible refine gate_callee (f := 25) rfl ?_); refine goesL_ (some 119) rfl rfl Try.func25 (by kernel_rfl) rfl #[.int .i64 a0, .int .i64 t133] rfl (by (try simp only [List.map_toArray, List.map_cons, List.map_nil]); first | done | rfl | (simp only [List.length_drop, List.length_take]; rfl)) ?_; (with_reducible refine (num_Mul.calls kj24 a0 t133 t140 t141 _ A29.out).mono ?_); rintro e w' ⟨rfl, ⟨nd, rfl⟩⟩; refine ⟨_, rfl, ?_⟩; (try simp only [errW_none, errW_some])))
                                go_ret
                                exact ⟨by first | rfl | (simp; done) | (simp [*]; done), by repeat (first | exact Drawn0.refl _ | apply Drawn0.step)⟩
                            · replace c27 := Bool.eq_false_iff.mpr c27
                              subst c27
                              have H1 : (horologelaw01_NumRing.j4 kj24 a0 a1) = some r := by rw [if_neg (show ¬ (false = true) by decide)] at H; exact H
                              clear H
                              have H := H1
                              clear H1
                              have H' := Aside0.mk H
                              clear H
                              go_wp2
                              go_meet
                              case rel => exact ⟨_, H', ⟨by have := HJ7.out; have := HJ13.out; have := HJ17.out; have := HJ24.out; first | omega | exact Nat.le_refl _⟩, by repeat (first | exact Drawn0.refl _ | apply Drawn0.step)⟩
                          case rest =>
                            clear HC26
                            try clear c1
                            try clear q1
                            try clear c2
                            try clear p2
                            try clear c3
                            try clear c5
                            try clear c7
                            try clear c8
                            try clear c9
                            try clear c9b0
                            try clear c9b1
                            try clear c12
                            try clear q12
                            try clear c13
                            try clear q13
                            try clear c15
                            try clear c17
                            try clear c19
                            try clear c19b0
                            try clear c19b1
                            try clear c22
                            try clear c23
                            try clear c24
                            try clear c25
                            try clear c27
                            try clear c30
                            try clear c30b0
                            try clear c30b1
                            try clear c33
                            try clear c33b0
                            try clear c33b1
                            try clear p2
                            try clear q1
                            try clear q12
                            try clear q123
                            try clear q124
                            try clear q13
                            try clear q135
                            try clear q136
                            try clear q137
                            obtain ⟨kq, HA, HJ25, ⟨mc25, rfl⟩⟩ := hcut
                            cases kq with
                            | zero => exact absurd HA.out (by simp [horologelaw01_NumRing.j4])
                            | succ kj25 =>
                              have H := HA.out
                              clear HA
                              simp only [horologelaw01_NumRing.j4] at H
                              replace H := Option.bind_eq_some_iff.mp H
                              obtain ⟨⟨t144, t145⟩, A340, H⟩ := H
                              replace H : ((num_Mod.f a0 a1).bind fun bt146 => (if t145.isNone = true then (if bt146.2.isNone = true then (if a0 = (wrap64 ((wrap64 (a1 * t144)) + bt146.1)) then (if bt146.1 = 0 then (some true) else (some ((decide (bt146.1 < 0)) == (decide (a1 < 0))))) else (some false)) else (if a1 = 0 then (some true) else (if a0 = (-9223372036854775808) then (some (a1 == (-1))) else (some false)))) else (if a1 = 0 then (some true) else (if a0 = (-9223372036854775808) then (some (a1 == (-1))) else (some false))))) = some r := H
                              have A34 := Aside0.mk A340
                              clear A340
                              replace H := Option.bind_eq_some_iff.mp H
                              obtain ⟨⟨t146, t147⟩, A350, H⟩ := H
                              replace H : (if t145.isNone = true then (if t147.isNone = true then (if a0 = (wrap64 ((wrap64 (a1 * t144)) + t146)) then (if t146 = 0 then (some true) else (some ((decide (t146 < 0)) == (decide (a1 < 0))))) else (some false)) else (if a1 = 0 then (some true) else (if a0 = (-9223372036854775808) then (some (a1 == (-1))) else (some false)))) else (if a1 = 0 then (some true) else (if a0 = (-9223372036854775808) then (some (a1 == (-1))) else (some false)))) = some r := H
                              have A35 := Aside0.mk A350
                              clear A350
                              rcases t145 with _ | q148
                              · have H1 : (if t147.isNone = true then (if a0 = (wrap64 ((wrap64 (a1 * t144)) + t146)) then (if t146 = 0 then (some true) else (some ((decide (t146 < 0)) == (decide (a1 < 0))))) else (some false)) else (if a1 = 0 then (some true) else (if a0 = (-9223372036854775808) then (some (a1 == (-1))) else (some false)))) = some r := by rw [if_pos (show (none : Option Int).isNone = true by rfl)] at H; exact H
                                clear H
                                have H := H1
                                clear H1
                                try simp only [errW_none, errW_some]
                                rcases t147 with _ | q149
                                · have H1 : (if a0 = (wrap64 ((wrap64 (a1 * t144)) + t146)) then (if t146 = 0 then (some true) else (some ((decide (t146 < 0)) == (decide (a1 < 0))))) else (some false)) = some r := by rw [if_pos (show (none : Option Int).isNone = true by rfl)] at H; exact H
                                  clear H
                                  have H := H1
                                  clear H1
                                  try simp only [errW_none, errW_some]
                                  by_cases c36 : a0 = (wrap64 ((wrap64 (a1 * t144)) + t146))
                                  · rw [if_pos c36] at H
                                    have c36b0 : (a0 == (wrap64 ((wrap64 (a1 * t144)) + t146))) = true := beq_iff_eq.mpr c36
                                    have c36b1 : (a0 != (wrap64 ((wrap64 (a1 * t144)) + t146))) = false := bne_eq_false_iff_eq.mpr c36
                                    clear c36
                                    by_cases c37 : t146 = 0
                                    · rw [if_pos c37] at H
                                      have c37b0 : (t146 == 0) = true := beq_iff_eq.mpr c37
                                      have c37b1 : (t146 != 0) = false := bne_eq_false_iff_eq.mpr c37
                                      clear c37
                                      obtain rfl := Option.some.inj H
                                      go_wp2_with (first | ((with_reducible refine gate_callee (f := 9) rfl ?_); refine goesL_ (some 135) rfl rfl Try.func9 (by kernel_rfl) rfl #[.int .i64 a0, .int .i64 a1] rfl (by (try simp only [List.map_toArray, List.map_cons, List.map_nil]); first | done | rfl | (simp only [List.length_drop, List.length_take]; rfl)) ?_; (with_reducible refine (num_Div.calls kj25 a0 a1 t144 none _ A34.out).mono ?_); rintro e w' ⟨rfl, ⟨nd, rfl⟩⟩; refine ⟨_, rfl, ?_⟩; (try simp only [errW_none, errW_some])) | ((with_reducible refine gate_callee (f := 10) rfl ?_); refine goesL_ (some 141) rfl rfl Try.func10 (by kernel_rfl) rfl #[.int .i64 a0, .int .i64 a1] rfl (by (try simp only [List.map_toArray, List.map_cons, List.map_nil]); first | done | rfl | (simp only [List.length_drop, List.length_take]; rfl)) ?_; (with_reducible refine (num_Mod.calls a0 a1 t146 none _ A35.out).mono ?_); rintro e w' ⟨rfl, ⟨nd, rfl⟩⟩; refine ⟨_, rfl, ?_⟩; (try simp only [errW_none, errW_some])))
                                      go_ret
                                      exact ⟨by first | rfl | (simp; done) | (simp [*]; done), by repeat (first | exact Drawn0.refl _ | apply Drawn0.step)⟩
                                    · rw [if_neg c37] at H
                                      have c37b0 : (t146 == 0) = false := beq_eq_false_iff_ne.mpr c37
                                      have c37b1 : (t146 != 0) = true := bne_iff_ne.mpr c37
                                      obtain rfl := Option.some.inj H
                                      go_wp2_with (first | ((with_reducible refine gate_callee (f := 9) rfl ?_); refine goesL_ (some 135) rfl rfl Try.func9 (by kernel_rfl) rfl #[.int .i64 a0, .int .i64 a1] rfl (by (try simp only [List.map_toArray, List.map_cons, List.map_nil]); first | done | rfl | (simp only [List.length_drop, List.length_take]; rfl)) ?_; (with_reducible refine (num_Div.calls kj25 a0 a1 t144 none _ A34.out).mono ?_); rintro e w' ⟨rfl, ⟨nd, rfl⟩⟩; refine ⟨_, rfl, ?_⟩; (try simp only [errW_none, errW_some])) | ((with_reducible refine gate_callee (f := 10) rfl ?_); refine goesL_ (some 141) rfl rfl Try.func10 (by kernel_rfl) rfl #[.int .i64 a0, .int .i64 a1] rfl (by (try simp only [List.map_toArray, List.map_cons, List.map_nil]); first | done | rfl | (simp only [List.length_drop, List.length_take]; rfl)) ?_; (with_reducible refine (num_Mod.calls a0 a1 t146 none _ A35.out).mono ?_); rintro e w' ⟨rfl, ⟨nd, rfl⟩⟩; refine ⟨_, rfl, ?_⟩; (try simp only [errW_none, errW_some])))
                                      go_ret
                                      exact ⟨by first | rfl | (simp; done) | (simp [*]; done), by repeat (first | exact Drawn0.refl _ | apply Drawn0.step)⟩
                                  · rw [if_neg c36] at H
                                    have c36b0 : (a0 == (wrap64 ((wrap64 (a1 * t144)) + t146))) = false := beq_eq_false_iff_ne.mpr c36
                                    have c36b1 : (a0 != (wrap64 ((wrap64 (a1 * t144)) + t146))) = true := bne_iff_ne.mpr c36
                                    obtain rfl := Option.some.inj H
                                    go_wp2_with (first | ((with_reducible refine gate_callee (f := 9) rfl ?_); refine goesL_ (some 135) rfl rfl Try.func9 (by kernel_rfl) rfl #[.int .i64 a0, .int .i64 a1] rfl (by (try simp only [List.map_toArray, List.map_cons, List.map_nil]); first | done | rfl | (simp only [List.length_drop, List.length_take]; rfl)) ?_; (with_reducible refine (num_Div.calls kj25 a0 a1 t144 none _ A34.out).mono ?_); rintro e w' ⟨rfl, ⟨nd, rfl⟩⟩; refine ⟨_, rfl, ?_⟩; (try simp only [errW_none, errW_some])) | ((with_reducible refine gate_callee (f := 10) rfl ?_); refine goesL_ (some 141) rfl rfl Try.func10 (by kernel_rfl) rfl #[.int .i64 a0, .int .i64 a1] rfl (by (try simp only [List.map_toArray, List.map_cons, List.map_nil]); first | done | rfl | (simp only [List.length_drop, List.length_take]; rfl)) ?_; (with_reducible refine (num_Mod.calls a0 a1 t146 none _ A35.out).mono ?_); rintro e w' ⟨rfl, ⟨nd, rfl⟩⟩; refine ⟨_, rfl, ?_⟩; (try simp only [errW_none, errW_some])))
                                    go_ret
                                    exact ⟨by first | rfl | (simp; done) | (simp [*]; done), by repeat (first | exact Drawn0.refl _ | apply Drawn0.step)⟩
                                · have H1 : (if a1 = 0 then (some true) else (if a0 = (-9223372036854775808) then (some (a1 == (-1))) else (some false))) = some r := by rw [if_neg (show ¬ (some q149).isNone = true by simp)] at H; exact H
                                  clear H
                                  have H := H1
                                  clear H1
                                  try simp only [errW_none, errW_some]
                                  by_cases c38 : a1 = 0
                                  · rw [if_pos c38] at H
                                    have c38b0 : (a1 == 0) = true := beq_iff_eq.mpr c38
                                    have c38b1 : (a1 != 0) = false := bne_eq_false_iff_eq.mpr c38
                                    clear c38
                                    obtain rfl := Option.some.inj H
                                    go_wp2_with (first | ((with_reducible refine gate_callee (f := 9) rfl ?_); refine goesL_ (some 135) rfl rfl Try.func9 (by kernel_rfl) rfl #[.int .i64 a0, .int .i64 a1] rfl (by (try simp only [List.map_toArray, List.map_cons, List.map_nil]); first | done | rfl | (simp only [List.length_drop, List.length_take]; rfl)) ?_; (with_reducible refine (num_Div.calls kj25 a0 a1 t144 none _ A34.out).mono ?_); rintro e w' ⟨rfl, ⟨nd, rfl⟩⟩; refine ⟨_, rfl, ?_⟩; (try simp only [errW_none, errW_some])) | ((with_reducible refine gate_callee (f := 10) rfl ?_); refine goesL_ (some 141) rfl rfl Try.func10 (by kernel_rfl) rfl #[.int .i64 a0, .int .i64 a1] rfl (by (try simp only [List.map_toArray, List.map_cons, List.map_nil]); first | done | rfl | (simp only [List.length_drop, List.length_take]; rfl)) ?_; (with_reducible refine (num_Mod.calls a0 a1 t146 (some q149) _ A35.out).mono ?_); rintro e w' ⟨rfl, ⟨nd, rfl⟩⟩; refine ⟨_, rfl, ?_⟩; (try simp only [errW_none, errW_some])))
                                    go_ret
                                    exact ⟨by first | rfl | (simp; done) | (simp [*]; done), by repeat (first | exact Drawn0.refl _ | apply Drawn0.step)⟩
                                  · rw [if_neg c38] at H
                                    have c38b0 : (a1 == 0) = false := beq_eq_false_iff_ne.mpr c38
                                    have c38b1 : (a1 != 0) = true := bne_iff_ne.mpr c38
                                    by_cases c39 : a0 = (-9223372036854775808)
                                    · rw [if_pos c39] at H
                                      have c39b0 : (a0 == (-9223372036854775808)) = true := beq_iff_eq.mpr c39
                                      have c39b1 : (a0 != (-9223372036854775808)) = false := bne_eq_false_iff_eq.mpr c39
                                      clear c39
                                      obtain rfl := Option.some.inj H
                                      go_wp2_with (first | ((with_reducible refine gate_callee (f := 9) rfl ?_); refine goesL_ (some 135) rfl rfl Try.func9 (by kernel_rfl) rfl #[.int .i64 a0, .int .i64 a1] rfl (by (try simp only [List.map_toArray, List.map_cons, List.map_nil]); first | done | rfl | (simp only [List.length_drop, List.length_take]; rfl)) ?_; (with_reducible refine (num_Div.calls kj25 a0 a1 t144 none _ A34.out).mono ?_); rintro e w' ⟨rfl, ⟨nd, rfl⟩⟩; refine ⟨_, rfl, ?_⟩; (try simp only [errW_none, errW_some])) | ((with_reducible refine gate_callee (f := 10) rfl ?_); refine goesL_ (some 141) rfl rfl Try.func10 (by kernel_rfl) rfl #[.int .i64 a0, .int .i64 a1] rfl (by (try simp only [List.map_toArray, List.map_cons, List.map_nil]); first | done | rfl | (simp only [List.length_drop, List.length_take]; rfl)) ?_; (with_reducible refine (num_Mod.calls a0 a1 t146 (some q149) _ A35.out).mono ?_); rintro e w' ⟨rfl, ⟨nd, rfl⟩⟩; refine ⟨_, rfl, ?_⟩; (try simp only [errW_none, errW_some])))
                                      go_ret
                                      exact ⟨by first | rfl | (simp; done) | (simp [*]; done), by repeat (first | exact Drawn0.refl _ | apply Drawn0.step)⟩
                                    · rw [if_neg c39] at H
                                      have c39b0 : (a0 == (-9223372036854775808)) = false := beq_eq_false_iff_ne.mpr c39
                                      have c39b1 : (a0 != (-9223372036854775808)) = true := bne_iff_ne.mpr c39
                                      obtain rfl := Option.some.inj H
                                      go_wp2_with (first | ((with_reducible refine gate_callee (f := 9) rfl ?_); refine goesL_ (some 135) rfl rfl Try.func9 (by kernel_rfl) rfl #[.int .i64 a0, .int .i64 a1] rfl (by (try simp only [List.map_toArray, List.map_cons, List.map_nil]); first | done | rfl | (simp only [List.length_drop, List.length_take]; rfl)) ?_; (with_reducible refine (num_Div.calls kj25 a0 a1 t144 none _ A34.out).mono ?_); rintro e w' ⟨rfl, ⟨nd, rfl⟩⟩; refine ⟨_, rfl, ?_⟩; (try simp only [errW_none, errW_some])) | ((with_reducible refine gate_callee (f := 10) rfl ?_); refine goesL_ (some 141) rfl rfl Try.func10 (by kernel_rfl) rfl #[.int .i64 a0, .int .i64 a1] rfl (by (try simp only [List.map_toArray, List.map_cons, List.map_nil]); first | done | rfl | (simp only [List.length_drop, List.length_take]; rfl)) ?_; (with_reducible refine (num_Mod.calls a0 a1 t146 (some q149) _ A35.out).mono ?_); rintro e w' ⟨rfl, ⟨nd, rfl⟩⟩; refine ⟨_, rfl, ?_⟩; (try simp only [errW_none, errW_some])))
                                      go_ret
                                      exact ⟨by first | rfl | (simp; done) | (simp [*]; done), by repeat (first | exact Drawn0.refl _ | apply Drawn0.step)⟩
                              · have H1 : (if a1 = 0 then (some true) else (if a0 = (-9223372036854775808) then (some (a1 == (-1))) else (some false))) = some r := by rw [if_neg (show ¬ (some q148).isNone = true by simp)] at H; exact H
                                clear H
                                have H := H1
                                clear H1
                                try simp only [errW_none, errW_some]
                                by_cases c40 : a1 = 0
                                · rw [if_pos c40] at H
                                  have c40b0 : (a1 == 0) = true := beq_iff_eq.mpr c40
                                  have c40b1 : (a1 != 0) = false := bne_eq_false_iff_eq.mpr c40
                                  clear c40
                                  obtain rfl := Option.some.inj H
                                  go_wp2_with (first | ((with_reducible refine gate_callee (f := 9) rfl ?_); refine goesL_ (some 135) rfl rfl Try.func9 (by kernel_rfl) rfl #[.int .i64 a0, .int .i64 a1] rfl (by (try simp only [List.map_toArray, List.map_cons, List.map_nil]); first | done | rfl | (simp only [List.length_drop, List.length_take]; rfl)) ?_; (with_reducible refine (num_Div.calls kj25 a0 a1 t144 (some q148) _ A34.out).mono ?_); rintro e w' ⟨rfl, ⟨nd, rfl⟩⟩; refine ⟨_, rfl, ?_⟩; (try simp only [errW_none, errW_some])) | ((with_reducible refine gate_callee (f := 10) rfl ?_); refine goesL_ (some 141) rfl rfl Try.func10 (by kernel_rfl) rfl #[.int .i64 a0, .int .i64 a1] rfl (by (try simp only [List.map_toArray, List.map_cons, List.map_nil]); first | done | rfl | (simp only [List.length_drop, List.length_take]; rfl)) ?_; (with_reducible refine (num_Mod.calls a0 a1 t146 t147 _ A35.out).mono ?_); rintro e w' ⟨rfl, ⟨nd, rfl⟩⟩; refine ⟨_, rfl, ?_⟩; (try simp only [errW_none, errW_some])))
                                  go_ret
                                  exact ⟨by first | rfl | (simp; done) | (simp [*]; done), by repeat (first | exact Drawn0.refl _ | apply Drawn0.step)⟩
                                · rw [if_neg c40] at H
                                  have c40b0 : (a1 == 0) = false := beq_eq_false_iff_ne.mpr c40
                                  have c40b1 : (a1 != 0) = true := bne_iff_ne.mpr c40
                                  by_cases c41 : a0 = (-9223372036854775808)
                                  · rw [if_pos c41] at H
                                    have c41b0 : (a0 == (-9223372036854775808)) = true := beq_iff_eq.mpr c41
                                    have c41b1 : (a0 != (-9223372036854775808)) = false := bne_eq_false_iff_eq.mpr c41
                                    clear c41
                                    obtain rfl := Option.some.inj H
                                    go_wp2_with (first | ((with_reducible refine gate_callee (f := 9) rfl ?_); refine goesL_ (some 135) rfl rfl Try.func9 (by kernel_rfl) rfl #[.int .i64 a0, .int .i64 a1] rfl (by (try simp only [List.map_toArray, List.map_cons, List.map_nil]); first | done | rfl | (simp only [List.length_drop, List.length_take]; rfl)) ?_; (with_reducible refine (num_Div.calls kj25 a0 a1 t144 (some q148) _ A34.out).mono ?_); rintro e w' ⟨rfl, ⟨nd, rfl⟩⟩; refine ⟨_, rfl, ?_⟩; (try simp only [errW_none, errW_some])) | ((with_reducible refine gate_callee (f := 10) rfl ?_); refine goesL_ (some 141) rfl rfl Try.func10 (by kernel_rfl) rfl #[.int .i64 a0, .int .i64 a1] rfl (by (try simp only [List.map_toArray, List.map_cons, List.map_nil]); first | done | rfl | (simp only [List.length_drop, List.length_take]; rfl)) ?_; (with_reducible refine (num_Mod.calls a0 a1 t146 t147 _ A35.out).mono ?_); rintro e w' ⟨rfl, ⟨nd, rfl⟩⟩; refine ⟨_, rfl, ?_⟩; (try simp only [errW_none, errW_some])))
                                    go_ret
                                    exact ⟨by first | rfl | (simp; done) | (simp [*]; done), by repeat (first | exact Drawn0.refl _ | apply Drawn0.step)⟩
                                  · rw [if_neg c41] at H
                                    have c41b0 : (a0 == (-9223372036854775808)) = false := beq_eq_false_iff_ne.mpr c41
                                    have c41b1 : (a0 != (-9223372036854775808)) = true := bne_iff_ne.mpr c41
                                    obtain rfl := Option.some.inj H
                                    go_wp2_with (first | ((with_reducible refine gate_callee (f := 9) rfl ?_); refine goesL_ (some 135) rfl rfl Try.func9 (by kernel_rfl) rfl #[.int .i64 a0, .int .i64 a1] rfl (by (try simp only [List.map_toArray, List.map_cons, List.map_nil]); first | done | rfl | (simp only [List.length_drop, List.length_take]; rfl)) ?_; (with_reducible refine (num_Div.calls kj25 a0 a1 t144 (some q148) _ A34.out).mono ?_); rintro e w' ⟨rfl, ⟨nd, rfl⟩⟩; refine ⟨_, rfl, ?_⟩; (try simp only [errW_none, errW_some])) | ((with_reducible refine gate_callee (f := 10) rfl ?_); refine goesL_ (some 141) rfl rfl Try.func10 (by kernel_rfl) rfl #[.int .i64 a0, .int .i64 a1] rfl (by (try simp only [List.map_toArray, List.map_cons, List.map_nil]); first | done | rfl | (simp only [List.length_drop, List.length_take]; rfl)) ?_; (with_reducible refine (num_Mod.calls a0 a1 t146 t147 _ A35.out).mono ?_); rintro e w' ⟨rfl, ⟨nd, rfl⟩⟩; refine ⟨_, rfl, ?_⟩; (try simp only [errW_none, errW_some])))
                                    go_ret
                                    exact ⟨by first | rfl | (simp; done) | (simp [*]; done), by repeat (first | exact Drawn0.refl _ | apply Drawn0.step)⟩
  · replace c5 := Bool.eq_false_iff.mpr c5
    subst c5
    have H1 : (some false) = some r := by rw [if_neg (show ¬ (false = true) by decide)] at H; exact H
    clear H
    have H := H1
    clear H1
    obtain rfl := Option.some.inj H
    go_enter Try.func5, Try.ntmps5
    go_wp2_with (first | ((with_reducible refine gate_callee (f := 8) rfl ?_); refine goesL_ (some 25) rfl rfl Try.func8 (by kernel_rfl) rfl #[] rfl (by (try simp only [List.map_toArray, List.map_cons, List.map_nil]); first | done | rfl | (simp only [List.length_drop, List.length_take]; rfl)) ?_; (with_reducible refine (horologelaw01_alive.calls k  false _ A4.out).mono ?_); rintro e w' ⟨rfl, ⟨nd, rfl⟩⟩; refine ⟨_, rfl, ?_⟩))
    go_ret
    exact ⟨by first | rfl | (simp; done) | (simp [*]; done), by repeat (first | exact Drawn0.refl _ | apply Drawn0.step)⟩

/-- THE ONE PURE STATEMENT of horologelaw01_NumRing: yours. -/
def horologelaw01_NumRing.Pure : Prop := ∀ (a0 : Int) (a1 : Int) (a2 : Int), (Lit.int .i64 a0).wf = true → (Lit.int .i64 a1).wf = true → (Lit.int .i64 a2).wf = true → ∃ k, horologelaw01_NumRing.f k a0 a1 a2 = some true
theorem horologelaw01_NumRing.walk (P : horologelaw01_NumRing.Pure) (a0 : Int) (a1 : Int) (a2 : Int) (w : World) (w0 : (Lit.int .i64 a0).wf = true) (w1 : (Lit.int .i64 a1).wf = true) (w2 : (Lit.int .i64 a2).wf = true) :
    Calls Try.prog 5 #[.int .i64 a0, .int .i64 a1, .int .i64 a2] w fun e w' => e = .returned (.bool true) ∧ Below w.heap.size w w' := by
  obtain ⟨k, h⟩ := P a0 a1 a2 w0 w1 w2
  refine (horologelaw01_NumRing.calls k a0 a1 a2 true w h).mono ?_
  rintro e w' ⟨rfl, hd⟩
  exact ⟨rfl, hd.below⟩

end Go.Proofs.Ytcgcodmknoiljaa.MNumRing
