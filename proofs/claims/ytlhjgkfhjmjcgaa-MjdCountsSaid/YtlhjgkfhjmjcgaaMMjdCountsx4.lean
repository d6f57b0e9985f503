-- This text was written by a program of this session (a changed scratch copy of a tool of the kit; NOTES.md tells the changes).
import Derived.Test.YtlhjgkfhjmjcgaaMMjdCountsx0
import Derived.Test.YtlhjgkfhjmjcgaaMMjdCountsx1
import Derived.Test.YtlhjgkfhjmjcgaaMMjdCountsx2
import Derived.Test.YtlhjgkfhjmjcgaaMMjdCountsx3
namespace Go.Proofs.Ytlhjgkfhjmjcgaa.MMjdCounts
open Go.RowKit Go.Proofs.YtlhjgkfhjmjcgaaW.PrintWords Go.Proofs.YtlhjgkfhjmjcgaaW.PrintLast Go.Proofs.YtlhjgkfhjmjcgaaW.PrintMore
attribute [local go_sem] max2_int min2_int max_two min_two max_three min_three max_four min_four   -- for this text's walks alone
set_option linter.unusedVariables false
set_option linter.unusedSimpArgs false

/-! ### horologelaw07_MjdCounts: function 3 -/
mutual
def horologelaw07_MjdCounts.j0 : Nat → Int → Int → Option Int → ByteArray → Option Int → Int → Int → ByteArray → Option (Bool)
  | 0, _, _, _, _, _, _, _, _ => none
  | k + 1, x0, x5, x6, x7, x8, x9, x10, x11 => if x0 ≥ 1 then (horologelaw07_MjdCounts.j1 k x0 x5 x6 x7 x8 x9 x10 x11 (⟨#[]⟩ : ByteArray) (decide (x0 ≤ 4))) else (horologelaw07_MjdCounts.j1 k x0 x5 x6 x7 x8 x9 x10 x11 (⟨#[]⟩ : ByteArray) false)
def horologelaw07_MjdCounts.j1 : Nat → Int → Int → Option Int → ByteArray → Option Int → Int → Int → ByteArray → ByteArray → Bool → Option (Bool)
  | 0, _, _, _, _, _, _, _, _, _, _ => none
  | k + 1, x0, x5, x6, x7, x8, x9, x10, x11, x12, x45 => if x45 = true then ((some (([(⟨#[109, 111, 100, 105, 102, 105, 101, 100]⟩ : ByteArray), (⟨#[106, 117, 108, 105, 97, 110]⟩ : ByteArray), (⟨#[115, 116, 97, 109, 112, 101, 100]⟩ : ByteArray), (⟨#[115, 97, 116, 101, 108, 108, 105, 116, 101]⟩ : ByteArray)] : List ByteArray) : List ByteArray)).bind fun y176 => (if 0 ≤ (wrap64 (x0 - 1)) then (if (wrap64 (x0 - 1)) < (y176.length : Int) then (if x5 = x9 then (if x7.toList = x11.toList then ((horologenum_Num.f x6).bind fun t180 => (if t180 = x10 then ((horologenum_Num.f x8).bind fun t181 => (if t181 = x10 then ((mjd_Word.f x0).bind fun t182 => (some (t182.toList == (rdOf ByteArray.empty y176 (wrap64 (x0 - 1))).toList))) else (some false))) else (some false))) else (some false)) else (some false)) else (none)) else (none))) else (if x5 = x9 then (if x7.toList = x11.toList then ((horologenum_Num.f x6).bind fun t183 => (if t183 = x10 then ((horologenum_Num.f x8).bind fun t184 => (if t184 = x10 then ((mjd_Word.f x0).bind fun t185 => (some (t185.toList == x12.toList))) else (some false))) else (some false))) else (some false)) else (some false))
end
def horologelaw07_MjdCounts.f (k : Nat) (a0 : Int) (a1 : Int) : Option (Bool) := (horologelaw07_alive.f).bind fun t167 => (if t167 = true then ((mjd_Count.f a0 a1).bind fun bt168 => ((mjd_Text.f k a0 a1).bind fun bt170 => ((horologeref07_Count.f k a0 a1).bind fun bt172 => (if bt172.2 = 0 then ((horologeref02_Put.f k bt172.1 0).bind fun bt174 => (horologelaw07_MjdCounts.j0 k a0 bt168.1 bt168.2 bt170.1 bt170.2 bt172.1 bt172.2 bt174.1)) else (horologelaw07_MjdCounts.j0 k a0 bt168.1 bt168.2 bt170.1 bt170.2 bt172.1 bt172.2 (⟨#[]⟩ : ByteArray)))))) else (some false))
theorem horologelaw07_MjdCounts.mono_l : ∀ k, (∀ y0 y1 y2 y3 y4 y5 y6 y7, LeO (horologelaw07_MjdCounts.j0 k y0 y1 y2 y3 y4 y5 y6 y7) (horologelaw07_MjdCounts.j0 (k + 1) y0 y1 y2 y3 y4 y5 y6 y7)) ∧ (∀ y0 y1 y2 y3 y4 y5 y6 y7 y8 y9, LeO (horologelaw07_MjdCounts.j1 k y0 y1 y2 y3 y4 y5 y6 y7 y8 y9) (horologelaw07_MjdCounts.j1 (k + 1) y0 y1 y2 y3 y4 y5 y6 y7 y8 y9))
  | 0 => ⟨fun _ _ _ _ _ _ _ _ r h => by simp [horologelaw07_MjdCounts.j0] at h, fun _ _ _ _ _ _ _ _ _ _ r h => by simp [horologelaw07_MjdCounts.j1] at h⟩
  | k + 1 => by
    obtain ⟨ih0, ih1⟩ := horologelaw07_MjdCounts.mono_l k
    refine ⟨?_, ?_⟩
    · intro y0 y1 y2 y3 y4 y5 y6 y7
      unfold horologelaw07_MjdCounts.j0
      repeat' first
      | (with_reducible exact ih0 _ _ _ _ _ _ _ _)
      | (with_reducible exact ih1 _ _ _ _ _ _ _ _ _ _)
      | (with_reducible exact horologeref02_Put.mono _ _ _)
      | (with_reducible exact horologeref07_Count.mono _ _ _)
      | (with_reducible exact mjd_Text.mono _ _ _)
      | (with_reducible exact LeO.refl _)
      | (with_reducible exact LeO.none _)
      | (with_reducible refine LeO.ite ?_ ?_)
      | (with_reducible refine LeO.bind ?_ (fun _ => ?_))
      | exact ih0 _ _ _ _ _ _ _ _
      | exact ih1 _ _ _ _ _ _ _ _ _ _
      | exact horologeref02_Put.mono _ _ _
      | exact horologeref07_Count.mono _ _ _
      | exact mjd_Text.mono _ _ _
      | exact LeO.none _
      | refine LeO.ite ?_ ?_
      | refine LeO.bind ?_ (fun _ => ?_)
    · intro y0 y1 y2 y3 y4 y5 y6 y7 y8 y9
      unfold horologelaw07_MjdCounts.j1
      repeat' first
      | (with_reducible exact ih0 _ _ _ _ _ _ _ _)
      | (with_reducible exact ih1 _ _ _ _ _ _ _ _ _ _)
      | (with_reducible exact horologeref02_Put.mono _ _ _)
      | (with_reducible exact horologeref07_Count.mono _ _ _)
      | (with_reducible exact mjd_Text.mono _ _ _)
      | (with_reducible exact LeO.refl _)
      | (with_reducible exact LeO.none _)
      | (with_reducible refine LeO.ite ?_ ?_)
      | (with_reducible refine LeO.bind ?_ (fun _ => ?_))
      | exact ih0 _ _ _ _ _ _ _ _
      | exact ih1 _ _ _ _ _ _ _ _ _ _
      | exact horologeref02_Put.mono _ _ _
      | exact horologeref07_Count.mono _ _ _
      | exact mjd_Text.mono _ _ _
      | exact LeO.none _
      | refine LeO.ite ?_ ?_
      | refine LeO.bind ?_ (fun _ => ?_)
theorem horologelaw07_MjdCounts.mono : ∀ a0 a1 k, LeO (horologelaw07_MjdCounts.f k a0 a1) (horologelaw07_MjdCounts.f (k + 1) a0 a1) := by
  intro a0 a1 k
  obtain ⟨ih0, ih1⟩ := horologelaw07_MjdCounts.mono_l k
  unfold horologelaw07_MjdCounts.f
  repeat' first
      | (with_reducible exact ih0 _ _ _ _ _ _ _ _)
      | (with_reducible exact ih1 _ _ _ _ _ _ _ _ _ _)
      | (with_reducible exact horologeref02_Put.mono _ _ _)
      | (with_reducible exact horologeref07_Count.mono _ _ _)
      | (with_reducible exact mjd_Text.mono _ _ _)
      | (with_reducible exact LeO.refl _)
      | (with_reducible exact LeO.none _)
      | (with_reducible refine LeO.ite ?_ ?_)
      | (with_reducible refine LeO.bind ?_ (fun _ => ?_))
      | exact ih0 _ _ _ _ _ _ _ _
      | exact ih1 _ _ _ _ _ _ _ _ _ _
      | exact horologeref02_Put.mono _ _ _
      | exact horologeref07_Count.mono _ _ _
      | exact mjd_Text.mono _ _ _
      | exact LeO.none _
      | refine LeO.ite ?_ ?_
      | refine LeO.bind ?_ (fun _ => ?_)
set_option maxHeartbeats 8000000 in
set_option maxRecDepth 100000 in
theorem horologelaw07_MjdCounts.calls (k : Nat) (a0 : Int) (a1 : Int) (r : Bool) (w : World) (h : horologelaw07_MjdCounts.f k a0 a1 = some r) :
    Calls Try.prog 3 #[.int .i64 a0, .int .i64 a1] w fun e w' => e = .returned (.bool r) ∧ Below w.heap.size w w' := by
  have HB := Aside0.mk (Below.refl w.heap.size w)
  have H : ((horologelaw07_alive.f).bind fun t167 => (if t167 = true then ((mjd_Count.f a0 a1).bind fun bt168 => ((mjd_Text.f k a0 a1).bind fun bt170 => ((horologeref07_Count.f k a0 a1).bind fun bt172 => (if bt172.2 = 0 then ((horologeref02_Put.f k bt172.1 0).bind fun bt174 => (horologelaw07_MjdCounts.j0 k a0 bt168.1 bt168.2 bt170.1 bt170.2 bt172.1 bt172.2 bt174.1)) else (horologelaw07_MjdCounts.j0 k a0 bt168.1 bt168.2 bt170.1 bt170.2 bt172.1 bt172.2 (⟨#[]⟩ : ByteArray)))))) else (some false))) = some r := h
  clear h
  replace H := Option.bind_eq_some_iff.mp H
  obtain ⟨t167, A30, H⟩ := H
  replace H : (if t167 = true then ((mjd_Count.f a0 a1).bind fun bt168 => ((mjd_Text.f k a0 a1).bind fun bt170 => ((horologeref07_Count.f k a0 a1).bind fun bt172 => (if bt172.2 = 0 then ((horologeref02_Put.f k bt172.1 0).bind fun bt174 => (horologelaw07_MjdCounts.j0 k a0 bt168.1 bt168.2 bt170.1 bt170.2 bt172.1 bt172.2 bt174.1)) else (horologelaw07_MjdCounts.j0 k a0 bt168.1 bt168.2 bt170.1 bt170.2 bt172.1 bt172.2 (⟨#[]⟩ : ByteArray)))))) else (some false)) = some r := H
  have A3 := Aside0.mk A30
  clear A30
  by_cases c4 : t167 = true
  · subst c4
    have H1 : ((mjd_Count.f a0 a1).bind fun bt168 => ((mjd_Text.f k a0 a1).bind fun bt170 => ((horologeref07_Count.f k a0 a1).bind fun bt172 => (if bt172.2 = 0 then ((horologeref02_Put.f k bt172.1 0).bind fun bt174 => (horologelaw07_MjdCounts.j0 k a0 bt168.1 bt168.2 bt170.1 bt170.2 bt172.1 bt172.2 bt174.1)) else (horologelaw07_MjdCounts.j0 k a0 bt168.1 bt168.2 bt170.1 bt170.2 bt172.1 bt172.2 (⟨#[]⟩ : ByteArray)))))) = some r := by rw [if_pos rfl] at H; exact H
    clear H
    have H := H1
    clear H1
    replace H := Option.bind_eq_some_iff.mp H
    obtain ⟨⟨t168, t169⟩, A50, H⟩ := H
    replace H : ((mjd_Text.f k a0 a1).bind fun bt170 => ((horologeref07_Count.f k a0 a1).bind fun bt172 => (if bt172.2 = 0 then ((horologeref02_Put.f k bt172.1 0).bind fun bt174 => (horologelaw07_MjdCounts.j0 k a0 t168 t169 bt170.1 bt170.2 bt172.1 bt172.2 bt174.1)) else (horologelaw07_MjdCounts.j0 k a0 t168 t169 bt170.1 bt170.2 bt172.1 bt172.2 (⟨#[]⟩ : ByteArray))))) = some r := H
    have A5 := Aside0.mk A50
    clear A50
    replace H := Option.bind_eq_some_iff.mp H
    obtain ⟨⟨t170, t171⟩, A60, H⟩ := H
    replace H : ((horologeref07_Count.f k a0 a1).bind fun bt172 => (if bt172.2 = 0 then ((horologeref02_Put.f k bt172.1 0).bind fun bt174 => (horologelaw07_MjdCounts.j0 k a0 t168 t169 t170 t171 bt172.1 bt172.2 bt174.1)) else (horologelaw07_MjdCounts.j0 k a0 t168 t169 t170 t171 bt172.1 bt172.2 (⟨#[]⟩ : ByteArray)))) = some r := H
    have A6 := Aside0.mk A60
    clear A60
    replace H := Option.bind_eq_some_iff.mp H
    obtain ⟨⟨t172, t173⟩, A70, H⟩ := H
    replace H : (if t173 = 0 then ((horologeref02_Put.f k t172 0).bind fun bt174 => (horologelaw07_MjdCounts.j0 k a0 t168 t169 t170 t171 t172 t173 bt174.1)) else (horologelaw07_MjdCounts.j0 k a0 t168 t169 t170 t171 t172 t173 (⟨#[]⟩ : ByteArray))) = some r := H
    have A7 := Aside0.mk A70
    clear A70
    have HC8 := Aside0.mk H
    clear H
    go_enter Try.func3, Try.ntmps3
    go_upto_if 34 with (first | ((with_reducible refine gate_callee (f := 7) rfl ?_); refine goesL_ (some 13) rfl rfl Try.func7 (by kernel_rfl) rfl #[] rfl (by (try simp only [List.map_toArray, List.map_cons, List.map_nil]); first | done | rfl | (simp only [List.length_drop, List.length_take]; rfl) | (refine congrArg (fun z_ => #[Value.int IntKind.i64 z_]) (?_ : Go.RowKit.wrap64 (IntKind.u8.wrap _) = _); rw [IntKind.wrap_u8]; unfold Go.RowKit.wrap64; omega)) ?_; (with_reducible refine (horologelaw07_alive.calls  true _ A3.out).mono ?_); rintro e w' ⟨rfl, ⟨nd, rfl⟩⟩; refine ⟨_, rfl, ?_⟩) | ((with_reducible refine gate_callee (f := 8) rfl ?_); refine goesL_ (some 18) rfl rfl Try.func8 (by kernel_rfl) rfl #[.int .i64 a0, .int .i64 a1] rfl (by (try simp only [List.map_toArray, List.map_cons, List.map_nil]); first | done | rfl | (simp only [List.length_drop, List.length_take]; rfl) | (refine congrArg (fun z_ => #[Value.int IntKind.i64 z_]) (?_ : Go.RowKit.wrap64 (IntKind.u8.wrap _) = _); rw [IntKind.wrap_u8]; unfold Go.RowKit.wrap64; omega)) ?_; (with_reducible refine (mjd_Count.calls a0 a1 t168 t169 _ A5.out).mono ?_); rintro e w' ⟨rfl, ⟨nd, rfl⟩⟩; refine ⟨_, rfl, ?_⟩; (try simp only [errW_none, errW_some])) | ((with_reducible refine gate_callee (f := 9) rfl ?_); refine goesL_ (some 24) rfl rfl Try.func9 (by kernel_rfl) rfl #[.int .i64 a0, .int .i64 a1] rfl (by (try simp only [List.map_toArray, List.map_cons, List.map_nil]); first | done | rfl | (simp only [List.length_drop, List.length_take]; rfl) | (refine congrArg (fun z_ => #[Value.int IntKind.i64 z_]) (?_ : Go.RowKit.wrap64 (IntKind.u8.wrap _) = _); rw [IntKind.wrap_u8]; unfold Go.RowKit.wrap64; omega)) ?_; (with_reducible refine (mjd_Text.calls k a0 a1 t170 t171 _ A6.out).mono ?_); rintro e w9 ⟨rfl, hb⟩; refine ⟨_, rfl, ?_⟩; have n0_ := Aside0.mk (below_step (by repeat (first | (with_reducible first | exact HB.out | apply below_alloc | apply pw_below_drewN | apply below_drew1) | exact HB.out)) hb); clear HB; have HB := n0_; clear n0_; (try clear hb); (try clear hb2); (try clear hk); (try clear hi); (try simp only [errW_none, errW_some])) | ((with_reducible refine gate_callee (f := 10) rfl ?_); refine goesL_ (some 30) rfl rfl Try.func10 (by kernel_rfl) rfl #[.int .i64 a0, .int .i64 a1] rfl (by (try simp only [List.map_toArray, List.map_cons, List.map_nil]); first | done | rfl | (simp only [List.length_drop, List.length_take]; rfl) | (refine congrArg (fun z_ => #[Value.int IntKind.i64 z_]) (?_ : Go.RowKit.wrap64 (IntKind.u8.wrap _) = _); rw [IntKind.wrap_u8]; unfold Go.RowKit.wrap64; omega)) ?_; (with_reducible refine (horologeref07_Count.calls k a0 a1 t172 t173 _ A7.out).mono ?_); rintro e w10 ⟨rfl, hb⟩; refine ⟨_, rfl, ?_⟩; have n0_ := Aside0.mk (below_step (by repeat (first | (with_reducible first | exact HB.out | apply below_alloc | apply pw_below_drewN | apply below_drew1) | exact HB.out)) hb); clear HB; have HB := n0_; clear n0_; (try clear hb); (try clear hb2); (try clear hk); (try clear hi)))
    (try simp only [Act.put, List.setIfInBounds_toArray, List.set_cons_zero, List.set_cons_succ])
    go_cut [11] (fun v11 wc => ∃ (kq : Nat) (x11_7 : ByteArray), v11 = .string x11_7 ∧ Aside0 (horologelaw07_MjdCounts.j0 kq a0 t168 t169 t170 t171 t172 t173 x11_7 = some r) ∧ Aside0 (kq ≤ k) ∧ Aside0 (Below w.heap.size w wc))
    case first =>
      have H := HC8.out
      clear HC8
      by_cases c11 : t173 = 0
      · rw [if_pos c11] at H
        have c11b0 : (t173 == 0) = true := beq_iff_eq.mpr c11
        have c11b1 : (t173 != 0) = false := bne_eq_false_iff_eq.mpr c11
        clear c11
        (first | rw [c11b0] | (simp only [i64_w, i32_w]; rw [c11b0]) | skip)
        replace H := Option.bind_eq_some_iff.mp H
        obtain ⟨⟨t174, t175⟩, A120, H⟩ := H
        replace H : (horologelaw07_MjdCounts.j0 k a0 t168 t169 t170 t171 t172 t173 t174) = some r := H
        have A12 := Aside0.mk A120
        clear A120
        have H' := Aside0.mk H
        clear H
        go_wp2_with (first | ((with_reducible refine gate_callee (f := 11) rfl ?_); refine goesL_ (some 37) rfl rfl Try.func11 (by kernel_rfl) rfl #[.int .i64 t172, .int .i64 0] rfl (by (try simp only [List.map_toArray, List.map_cons, List.map_nil]); first | done | rfl | (simp only [List.length_drop, List.length_take]; rfl) | (refine congrArg (fun z_ => #[Value.int IntKind.i64 z_]) (?_ : Go.RowKit.wrap64 (IntKind.u8.wrap _) = _); rw [IntKind.wrap_u8]; unfold Go.RowKit.wrap64; omega)) ?_; (with_reducible refine (horologeref02_Put.calls k t172 0 t174 t175 _ A12.out).mono ?_); rintro e w13 ⟨rfl, hb⟩; refine ⟨_, rfl, ?_⟩; have n0_ := Aside0.mk (below_step (by repeat (first | (with_reducible first | exact HB.out | apply below_alloc | apply pw_below_drewN | apply below_drew1) | exact HB.out)) hb); clear HB; have HB := n0_; clear n0_; (try clear hb); (try clear hb2); (try clear hk); (try clear hi)))
        go_meet
        case rel => exact ⟨_, (t174), (by first | rfl | (simp; done) | (simp [*]; done)), H', ⟨by first | omega | exact Nat.le_refl _⟩, ⟨by repeat (first | (with_reducible first | exact HB.out | apply below_alloc | apply pw_below_drewN | apply below_drew1) | exact HB.out)⟩⟩
      · rw [if_neg c11] at H
        have c11b0 : (t173 == 0) = false := beq_eq_false_iff_ne.mpr c11
        have c11b1 : (t173 != 0) = true := bne_iff_ne.mpr c11
        (first | rw [c11b0] | (simp only [i64_w, i32_w]; rw [c11b0]) | skip)
        have H' := Aside0.mk H
        clear H
        go_wp2
        go_meet
        case rel => exact ⟨_, ((⟨#[]⟩ : ByteArray)), (by first | rfl | (simp; done) | (simp [*]; done)), H', ⟨by first | omega | exact Nat.le_refl _⟩, ⟨by repeat (first | (with_reducible first | exact HB.out | apply below_alloc | apply pw_below_drewN | apply below_drew1) | exact HB.out)⟩⟩
    case rest =>
      clear HC8
      try clear c1
      try clear p2
      try clear c3
      try clear c4
      try clear p6
      try clear c7
      try clear c8
      try clear c9
      try clear c10
      try clear c11
      try clear c11b0
      try clear c11b1
      obtain ⟨kq, x11_7, rfl, HA, HJ7, HB⟩ := hcut
      cases kq with
      | zero => exact absurd HA.out (by simp [horologelaw07_MjdCounts.j0])
      | succ kj7 =>
        have H := HA.out
        clear HA
        simp only [horologelaw07_MjdCounts.j0] at H
        have HC14 := Aside0.mk H
        clear H
        go_upto_region 10 with (fail)
        go_cut [45] (fun v45 wc => ∃ (kq : Nat) (x45_13 : Bool), v45 = .bool x45_13 ∧ Aside0 (horologelaw07_MjdCounts.j1 kq a0 t168 t169 t170 t171 t172 t173 x11_7 (⟨#[]⟩ : ByteArray) x45_13 = some r) ∧ Aside0 (kq ≤ kj7) ∧ Aside0 (Below w.heap.size w wc))
        case first =>
          have H := HC14.out
          clear HC14
          by_cases c15 : a0 ≥ 1
          · rw [if_pos c15] at H
            have c15b0 : decide (1 ≤ a0) = true := decide_eq_true c15
            clear c15
            (first | rw [c15b0] | (simp only [i64_w, i32_w]; rw [c15b0]) | skip)
            have H' := Aside0.mk H
            clear H
            go_wp2
            go_meet
            case rel => exact ⟨_, (decide (a0 ≤ 4)), (by first | rfl | (simp; done) | (simp [*]; done)), H', ⟨by have := HJ7.out; first | omega | exact Nat.le_refl _⟩, ⟨by repeat (first | (with_reducible first | exact HB.out | apply below_alloc | apply pw_below_drewN | apply below_drew1) | exact HB.out)⟩⟩
          · rw [if_neg c15] at H
            have c15b0 : decide (1 ≤ a0) = false := decide_eq_false c15
            clear c15
            (first | rw [c15b0] | (simp only [i64_w, i32_w]; rw [c15b0]) | skip)
            have H' := Aside0.mk H
            clear H
            go_wp2
            go_meet
            case rel => exact ⟨_, (false), (by first | rfl | (simp; done) | (simp [*]; done)), H', ⟨by have := HJ7.out; first | omega | exact Nat.le_refl _⟩, ⟨by repeat (first | (with_reducible first | exact HB.out | apply below_alloc | apply pw_below_drewN | apply below_drew1) | exact HB.out)⟩⟩
        case rest =>
          clear HC14
          try clear c1
          try clear p2
          try clear c3
          try clear c4
          try clear p6
          try clear c7
          try clear c8
          try clear c9
          try clear c10
          try clear c11
          try clear c11b0
          try clear c11b1
          try clear c15
          try clear c15b0
          try clear p2
          try clear p6
          obtain ⟨kq, x45_13, rfl, HA, HJ13, HB⟩ := hcut
          cases kq with
          | zero => exact absurd HA.out (by simp [horologelaw07_MjdCounts.j1])
          | succ kj13 =>
            have H := HA.out
            clear HA
            simp only [horologelaw07_MjdCounts.j1] at H
            by_cases c16 : x45_13 = true
            · subst c16
              have H1 : ((some (([(⟨#[109, 111, 100, 105, 102, 105, 101, 100]⟩ : ByteArray), (⟨#[106, 117, 108, 105, 97, 110]⟩ : ByteArray), (⟨#[115, 116, 97, 109, 112, 101, 100]⟩ : ByteArray), (⟨#[115, 97, 116, 101, 108, 108, 105, 116, 101]⟩ : ByteArray)] : List ByteArray) : List ByteArray)).bind fun y176 => (if 0 ≤ (wrap64 (a0 - 1)) then (if (wrap64 (a0 - 1)) < (y176.length : Int) then (if t168 = t172 then (if t170.toList = x11_7.toList then ((horologenum_Num.f t169).bind fun t180 => (if t180 = t173 then ((horologenum_Num.f t171).bind fun t181 => (if t181 = t173 then ((mjd_Word.f a0).bind fun t182 => (some (t182.toList == (rdOf ByteArray.empty y176 (wrap64 (a0 - 1))).toList))) else (some false))) else (some false))) else (some false)) else (some false)) else (none)) else (none))) = some r := by rw [if_pos rfl] at H; exact H
              clear H
              have H := H1
              clear H1
              obtain ⟨y176, hy176⟩ : ∃ y_ : List ByteArray, y_ = (([(⟨#[109, 111, 100, 105, 102, 105, 101, 100]⟩ : ByteArray), (⟨#[106, 117, 108, 105, 97, 110]⟩ : ByteArray), (⟨#[115, 116, 97, 109, 112, 101, 100]⟩ : ByteArray), (⟨#[115, 97, 116, 101, 108, 108, 105, 116, 101]⟩ : ByteArray)] : List ByteArray)) := ⟨_, rfl⟩
              replace H : (if 0 ≤ (wrap64 (a0 - 1)) then (if (wrap64 (a0 - 1)) < (y176.length : Int) then (if t168 = t172 then (if t170.toList = x11_7.toList then ((horologenum_Num.f t169).bind fun t180 => (if t180 = t173 then ((horologenum_Num.f t171).bind fun t181 => (if t181 = t173 then ((mjd_Word.f a0).bind fun t182 => (some (t182.toList == (rdOf ByteArray.empty y176 (wrap64 (a0 - 1))).toList))) else (some false))) else (some false))) else (some false)) else (some false)) else (none)) else (none)) = some r := by first | (rw [hy176]; with_reducible exact H) | (have H2_ := (Option.bind_some _ _).symm.trans H; rw [hy176]; with_reducible exact H2_) | (have H2_ := (Option.bind_some _ _).symm.trans H; with_reducible exact H2_) | with_reducible exact H | (rw [hy176]; exact H) | exact H
              have Ny176 := Aside0.mk hy176
              clear hy176
              obtain ⟨ji17, hji17⟩ : ∃ j_ : Int, (wrap64 (a0 - 1)) = j_ := ⟨_, rfl⟩
              replace H : (if 0 ≤ (ji17) then (if (ji17) < (y176.length : Int) then (if t168 = t172 then (if t170.toList = x11_7.toList then ((horologenum_Num.f t169).bind fun t180 => (if t180 = t173 then ((horologenum_Num.f t171).bind fun t181 => (if t181 = t173 then ((mjd_Word.f a0).bind fun t182 => (some (t182.toList == (rdOf ByteArray.empty y176 (ji17)).toList))) else (some false))) else (some false))) else (some false)) else (some false)) else (none)) else (none)) = some r := by first | (rw [hji17] at H; exact H) | (simp only [hji17] at H ⊢; exact H)
              have hji17w : (IntKind.i64.wrap (a0 - 1)) = ji17 := (i64_w _).trans hji17
              by_cases c18 : 0 ≤ (ji17)
              · rw [if_pos c18] at H
                have c18b0 : decide (0 ≤ (ji17)) = true := decide_eq_true c18
                clear c18
                by_cases c19 : (ji17) < (y176.length : Int)
                · rw [if_pos c19] at H
                  have c19b0 : decide ((ji17) < (y176.length : Int)) = true := decide_eq_true c19
                  clear c19
                  by_cases c20 : t168 = t172
                  · rw [if_pos c20] at H
                    have c20b0 : (t168 == t172) = true := beq_iff_eq.mpr c20
                    have c20b1 : (t168 != t172) = false := bne_eq_false_iff_eq.mpr c20
                    clear c20
                    by_cases c21 : t170.toList = x11_7.toList
                    · rw [if_pos c21] at H
                      have c21b0 : (t170.toList == x11_7.toList) = true := beq_iff_eq.mpr c21
                      have c21b1 : (t170.toList != x11_7.toList) = false := bne_eq_false_iff_eq.mpr c21
                      clear c21
                      replace H := Option.bind_eq_some_iff.mp H
                      obtain ⟨t180, A220, H⟩ := H
                      replace H : (if t180 = t173 then ((horologenum_Num.f t171).bind fun t181 => (if t181 = t173 then ((mjd_Word.f a0).bind fun t182 => (some (t182.toList == (rdOf ByteArray.empty y176 (ji17)).toList))) else (some false))) else (some false)) = some r := H
                      have A22 := Aside0.mk A220
                      clear A220
                      by_cases c23 : t180 = t173
                      · rw [if_pos c23] at H
                        have c23b0 : (t180 == t173) = true := beq_iff_eq.mpr c23
                        have c23b1 : (t180 != t173) = false := bne_eq_false_iff_eq.mpr c23
                        clear c23
                        replace H := Option.bind_eq_some_iff.mp H
                        obtain ⟨t181, A240, H⟩ := H
                        replace H : (if t181 = t173 then ((mjd_Word.f a0).bind fun t182 => (some (t182.toList == (rdOf ByteArray.empty y176 (ji17)).toList))) else (some false)) = some r := H
                        have A24 := Aside0.mk A240
                        clear A240
                        by_cases c25 : t181 = t173
                        · rw [if_pos c25] at H
                          have c25b0 : (t181 == t173) = true := beq_iff_eq.mpr c25
                          have c25b1 : (t181 != t173) = false := bne_eq_false_iff_eq.mpr c25
                          clear c25
                          replace H := Option.bind_eq_some_iff.mp H
                          obtain ⟨t182, A260, H⟩ := H
                          replace H : (some (t182.toList == (rdOf ByteArray.empty y176 (ji17)).toList)) = some r := H
                          have A26 := Aside0.mk A260
                          clear A260
                          obtain rfl := Option.some.inj H
                          go_wp2_with (first | ((with_reducible refine gate_dst (N := 46) rfl ?_); refine Kd.R_lit Kd.string _ 9 ?hg (N := 46) ?hd (xs := ([(⟨#[109, 111, 100, 105, 102, 105, 101, 100]⟩ : ByteArray), (⟨#[106, 117, 108, 105, 97, 110]⟩ : ByteArray), (⟨#[115, 116, 97, 109, 112, 101, 100]⟩ : ByteArray), (⟨#[115, 97, 116, 101, 108, 108, 105, 116, 101]⟩ : ByteArray)] : List ByteArray)) (inner := [.string (⟨#[109, 111, 100, 105, 102, 105, 101, 100]⟩ : ByteArray), .string (⟨#[106, 117, 108, 105, 97, 110]⟩ : ByteArray), .string (⟨#[115, 116, 97, 109, 112, 101, 100]⟩ : ByteArray), .string (⟨#[115, 97, 116, 101, 108, 108, 105, 116, 101]⟩ : ByteArray)]) (ok := fun _ => True) (okp := fun _ => True) ?hr ?hp (fun _ hk => hk) trivial (Below.refl _ _) (Nat.le_refl _) (by simp) ?_; (case hd => rfl); (case hg => rfl); (case hr => first | (go_simp; done) | (go_simp; rfl)); (case hp => exact (Reps.one (show Kd.M Kd.string _ _ _ (⟨#[109, 111, 100, 105, 102, 105, 101, 100]⟩ : ByteArray) [.string (⟨#[109, 111, 100, 105, 102, 105, 101, 100]⟩ : ByteArray)] from rfl) (Reps.one (show Kd.M Kd.string _ _ _ (⟨#[106, 117, 108, 105, 97, 110]⟩ : ByteArray) [.string (⟨#[106, 117, 108, 105, 97, 110]⟩ : ByteArray)] from rfl) (Reps.one (show Kd.M Kd.string _ _ _ (⟨#[115, 116, 97, 109, 112, 101, 100]⟩ : ByteArray) [.string (⟨#[115, 116, 97, 109, 112, 101, 100]⟩ : ByteArray)] from rfl) (Reps.one (show Kd.M Kd.string _ _ _ (⟨#[115, 97, 116, 101, 108, 108, 105, 116, 101]⟩ : ByteArray) [.string (⟨#[115, 97, 116, 101, 108, 108, 105, 116, 101]⟩ : ByteArray)] from rfl) (Reps.none _ _)))))); intro v177 w27 ho28 hb hg_ hnew_; clear hg_ hnew_; (first | rw [← Ny176.out] at ho28 | (simp only [Int.reduceToNat] at ho28; rw [← Ny176.out] at ho28)); have n0_ := Aside0.mk (Kd.R_lower ho28 (below_size (by repeat (first | (with_reducible first | exact HB.out | apply below_alloc | apply pw_below_drewN | apply below_drew1) | exact HB.out)))); have n1_ := Aside0.mk (below_step (by repeat (first | (with_reducible first | exact HB.out | apply below_alloc | apply pw_below_drewN | apply below_drew1) | exact HB.out)) hb); clear HB; have HO178 := n0_; have HB := n1_; clear n0_ n1_; clear hb ho28; obtain ⟨Ao29, co29, eo29⟩ := Kd.R_slice HO178.out; subst eo29; have p179 : 0 ≤ ((ji17) : Int) := of_decide_eq_true (by first | (with_reducible assumption) | assumption); have q179 : (ji17) < (y176.length : Int) := of_decide_eq_true (by first | (with_reducible assumption) | assumption); obtain ⟨ad179, e179, hx179_0⟩ := Kd.at_string (Kd.R_reads' HO178.out).2.2 (ji17) p179 q179; cases e179; replace p179 := eq_true p179; replace q179 := eq_true q179; have CA22 := fun W => horologenum_Num.calls t169 t180 W A22.out; try simp only [errW_none, errW_some] at CA22) | (go_at_call 12; (with_reducible refine (CA22 _).mono ?_); rintro e w' ⟨rfl, ⟨nd, rfl⟩⟩; have CA24 := fun W => horologenum_Num.calls t171 t181 W A24.out; try simp only [errW_none, errW_some] at CA24) | (go_at_call 12; (with_reducible refine (CA24 _).mono ?_); rintro e w' ⟨rfl, ⟨nd, rfl⟩⟩) | (go_at_call 13; (with_reducible refine (mjd_Word.calls a0 t182 _ A26.out).mono ?_); rintro e w' ⟨rfl, ⟨nd, rfl⟩⟩))
                          go_ret
                          exact ⟨by first | rfl | (simp [errW_none, errW_some] <;> rfl) | (simp only [← hji17]; first | rfl | (simp [errW_none, errW_some] <;> rfl)) | (simp [*, errW_none, errW_some] <;> rfl), by repeat (first | (with_reducible first | exact HB.out | apply below_alloc | apply pw_below_drewN | apply below_drew1) | exact HB.out)⟩
                        · rw [if_neg c25] at H
                          have c25b0 : (t181 == t173) = false := beq_eq_false_iff_ne.mpr c25
                          have c25b1 : (t181 != t173) = true := bne_iff_ne.mpr c25
                          obtain rfl := Option.some.inj H
                          go_wp2_with (first | ((with_reducible refine gate_dst (N := 46) rfl ?_); refine Kd.R_lit Kd.string _ 9 ?hg (N := 46) ?hd (xs := ([(⟨#[109, 111, 100, 105, 102, 105, 101, 100]⟩ : ByteArray), (⟨#[106, 117, 108, 105, 97, 110]⟩ : ByteArray), (⟨#[115, 116, 97, 109, 112, 101, 100]⟩ : ByteArray), (⟨#[115, 97, 116, 101, 108, 108, 105, 116, 101]⟩ : ByteArray)] : List ByteArray)) (inner := [.string (⟨#[109, 111, 100, 105, 102, 105, 101, 100]⟩ : ByteArray), .string (⟨#[106, 117, 108, 105, 97, 110]⟩ : ByteArray), .string (⟨#[115, 116, 97, 109, 112, 101, 100]⟩ : ByteArray), .string (⟨#[115, 97, 116, 101, 108, 108, 105, 116, 101]⟩ : ByteArray)]) (ok := fun _ => True) (okp := fun _ => True) ?hr ?hp (fun _ hk => hk) trivial (Below.refl _ _) (Nat.le_refl _) (by simp) ?_; (case hd => rfl); (case hg => rfl); (case hr => first | (go_simp; done) | (go_simp; rfl)); (case hp => exact (Reps.one (show Kd.M Kd.string _ _ _ (⟨#[109, 111, 100, 105, 102, 105, 101, 100]⟩ : ByteArray) [.string (⟨#[109, 111, 100, 105, 102, 105, 101, 100]⟩ : ByteArray)] from rfl) (Reps.one (show Kd.M Kd.string _ _ _ (⟨#[106, 117, 108, 105, 97, 110]⟩ : ByteArray) [.string (⟨#[106, 117, 108, 105, 97, 110]⟩ : ByteArray)] from rfl) (Reps.one (show Kd.M Kd.string _ _ _ (⟨#[115, 116, 97, 109, 112, 101, 100]⟩ : ByteArray) [.string (⟨#[115, 116, 97, 109, 112, 101, 100]⟩ : ByteArray)] from rfl) (Reps.one (show Kd.M Kd.string _ _ _ (⟨#[115, 97, 116, 101, 108, 108, 105, 116, 101]⟩ : ByteArray) [.string (⟨#[115, 97, 116, 101, 108, 108, 105, 116, 101]⟩ : ByteArray)] from rfl) (Reps.none _ _)))))); intro v177 w30 ho31 hb hg_ hnew_; clear hg_ hnew_; (first | rw [← Ny176.out] at ho31 | (simp only [Int.reduceToNat] at ho31; rw [← Ny176.out] at ho31)); have n0_ := Aside0.mk (Kd.R_lower ho31 (below_size (by repeat (first | (with_reducible first | exact HB.out | apply below_alloc | apply pw_below_drewN | apply below_drew1) | exact HB.out)))); have n1_ := Aside0.mk (below_step (by repeat (first | (with_reducible first | exact HB.out | apply below_alloc | apply pw_below_drewN | apply below_drew1) | exact HB.out)) hb); clear HB; have HO178 := n0_; have HB := n1_; clear n0_ n1_; clear hb ho31; obtain ⟨Ao32, co32, eo32⟩ := Kd.R_slice HO178.out; subst eo32; have p179 : 0 ≤ ((ji17) : Int) := of_decide_eq_true (by first | (with_reducible assumption) | assumption); have q179 : (ji17) < (y176.length : Int) := of_decide_eq_true (by first | (with_reducible assumption) | assumption); obtain ⟨ad179, e179, hx179_0⟩ := Kd.at_string (Kd.R_reads' HO178.out).2.2 (ji17) p179 q179; cases e179; replace p179 := eq_true p179; replace q179 := eq_true q179; have CA22 := fun W => horologenum_Num.calls t169 t180 W A22.out; try simp only [errW_none, errW_some] at CA22) | (go_at_call 12; (with_reducible refine (CA22 _).mono ?_); rintro e w' ⟨rfl, ⟨nd, rfl⟩⟩; have CA24 := fun W => horologenum_Num.calls t171 t181 W A24.out; try simp only [errW_none, errW_some] at CA24) | (go_at_call 12; (with_reducible refine (CA24 _).mono ?_); rintro e w' ⟨rfl, ⟨nd, rfl⟩⟩))
                          go_ret
                          exact ⟨by first | rfl | (simp [errW_none, errW_some] <;> rfl) | (simp only [← hji17]; first | rfl | (simp [errW_none, errW_some] <;> rfl)) | (simp [*, errW_none, errW_some] <;> rfl), by repeat (first | (with_reducible first | exact HB.out | apply below_alloc | apply pw_below_drewN | apply below_drew1) | exact HB.out)⟩
                      · rw [if_neg c23] at H
                        have c23b0 : (t180 == t173) = false := beq_eq_false_iff_ne.mpr c23
                        have c23b1 : (t180 != t173) = true := bne_iff_ne.mpr c23
                        obtain rfl := Option.some.inj H
                        go_wp2_with (first | ((with_reducible refine gate_dst (N := 46) rfl ?_); refine Kd.R_lit Kd.string _ 9 ?hg (N := 46) ?hd (xs := ([(⟨#[109, 111, 100, 105, 102, 105, 101, 100]⟩ : ByteArray), (⟨#[106, 117, 108, 105, 97, 110]⟩ : ByteArray), (⟨#[115, 116, 97, 109, 112, 101, 100]⟩ : ByteArray), (⟨#[115, 97, 116, 101, 108, 108, 105, 116, 101]⟩ : ByteArray)] : List ByteArray)) (inner := [.string (⟨#[109, 111, 100, 105, 102, 105, 101, 100]⟩ : ByteArray), .string (⟨#[106, 117, 108, 105, 97, 110]⟩ : ByteArray), .string (⟨#[115, 116, 97, 109, 112, 101, 100]⟩ : ByteArray), .string (⟨#[115, 97, 116, 101, 108, 108, 105, 116, 101]⟩ : ByteArray)]) (ok := fun _ => True) (okp := fun _ => True) ?hr ?hp (fun _ hk => hk) trivial (Below.refl _ _) (Nat.le_refl _) (by simp) ?_; (case hd => rfl); (case hg => rfl); (case hr => first | (go_simp; done) | (go_simp; rfl)); (case hp => exact (Reps.one (show Kd.M Kd.string _ _ _ (⟨#[109, 111, 100, 105, 102, 105, 101, 100]⟩ : ByteArray) [.string (⟨#[109, 111, 100, 105, 102, 105, 101, 100]⟩ : ByteArray)] from rfl) (Reps.one (show Kd.M Kd.string _ _ _ (⟨#[106, 117, 108, 105, 97, 110]⟩ : ByteArray) [.string (⟨#[106, 117, 108, 105, 97, 110]⟩ : ByteArray)] from rfl) (Reps.one (show Kd.M Kd.string _ _ _ (⟨#[115, 116, 97, 109, 112, 101, 100]⟩ : ByteArray) [.string (⟨#[115, 116, 97, 109, 112, 101, 100]⟩ : ByteArray)] from rfl) (Reps.one (show Kd.M Kd.string _ _ _ (⟨#[115, 97, 116, 101, 108, 108, 105, 116, 101]⟩ : ByteArray) [.string (⟨#[115, 97, 116, 101, 108, 108, 105, 116, 101]⟩ : ByteArray)] from rfl) (Reps.none _ _)))))); intro v177 w33 ho34 hb hg_ hnew_; clear hg_ hnew_; (first | rw [← Ny176.out] at ho34 | (simp only [Int.reduceToNat] at ho34; rw [← Ny176.out] at ho34)); have n0_ := Aside0.mk (Kd.R_lower ho34 (below_size (by repeat (first | (with_reducible first | exact HB.out | apply below_alloc | apply pw_below_drewN | apply below_drew1) | exact HB.out)))); have n1_ := Aside0.mk (below_step (by repeat (first | (with_reducible first | exact HB.out | apply below_alloc | apply pw_below_drewN | apply below_drew1) | exact HB.out)) hb); clear HB; have HO178 := n0_; have HB := n1_; clear n0_ n1_; clear hb ho34; obtain ⟨Ao35, co35, eo35⟩ := Kd.R_slice HO178.out; subst eo35; have p179 : 0 ≤ ((ji17) : Int) := of_decide_eq_true (by first | (with_reducible assumption) | assumption); have q179 : (ji17) < (y176.length : Int) := of_decide_eq_true (by first | (with_reducible assumption) | assumption); obtain ⟨ad179, e179, hx179_0⟩ := Kd.at_string (Kd.R_reads' HO178.out).2.2 (ji17) p179 q179; cases e179; replace p179 := eq_true p179; replace q179 := eq_true q179; have CA22 := fun W => horologenum_Num.calls t169 t180 W A22.out; try simp only [errW_none, errW_some] at CA22) | (go_at_call 12; (with_reducible refine (CA22 _).mono ?_); rintro e w' ⟨rfl, ⟨nd, rfl⟩⟩))
                        go_ret
                        exact ⟨by first | rfl | (simp [errW_none, errW_some] <;> rfl) | (simp only [← hji17]; first | rfl | (simp [errW_none, errW_some] <;> rfl)) | (simp [*, errW_none, errW_some] <;> rfl), by repeat (first | (with_reducible first | exact HB.out | apply below_alloc | apply pw_below_drewN | apply below_drew1) | exact HB.out)⟩
                    · rw [if_neg c21] at H
                      have c21b0 : (t170.toList == x11_7.toList) = false := beq_eq_false_iff_ne.mpr c21
                      have c21b1 : (t170.toList != x11_7.toList) = true := bne_iff_ne.mpr c21
                      obtain rfl := Option.some.inj H
                      go_wp2_with (first | ((with_reducible refine gate_dst (N := 46) rfl ?_); refine Kd.R_lit Kd.string _ 9 ?hg (N := 46) ?hd (xs := ([(⟨#[109, 111, 100, 105, 102, 105, 101, 100]⟩ : ByteArray), (⟨#[106, 117, 108, 105, 97, 110]⟩ : ByteArray), (⟨#[115, 116, 97, 109, 112, 101, 100]⟩ : ByteArray), (⟨#[115, 97, 116, 101, 108, 108, 105, 116, 101]⟩ : ByteArray)] : List ByteArray)) (inner := [.string (⟨#[109, 111, 100, 105, 102, 105, 101, 100]⟩ : ByteArray), .string (⟨#[106, 117, 108, 105, 97, 110]⟩ : ByteArray), .string (⟨#[115, 116, 97, 109, 112, 101, 100]⟩ : ByteArray), .string (⟨#[115, 97, 116, 101, 108, 108, 105, 116, 101]⟩ : ByteArray)]) (ok := fun _ => True) (okp := fun _ => True) ?hr ?hp (fun _ hk => hk) trivial (Below.refl _ _) (Nat.le_refl _) (by simp) ?_; (case hd => rfl); (case hg => rfl); (case hr => first | (go_simp; done) | (go_simp; rfl)); (case hp => exact (Reps.one (show Kd.M Kd.string _ _ _ (⟨#[109, 111, 100, 105, 102, 105, 101, 100]⟩ : ByteArray) [.string (⟨#[109, 111, 100, 105, 102, 105, 101, 100]⟩ : ByteArray)] from rfl) (Reps.one (show Kd.M Kd.string _ _ _ (⟨#[106, 117, 108, 105, 97, 110]⟩ : ByteArray) [.string (⟨#[106, 117, 108, 105, 97, 110]⟩ : ByteArray)] from rfl) (Reps.one (show Kd.M Kd.string _ _ _ (⟨#[115, 116, 97, 109, 112, 101, 100]⟩ : ByteArray) [.string (⟨#[115, 116, 97, 109, 112, 101, 100]⟩ : ByteArray)] from rfl) (Reps.one (show Kd.M Kd.string _ _ _ (⟨#[115, 97, 116, 101, 108, 108, 105, 116, 101]⟩ : ByteArray) [.string (⟨#[115, 97, 116, 101, 108, 108, 105, 116, 101]⟩ : ByteArray)] from rfl) (Reps.none _ _)))))); intro v177 w36 ho37 hb hg_ hnew_; clear hg_ hnew_; (first | rw [← Ny176.out] at ho37 | (simp only [Int.reduceToNat] at ho37; rw [← Ny176.out] at ho37)); have n0_ := Aside0.mk (Kd.R_lower ho37 (below_size (by repeat (first | (with_reducible first | exact HB.out | apply below_alloc | apply pw_below_drewN | apply below_drew1) | exact HB.out)))); have n1_ := Aside0.mk (below_step (by repeat (first | (with_reducible first | exact HB.out | apply below_alloc | apply pw_below_drewN | apply below_drew1) | exact HB.out)) hb); clear HB; have HO178 := n0_; have HB := n1_; clear n0_ n1_; clear hb ho37; obtain ⟨Ao38, co38, eo38⟩ := Kd.R_slice HO178.out; subst eo38; have p179 : 0 ≤ ((ji17) : Int) := of_decide_eq_true (by first | (with_reducible assumption) | assumption); have q179 : (ji17) < (y176.length : Int) := of_decide_eq_true (by first | (with_reducible assumption) | assumption); obtain ⟨ad179, e179, hx179_0⟩ := Kd.at_string (Kd.R_reads' HO178.out).2.2 (ji17) p179 q179; cases e179; replace p179 := eq_true p179; replace q179 := eq_true q179))
                      go_ret
                      exact ⟨by first | rfl | (simp [errW_none, errW_some] <;> rfl) | (simp only [← hji17]; first | rfl | (simp [errW_none, errW_some] <;> rfl)) | (simp [*, errW_none, errW_some] <;> rfl), by repeat (first | (with_reducible first | exact HB.out | apply below_alloc | apply pw_below_drewN | apply below_drew1) | exact HB.out)⟩
                  · rw [if_neg c20] at H
                    have c20b0 : (t168 == t172) = false := beq_eq_false_iff_ne.mpr c20
                    have c20b1 : (t168 != t172) = true := bne_iff_ne.mpr c20
                    obtain rfl := Option.some.inj H
                    go_wp2_with (first | ((with_reducible refine gate_dst (N := 46) rfl ?_); refine Kd.R_lit Kd.string _ 9 ?hg (N := 46) ?hd (xs := ([(⟨#[109, 111, 100, 105, 102, 105, 101, 100]⟩ : ByteArray), (⟨#[106, 117, 108, 105, 97, 110]⟩ : ByteArray), (⟨#[115, 116, 97, 109, 112, 101, 100]⟩ : ByteArray), (⟨#[115, 97, 116, 101, 108, 108, 105, 116, 101]⟩ : ByteArray)] : List ByteArray)) (inner := [.string (⟨#[109, 111, 100, 105, 102, 105, 101, 100]⟩ : ByteArray), .string (⟨#[106, 117, 108, 105, 97, 110]⟩ : ByteArray), .string (⟨#[115, 116, 97, 109, 112, 101, 100]⟩ : ByteArray), .string (⟨#[115, 97, 116, 101, 108, 108, 105, 116, 101]⟩ : ByteArray)]) (ok := fun _ => True) (okp := fun _ => True) ?hr ?hp (fun _ hk => hk) trivial (Below.refl _ _) (Nat.le_refl _) (by simp) ?_; (case hd => rfl); (case hg => rfl); (case hr => first | (go_simp; done) | (go_simp; rfl)); (case hp => exact (Reps.one (show Kd.M Kd.string _ _ _ (⟨#[109, 111, 100, 105, 102, 105, 101, 100]⟩ : ByteArray) [.string (⟨#[109, 111, 100, 105, 102, 105, 101, 100]⟩ : ByteArray)] from rfl) (Reps.one (show Kd.M Kd.string _ _ _ (⟨#[106, 117, 108, 105, 97, 110]⟩ : ByteArray) [.string (⟨#[106, 117, 108, 105, 97, 110]⟩ : ByteArray)] from rfl) (Reps.one (show Kd.M Kd.string _ _ _ (⟨#[115, 116, 97, 109, 112, 101, 100]⟩ : ByteArray) [.string (⟨#[115, 116, 97, 109, 112, 101, 100]⟩ : ByteArray)] from rfl) (Reps.one (show Kd.M Kd.string _ _ _ (⟨#[115, 97, 116, 101, 108, 108, 105, 116, 101]⟩ : ByteArray) [.string (⟨#[115, 97, 116, 101, 108, 108, 105, 116, 101]⟩ : ByteArray)] from rfl) (Reps.none _ _)))))); intro v177 w39 ho40 hb hg_ hnew_; clear hg_ hnew_; (first | rw [← Ny176.out] at ho40 | (simp only [Int.reduceToNat] at ho40; rw [← Ny176.out] at ho40)); have n0_ := Aside0.mk (Kd.R_lower ho40 (below_size (by repeat (first | (with_reducible first | exact HB.out | apply below_alloc | apply pw_below_drewN | apply below_drew1) | exact HB.out)))); have n1_ := Aside0.mk (below_step (by repeat (first | (with_reducible first | exact HB.out | apply below_alloc | apply pw_below_drewN | apply below_drew1) | exact HB.out)) hb); clear HB; have HO178 := n0_; have HB := n1_; clear n0_ n1_; clear hb ho40; obtain ⟨Ao41, co41, eo41⟩ := Kd.R_slice HO178.out; subst eo41; have p179 : 0 ≤ ((ji17) : Int) := of_decide_eq_true (by first | (with_reducible assumption) | assumption); have q179 : (ji17) < (y176.length : Int) := of_decide_eq_true (by first | (with_reducible assumption) | assumption); obtain ⟨ad179, e179, hx179_0⟩ := Kd.at_string (Kd.R_reads' HO178.out).2.2 (ji17) p179 q179; cases e179; replace p179 := eq_true p179; replace q179 := eq_true q179))
                    go_ret
                    exact ⟨by first | rfl | (simp [errW_none, errW_some] <;> rfl) | (simp only [← hji17]; first | rfl | (simp [errW_none, errW_some] <;> rfl)) | (simp [*, errW_none, errW_some] <;> rfl), by repeat (first | (with_reducible first | exact HB.out | apply below_alloc | apply pw_below_drewN | apply below_drew1) | exact HB.out)⟩
                · rw [if_neg c19] at H
                  exact absurd H (by simp)
              · rw [if_neg c18] at H
                exact absurd H (by simp)
            · replace c16 := Bool.eq_false_iff.mpr c16
              subst c16
              have H1 : (if t168 = t172 then (if t170.toList = x11_7.toList then ((horologenum_Num.f t169).bind fun t183 => (if t183 = t173 then ((horologenum_Num.f t171).bind fun t184 => (if t184 = t173 then ((mjd_Word.f a0).bind fun t185 => (some (t185.toList == (⟨#[]⟩ : ByteArray).toList))) else (some false))) else (some false))) else (some false)) else (some false)) = some r := by rw [if_neg (show ¬ (false = true) by decide)] at H; exact H
              clear H
              have H := H1
              clear H1
              by_cases c42 : t168 = t172
              · rw [if_pos c42] at H
                have c42b0 : (t168 == t172) = true := beq_iff_eq.mpr c42
                have c42b1 : (t168 != t172) = false := bne_eq_false_iff_eq.mpr c42
                clear c42
                by_cases c43 : t170.toList = x11_7.toList
                · rw [if_pos c43] at H
                  have c43b0 : (t170.toList == x11_7.toList) = true := beq_iff_eq.mpr c43
                  have c43b1 : (t170.toList != x11_7.toList) = false := bne_eq_false_iff_eq.mpr c43
                  clear c43
                  replace H := Option.bind_eq_some_iff.mp H
                  obtain ⟨t183, A440, H⟩ := H
                  replace H : (if t183 = t173 then ((horologenum_Num.f t171).bind fun t184 => (if t184 = t173 then ((mjd_Word.f a0).bind fun t185 => (some (t185.toList == (⟨#[]⟩ : ByteArray).toList))) else (some false))) else (some false)) = some r := H
                  have A44 := Aside0.mk A440
                  clear A440
                  by_cases c45 : t183 = t173
                  · rw [if_pos c45] at H
                    have c45b0 : (t183 == t173) = true := beq_iff_eq.mpr c45
                    have c45b1 : (t183 != t173) = false := bne_eq_false_iff_eq.mpr c45
                    clear c45
                    replace H := Option.bind_eq_some_iff.mp H
                    obtain ⟨t184, A460, H⟩ := H
                    replace H : (if t184 = t173 then ((mjd_Word.f a0).bind fun t185 => (some (t185.toList == (⟨#[]⟩ : ByteArray).toList))) else (some false)) = some r := H
                    have A46 := Aside0.mk A460
                    clear A460
                    by_cases c47 : t184 = t173
                    · rw [if_pos c47] at H
                      have c47b0 : (t184 == t173) = true := beq_iff_eq.mpr c47
                      have c47b1 : (t184 != t173) = false := bne_eq_false_iff_eq.mpr c47
                      clear c47
                      replace H := Option.bind_eq_some_iff.mp H
                      obtain ⟨t185, A480, H⟩ := H
                      replace H : (some (t185.toList == (⟨#[]⟩ : ByteArray).toList)) = some r := H
                      have A48 := Aside0.mk A480
                      clear A480
                      obtain rfl := Option.some.inj H
                      have CA44 := fun W => horologenum_Num.calls t169 t183 W A44.out
                      try simp only [errW_none, errW_some] at CA44
                      go_wp2_with (first | (go_at_call 12; (with_reducible refine (CA44 _).mono ?_); rintro e w' ⟨rfl, ⟨nd, rfl⟩⟩; have CA46 := fun W => horologenum_Num.calls t171 t184 W A46.out; try simp only [errW_none, errW_some] at CA46) | (go_at_call 12; (with_reducible refine (CA46 _).mono ?_); rintro e w' ⟨rfl, ⟨nd, rfl⟩⟩) | (go_at_call 13; (with_reducible refine (mjd_Word.calls a0 t185 _ A48.out).mono ?_); rintro e w' ⟨rfl, ⟨nd, rfl⟩⟩))
                      go_ret
                      exact ⟨by first | rfl | (simp [errW_none, errW_some] <;> rfl) | (simp [*, errW_none, errW_some] <;> rfl), by repeat (first | (with_reducible first | exact HB.out | apply below_alloc | apply pw_below_drewN | apply below_drew1) | exact HB.out)⟩
                    · rw [if_neg c47] at H
                      have c47b0 : (t184 == t173) = false := beq_eq_false_iff_ne.mpr c47
                      have c47b1 : (t184 != t173) = true := bne_iff_ne.mpr c47
                      obtain rfl := Option.some.inj H
                      have CA44 := fun W => horologenum_Num.calls t169 t183 W A44.out
                      try simp only [errW_none, errW_some] at CA44
                      go_wp2_with (first | (go_at_call 12; (with_reducible refine (CA44 _).mono ?_); rintro e w' ⟨rfl, ⟨nd, rfl⟩⟩; have CA46 := fun W => horologenum_Num.calls t171 t184 W A46.out; try simp only [errW_none, errW_some] at CA46) | (go_at_call 12; (with_reducible refine (CA46 _).mono ?_); rintro e w' ⟨rfl, ⟨nd, rfl⟩⟩))
                      go_ret
                      exact ⟨by first | rfl | (simp [errW_none, errW_some] <;> rfl) | (simp [*, errW_none, errW_some] <;> rfl), by repeat (first | (with_reducible first | exact HB.out | apply below_alloc | apply pw_below_drewN | apply below_drew1) | exact HB.out)⟩
                  · rw [if_neg c45] at H
                    have c45b0 : (t183 == t173) = false := beq_eq_false_iff_ne.mpr c45
                    have c45b1 : (t183 != t173) = true := bne_iff_ne.mpr c45
                    obtain rfl := Option.some.inj H
                    have CA44 := fun W => horologenum_Num.calls t169 t183 W A44.out
                    try simp only [errW_none, errW_some] at CA44
                    go_wp2_with (first | (go_at_call 12; (with_reducible refine (CA44 _).mono ?_); rintro e w' ⟨rfl, ⟨nd, rfl⟩⟩))
                    go_ret
                    exact ⟨by first | rfl | (simp [errW_none, errW_some] <;> rfl) | (simp [*, errW_none, errW_some] <;> rfl), by repeat (first | (with_reducible first | exact HB.out | apply below_alloc | apply pw_below_drewN | apply below_drew1) | exact HB.out)⟩
                · rw [if_neg c43] at H
                  have c43b0 : (t170.toList == x11_7.toList) = false := beq_eq_false_iff_ne.mpr c43
                  have c43b1 : (t170.toList != x11_7.toList) = true := bne_iff_ne.mpr c43
                  obtain rfl := Option.some.inj H
                  go_wp2
                  go_ret
                  exact ⟨by first | rfl | (simp [errW_none, errW_some] <;> rfl) | (simp [*, errW_none, errW_some] <;> rfl), by repeat (first | (with_reducible first | exact HB.out | apply below_alloc | apply pw_below_drewN | apply below_drew1) | exact HB.out)⟩
              · rw [if_neg c42] at H
                have c42b0 : (t168 == t172) = false := beq_eq_false_iff_ne.mpr c42
                have c42b1 : (t168 != t172) = true := bne_iff_ne.mpr c42
                obtain rfl := Option.some.inj H
                go_wp2
                go_ret
                exact ⟨by first | rfl | (simp [errW_none, errW_some] <;> rfl) | (simp [*, errW_none, errW_some] <;> rfl), by repeat (first | (with_reducible first | exact HB.out | apply below_alloc | apply pw_below_drewN | apply below_drew1) | exact HB.out)⟩
  · replace c4 := Bool.eq_false_iff.mpr c4
    subst c4
    have H1 : (some false) = some r := by rw [if_neg (show ¬ (false = true) by decide)] at H; exact H
    clear H
    have H := H1
    clear H1
    obtain rfl := Option.some.inj H
    go_enter Try.func3, Try.ntmps3
    go_wp2_with (first | ((with_reducible refine gate_callee (f := 7) rfl ?_); refine goesL_ (some 13) rfl rfl Try.func7 (by kernel_rfl) rfl #[] rfl (by (try simp only [List.map_toArray, List.map_cons, List.map_nil]); first | done | rfl | (simp only [List.length_drop, List.length_take]; rfl) | (refine congrArg (fun z_ => #[Value.int IntKind.i64 z_]) (?_ : Go.RowKit.wrap64 (IntKind.u8.wrap _) = _); rw [IntKind.wrap_u8]; unfold Go.RowKit.wrap64; omega)) ?_; (with_reducible refine (horologelaw07_alive.calls  false _ A3.out).mono ?_); rintro e w' ⟨rfl, ⟨nd, rfl⟩⟩; refine ⟨_, rfl, ?_⟩))
    go_ret
    exact ⟨by first | rfl | (simp [errW_none, errW_some] <;> rfl) | (simp [*, errW_none, errW_some] <;> rfl), by repeat (first | (with_reducible first | exact HB.out | apply below_alloc | apply pw_below_drewN | apply below_drew1) | exact HB.out)⟩

/-- THE ONE PURE STATEMENT of horologelaw07_MjdCounts: yours. -/
def horologelaw07_MjdCounts.Pure : Prop := ∀ (a0 : Int) (a1 : Int), (Lit.int .i64 a0).wf = true → (Lit.int .i64 a1).wf = true → ∃ k, horologelaw07_MjdCounts.f k a0 a1 = some true
theorem horologelaw07_MjdCounts.walk (P : horologelaw07_MjdCounts.Pure) (a0 : Int) (a1 : Int) (w : World) (w0 : (Lit.int .i64 a0).wf = true) (w1 : (Lit.int .i64 a1).wf = true) :
    Calls Try.prog 3 #[.int .i64 a0, .int .i64 a1] w fun e w' => e = .returned (.bool true) ∧ Below w.heap.size w w' := by
  obtain ⟨k, h⟩ := P a0 a1 w0 w1
  refine (horologelaw07_MjdCounts.calls k a0 a1 true w h).mono ?_
  rintro e w' ⟨rfl, hd⟩
  exact ⟨rfl, hd⟩

end Go.Proofs.Ytlhjgkfhjmjcgaa.MMjdCounts
