-- This text was written by a program of this session (a changed scratch copy of a tool of the kit; NOTES.md tells the changes).
import Derived.Test.YtcjmanlcogeikaaMEraBitsx0
import Derived.Test.YtcjmanlcogeikaaMEraBitsx1
import Derived.Test.YtcjmanlcogeikaaMEraBitsx2
import Derived.Test.YtcjmanlcogeikaaMEraBitsx3
import Derived.Test.YtcjmanlcogeikaaMEraBitsx4
namespace Go.Proofs.Ytcjmanlcogeikaa.MEraBits
open Go.RowKit Go.Proofs.YtcjmanlcogeikaaW.PrintWords Go.Proofs.YtcjmanlcogeikaaW.PrintLast Go.Proofs.YtcjmanlcogeikaaW.PrintMore
attribute [local go_sem] max2_int min2_int max_two min_two max_three min_three max_four min_four   -- for this text's walks alone
set_option linter.unusedVariables false
set_option linter.unusedSimpArgs false

/-! ### horologeref13_Bits: function 15 -/
mutual
def horologeref13_Bits.j0 : Nat → Int → Int → Int → Bool → Option (Int × Int)
  | 0, _, _, _, _ => none
  | k + 1, x0, x1, x2, x25 => if x25 = true then (some (0, 1)) else ((horologeref01_Of.f k x2).bind fun bt211 => ((horologeref13_Fold.f k x2 x1).bind fun t216 => ((horologeref01_Of.f k t216).bind fun bt217 => ((horologeref01_Minus.f bt217.1 bt217.2).bind fun bt221 => ((horologeref01_Plus.f k bt211.1 bt211.2 bt221.1 bt221.2).bind fun bt225 => ((horologeref01_Of.f k (wrap64 (x0))).bind fun bt229 => ((horologeref01_Plus.f k bt225.1 bt225.2 bt229.1 bt229.2).bind fun bt233 => ((horologeref13_Power.f k x1).bind fun bt238 => (horologeref13_Bits.l0 k x1 0 bt211.1 bt211.2 bt233.1 bt233.2 bt238.1 bt238.2)))))))))
def horologeref13_Bits.l0 : Nat → Int → Int → Bool → List Int → Bool → List Int → Bool → List Int → Option (Int × Int)
  | 0, _, _, _, _, _, _, _, _ => none
  | k + 1, x1, x11, x216000, x216001, x238000, x238001, x243000, x243001 => if x11 < 3 then (if x11 = 1 then ((horologeref01_Plus.f k x238000 x238001 x243000 x243001).bind fun bt244 => (horologeref13_Bits.j2 k x1 x11 x216000 x216001 x238000 x238001 x243000 x243001 bt244.1 bt244.2)) else (horologeref13_Bits.j2 k x1 x11 x216000 x216001 x238000 x238001 x243000 x243001 x238000 x238001)) else (some (0, 5))
def horologeref13_Bits.j2 : Nat → Int → Int → Bool → List Int → Bool → List Int → Bool → List Int → Bool → List Int → Option (Int × Int)
  | 0, _, _, _, _, _, _, _, _, _, _ => none
  | k + 1, x1, x11, x216000, x216001, x238000, x238001, x243000, x243001, x244000, x244001 => if x11 = 2 then ((horologeref01_Minus.f x243000 x243001).bind fun bt248 => ((horologeref01_Plus.f k x238000 x238001 bt248.1 bt248.2).bind fun bt252 => (horologeref13_Bits.j3 k x1 x11 x216000 x216001 x238000 x238001 x243000 x243001 bt252.1 bt252.2))) else (horologeref13_Bits.j3 k x1 x11 x216000 x216001 x238000 x238001 x243000 x243001 x244000 x244001)
def horologeref13_Bits.j3 : Nat → Int → Int → Bool → List Int → Bool → List Int → Bool → List Int → Bool → List Int → Option (Int × Int)
  | 0, _, _, _, _, _, _, _, _, _, _ => none
  | k + 1, x1, x11, x216000, x216001, x238000, x238001, x243000, x243001, x244000, x244001 => (horologeref13_Near.f k x244000 x244001 x216000 x216001 x1).bind fun t256 => (if t256 = true then ((horologeref01_Small.f k x244000 x244001).bind fun bt257 => (some (bt257.1, bt257.2))) else (horologeref13_Bits.l0 k x1 (wrap64 (x11 + 1)) x216000 x216001 x238000 x238001 x243000 x243001))
end
def horologeref13_Bits.f (k : Nat) (a0 : Int) (a1 : Int) (a2 : Int) : Option (Int × Int) := if a1 < 1 then (horologeref13_Bits.j0 k a0 a1 a2 true) else (if a1 > 62 then (horologeref13_Bits.j0 k a0 a1 a2 true) else (if 0 ≤ (IntKind.u64.wrap (a1)) then (horologeref13_Bits.j0 k a0 a1 a2 (decide (a0 ≥ (shl .u64 1 (IntKind.u64.wrap (a1)))))) else (none)))
theorem horologeref13_Bits.mono_l : ∀ k, (∀ y0 y1 y2 y3, LeO (horologeref13_Bits.j0 k y0 y1 y2 y3) (horologeref13_Bits.j0 (k + 1) y0 y1 y2 y3)) ∧ (∀ y0 y1 y2 y3 y4 y5 y6 y7, LeO (horologeref13_Bits.l0 k y0 y1 y2 y3 y4 y5 y6 y7) (horologeref13_Bits.l0 (k + 1) y0 y1 y2 y3 y4 y5 y6 y7)) ∧ (∀ y0 y1 y2 y3 y4 y5 y6 y7 y8 y9, LeO (horologeref13_Bits.j2 k y0 y1 y2 y3 y4 y5 y6 y7 y8 y9) (horologeref13_Bits.j2 (k + 1) y0 y1 y2 y3 y4 y5 y6 y7 y8 y9)) ∧ (∀ y0 y1 y2 y3 y4 y5 y6 y7 y8 y9, LeO (horologeref13_Bits.j3 k y0 y1 y2 y3 y4 y5 y6 y7 y8 y9) (horologeref13_Bits.j3 (k + 1) y0 y1 y2 y3 y4 y5 y6 y7 y8 y9))
  | 0 => ⟨fun _ _ _ _ r h => by simp [horologeref13_Bits.j0] at h, fun _ _ _ _ _ _ _ _ r h => by simp [horologeref13_Bits.l0] at h, fun _ _ _ _ _ _ _ _ _ _ r h => by simp [horologeref13_Bits.j2] at h, fun _ _ _ _ _ _ _ _ _ _ r h => by simp [horologeref13_Bits.j3] at h⟩
  | k + 1 => by
    obtain ⟨ih0, ih1, ih2, ih3⟩ := horologeref13_Bits.mono_l k
    refine ⟨?_, ?_, ?_, ?_⟩
    · intro y0 y1 y2 y3
      unfold horologeref13_Bits.j0
      repeat' first
      | (with_reducible exact ih0 _ _ _ _)
      | (with_reducible exact ih1 _ _ _ _ _ _ _ _)
      | (with_reducible exact ih2 _ _ _ _ _ _ _ _ _ _)
      | (with_reducible exact ih3 _ _ _ _ _ _ _ _ _ _)
      | (with_reducible exact horologeref01_Of.mono _ _)
      | (with_reducible exact horologeref01_Plus.mono _ _ _ _ _)
      | (with_reducible exact horologeref01_Small.mono _ _ _)
      | (with_reducible exact horologeref13_Fold.mono _ _ _)
      | (with_reducible exact horologeref13_Near.mono _ _ _ _ _ _)
      | (with_reducible exact horologeref13_Power.mono _ _)
      | (with_reducible exact LeO.refl _)
      | (with_reducible exact LeO.none _)
      | (with_reducible refine LeO.ite ?_ ?_)
      | (with_reducible refine LeO.bind ?_ (fun _ => ?_))
      | exact ih0 _ _ _ _
      | exact ih1 _ _ _ _ _ _ _ _
      | exact ih2 _ _ _ _ _ _ _ _ _ _
      | exact ih3 _ _ _ _ _ _ _ _ _ _
      | exact horologeref01_Of.mono _ _
      | exact horologeref01_Plus.mono _ _ _ _ _
      | exact horologeref01_Small.mono _ _ _
      | exact horologeref13_Fold.mono _ _ _
      | exact horologeref13_Near.mono _ _ _ _ _ _
      | exact horologeref13_Power.mono _ _
      | exact LeO.none _
      | refine LeO.ite ?_ ?_
      | refine LeO.bind ?_ (fun _ => ?_)
    · intro y0 y1 y2 y3 y4 y5 y6 y7
      unfold horologeref13_Bits.l0
      repeat' first
      | (with_reducible exact ih0 _ _ _ _)
      | (with_reducible exact ih1 _ _ _ _ _ _ _ _)
      | (with_reducible exact ih2 _ _ _ _ _ _ _ _ _ _)
      | (with_reducible exact ih3 _ _ _ _ _ _ _ _ _ _)
      | (with_reducible exact horologeref01_Of.mono _ _)
      | (with_reducible exact horologeref01_Plus.mono _ _ _ _ _)
      | (with_reducible exact horologeref01_Small.mono _ _ _)
      | (with_reducible exact horologeref13_Fold.mono _ _ _)
      | (with_reducible exact horologeref13_Near.mono _ _ _ _ _ _)
      | (with_reducible exact horologeref13_Power.mono _ _)
      | (with_reducible exact LeO.refl _)
      | (with_reducible exact LeO.none _)
      | (with_reducible refine LeO.ite ?_ ?_)
      | (with_reducible refine LeO.bind ?_ (fun _ => ?_))
      | exact ih0 _ _ _ _
      | exact ih1 _ _ _ _ _ _ _ _
      | exact ih2 _ _ _ _ _ _ _ _ _ _
      | exact ih3 _ _ _ _ _ _ _ _ _ _
      | exact horologeref01_Of.mono _ _
      | exact horologeref01_Plus.mono _ _ _ _ _
      | exact horologeref01_Small.mono _ _ _
      | exact horologeref13_Fold.mono _ _ _
      | exact horologeref13_Near.mono _ _ _ _ _ _
      | exact horologeref13_Power.mono _ _
      | exact LeO.none _
      | refine LeO.ite ?_ ?_
      | refine LeO.bind ?_ (fun _ => ?_)
    · intro y0 y1 y2 y3 y4 y5 y6 y7 y8 y9
      unfold horologeref13_Bits.j2
      repeat' first
      | (with_reducible exact ih0 _ _ _ _)
      | (with_reducible exact ih1 _ _ _ _ _ _ _ _)
      | (with_reducible exact ih2 _ _ _ _ _ _ _ _ _ _)
      | (with_reducible exact ih3 _ _ _ _ _ _ _ _ _ _)
      | (with_reducible exact horologeref01_Of.mono _ _)
      | (with_reducible exact horologeref01_Plus.mono _ _ _ _ _)
      | (with_reducible exact horologeref01_Small.mono _ _ _)
      | (with_reducible exact horologeref13_Fold.mono _ _ _)
      | (with_reducible exact horologeref13_Near.mono _ _ _ _ _ _)
      | (with_reducible exact horologeref13_Power.mono _ _)
      | (with_reducible exact LeO.refl _)
      | (with_reducible exact LeO.none _)
      | (with_reducible refine LeO.ite ?_ ?_)
      | (with_reducible refine LeO.bind ?_ (fun _ => ?_))
      | exact ih0 _ _ _ _
      | exact ih1 _ _ _ _ _ _ _ _
      | exact ih2 _ _ _ _ _ _ _ _ _ _
      | exact ih3 _ _ _ _ _ _ _ _ _ _
      | exact horologeref01_Of.mono _ _
      | exact horologeref01_Plus.mono _ _ _ _ _
      | exact horologeref01_Small.mono _ _ _
      | exact horologeref13_Fold.mono _ _ _
      | exact horologeref13_Near.mono _ _ _ _ _ _
      | exact horologeref13_Power.mono _ _
      | exact LeO.none _
      | refine LeO.ite ?_ ?_
      | refine LeO.bind ?_ (fun _ => ?_)
    · intro y0 y1 y2 y3 y4 y5 y6 y7 y8 y9
      unfold horologeref13_Bits.j3
      repeat' first
      | (with_reducible exact ih0 _ _ _ _)
      | (with_reducible exact ih1 _ _ _ _ _ _ _ _)
      | (with_reducible exact ih2 _ _ _ _ _ _ _ _ _ _)
      | (with_reducible exact ih3 _ _ _ _ _ _ _ _ _ _)
      | (with_reducible exact horologeref01_Of.mono _ _)
      | (with_reducible exact horologeref01_Plus.mono _ _ _ _ _)
      | (with_reducible exact horologeref01_Small.mono _ _ _)
      | (with_reducible exact horologeref13_Fold.mono _ _ _)
      | (with_reducible exact horologeref13_Near.mono _ _ _ _ _ _)
      | (with_reducible exact horologeref13_Power.mono _ _)
      | (with_reducible exact LeO.refl _)
      | (with_reducible exact LeO.none _)
      | (with_reducible refine LeO.ite ?_ ?_)
      | (with_reducible refine LeO.bind ?_ (fun _ => ?_))
      | exact ih0 _ _ _ _
      | exact ih1 _ _ _ _ _ _ _ _
      | exact ih2 _ _ _ _ _ _ _ _ _ _
      | exact ih3 _ _ _ _ _ _ _ _ _ _
      | exact horologeref01_Of.mono _ _
      | exact horologeref01_Plus.mono _ _ _ _ _
      | exact horologeref01_Small.mono _ _ _
      | exact horologeref13_Fold.mono _ _ _
      | exact horologeref13_Near.mono _ _ _ _ _ _
      | exact horologeref13_Power.mono _ _
      | exact LeO.none _
      | refine LeO.ite ?_ ?_
      | refine LeO.bind ?_ (fun _ => ?_)
theorem horologeref13_Bits.mono : ∀ a0 a1 a2 k, LeO (horologeref13_Bits.f k a0 a1 a2) (horologeref13_Bits.f (k + 1) a0 a1 a2) := by
  intro a0 a1 a2 k
  obtain ⟨ih0, ih1, ih2, ih3⟩ := horologeref13_Bits.mono_l k
  unfold horologeref13_Bits.f
  repeat' first
      | (with_reducible exact ih0 _ _ _ _)
      | (with_reducible exact ih1 _ _ _ _ _ _ _ _)
      | (with_reducible exact ih2 _ _ _ _ _ _ _ _ _ _)
      | (with_reducible exact ih3 _ _ _ _ _ _ _ _ _ _)
      | (with_reducible exact horologeref01_Of.mono _ _)
      | (with_reducible exact horologeref01_Plus.mono _ _ _ _ _)
      | (with_reducible exact horologeref01_Small.mono _ _ _)
      | (with_reducible exact horologeref13_Fold.mono _ _ _)
      | (with_reducible exact horologeref13_Near.mono _ _ _ _ _ _)
      | (with_reducible exact horologeref13_Power.mono _ _)
      | (with_reducible exact LeO.refl _)
      | (with_reducible exact LeO.none _)
      | (with_reducible refine LeO.ite ?_ ?_)
      | (with_reducible refine LeO.bind ?_ (fun _ => ?_))
      | exact ih0 _ _ _ _
      | exact ih1 _ _ _ _ _ _ _ _
      | exact ih2 _ _ _ _ _ _ _ _ _ _
      | exact ih3 _ _ _ _ _ _ _ _ _ _
      | exact horologeref01_Of.mono _ _
      | exact horologeref01_Plus.mono _ _ _ _ _
      | exact horologeref01_Small.mono _ _ _
      | exact horologeref13_Fold.mono _ _ _
      | exact horologeref13_Near.mono _ _ _ _ _ _
      | exact horologeref13_Power.mono _ _
      | exact LeO.none _
      | refine LeO.ite ?_ ?_
      | refine LeO.bind ?_ (fun _ => ?_)
def horologeref13_Bits.T4 : Bool × List (List Nat × List Nat) := (true, [([], []), ([], []), ([], []), ([1, 2], [1, 2]), ([3, 3], [3]), ([4, 4], [4]), ([0, 5, 5], [0, 5]), ([], []), ([7], [7]), ([8, 6], [8]), ([6, 9, 9], [6, 9]), ([], []), ([11, 10, 10, 0, 1, 2, 3, 4, 5, 6, 7, 8, 9, 10, 11], [10, 11])])
def horologeref13_Bits.B4 : List Nat := [0, 0, 0, 6, 14, 30, 63, 0, 128, 511, 1023, 0, 4095]
theorem horologeref13_Bits.tab4 : rtab .any (opsOf Try.f15 4) = horologeref13_Bits.T4 := by kernel_rfl
theorem horologeref13_Bits.bits4 : waitsOk horologeref13_Bits.T4.2 horologeref13_Bits.B4 = true := by kernel_rfl
set_option maxHeartbeats 8000000 in
set_option maxRecDepth 100000 in
theorem horologeref13_Bits.calls (k : Nat) (a0 : Int) (a1 : Int) (a2 : Int) (r1 : Int) (r2 : Int) (w : World) (h : horologeref13_Bits.f k a0 a1 a2 = some (r1, r2)) :
    Calls Try.prog 15 #[.int .u64 a0, .int .i64 a1, .int .i64 a2] w fun e w' => e = .returned (.tuple #[.int .i64 r1, .int .i64 r2]) ∧ Below w.heap.size w w' := by
  have hu51 := Try.underlying51
  have HB := Aside0.mk (Below.refl w.heap.size w)
  have H : (if a1 < 1 then (horologeref13_Bits.j0 k a0 a1 a2 true) else (if a1 > 62 then (horologeref13_Bits.j0 k a0 a1 a2 true) else (if 0 ≤ (IntKind.u64.wrap (a1)) then (horologeref13_Bits.j0 k a0 a1 a2 (decide (a0 ≥ (shl .u64 1 (IntKind.u64.wrap (a1)))))) else (none)))) = some (r1, r2) := h
  clear h
  have HC4 := Aside0.mk H
  clear H
  go_enter Try.func15, Try.ntmps15
  go_upto_region 1 with (fail)
  go_cut [25] (fun v25 wc => ∃ (kq : Nat) (x25_3 : Bool), v25 = .bool x25_3 ∧ Aside0 (horologeref13_Bits.j0 kq a0 a1 a2 x25_3 = some (r1, r2)) ∧ Aside0 (kq ≤ k) ∧ Aside0 (Below w.heap.size w wc))
  case first =>
    have H := HC4.out
    clear HC4
    by_cases c5 : a1 < 1
    · rw [if_pos c5] at H
      have c5b0 : decide (a1 < 1) = true := decide_eq_true c5
      clear c5
      (first | rw [c5b0] | (simp only [i64_w, i32_w]; rw [c5b0]) | skip)
      have H' := Aside0.mk H
      clear H
      go_wp2
      go_meet
      case rel => exact ⟨_, (true), (by first | rfl | (simp; done) | (simp [*]; done)), H', ⟨by first | omega | exact Nat.le_refl _⟩, ⟨by repeat (first | (with_reducible first | exact HB.out | apply below_alloc | apply pw_below_drewN | apply below_drew1) | exact HB.out)⟩⟩
    · rw [if_neg c5] at H
      have c5b0 : decide (a1 < 1) = false := decide_eq_false c5
      clear c5
      (first | rw [c5b0] | (simp only [i64_w, i32_w]; rw [c5b0]) | skip)
      by_cases c6 : a1 > 62
      · rw [if_pos c6] at H
        have c6b0 : decide (62 < a1) = true := decide_eq_true c6
        clear c6
        have H' := Aside0.mk H
        clear H
        go_wp2
        go_meet
        case rel => exact ⟨_, (true), (by first | rfl | (simp; done) | (simp [*]; done)), H', ⟨by first | omega | exact Nat.le_refl _⟩, ⟨by repeat (first | (with_reducible first | exact HB.out | apply below_alloc | apply pw_below_drewN | apply below_drew1) | exact HB.out)⟩⟩
      · rw [if_neg c6] at H
        have c6b0 : decide (62 < a1) = false := decide_eq_false c6
        clear c6
        obtain ⟨ji7, hji7⟩ : ∃ j_ : Int, (IntKind.u64.wrap (a1)) = j_ := ⟨_, rfl⟩
        replace H : (if 0 ≤ (ji7) then (horologeref13_Bits.j0 k a0 a1 a2 (decide (a0 ≥ (shl .u64 1 (ji7))))) else (none)) = some (r1, r2) := by first | (rw [hji7] at H; exact H) | (simp only [hji7] at H ⊢; exact H)
        by_cases c8 : 0 ≤ (ji7)
        · rw [if_pos c8] at H
          have c8b0 := eq_true c8
          have c8b1 : decide (0 ≤ (ji7)) = true := decide_eq_true c8
          clear c8
          obtain ⟨ji9, hji9⟩ : ∃ j_ : Int, (shl .u64 1 (ji7)) = j_ := ⟨_, rfl⟩
          replace H : (horologeref13_Bits.j0 k a0 a1 a2 (decide (a0 ≥ (ji9)))) = some (r1, r2) := by first | (rw [hji9] at H; exact H) | (simp only [hji9] at H ⊢; exact H)
          have hji9_ : (IntKind.u64.wrap (1 * 2 ^ min (ji7).toNat 64)) = ji9 := hji9
          have hji9z : (ji7) ≤ 64 → (IntKind.u64.wrap (1 * 2 ^ (ji7).toNat)) = ji9 := shl_small hji9
          have hji9u : (IntKind.u64.wrap (2 ^ min (ji7).toNat 64)) = ji9 := by have h_ := hji9_; rw [Int.one_mul] at h_; exact h_
          have hji9v : (ji7) ≤ 64 → (IntKind.u64.wrap (2 ^ (ji7).toNat)) = ji9 := fun hle_ => by have h_ := hji9z hle_; rw [Int.one_mul] at h_; exact h_
          have H' := Aside0.mk H
          clear H
          go_wp2
          go_meet
          case rel => exact ⟨_, (decide (a0 ≥ (ji9))), (by first | rfl | (simp; done) | (simp only [← hji9] <;> (first | rfl | simp)) | (simp [*]; done)), H', ⟨by first | omega | exact Nat.le_refl _⟩, ⟨by repeat (first | (with_reducible first | exact HB.out | apply below_alloc | apply pw_below_drewN | apply below_drew1) | exact HB.out)⟩⟩
        · rw [if_neg c8] at H
          exact absurd H (by simp)
  case rest =>
    clear HC4
    try clear c1
    try clear p2
    try clear c5
    try clear c5b0
    try clear c6
    try clear c6b0
    try clear c8
    try clear c8b0
    try clear c8b1
    obtain ⟨kq, x25_3, rfl, HA, HJ3, HB⟩ := hcut
    cases kq with
    | zero => exact absurd HA.out (by simp [horologeref13_Bits.j0])
    | succ kj3 =>
      have H := HA.out
      clear HA
      simp only [horologeref13_Bits.j0] at H
      by_cases c10 : x25_3 = true
      · subst c10
        have H1 : (some (0, 1)) = some (r1, r2) := by rw [if_pos rfl] at H; exact H
        clear H
        have H := H1
        clear H1
        simp only [Option.some.injEq, Prod.mk.injEq] at H
        obtain ⟨rfl, rfl⟩ := H
        go_wp2
        go_ret2
        exact ⟨by first | rfl | (simp [errW_none, errW_some] <;> rfl) | (simp [*, errW_none, errW_some] <;> rfl), by repeat (first | (with_reducible first | exact HB.out | apply below_alloc | apply pw_below_drewN | apply below_drew1) | exact HB.out)⟩
      · replace c10 := Bool.eq_false_iff.mpr c10
        subst c10
        have H1 : ((horologeref01_Of.f kj3 a2).bind fun bt211 => ((horologeref13_Fold.f kj3 a2 a1).bind fun t216 => ((horologeref01_Of.f kj3 t216).bind fun bt217 => ((horologeref01_Minus.f bt217.1 bt217.2).bind fun bt221 => ((horologeref01_Plus.f kj3 bt211.1 bt211.2 bt221.1 bt221.2).bind fun bt225 => ((horologeref01_Of.f kj3 (wrap64 (a0))).bind fun bt229 => ((horologeref01_Plus.f kj3 bt225.1 bt225.2 bt229.1 bt229.2).bind fun bt233 => ((horologeref13_Power.f kj3 a1).bind fun bt238 => (horologeref13_Bits.l0 kj3 a1 0 bt211.1 bt211.2 bt233.1 bt233.2 bt238.1 bt238.2))))))))) = some (r1, r2) := by rw [if_neg (show ¬ (false = true) by decide)] at H; exact H
        clear H
        have H := H1
        clear H1
        replace H := Option.bind_eq_some_iff.mp H
        obtain ⟨⟨t211, t212⟩, A110, H⟩ := H
        replace H : ((horologeref13_Fold.f kj3 a2 a1).bind fun t216 => ((horologeref01_Of.f kj3 t216).bind fun bt217 => ((horologeref01_Minus.f bt217.1 bt217.2).bind fun bt221 => ((horologeref01_Plus.f kj3 t211 t212 bt221.1 bt221.2).bind fun bt225 => ((horologeref01_Of.f kj3 (wrap64 (a0))).bind fun bt229 => ((horologeref01_Plus.f kj3 bt225.1 bt225.2 bt229.1 bt229.2).bind fun bt233 => ((horologeref13_Power.f kj3 a1).bind fun bt238 => (horologeref13_Bits.l0 kj3 a1 0 t211 t212 bt233.1 bt233.2 bt238.1 bt238.2)))))))) = some (r1, r2) := H
        have A11 := Aside0.mk A110
        clear A110
        replace H := Option.bind_eq_some_iff.mp H
        obtain ⟨t216, A120, H⟩ := H
        replace H : ((horologeref01_Of.f kj3 t216).bind fun bt217 => ((horologeref01_Minus.f bt217.1 bt217.2).bind fun bt221 => ((horologeref01_Plus.f kj3 t211 t212 bt221.1 bt221.2).bind fun bt225 => ((horologeref01_Of.f kj3 (wrap64 (a0))).bind fun bt229 => ((horologeref01_Plus.f kj3 bt225.1 bt225.2 bt229.1 bt229.2).bind fun bt233 => ((horologeref13_Power.f kj3 a1).bind fun bt238 => (horologeref13_Bits.l0 kj3 a1 0 t211 t212 bt233.1 bt233.2 bt238.1 bt238.2))))))) = some (r1, r2) := H
        have A12 := Aside0.mk A120
        clear A120
        replace H := Option.bind_eq_some_iff.mp H
        obtain ⟨⟨t217, t218⟩, A130, H⟩ := H
        replace H : ((horologeref01_Minus.f t217 t218).bind fun bt221 => ((horologeref01_Plus.f kj3 t211 t212 bt221.1 bt221.2).bind fun bt225 => ((horologeref01_Of.f kj3 (wrap64 (a0))).bind fun bt229 => ((horologeref01_Plus.f kj3 bt225.1 bt225.2 bt229.1 bt229.2).bind fun bt233 => ((horologeref13_Power.f kj3 a1).bind fun bt238 => (horologeref13_Bits.l0 kj3 a1 0 t211 t212 bt233.1 bt233.2 bt238.1 bt238.2)))))) = some (r1, r2) := H
        have A13 := Aside0.mk A130
        clear A130
        replace H := Option.bind_eq_some_iff.mp H
        obtain ⟨⟨t221, t222⟩, A140, H⟩ := H
        replace H : ((horologeref01_Plus.f kj3 t211 t212 t221 t222).bind fun bt225 => ((horologeref01_Of.f kj3 (wrap64 (a0))).bind fun bt229 => ((horologeref01_Plus.f kj3 bt225.1 bt225.2 bt229.1 bt229.2).bind fun bt233 => ((horologeref13_Power.f kj3 a1).bind fun bt238 => (horologeref13_Bits.l0 kj3 a1 0 t211 t212 bt233.1 bt233.2 bt238.1 bt238.2))))) = some (r1, r2) := H
        have A14 := Aside0.mk A140
        clear A140
        replace H := Option.bind_eq_some_iff.mp H
        obtain ⟨⟨t225, t226⟩, A150, H⟩ := H
        replace H : ((horologeref01_Of.f kj3 (wrap64 (a0))).bind fun bt229 => ((horologeref01_Plus.f kj3 t225 t226 bt229.1 bt229.2).bind fun bt233 => ((horologeref13_Power.f kj3 a1).bind fun bt238 => (horologeref13_Bits.l0 kj3 a1 0 t211 t212 bt233.1 bt233.2 bt238.1 bt238.2)))) = some (r1, r2) := H
        have A15 := Aside0.mk A150
        clear A150
        replace H := Option.bind_eq_some_iff.mp H
        obtain ⟨⟨t229, t230⟩, A160, H⟩ := H
        replace H : ((horologeref01_Plus.f kj3 t225 t226 t229 t230).bind fun bt233 => ((horologeref13_Power.f kj3 a1).bind fun bt238 => (horologeref13_Bits.l0 kj3 a1 0 t211 t212 bt233.1 bt233.2 bt238.1 bt238.2))) = some (r1, r2) := H
        have A16 := Aside0.mk A160
        clear A160
        replace H := Option.bind_eq_some_iff.mp H
        obtain ⟨⟨t233, t234⟩, A170, H⟩ := H
        replace H : ((horologeref13_Power.f kj3 a1).bind fun bt238 => (horologeref13_Bits.l0 kj3 a1 0 t211 t212 t233 t234 bt238.1 bt238.2)) = some (r1, r2) := H
        have A17 := Aside0.mk A170
        clear A170
        replace H := Option.bind_eq_some_iff.mp H
        obtain ⟨⟨t238, t239⟩, A180, H⟩ := H
        replace H : (horologeref13_Bits.l0 kj3 a1 0 t211 t212 t233 t234 t238 t239) = some (r1, r2) := H
        have A18 := Aside0.mk A180
        clear A180
        have H' := Aside0.mk H
        clear H
        try go_wp2_with (first | ((with_reducible refine gate_callee (f := 22) rfl ?_); refine goesL_ (some 27) rfl rfl Try.func22 (by kernel_rfl) rfl #[.int .i64 a2] rfl (by (try simp only [List.map_toArray, List.map_cons, List.map_nil]); first | done | rfl | (simp only [List.length_drop, List.length_take]; rfl) | (refine congrArg (fun z_ => #[Value.int IntKind.i64 z_]) (?_ : Go.RowKit.wrap64 (IntKind.u8.wrap _) = _); rw [IntKind.wrap_u8]; unfold Go.RowKit.wrap64; omega)) ?_; (with_reducible refine (horologeref01_Of.calls kj3 a2 t211 t212 _ A11.out).mono ?_); rintro e w19 ⟨v213, rfl, ho0, hb⟩; refine ⟨_, rfl, ?_⟩; have n0_ := Aside0.mk (Kd.R_lower ho0 (below_size (by repeat (first | (with_reducible first | exact HB.out | apply below_alloc | apply pw_below_drewN | apply below_drew1) | exact HB.out)))); have n1_ := Aside0.mk (below_step (by repeat (first | (with_reducible first | exact HB.out | apply below_alloc | apply pw_below_drewN | apply below_drew1) | exact HB.out)) hb); clear HB; have HO214 := n0_; have HB := n1_; clear n0_ n1_; (try clear hb); (try clear hb2); (try clear hk); (try clear hi); (try clear ho0)) | ((with_reducible refine gate_dst (N := 8) rfl ?_); refine box_event ?hg (N := 8) ?hd (cs := #[.bool false, .slice none 0 0]) (t := 51) ?hr ?_; (case hd => rfl); (case hg => rfl); (case hr => first | (go_simp; done) | (go_simp; rfl)); intro gb215 hg w20 hbox hb; have n0_ := Aside0.mk (Kd.R_below (by (with_reducible repeat (first | apply Kd.R_alloc | apply Kd.R_drewN | apply Kd.R_drew)); exact HO214.out) hb); have n1_ := Aside0.mk (below_step (by repeat (first | (with_reducible first | exact HB.out | apply below_alloc | apply pw_below_drewN | apply below_drew1) | exact HB.out)) hb); have n2_ := Aside0.mk (hbox); have n3_ := Aside0.mk ((by rw [hg]; exact (below_size (by repeat (first | (with_reducible first | exact HB.out | apply below_alloc | apply pw_below_drewN | apply below_drew1) | exact HB.out))) : w.heap.size ≤ gb215)); have n4_ := Aside0.mk ((by rw [hg]; exact (below_size (by repeat (first | (with_reducible first | exact HB.out | apply below_alloc | apply pw_below_drewN | apply below_drew1) | exact HB.out))) : w.heap.size ≤ gb215)); clear HO214; clear HB; have HO214 := n0_; have HB := n1_; have BK215 := n2_; have GW215 := n3_; have GE215 := n4_; clear n0_ n1_ n2_ n3_ n4_; clear hb hbox hg; have hcz21_0 : w20.cell? ⟨gb215, 0, none⟩ = some (.bool false) := (blk_cell BK215.out 0).trans rfl; have hcz21_1 : w20.cell? ⟨gb215, 1, none⟩ = some (.slice none 0 0) := (blk_cell BK215.out 1).trans rfl; have hfz21_0 := blk_frozen BK215.out 0; have hfz21_1 := blk_frozen BK215.out 1; obtain ⟨Ao22, co22, eo22⟩ := Kd.R_slice HO214.out; subst eo22))
        have n0_ : Aside0 (Kd.R (Kd.int .u64) 37 ((w20.setCell ⟨gb215, 0, none⟩ (.bool t211)).setCell ⟨gb215, 1, none⟩ (.slice Ao22 t212.length co22)) w.heap.size (fun _ => True) (.slice Ao22 t212.length co22) t212) := ⟨by (with_reducible repeat (first | apply Kd.R_alloc | apply Kd.R_drewN | apply Kd.R_drew)); exact Kd.R_mono (Kd.R_far (p := ⟨gb215, 1, none⟩) (Kd.R_far (p := ⟨gb215, 0, none⟩) (Kd.R_types HO214.out BK215.out (by decide)) (fun _ hk => hk.2) (.bool t211)) (fun _ hk => hk.2) (.slice Ao22 t212.length co22)) (fun _ hk => trivial)⟩
        have n1_ : Aside0 (((w20.setCell ⟨gb215, 0, none⟩ (.bool t211)).setCell ⟨gb215, 1, none⟩ (.slice Ao22 t212.length co22)).heap[gb215]? = some (.cells #[.bool t211, .slice Ao22 t212.length co22] 51 (0, 0))) := ⟨by (with_reducible repeat (first | refine blk_drewN ?_ _ | refine blk_drew ?_ | refine blk_alloc ?_ _)); refine blk_put (cs := #[.bool t211, .slice none 0 0]) ?_ 1 _ rfl; (with_reducible repeat (first | refine blk_drewN ?_ _ | refine blk_drew ?_ | refine blk_alloc ?_ _)); refine blk_put (cs := #[.bool false, .slice none 0 0]) ?_ 0 _ rfl; (with_reducible repeat (first | refine blk_drewN ?_ _ | refine blk_drew ?_ | refine blk_alloc ?_ _)); exact BK215.out⟩
        have n2_ : Aside0 (Below w.heap.size w ((w20.setCell ⟨gb215, 0, none⟩ (.bool t211)).setCell ⟨gb215, 1, none⟩ (.slice Ao22 t212.length co22))) := ⟨by repeat (first | (with_reducible first | exact HB.out | apply below_alloc | apply pw_below_drewN | apply below_drew1 | refine below_set ?_ GE215.out) | exact HB.out)⟩
        (try clear HO214)
        (try clear BK215)
        (try clear HB)
        generalize ((w20.setCell ⟨gb215, 0, none⟩ (.bool t211)).setCell ⟨gb215, 1, none⟩ (.slice Ao22 t212.length co22)) = w23 at n0_ n1_ n2_ ⊢
        have HO214 := n0_
        have BK215 := n1_
        have HB := n2_
        clear n0_ n1_ n2_
        have n0_ := Aside0.mk (Kd.R_drew HO214.out)
        have n1_ := Aside0.mk (blk_drew BK215.out)
        have n2_ := Aside0.mk (below_drew1 HB.out)
        clear HO214
        clear BK215
        clear HB
        have HO214 := n0_
        have BK215 := n1_
        have HB := n2_
        clear n0_ n1_ n2_
        refine start_ (n := 13) (S := fun w' => w'.cell? ⟨gb215, 0, none⟩ = some (.bool t211) ∧ w'.cell? ⟨gb215, 1, none⟩ = some (.slice Ao22 t212.length co22)) (ds := []) #[false, false, false, false, false, false, false, false, false, false, false, false, false] (by kernel_rfl) rfl rfl ⟨(blk_cell BK215.out 0).trans rfl, (blk_cell BK215.out 1).trans rfl⟩ (fun hHeld => ?_); refine with_tabW horologeref13_Bits.tab4 horologeref13_Bits.bits4 (fun HT_ HW_ => ?_)
        generalize w23.drew = w24 at HO214 BK215 HB hHeld ⊢
        refine pure_ (i := 1) (N := some 29) (v := ?_) (a' := ?_) #[false, true, false, false, false, false, false, false, false, false, false, false, false] rfl rfl (any_of HT_.out (by kernel_rfl)) (fun _ _ _ h => h) (Or.inl ⟨by rfl, ?_⟩) ?_ ?_
        rotate_left
        · intro w'
          go_simp
          with_reducible rfl
        rotate_left
        · simp only [Act.put, List.setIfInBounds_toArray, List.set_cons_zero, List.set_cons_succ, i64_w, i32_w]
          rfl
        refine pure_ (i := 2) (N := some 30) (v := ?_) (a' := ?_) #[false, true, true, false, false, false, false, false, false, false, false, false, false] rfl rfl (any_of HT_.out (by kernel_rfl)) (fun _ _ _ h => h) (Or.inl ⟨by rfl, ?_⟩) ?_ ?_
        rotate_left
        · intro w'
          go_simp
          with_reducible rfl
        rotate_left
        · simp only [Act.put, List.setIfInBounds_toArray, List.set_cons_zero, List.set_cons_succ, i64_w, i32_w]
          rfl
        refine pure_ (i := 7) (N := some 35) (v := ?_) (a' := ?_) #[false, true, true, false, false, false, false, true, false, false, false, false, false] rfl rfl (any_of HT_.out (by kernel_rfl)) (fun _ _ _ h => h) (Or.inl ⟨by rfl, ?_⟩) ?_ ?_
        rotate_left
        · intro w'
          go_simp
          with_reducible rfl
        rotate_left
        · simp only [Act.put, List.setIfInBounds_toArray, List.set_cons_zero, List.set_cons_succ, i64_w, i32_w]
          rfl
        refine pure_ (i := 8) (N := some 36) (v := ?_) (a' := ?_) #[false, true, true, false, false, false, false, true, true, false, false, false, false] rfl rfl (any_of HT_.out (by kernel_rfl)) (fun _ _ _ h => h) (Or.inl ⟨by rfl, ?_⟩) ?_ ?_
        rotate_left
        · intro w'
          go_simp
          with_reducible rfl
        rotate_left
        · simp only [Act.put, List.setIfInBounds_toArray, List.set_cons_zero, List.set_cons_succ, i64_w, i32_w]
          rfl
        refine take_ (i := 0) (N := some 28) (v := ?_) (a' := ?_) #[true, true, true, false, false, false, false, true, true, false, false, false, false] rfl rfl (take_ofW HT_.out HW_.out (by kernel_rfl)) (fun _ _ _ h => h) (Or.inl ⟨by rfl, ?_⟩) hHeld ?_ ?_
        rotate_left
        · rintro w' ⟨s0, s1⟩
          go_simp
          with_reducible rfl
        rotate_left
        · simp only [Act.put, List.setIfInBounds_toArray, List.set_cons_zero, List.set_cons_succ, i64_w, i32_w]
          rfl
        refine join_ (σ := Value × Value × Value × Value × Value × Nat) 1 #[true, true, true, true, true, true, true, true, true, true, true, true, false] (fun s_ => [(31, .int .i64 t216), (32, .agg #[.bool t217, s_.1]), (33, .agg #[.bool t221, s_.2.1]), (34, .agg #[.bool t225, s_.2.2.1]), (37, .agg #[.bool t229, s_.2.2.2.1]), (38, .agg #[.bool t233, s_.2.2.2.2.1]), (9, .pointer (some ⟨s_.2.2.2.2.2, 0, none⟩))]) (fun s_ w' => (w'.cell? ⟨gb215, 0, none⟩ = some (.bool t211) ∧ w'.cell? ⟨gb215, 1, none⟩ = some (.slice Ao22 t212.length co22)) ∧ (Kd.R (Kd.int .u64) 37 w' w.heap.size (fun k_ => some k_ ≠ (s_.1 : Value).ownBlock ∧ some k_ ≠ (s_.2.2.2.1 : Value).ownBlock) (.slice Ao22 t212.length co22) t212) ∧ (Kd.R (Kd.int .u64) 37 w' w.heap.size (fun k_ => some k_ ≠ (.slice Ao22 t212.length co22 : Value).ownBlock ∧ some k_ ≠ (s_.2.2.2.1 : Value).ownBlock) s_.1 t218) ∧ (Kd.V (Kd.int .u64) 37 w' w.heap.size (fun k_ => some k_ ≠ (.slice Ao22 t212.length co22 : Value).ownBlock ∧ some k_ ≠ (s_.2.2.2.1 : Value).ownBlock ∧ k_ ≠ gb215 ∧ k_ ≠ s_.2.2.2.2.2) s_.2.1 t222) ∧ (Kd.V (Kd.int .u64) 37 w' w.heap.size (fun k_ => some k_ ≠ (.slice Ao22 t212.length co22 : Value).ownBlock ∧ some k_ ≠ (s_.1 : Value).ownBlock ∧ some k_ ≠ (s_.2.2.2.1 : Value).ownBlock ∧ k_ ≠ gb215 ∧ k_ ≠ s_.2.2.2.2.2) s_.2.2.1 t226) ∧ (Kd.R (Kd.int .u64) 37 w' w.heap.size (fun k_ => some k_ ≠ (.slice Ao22 t212.length co22 : Value).ownBlock ∧ some k_ ≠ (s_.1 : Value).ownBlock) s_.2.2.2.1 t230) ∧ (Kd.V (Kd.int .u64) 37 w' w.heap.size (fun k_ => some k_ ≠ (.slice Ao22 t212.length co22 : Value).ownBlock ∧ some k_ ≠ (s_.1 : Value).ownBlock ∧ some k_ ≠ (s_.2.2.2.1 : Value).ownBlock ∧ k_ ≠ gb215 ∧ k_ ≠ s_.2.2.2.2.2) s_.2.2.2.2.1 t234) ∧ (w'.heap[gb215]? = some (.cells #[.bool t211, .slice Ao22 t212.length co22] 51 (0, 0))) ∧ (w'.heap[s_.2.2.2.2.2]? = some (.cells #[.bool false, .slice none 0 0] 51 (0, 0))) ∧ (w.heap.size ≤ s_.2.2.2.2.2) ∧ (w.heap.size ≤ s_.2.2.2.2.2) ∧ (gb215 ≠ s_.2.2.2.2.2) ∧ (s_.2.2.2.2.2 ≠ gb215) ∧ (Below w.heap.size w w')) ?_ ?_
        rotate_left
        · intro hJ3_4_5_6_9_10_11
          refine join_ (σ := Value × Value × Value × Value × Value) 2 #[true, true, true, true, true, true, true, true, true, true, true, false, false] (fun s_ => [(31, .int .i64 t216), (32, .agg #[.bool t217, s_.1]), (33, .agg #[.bool t221, s_.2.1]), (34, .agg #[.bool t225, s_.2.2.1]), (37, .agg #[.bool t229, s_.2.2.2.1]), (38, .agg #[.bool t233, s_.2.2.2.2])]) (fun s_ w' => (w'.cell? ⟨gb215, 0, none⟩ = some (.bool t211) ∧ w'.cell? ⟨gb215, 1, none⟩ = some (.slice Ao22 t212.length co22)) ∧ (Kd.R (Kd.int .u64) 37 w' w.heap.size (fun k_ => some k_ ≠ (s_.1 : Value).ownBlock ∧ some k_ ≠ (s_.2.2.2.1 : Value).ownBlock) (.slice Ao22 t212.length co22) t212) ∧ (Kd.R (Kd.int .u64) 37 w' w.heap.size (fun k_ => some k_ ≠ (.slice Ao22 t212.length co22 : Value).ownBlock ∧ some k_ ≠ (s_.2.2.2.1 : Value).ownBlock) s_.1 t218) ∧ (Kd.V (Kd.int .u64) 37 w' w.heap.size (fun k_ => some k_ ≠ (.slice Ao22 t212.length co22 : Value).ownBlock ∧ some k_ ≠ (s_.2.2.2.1 : Value).ownBlock ∧ k_ ≠ gb215) s_.2.1 t222) ∧ (Kd.V (Kd.int .u64) 37 w' w.heap.size (fun k_ => some k_ ≠ (.slice Ao22 t212.length co22 : Value).ownBlock ∧ some k_ ≠ (s_.1 : Value).ownBlock ∧ some k_ ≠ (s_.2.2.2.1 : Value).ownBlock ∧ k_ ≠ gb215) s_.2.2.1 t226) ∧ (Kd.R (Kd.int .u64) 37 w' w.heap.size (fun k_ => some k_ ≠ (.slice Ao22 t212.length co22 : Value).ownBlock ∧ some k_ ≠ (s_.1 : Value).ownBlock) s_.2.2.2.1 t230) ∧ (Kd.V (Kd.int .u64) 37 w' w.heap.size (fun k_ => some k_ ≠ (.slice Ao22 t212.length co22 : Value).ownBlock ∧ some k_ ≠ (s_.1 : Value).ownBlock ∧ some k_ ≠ (s_.2.2.2.1 : Value).ownBlock ∧ k_ ≠ gb215) s_.2.2.2.2 t234) ∧ (w'.heap[gb215]? = some (.cells #[.bool t211, .slice Ao22 t212.length co22] 51 (0, 0))) ∧ (Below w.heap.size w w')) ?_ ?_
          rotate_left
          · intro hJ3_4_5_6_9_10
            refine join_ (σ := Value × Value × Value × Value × Nat) 2 #[true, true, true, true, true, true, true, true, true, true, false, true, false] (fun s_ => [(31, .int .i64 t216), (32, .agg #[.bool t217, s_.1]), (33, .agg #[.bool t221, s_.2.1]), (34, .agg #[.bool t225, s_.2.2.1]), (37, .agg #[.bool t229, s_.2.2.2.1]), (9, .pointer (some ⟨s_.2.2.2.2, 0, none⟩))]) (fun s_ w' => (w'.cell? ⟨gb215, 0, none⟩ = some (.bool t211) ∧ w'.cell? ⟨gb215, 1, none⟩ = some (.slice Ao22 t212.length co22)) ∧ (Kd.R (Kd.int .u64) 37 w' w.heap.size (fun k_ => some k_ ≠ (s_.1 : Value).ownBlock ∧ some k_ ≠ (s_.2.2.2.1 : Value).ownBlock) (.slice Ao22 t212.length co22) t212) ∧ (Kd.R (Kd.int .u64) 37 w' w.heap.size (fun k_ => some k_ ≠ (.slice Ao22 t212.length co22 : Value).ownBlock ∧ some k_ ≠ (s_.2.2.2.1 : Value).ownBlock) s_.1 t218) ∧ (Kd.V (Kd.int .u64) 37 w' w.heap.size (fun k_ => some k_ ≠ (.slice Ao22 t212.length co22 : Value).ownBlock ∧ some k_ ≠ (s_.2.2.2.1 : Value).ownBlock ∧ k_ ≠ gb215 ∧ k_ ≠ s_.2.2.2.2) s_.2.1 t222) ∧ (Kd.V (Kd.int .u64) 37 w' w.heap.size (fun k_ => some k_ ≠ (.slice Ao22 t212.length co22 : Value).ownBlock ∧ some k_ ≠ (s_.1 : Value).ownBlock ∧ some k_ ≠ (s_.2.2.2.1 : Value).ownBlock ∧ k_ ≠ gb215 ∧ k_ ≠ s_.2.2.2.2) s_.2.2.1 t226) ∧ (Kd.R (Kd.int .u64) 37 w' w.heap.size (fun k_ => some k_ ≠ (.slice Ao22 t212.length co22 : Value).ownBlock ∧ some k_ ≠ (s_.1 : Value).ownBlock) s_.2.2.2.1 t230) ∧ (w'.heap[gb215]? = some (.cells #[.bool t211, .slice Ao22 t212.length co22] 51 (0, 0))) ∧ (w'.heap[s_.2.2.2.2]? = some (.cells #[.bool false, .slice none 0 0] 51 (0, 0))) ∧ (w.heap.size ≤ s_.2.2.2.2) ∧ (w.heap.size ≤ s_.2.2.2.2) ∧ (gb215 ≠ s_.2.2.2.2) ∧ (s_.2.2.2.2 ≠ gb215) ∧ (Below w.heap.size w w')) ?_ ?_
            rotate_left
            · intro hJ3_4_5_6_9_11
              refine join_ (σ := Value × Value × Value × Value) 3 #[true, true, true, true, true, true, true, true, true, true, false, false, false] (fun s_ => [(31, .int .i64 t216), (32, .agg #[.bool t217, s_.1]), (33, .agg #[.bool t221, s_.2.1]), (34, .agg #[.bool t225, s_.2.2.1]), (37, .agg #[.bool t229, s_.2.2.2])]) (fun s_ w' => (w'.cell? ⟨gb215, 0, none⟩ = some (.bool t211) ∧ w'.cell? ⟨gb215, 1, none⟩ = some (.slice Ao22 t212.length co22)) ∧ (Kd.R (Kd.int .u64) 37 w' w.heap.size (fun k_ => some k_ ≠ (s_.1 : Value).ownBlock ∧ some k_ ≠ (s_.2.2.2 : Value).ownBlock) (.slice Ao22 t212.length co22) t212) ∧ (Kd.R (Kd.int .u64) 37 w' w.heap.size (fun k_ => some k_ ≠ (.slice Ao22 t212.length co22 : Value).ownBlock ∧ some k_ ≠ (s_.2.2.2 : Value).ownBlock) s_.1 t218) ∧ (Kd.V (Kd.int .u64) 37 w' w.heap.size (fun k_ => some k_ ≠ (.slice Ao22 t212.length co22 : Value).ownBlock ∧ some k_ ≠ (s_.2.2.2 : Value).ownBlock ∧ k_ ≠ gb215) s_.2.1 t222) ∧ (Kd.V (Kd.int .u64) 37 w' w.heap.size (fun k_ => some k_ ≠ (.slice Ao22 t212.length co22 : Value).ownBlock ∧ some k_ ≠ (s_.1 : Value).ownBlock ∧ some k_ ≠ (s_.2.2.2 : Value).ownBlock ∧ k_ ≠ gb215) s_.2.2.1 t226) ∧ (Kd.R (Kd.int .u64) 37 w' w.heap.size (fun k_ => some k_ ≠ (.slice Ao22 t212.length co22 : Value).ownBlock ∧ some k_ ≠ (s_.1 : Value).ownBlock) s_.2.2.2 t230) ∧ (w'.heap[gb215]? = some (.cells #[.bool t211, .slice Ao22 t212.length co22] 51 (0, 0))) ∧ (Below w.heap.size w w')) ?_ ?_
              rotate_left
              · intro hJ3_4_5_6_9
                refine join_ (σ := Value × Value × Value × Nat) 3 #[true, true, true, true, true, true, true, true, true, false, false, true, false] (fun s_ => [(31, .int .i64 t216), (32, .agg #[.bool t217, s_.1]), (33, .agg #[.bool t221, s_.2.1]), (34, .agg #[.bool t225, s_.2.2.1]), (9, .pointer (some ⟨s_.2.2.2, 0, none⟩))]) (fun s_ w' => (w'.cell? ⟨gb215, 0, none⟩ = some (.bool t211) ∧ w'.cell? ⟨gb215, 1, none⟩ = some (.slice Ao22 t212.length co22)) ∧ (Kd.R (Kd.int .u64) 37 w' w.heap.size (fun k_ => some k_ ≠ (s_.1 : Value).ownBlock) (.slice Ao22 t212.length co22) t212) ∧ (Kd.R (Kd.int .u64) 37 w' w.heap.size (fun k_ => some k_ ≠ (.slice Ao22 t212.length co22 : Value).ownBlock) s_.1 t218) ∧ (Kd.V (Kd.int .u64) 37 w' w.heap.size (fun k_ => some k_ ≠ (.slice Ao22 t212.length co22 : Value).ownBlock ∧ k_ ≠ gb215 ∧ k_ ≠ s_.2.2.2) s_.2.1 t222) ∧ (Kd.V (Kd.int .u64) 37 w' w.heap.size (fun k_ => some k_ ≠ (.slice Ao22 t212.length co22 : Value).ownBlock ∧ some k_ ≠ (s_.1 : Value).ownBlock ∧ k_ ≠ gb215 ∧ k_ ≠ s_.2.2.2) s_.2.2.1 t226) ∧ (w'.heap[gb215]? = some (.cells #[.bool t211, .slice Ao22 t212.length co22] 51 (0, 0))) ∧ (w'.heap[s_.2.2.2]? = some (.cells #[.bool false, .slice none 0 0] 51 (0, 0))) ∧ (w.heap.size ≤ s_.2.2.2) ∧ (w.heap.size ≤ s_.2.2.2) ∧ (gb215 ≠ s_.2.2.2) ∧ (s_.2.2.2 ≠ gb215) ∧ (Below w.heap.size w w')) ?_ ?_
                rotate_left
                · intro hJ3_4_5_6_11
                  refine join_ (σ := Value × Value × Value) 4 #[true, true, true, true, true, true, true, true, true, false, false, false, false] (fun s_ => [(31, .int .i64 t216), (32, .agg #[.bool t217, s_.1]), (33, .agg #[.bool t221, s_.2.1]), (34, .agg #[.bool t225, s_.2.2])]) (fun s_ w' => (w'.cell? ⟨gb215, 0, none⟩ = some (.bool t211) ∧ w'.cell? ⟨gb215, 1, none⟩ = some (.slice Ao22 t212.length co22)) ∧ (Kd.R (Kd.int .u64) 37 w' w.heap.size (fun k_ => some k_ ≠ (s_.1 : Value).ownBlock) (.slice Ao22 t212.length co22) t212) ∧ (Kd.R (Kd.int .u64) 37 w' w.heap.size (fun k_ => some k_ ≠ (.slice Ao22 t212.length co22 : Value).ownBlock) s_.1 t218) ∧ (Kd.V (Kd.int .u64) 37 w' w.heap.size (fun k_ => some k_ ≠ (.slice Ao22 t212.length co22 : Value).ownBlock ∧ k_ ≠ gb215) s_.2.1 t222) ∧ (Kd.V (Kd.int .u64) 37 w' w.heap.size (fun k_ => some k_ ≠ (.slice Ao22 t212.length co22 : Value).ownBlock ∧ some k_ ≠ (s_.1 : Value).ownBlock ∧ k_ ≠ gb215) s_.2.2 t226) ∧ (w'.heap[gb215]? = some (.cells #[.bool t211, .slice Ao22 t212.length co22] 51 (0, 0))) ∧ (Below w.heap.size w w')) ?_ ?_
                  rotate_left
                  · intro hJ3_4_5_6
                    refine join_ (σ := Value × Value × Nat) 4 #[true, true, true, true, true, true, false, true, true, false, false, true, false] (fun s_ => [(31, .int .i64 t216), (32, .agg #[.bool t217, s_.1]), (33, .agg #[.bool t221, s_.2.1]), (9, .pointer (some ⟨s_.2.2, 0, none⟩))]) (fun s_ w' => (w'.cell? ⟨gb215, 0, none⟩ = some (.bool t211) ∧ w'.cell? ⟨gb215, 1, none⟩ = some (.slice Ao22 t212.length co22)) ∧ (Kd.R (Kd.int .u64) 37 w' w.heap.size (fun k_ => some k_ ≠ (s_.1 : Value).ownBlock) (.slice Ao22 t212.length co22) t212) ∧ (Kd.R (Kd.int .u64) 37 w' w.heap.size (fun k_ => some k_ ≠ (.slice Ao22 t212.length co22 : Value).ownBlock) s_.1 t218) ∧ (Kd.V (Kd.int .u64) 37 w' w.heap.size (fun k_ => some k_ ≠ (.slice Ao22 t212.length co22 : Value).ownBlock ∧ k_ ≠ gb215 ∧ k_ ≠ s_.2.2) s_.2.1 t222) ∧ (w'.heap[gb215]? = some (.cells #[.bool t211, .slice Ao22 t212.length co22] 51 (0, 0))) ∧ (w'.heap[s_.2.2]? = some (.cells #[.bool false, .slice none 0 0] 51 (0, 0))) ∧ (w.heap.size ≤ s_.2.2) ∧ (w.heap.size ≤ s_.2.2) ∧ (gb215 ≠ s_.2.2) ∧ (s_.2.2 ≠ gb215) ∧ (Below w.heap.size w w')) ?_ ?_
                    rotate_left
                    · intro hJ3_4_5_11
                      refine join_ (σ := Value × Value) 5 #[true, true, true, true, true, true, false, true, true, false, false, false, false] (fun s_ => [(31, .int .i64 t216), (32, .agg #[.bool t217, s_.1]), (33, .agg #[.bool t221, s_.2])]) (fun s_ w' => (w'.cell? ⟨gb215, 0, none⟩ = some (.bool t211) ∧ w'.cell? ⟨gb215, 1, none⟩ = some (.slice Ao22 t212.length co22)) ∧ (Kd.R (Kd.int .u64) 37 w' w.heap.size (fun k_ => some k_ ≠ (s_.1 : Value).ownBlock) (.slice Ao22 t212.length co22) t212) ∧ (Kd.R (Kd.int .u64) 37 w' w.heap.size (fun k_ => some k_ ≠ (.slice Ao22 t212.length co22 : Value).ownBlock) s_.1 t218) ∧ (Kd.V (Kd.int .u64) 37 w' w.heap.size (fun k_ => some k_ ≠ (.slice Ao22 t212.length co22 : Value).ownBlock ∧ k_ ≠ gb215) s_.2 t222) ∧ (w'.heap[gb215]? = some (.cells #[.bool t211, .slice Ao22 t212.length co22] 51 (0, 0))) ∧ (Below w.heap.size w w')) ?_ ?_
                      rotate_left
                      · intro hJ3_4_5
                        refine join_ (σ := Value × Nat) 5 #[true, true, true, true, true, false, false, true, true, false, false, true, false] (fun s_ => [(31, .int .i64 t216), (32, .agg #[.bool t217, s_.1]), (9, .pointer (some ⟨s_.2, 0, none⟩))]) (fun s_ w' => (w'.cell? ⟨gb215, 0, none⟩ = some (.bool t211) ∧ w'.cell? ⟨gb215, 1, none⟩ = some (.slice Ao22 t212.length co22)) ∧ (Kd.R (Kd.int .u64) 37 w' w.heap.size (fun k_ => some k_ ≠ (s_.1 : Value).ownBlock) (.slice Ao22 t212.length co22) t212) ∧ (Kd.R (Kd.int .u64) 37 w' w.heap.size (fun k_ => some k_ ≠ (.slice Ao22 t212.length co22 : Value).ownBlock) s_.1 t218) ∧ (w'.heap[gb215]? = some (.cells #[.bool t211, .slice Ao22 t212.length co22] 51 (0, 0))) ∧ (w'.heap[s_.2]? = some (.cells #[.bool false, .slice none 0 0] 51 (0, 0))) ∧ (w.heap.size ≤ s_.2) ∧ (w.heap.size ≤ s_.2) ∧ (gb215 ≠ s_.2) ∧ (s_.2 ≠ gb215) ∧ (Below w.heap.size w w')) ?_ ?_
                        rotate_left
                        · intro hJ3_4_11
                          refine join_ (σ := Value) 6 #[true, true, true, true, true, false, false, true, true, false, false, false, false] (fun s_ => [(31, .int .i64 t216), (32, .agg #[.bool t217, s_])]) (fun s_ w' => (w'.cell? ⟨gb215, 0, none⟩ = some (.bool t211) ∧ w'.cell? ⟨gb215, 1, none⟩ = some (.slice Ao22 t212.length co22)) ∧ (Kd.R (Kd.int .u64) 37 w' w.heap.size (fun k_ => some k_ ≠ (s_ : Value).ownBlock) (.slice Ao22 t212.length co22) t212) ∧ (Kd.R (Kd.int .u64) 37 w' w.heap.size (fun k_ => some k_ ≠ (.slice Ao22 t212.length co22 : Value).ownBlock) s_ t218) ∧ (w'.heap[gb215]? = some (.cells #[.bool t211, .slice Ao22 t212.length co22] 51 (0, 0))) ∧ (Below w.heap.size w w')) ?_ ?_
                          rotate_left
                          · intro hJ3_4
                            refine join_ (σ := Nat) 6 #[true, true, true, true, false, false, false, true, true, false, false, true, false] (fun s_ => [(31, .int .i64 t216), (9, .pointer (some ⟨s_, 0, none⟩))]) (fun s_ w' => (w'.cell? ⟨gb215, 0, none⟩ = some (.bool t211) ∧ w'.cell? ⟨gb215, 1, none⟩ = some (.slice Ao22 t212.length co22)) ∧ (Kd.R (Kd.int .u64) 37 w' w.heap.size (fun _ => True) (.slice Ao22 t212.length co22) t212) ∧ (w'.heap[gb215]? = some (.cells #[.bool t211, .slice Ao22 t212.length co22] 51 (0, 0))) ∧ (w'.heap[s_]? = some (.cells #[.bool false, .slice none 0 0] 51 (0, 0))) ∧ (w.heap.size ≤ s_) ∧ (w.heap.size ≤ s_) ∧ (gb215 ≠ s_) ∧ (s_ ≠ gb215) ∧ (Below w.heap.size w w')) ?_ ?_
                            rotate_left
                            · intro hJ3_11
                              refine join_ (σ := Unit) 7 #[true, true, true, true, false, false, false, true, true, false, false, false, false] (fun s_ => [(31, .int .i64 t216)]) (fun s_ w' => (w'.cell? ⟨gb215, 0, none⟩ = some (.bool t211) ∧ w'.cell? ⟨gb215, 1, none⟩ = some (.slice Ao22 t212.length co22)) ∧ (Kd.R (Kd.int .u64) 37 w' w.heap.size (fun _ => True) (.slice Ao22 t212.length co22) t212) ∧ (w'.heap[gb215]? = some (.cells #[.bool t211, .slice Ao22 t212.length co22] 51 (0, 0))) ∧ (Below w.heap.size w w')) ?_ ?_
                              rotate_left
                              · intro hJ3
                                refine join_ (σ := Nat) 7 #[true, true, true, false, false, false, false, true, true, false, false, true, false] (fun s_ => [(9, .pointer (some ⟨s_, 0, none⟩))]) (fun s_ w' => (w'.cell? ⟨gb215, 0, none⟩ = some (.bool t211) ∧ w'.cell? ⟨gb215, 1, none⟩ = some (.slice Ao22 t212.length co22)) ∧ (Kd.R (Kd.int .u64) 37 w' w.heap.size (fun _ => True) (.slice Ao22 t212.length co22) t212) ∧ (w'.heap[gb215]? = some (.cells #[.bool t211, .slice Ao22 t212.length co22] 51 (0, 0))) ∧ (w'.heap[s_]? = some (.cells #[.bool false, .slice none 0 0] 51 (0, 0))) ∧ (w.heap.size ≤ s_) ∧ (w.heap.size ≤ s_) ∧ (gb215 ≠ s_) ∧ (s_ ≠ gb215) ∧ (Below w.heap.size w w')) ?_ ?_
                                rotate_left
                                · intro hJ11
                                  refine two_ (i := 3) (j := 11) (Ni := some 31) (Nj := some 9) #[true, true, true, true, false, false, false, true, true, false, false, false, false] #[true, true, true, false, false, false, false, true, true, false, false, true, false] rfl rfl rfl rfl (two_of HT_.out (by kernel_rfl)) (by decide) (by decide) (fun K hK => ?_) (fun K hK => ?_)
                                  · skip
                                    refine goes_ Try.func9 (by kernel_rfl) rfl #[.int .i64 a2, .int .i64 a1] (by rfl) rfl rfl (by (try simp only [List.map_toArray, List.map_cons, List.map_nil]); first | done | rfl | (simp only [List.length_drop, List.length_take]; rfl) | (refine congrArg (fun z_ => #[Value.int IntKind.i64 z_]) (?_ : Go.RowKit.wrap64 (IntKind.u8.wrap _) = _); rw [IntKind.wrap_u8]; unfold Go.RowKit.wrap64; omega)) ?_
                                    with_reducible refine (horologeref13_Fold.calls kj3 a2 a1 t216 _ A12.out).mono ?_
                                    rintro e w' ⟨rfl, ⟨nd, rfl⟩⟩
                                    refine ⟨_, rfl, ?_⟩
                                    refine hK.out _ _ ⟨(blk_cell BK215.out 0).trans rfl, (blk_cell BK215.out 1).trans rfl⟩ (fun hHeld => ?_)
                                    clear hK K
                                    refine norm_ (a' := ?_) ?_ ?_
                                    rotate_left
                                    · show Act.put _ (some 31) _ = _
                                      simp only [Act.put, List.setIfInBounds_toArray, List.set_cons_zero, List.set_cons_succ, i64_w, i32_w]
                                      rfl
                                    exact norm_ (by first | (simp only [putAll, Act.put, List.setIfInBounds_toArray, List.set_cons_zero, List.set_cons_succ]; done) | (simp only [putAll, Act.put, List.setIfInBounds_toArray, List.set_cons_zero, List.set_cons_succ]; rfl)) (hJ3 () _ ⟨hHeld, (by (with_reducible repeat (first | apply Kd.R_alloc | apply Kd.R_drewN | apply Kd.R_drew)); exact HO214.out), (by (with_reducible repeat (first | refine blk_drewN ?_ _ | refine blk_drew ?_ | refine blk_alloc ?_ _)); exact BK215.out), (by repeat (first | (with_reducible first | exact HB.out | apply below_alloc | apply pw_below_drewN | apply below_drew1 | refine below_set ?_ GE215.out) | exact HB.out))⟩)
                                  · skip
                                    refine box_step ?hg (N := 9) ?hd (cs := #[.bool false, .slice none 0 0]) (t := 51) ?hr ?_; (case hd => rfl); (case hg => rfl); (case hr => first | (go_simp; done) | (go_simp; rfl))
                                    intro gb237 hg w25 hbox hb
                                    have n0_ := Aside0.mk (Kd.R_below (by (with_reducible repeat (first | apply Kd.R_alloc | apply Kd.R_drewN | apply Kd.R_drew)); exact HO214.out) hb)
                                    have n1_ := Aside0.mk (blk_below (g := gb215) (o := .cells #[.bool t211, .slice Ao22 t212.length co22] 51 (0, 0)) (by (with_reducible repeat (first | refine blk_drewN ?_ _ | refine blk_drew ?_ | refine blk_alloc ?_ _)); exact BK215.out) hb)
                                    have n2_ := Aside0.mk (below_step (by repeat (first | (with_reducible first | exact HB.out | apply below_alloc | apply pw_below_drewN | apply below_drew1 | refine below_set ?_ GE215.out) | exact HB.out)) hb)
                                    have n3_ := Aside0.mk (hbox)
                                    have n4_ := Aside0.mk ((by rw [hg]; exact (below_size (by repeat (first | (with_reducible first | exact HB.out | apply below_alloc | apply pw_below_drewN | apply below_drew1 | refine below_set ?_ GE215.out) | exact HB.out))) : w.heap.size ≤ gb237))
                                    have n5_ := Aside0.mk ((by rw [hg]; exact (below_size (by repeat (first | (with_reducible first | exact HB.out | apply below_alloc | apply pw_below_drewN | apply below_drew1 | refine below_set ?_ GE215.out) | exact HB.out))) : w.heap.size ≤ gb237))
                                    have n6_ := Aside0.mk ((by rw [hg]; exact Nat.ne_of_lt (blk_lt (g := gb215) (o := .cells #[.bool t211, .slice Ao22 t212.length co22] 51 (0, 0)) (by (with_reducible repeat (first | refine blk_drewN ?_ _ | refine blk_drew ?_ | refine blk_alloc ?_ _)); exact BK215.out)) : gb215 ≠ gb237))
                                    have n7_ := Aside0.mk ((by rw [hg]; exact Nat.ne_of_gt (blk_lt (g := gb215) (o := .cells #[.bool t211, .slice Ao22 t212.length co22] 51 (0, 0)) (by (with_reducible repeat (first | refine blk_drewN ?_ _ | refine blk_drew ?_ | refine blk_alloc ?_ _)); exact BK215.out)) : gb237 ≠ gb215))
                                    clear HO214
                                    clear BK215
                                    clear HB
                                    have HO214 := n0_
                                    have BK215 := n1_
                                    have HB := n2_
                                    have BK237 := n3_
                                    have GW237 := n4_
                                    have GE237 := n5_
                                    have NB215_237 := n6_
                                    have NB237_215 := n7_
                                    clear n0_ n1_ n2_ n3_ n4_ n5_ n6_ n7_
                                    clear hb hbox hg
                                    refine hK.out _ _ ⟨(blk_cell BK215.out 0).trans rfl, (blk_cell BK215.out 1).trans rfl⟩ (fun hHeld => ?_)
                                    clear hK K
                                    refine norm_ (a' := ?_) ?_ ?_
                                    rotate_left
                                    · show Act.put _ (some 9) _ = _
                                      simp only [Act.put, List.setIfInBounds_toArray, List.set_cons_zero, List.set_cons_succ, i64_w, i32_w]
                                      rfl
                                    exact norm_ (by first | (simp only [putAll, Act.put, List.setIfInBounds_toArray, List.set_cons_zero, List.set_cons_succ]; done) | (simp only [putAll, Act.put, List.setIfInBounds_toArray, List.set_cons_zero, List.set_cons_succ]; rfl)) (hJ11 (gb237) _ ⟨hHeld, (by (with_reducible repeat (first | apply Kd.R_alloc | apply Kd.R_drewN | apply Kd.R_drew)); exact HO214.out), (by (with_reducible repeat (first | refine blk_drewN ?_ _ | refine blk_drew ?_ | refine blk_alloc ?_ _)); exact BK215.out), (by (with_reducible repeat (first | refine blk_drewN ?_ _ | refine blk_drew ?_ | refine blk_alloc ?_ _)); exact BK237.out), GW237.out, GE237.out, NB215_237.out, NB237_215.out, (by repeat (first | (with_reducible first | exact HB.out | apply below_alloc | apply pw_below_drewN | apply below_drew1 | refine below_set ?_ GE215.out | refine below_set ?_ GE237.out) | exact HB.out))⟩)
                                · skip
                                  rintro gb237 w26 ⟨hS_, h0_, h1_, h2_, h3_, h4_, h5_, h6_, h7_⟩
                                  have n0_ : Aside0 (Kd.R (Kd.int .u64) 37 w26 w.heap.size (fun _ => True) (.slice Ao22 t212.length co22) t212) := ⟨h0_⟩
                                  have n1_ : Aside0 (w26.heap[gb215]? = some (.cells #[.bool t211, .slice Ao22 t212.length co22] 51 (0, 0))) := ⟨h1_⟩
                                  have n2_ : Aside0 (w26.heap[gb237]? = some (.cells #[.bool false, .slice none 0 0] 51 (0, 0))) := ⟨h2_⟩
                                  have n3_ : Aside0 (w.heap.size ≤ gb237) := ⟨h3_⟩
                                  have n4_ : Aside0 (w.heap.size ≤ gb237) := ⟨h4_⟩
                                  have n5_ : Aside0 (gb215 ≠ gb237) := ⟨h5_⟩
                                  have n6_ : Aside0 (gb237 ≠ gb215) := ⟨h6_⟩
                                  have n7_ : Aside0 (Below w.heap.size w w26) := ⟨h7_⟩
                                  clear HO214
                                  clear BK215
                                  clear HB
                                  clear h0_ h1_ h2_ h3_ h4_ h5_ h6_ h7_
                                  have HO214 := n0_
                                  have BK215 := n1_
                                  have BK237 := n2_
                                  have GW237 := n3_
                                  have GE237 := n4_
                                  have NB215_237 := n5_
                                  have NB237_215 := n6_
                                  have HB := n7_
                                  clear n0_ n1_ n2_ n3_ n4_ n5_ n6_ n7_
                                  have hHeld : w26.cell? ⟨gb215, 0, none⟩ = some (.bool t211) ∧ w26.cell? ⟨gb215, 1, none⟩ = some (.slice Ao22 t212.length co22) := hS_
                                  refine norm_ (a' := ?_) ?_ ?_
                                  rotate_left
                                  · simp only [putAll, Act.put, List.setIfInBounds_toArray, List.set_cons_zero, List.set_cons_succ]
                                    rfl
                                  refine one_ (i := 3) (N := some 31) #[true, true, true, true, false, false, false, true, true, false, false, true, false] rfl rfl (one_of HT_.out (by kernel_rfl)) (by decide) (fun K hK => ?_)
                                  refine goes_ Try.func9 (by kernel_rfl) rfl #[.int .i64 a2, .int .i64 a1] (by rfl) rfl rfl (by (try simp only [List.map_toArray, List.map_cons, List.map_nil]); first | done | rfl | (simp only [List.length_drop, List.length_take]; rfl) | (refine congrArg (fun z_ => #[Value.int IntKind.i64 z_]) (?_ : Go.RowKit.wrap64 (IntKind.u8.wrap _) = _); rw [IntKind.wrap_u8]; unfold Go.RowKit.wrap64; omega)) ?_
                                  with_reducible refine (horologeref13_Fold.calls kj3 a2 a1 t216 _ A12.out).mono ?_
                                  rintro e w' ⟨rfl, ⟨nd, rfl⟩⟩
                                  refine ⟨_, rfl, ?_⟩
                                  refine hK.out _ _ ⟨(blk_cell BK215.out 0).trans rfl, (blk_cell BK215.out 1).trans rfl⟩ (fun hHeld => ?_)
                                  clear hK K
                                  refine norm_ (a' := ?_) ?_ ?_
                                  rotate_left
                                  · show Act.put _ (some 31) _ = _
                                    simp only [Act.put, List.setIfInBounds_toArray, List.set_cons_zero, List.set_cons_succ, i64_w, i32_w]
                                    rfl
                                  exact norm_ (by first | (simp only [putAll, Act.put, List.setIfInBounds_toArray, List.set_cons_zero, List.set_cons_succ]; done) | (simp only [putAll, Act.put, List.setIfInBounds_toArray, List.set_cons_zero, List.set_cons_succ]; rfl)) (hJ3_11 (gb237) _ ⟨hHeld, (by (with_reducible repeat (first | apply Kd.R_alloc | apply Kd.R_drewN | apply Kd.R_drew)); exact HO214.out), (by (with_reducible repeat (first | refine blk_drewN ?_ _ | refine blk_drew ?_ | refine blk_alloc ?_ _)); exact BK215.out), (by (with_reducible repeat (first | refine blk_drewN ?_ _ | refine blk_drew ?_ | refine blk_alloc ?_ _)); exact BK237.out), GW237.out, GE237.out, NB215_237.out, NB237_215.out, (by repeat (first | (with_reducible first | exact HB.out | apply below_alloc | apply pw_below_drewN | apply below_drew1 | refine below_set ?_ GE215.out | refine below_set ?_ GE237.out) | exact HB.out))⟩)
                              · skip
                                rintro _ w25 ⟨hS_, h0_, h1_, h2_⟩
                                have n0_ : Aside0 (Kd.R (Kd.int .u64) 37 w25 w.heap.size (fun _ => True) (.slice Ao22 t212.length co22) t212) := ⟨h0_⟩
                                have n1_ : Aside0 (w25.heap[gb215]? = some (.cells #[.bool t211, .slice Ao22 t212.length co22] 51 (0, 0))) := ⟨h1_⟩
                                have n2_ : Aside0 (Below w.heap.size w w25) := ⟨h2_⟩
                                clear HO214
                                clear BK215
                                clear HB
                                clear h0_ h1_ h2_
                                have HO214 := n0_
                                have BK215 := n1_
                                have HB := n2_
                                clear n0_ n1_ n2_
                                have hHeld : w25.cell? ⟨gb215, 0, none⟩ = some (.bool t211) ∧ w25.cell? ⟨gb215, 1, none⟩ = some (.slice Ao22 t212.length co22) := hS_
                                refine norm_ (a' := ?_) ?_ ?_
                                rotate_left
                                · simp only [putAll, Act.put, List.setIfInBounds_toArray, List.set_cons_zero, List.set_cons_succ]
                                  rfl
                                refine two_ (i := 4) (j := 11) (Ni := some 32) (Nj := some 9) #[true, true, true, true, true, false, false, true, true, false, false, false, false] #[true, true, true, true, false, false, false, true, true, false, false, true, false] rfl rfl rfl rfl (two_of HT_.out (by kernel_rfl)) (by decide) (by decide) (fun K hK => ?_) (fun K hK => ?_)
                                · skip
                                  refine goes_ Try.func22 (by kernel_rfl) rfl #[.int .i64 t216] (by rfl) rfl rfl (by (try simp only [List.map_toArray, List.map_cons, List.map_nil]); first | done | rfl | (simp only [List.length_drop, List.length_take]; rfl) | (refine congrArg (fun z_ => #[Value.int IntKind.i64 z_]) (?_ : Go.RowKit.wrap64 (IntKind.u8.wrap _) = _); rw [IntKind.wrap_u8]; unfold Go.RowKit.wrap64; omega)) ?_
                                  with_reducible refine (horologeref01_Of.calls kj3 t216 t217 t218 _ A13.out).mono ?_
                                  rintro e w26 ⟨v219, rfl, ho0, hb⟩
                                  refine ⟨_, rfl, ?_⟩
                                  have n0_ := Aside0.mk (Kd.R_elder' (by (with_reducible repeat (first | apply Kd.R_alloc | apply Kd.R_drewN | apply Kd.R_drew)); exact HO214.out) (Kd.R_base ho0) hb)
                                  have n1_ := Aside0.mk (Kd.R_lower (Kd.R_new' ho0 (Kd.R_lt (by (with_reducible repeat (first | apply Kd.R_alloc | apply Kd.R_drewN | apply Kd.R_drew)); exact HO214.out))) (below_size (by repeat (first | (with_reducible first | exact HB.out | apply below_alloc | apply pw_below_drewN | apply below_drew1 | refine below_set ?_ GE215.out) | exact HB.out))))
                                  have n2_ := Aside0.mk (blk_below (g := gb215) (o := .cells #[.bool t211, .slice Ao22 t212.length co22] 51 (0, 0)) (by (with_reducible repeat (first | refine blk_drewN ?_ _ | refine blk_drew ?_ | refine blk_alloc ?_ _)); exact BK215.out) hb)
                                  have n3_ := Aside0.mk (below_step (by repeat (first | (with_reducible first | exact HB.out | apply below_alloc | apply pw_below_drewN | apply below_drew1 | refine below_set ?_ GE215.out) | exact HB.out)) hb)
                                  clear HO214
                                  clear BK215
                                  clear HB
                                  have HO214 := n0_
                                  have HO220 := n1_
                                  have BK215 := n2_
                                  have HB := n3_
                                  clear n0_ n1_ n2_ n3_
                                  (try clear hb)
                                  (try clear hb2)
                                  (try clear hk)
                                  (try clear hi)
                                  (try clear ho0)
                                  refine hK.out _ _ ⟨(blk_cell BK215.out 0).trans rfl, (blk_cell BK215.out 1).trans rfl⟩ (fun hHeld => ?_)
                                  clear hK K
                                  refine norm_ (a' := ?_) ?_ ?_
                                  rotate_left
                                  · show Act.put _ (some 32) _ = _
                                    simp only [Act.put, List.setIfInBounds_toArray, List.set_cons_zero, List.set_cons_succ, i64_w, i32_w]
                                    rfl
                                  exact norm_ (by first | (simp only [putAll, Act.put, List.setIfInBounds_toArray, List.set_cons_zero, List.set_cons_succ]; done) | (simp only [putAll, Act.put, List.setIfInBounds_toArray, List.set_cons_zero, List.set_cons_succ]; rfl)) (hJ3_4 (v219) _ ⟨hHeld, (by (with_reducible repeat (first | apply Kd.R_alloc | apply Kd.R_drewN | apply Kd.R_drew)); exact Kd.R_mono HO214.out (fun _ hk => hk.2)), (by (with_reducible repeat (first | apply Kd.R_alloc | apply Kd.R_drewN | apply Kd.R_drew)); exact Kd.R_mono HO220.out (fun _ hk => hk.2)), (by (with_reducible repeat (first | refine blk_drewN ?_ _ | refine blk_drew ?_ | refine blk_alloc ?_ _)); exact BK215.out), (by repeat (first | (with_reducible first | exact HB.out | apply below_alloc | apply pw_below_drewN | apply below_drew1 | refine below_set ?_ GE215.out) | exact HB.out))⟩)
                                · skip
                                  refine box_step ?hg (N := 9) ?hd (cs := #[.bool false, .slice none 0 0]) (t := 51) ?hr ?_; (case hd => rfl); (case hg => rfl); (case hr => first | (go_simp; done) | (go_simp; rfl))
                                  intro gb237 hg w26 hbox hb
                                  have n0_ := Aside0.mk (Kd.R_below (by (with_reducible repeat (first | apply Kd.R_alloc | apply Kd.R_drewN | apply Kd.R_drew)); exact HO214.out) hb)
                                  have n1_ := Aside0.mk (blk_below (g := gb215) (o := .cells #[.bool t211, .slice Ao22 t212.length co22] 51 (0, 0)) (by (with_reducible repeat (first | refine blk_drewN ?_ _ | refine blk_drew ?_ | refine blk_alloc ?_ _)); exact BK215.out) hb)
                                  have n2_ := Aside0.mk (below_step (by repeat (first | (with_reducible first | exact HB.out | apply below_alloc | apply pw_below_drewN | apply below_drew1 | refine below_set ?_ GE215.out) | exact HB.out)) hb)
                                  have n3_ := Aside0.mk (hbox)
                                  have n4_ := Aside0.mk ((by rw [hg]; exact (below_size (by repeat (first | (with_reducible first | exact HB.out | apply below_alloc | apply pw_below_drewN | apply below_drew1 | refine below_set ?_ GE215.out) | exact HB.out))) : w.heap.size ≤ gb237))
                                  have n5_ := Aside0.mk ((by rw [hg]; exact (below_size (by repeat (first | (with_reducible first | exact HB.out | apply below_alloc | apply pw_below_drewN | apply below_drew1 | refine below_set ?_ GE215.out) | exact HB.out))) : w.heap.size ≤ gb237))
                                  have n6_ := Aside0.mk ((by rw [hg]; exact Nat.ne_of_lt (blk_lt (g := gb215) (o := .cells #[.bool t211, .slice Ao22 t212.length co22] 51 (0, 0)) (by (with_reducible repeat (first | refine blk_drewN ?_ _ | refine blk_drew ?_ | refine blk_alloc ?_ _)); exact BK215.out)) : gb215 ≠ gb237))
                                  have n7_ := Aside0.mk ((by rw [hg]; exact Nat.ne_of_gt (blk_lt (g := gb215) (o := .cells #[.bool t211, .slice Ao22 t212.length co22] 51 (0, 0)) (by (with_reducible repeat (first | refine blk_drewN ?_ _ | refine blk_drew ?_ | refine blk_alloc ?_ _)); exact BK215.out)) : gb237 ≠ gb215))
                                  clear HO214
                                  clear BK215
                                  clear HB
                                  have HO214 := n0_
                                  have BK215 := n1_
                                  have HB := n2_
                                  have BK237 := n3_
                                  have GW237 := n4_
                                  have GE237 := n5_
                                  have NB215_237 := n6_
                                  have NB237_215 := n7_
                                  clear n0_ n1_ n2_ n3_ n4_ n5_ n6_ n7_
                                  clear hb hbox hg
                                  refine hK.out _ _ ⟨(blk_cell BK215.out 0).trans rfl, (blk_cell BK215.out 1).trans rfl⟩ (fun hHeld => ?_)
                                  clear hK K
                                  refine norm_ (a' := ?_) ?_ ?_
                                  rotate_left
                                  · show Act.put _ (some 9) _ = _
                                    simp only [Act.put, List.setIfInBounds_toArray, List.set_cons_zero, List.set_cons_succ, i64_w, i32_w]
                                    rfl
                                  exact norm_ (by first | (simp only [putAll, Act.put, List.setIfInBounds_toArray, List.set_cons_zero, List.set_cons_succ]; done) | (simp only [putAll, Act.put, List.setIfInBounds_toArray, List.set_cons_zero, List.set_cons_succ]; rfl)) (hJ3_11 (gb237) _ ⟨hHeld, (by (with_reducible repeat (first | apply Kd.R_alloc | apply Kd.R_drewN | apply Kd.R_drew)); exact HO214.out), (by (with_reducible repeat (first | refine blk_drewN ?_ _ | refine blk_drew ?_ | refine blk_alloc ?_ _)); exact BK215.out), (by (with_reducible repeat (first | refine blk_drewN ?_ _ | refine blk_drew ?_ | refine blk_alloc ?_ _)); exact BK237.out), GW237.out, GE237.out, NB215_237.out, NB237_215.out, (by repeat (first | (with_reducible first | exact HB.out | apply below_alloc | apply pw_below_drewN | apply below_drew1 | refine below_set ?_ GE215.out | refine below_set ?_ GE237.out) | exact HB.out))⟩)
                            · skip
                              rintro gb237 w26 ⟨hS_, h0_, h1_, h2_, h3_, h4_, h5_, h6_, h7_⟩
                              have n0_ : Aside0 (Kd.R (Kd.int .u64) 37 w26 w.heap.size (fun _ => True) (.slice Ao22 t212.length co22) t212) := ⟨h0_⟩
                              have n1_ : Aside0 (w26.heap[gb215]? = some (.cells #[.bool t211, .slice Ao22 t212.length co22] 51 (0, 0))) := ⟨h1_⟩
                              have n2_ : Aside0 (w26.heap[gb237]? = some (.cells #[.bool false, .slice none 0 0] 51 (0, 0))) := ⟨h2_⟩
                              have n3_ : Aside0 (w.heap.size ≤ gb237) := ⟨h3_⟩
                              have n4_ : Aside0 (w.heap.size ≤ gb237) := ⟨h4_⟩
                              have n5_ : Aside0 (gb215 ≠ gb237) := ⟨h5_⟩
                              have n6_ : Aside0 (gb237 ≠ gb215) := ⟨h6_⟩
                              have n7_ : Aside0 (Below w.heap.size w w26) := ⟨h7_⟩
                              clear HO214
                              clear BK215
                              clear HB
                              clear h0_ h1_ h2_ h3_ h4_ h5_ h6_ h7_
                              have HO214 := n0_
                              have BK215 := n1_
                              have BK237 := n2_
                              have GW237 := n3_
                              have GE237 := n4_
                              have NB215_237 := n5_
                              have NB237_215 := n6_
                              have HB := n7_
                              clear n0_ n1_ n2_ n3_ n4_ n5_ n6_ n7_
                              have hHeld : w26.cell? ⟨gb215, 0, none⟩ = some (.bool t211) ∧ w26.cell? ⟨gb215, 1, none⟩ = some (.slice Ao22 t212.length co22) := hS_
                              refine norm_ (a' := ?_) ?_ ?_
                              rotate_left
                              · simp only [putAll, Act.put, List.setIfInBounds_toArray, List.set_cons_zero, List.set_cons_succ]
                                rfl
                              refine one_ (i := 4) (N := some 32) #[true, true, true, true, true, false, false, true, true, false, false, true, false] rfl rfl (one_of HT_.out (by kernel_rfl)) (by decide) (fun K hK => ?_)
                              refine goes_ Try.func22 (by kernel_rfl) rfl #[.int .i64 t216] (by rfl) rfl rfl (by (try simp only [List.map_toArray, List.map_cons, List.map_nil]); first | done | rfl | (simp only [List.length_drop, List.length_take]; rfl) | (refine congrArg (fun z_ => #[Value.int IntKind.i64 z_]) (?_ : Go.RowKit.wrap64 (IntKind.u8.wrap _) = _); rw [IntKind.wrap_u8]; unfold Go.RowKit.wrap64; omega)) ?_
                              with_reducible refine (horologeref01_Of.calls kj3 t216 t217 t218 _ A13.out).mono ?_
                              rintro e w27 ⟨v219, rfl, ho0, hb⟩
                              refine ⟨_, rfl, ?_⟩
                              have n0_ := Aside0.mk (Kd.R_elder' (by (with_reducible repeat (first | apply Kd.R_alloc | apply Kd.R_drewN | apply Kd.R_drew)); exact HO214.out) (Kd.R_base ho0) hb)
                              have n1_ := Aside0.mk (Kd.R_lower (Kd.R_new' ho0 (Kd.R_lt (by (with_reducible repeat (first | apply Kd.R_alloc | apply Kd.R_drewN | apply Kd.R_drew)); exact HO214.out))) (below_size (by repeat (first | (with_reducible first | exact HB.out | apply below_alloc | apply pw_below_drewN | apply below_drew1 | refine below_set ?_ GE215.out | refine below_set ?_ GE237.out) | exact HB.out))))
                              have n2_ := Aside0.mk (blk_below (g := gb215) (o := .cells #[.bool t211, .slice Ao22 t212.length co22] 51 (0, 0)) (by (with_reducible repeat (first | refine blk_drewN ?_ _ | refine blk_drew ?_ | refine blk_alloc ?_ _)); exact BK215.out) hb)
                              have n3_ := Aside0.mk (blk_below (g := gb237) (o := .cells #[.bool false, .slice none 0 0] 51 (0, 0)) (by (with_reducible repeat (first | refine blk_drewN ?_ _ | refine blk_drew ?_ | refine blk_alloc ?_ _)); exact BK237.out) hb)
                              have n4_ := Aside0.mk (below_step (by repeat (first | (with_reducible first | exact HB.out | apply below_alloc | apply pw_below_drewN | apply below_drew1 | refine below_set ?_ GE215.out | refine below_set ?_ GE237.out) | exact HB.out)) hb)
                              clear HO214
                              clear BK215
                              clear BK237
                              clear HB
                              have HO214 := n0_
                              have HO220 := n1_
                              have BK215 := n2_
                              have BK237 := n3_
                              have HB := n4_
                              clear n0_ n1_ n2_ n3_ n4_
                              (try clear hb)
                              (try clear hb2)
                              (try clear hk)
                              (try clear hi)
                              (try clear ho0)
                              refine hK.out _ _ ⟨(blk_cell BK215.out 0).trans rfl, (blk_cell BK215.out 1).trans rfl⟩ (fun hHeld => ?_)
                              clear hK K
                              refine norm_ (a' := ?_) ?_ ?_
                              rotate_left
                              · show Act.put _ (some 32) _ = _
                                simp only [Act.put, List.setIfInBounds_toArray, List.set_cons_zero, List.set_cons_succ, i64_w, i32_w]
                                rfl
                              exact norm_ (by first | (simp only [putAll, Act.put, List.setIfInBounds_toArray, List.set_cons_zero, List.set_cons_succ]; done) | (simp only [putAll, Act.put, List.setIfInBounds_toArray, List.set_cons_zero, List.set_cons_succ]; rfl)) (hJ3_4_11 (v219, gb237) _ ⟨hHeld, (by (with_reducible repeat (first | apply Kd.R_alloc | apply Kd.R_drewN | apply Kd.R_drew)); exact Kd.R_mono HO214.out (fun _ hk => hk.2)), (by (with_reducible repeat (first | apply Kd.R_alloc | apply Kd.R_drewN | apply Kd.R_drew)); exact Kd.R_mono HO220.out (fun _ hk => hk.2)), (by (with_reducible repeat (first | refine blk_drewN ?_ _ | refine blk_drew ?_ | refine blk_alloc ?_ _)); exact BK215.out), (by (with_reducible repeat (first | refine blk_drewN ?_ _ | refine blk_drew ?_ | refine blk_alloc ?_ _)); exact BK237.out), GW237.out, GE237.out, NB215_237.out, NB237_215.out, (by repeat (first | (with_reducible first | exact HB.out | apply below_alloc | apply pw_below_drewN | apply below_drew1 | refine below_set ?_ GE215.out | refine below_set ?_ GE237.out) | exact HB.out))⟩)
                          · skip
                            rintro v219 w26 ⟨hS_, h0_, h1_, h2_, h3_⟩
                            have n0_ : Aside0 (Kd.R (Kd.int .u64) 37 w26 w.heap.size (fun k_ => some k_ ≠ (v219 : Value).ownBlock) (.slice Ao22 t212.length co22) t212) := ⟨h0_⟩
                            have n1_ : Aside0 (Kd.R (Kd.int .u64) 37 w26 w.heap.size (fun k_ => some k_ ≠ (.slice Ao22 t212.length co22 : Value).ownBlock) v219 t218) := ⟨h1_⟩
                            have n2_ : Aside0 (w26.heap[gb215]? = some (.cells #[.bool t211, .slice Ao22 t212.length co22] 51 (0, 0))) := ⟨h2_⟩
                            have n3_ : Aside0 (Below w.heap.size w w26) := ⟨h3_⟩
                            clear HO214
                            clear BK215
                            clear HB
                            clear h0_ h1_ h2_ h3_
                            have HO214 := n0_
                            have HO220 := n1_
                            have BK215 := n2_
                            have HB := n3_
                            clear n0_ n1_ n2_ n3_
                            have hHeld : w26.cell? ⟨gb215, 0, none⟩ = some (.bool t211) ∧ w26.cell? ⟨gb215, 1, none⟩ = some (.slice Ao22 t212.length co22) := hS_
                            obtain ⟨Ao27, co27, eo27⟩ := Kd.R_slice HO220.out
                            (first | subst eo27 | (injection eo27 with f1_ f2_ f3_; have f4_ := f1_.symm; have f5_ := f3_.symm; clear f1_ f2_ f3_; subst f4_; subst f5_))
                            refine norm_ (a' := ?_) ?_ ?_
                            rotate_left
                            · simp only [putAll, Act.put, List.setIfInBounds_toArray, List.set_cons_zero, List.set_cons_succ]
                              rfl
                            refine two_ (i := 5) (j := 11) (Ni := some 33) (Nj := some 9) #[true, true, true, true, true, true, false, true, true, false, false, false, false] #[true, true, true, true, true, false, false, true, true, false, false, true, false] rfl rfl rfl rfl (two_of HT_.out (by kernel_rfl)) (by decide) (by decide) (fun K hK => ?_) (fun K hK => ?_)
                            · skip
                              refine goes_ Try.func32 (by kernel_rfl) rfl #[.agg #[.bool t217, .slice Ao27 t218.length co27]] (by rfl) rfl rfl (by (try simp only [List.map_toArray, List.map_cons, List.map_nil]); first | done | rfl | (simp only [List.length_drop, List.length_take]; rfl) | (refine congrArg (fun z_ => #[Value.int IntKind.i64 z_]) (?_ : Go.RowKit.wrap64 (IntKind.u8.wrap _) = _); rw [IntKind.wrap_u8]; unfold Go.RowKit.wrap64; omega)) ?_
                              with_reducible refine (horologeref01_Minus.calls t217 (fun k_ => some k_ = (.slice Ao27 t218.length co27 : Value).ownBlock) _ _ t218 t221 t222 _ ?side1 A14.out).mono ?_
                              (case side1 => exact Kd.R_V (Kd.R_tight rfl (Kd.R_types (HO220.out) BK215.out (by decide))))
                              rintro e w28 ⟨v223, rfl, ho0, hb⟩
                              refine ⟨_, rfl, ?_⟩
                              have n0_ := Aside0.mk (Kd.R_below (by (with_reducible repeat (first | apply Kd.R_alloc | apply Kd.R_drewN | apply Kd.R_drew)); exact HO214.out) hb)
                              have n1_ := Aside0.mk (Kd.R_below (by (with_reducible repeat (first | apply Kd.R_alloc | apply Kd.R_drewN | apply Kd.R_drew)); exact HO220.out) hb)
                              have n2_ := Aside0.mk (Kd.V_lower (Kd.V_mono (ok' := fun k_ => some k_ ≠ (.slice Ao22 t212.length co22 : Value).ownBlock ∧ k_ ≠ gb215) ho0 (fun k_ hk_ => ⟨Or.elim hk_ (fun hs_ => ((Kd.R_types (HO220.out) BK215.out (by decide)).1 k_ hs_.symm).1) (fun hn_ => (Kd.fresh' (Kd.R_lt (by (with_reducible repeat (first | apply Kd.R_alloc | apply Kd.R_drewN | apply Kd.R_drew)); exact HO214.out)) k_ hn_)), Or.elim hk_ (fun hs_ => ((Kd.R_types (HO220.out) BK215.out (by decide)).1 k_ hs_.symm).2) (fun hn_ => (Kd.freshB (g := gb215) (o := .cells #[.bool t211, .slice Ao22 t212.length co22] 51 (0, 0)) (by (with_reducible repeat (first | refine blk_drewN ?_ _ | refine blk_drew ?_ | refine blk_alloc ?_ _)); exact BK215.out) k_ hn_))⟩)) (below_size (by repeat (first | (with_reducible first | exact HB.out | apply below_alloc | apply pw_below_drewN | apply below_drew1 | refine below_set ?_ GE215.out) | exact HB.out))))
                              have n3_ := Aside0.mk (blk_below (g := gb215) (o := .cells #[.bool t211, .slice Ao22 t212.length co22] 51 (0, 0)) (by (with_reducible repeat (first | refine blk_drewN ?_ _ | refine blk_drew ?_ | refine blk_alloc ?_ _)); exact BK215.out) hb)
                              have n4_ := Aside0.mk (below_step (by repeat (first | (with_reducible first | exact HB.out | apply below_alloc | apply pw_below_drewN | apply below_drew1 | refine below_set ?_ GE215.out) | exact HB.out)) hb)
                              clear HO214
                              clear HO220
                              clear BK215
                              clear HB
                              have HO214 := n0_
                              have HO220 := n1_
                              have HO224 := n2_
                              have BK215 := n3_
                              have HB := n4_
                              clear n0_ n1_ n2_ n3_ n4_
                              (try clear hb)
                              (try clear hb2)
                              (try clear hk)
                              (try clear hi)
                              (try clear ho0)
                              refine hK.out _ _ ⟨(blk_cell BK215.out 0).trans rfl, (blk_cell BK215.out 1).trans rfl⟩ (fun hHeld => ?_)
                              clear hK K
                              refine norm_ (a' := ?_) ?_ ?_
                              rotate_left
                              · show Act.put _ (some 33) _ = _
                                simp only [Act.put, List.setIfInBounds_toArray, List.set_cons_zero, List.set_cons_succ, i64_w, i32_w]
                                rfl
                              exact norm_ (by first | (simp only [putAll, Act.put, List.setIfInBounds_toArray, List.set_cons_zero, List.set_cons_succ]; done) | (simp only [putAll, Act.put, List.setIfInBounds_toArray, List.set_cons_zero, List.set_cons_succ]; rfl)) (hJ3_4_5 (.slice Ao27 t218.length co27, v223) _ ⟨hHeld, (by (with_reducible repeat (first | apply Kd.R_alloc | apply Kd.R_drewN | apply Kd.R_drew)); exact HO214.out), (by (with_reducible repeat (first | apply Kd.R_alloc | apply Kd.R_drewN | apply Kd.R_drew)); exact HO220.out), (by (with_reducible repeat (first | apply Kd.V_alloc | apply Kd.V_drewN | apply Kd.V_drew)); exact HO224.out), (by (with_reducible repeat (first | refine blk_drewN ?_ _ | refine blk_drew ?_ | refine blk_alloc ?_ _)); exact BK215.out), (by repeat (first | (with_reducible first | exact HB.out | apply below_alloc | apply pw_below_drewN | apply below_drew1 | refine below_set ?_ GE215.out) | exact HB.out))⟩)
                            · skip
                              refine box_step ?hg (N := 9) ?hd (cs := #[.bool false, .slice none 0 0]) (t := 51) ?hr ?_; (case hd => rfl); (case hg => rfl); (case hr => first | (go_simp; done) | (go_simp; rfl))
                              intro gb237 hg w27 hbox hb
                              have n0_ := Aside0.mk (Kd.R_below (by (with_reducible repeat (first | apply Kd.R_alloc | apply Kd.R_drewN | apply Kd.R_drew)); exact HO214.out) hb)
                              have n1_ := Aside0.mk (Kd.R_below (by (with_reducible repeat (first | apply Kd.R_alloc | apply Kd.R_drewN | apply Kd.R_drew)); exact HO220.out) hb)
                              have n2_ := Aside0.mk (blk_below (g := gb215) (o := .cells #[.bool t211, .slice Ao22 t212.length co22] 51 (0, 0)) (by (with_reducible repeat (first | refine blk_drewN ?_ _ | refine blk_drew ?_ | refine blk_alloc ?_ _)); exact BK215.out) hb)
                              have n3_ := Aside0.mk (below_step (by repeat (first | (with_reducible first | exact HB.out | apply below_alloc | apply pw_below_drewN | apply below_drew1 | refine below_set ?_ GE215.out) | exact HB.out)) hb)
                              have n4_ := Aside0.mk (hbox)
                              have n5_ := Aside0.mk ((by rw [hg]; exact (below_size (by repeat (first | (with_reducible first | exact HB.out | apply below_alloc | apply pw_below_drewN | apply below_drew1 | refine below_set ?_ GE215.out) | exact HB.out))) : w.heap.size ≤ gb237))
                              have n6_ := Aside0.mk ((by rw [hg]; exact (below_size (by repeat (first | (with_reducible first | exact HB.out | apply below_alloc | apply pw_below_drewN | apply below_drew1 | refine below_set ?_ GE215.out) | exact HB.out))) : w.heap.size ≤ gb237))
                              have n7_ := Aside0.mk ((by rw [hg]; exact Nat.ne_of_lt (blk_lt (g := gb215) (o := .cells #[.bool t211, .slice Ao22 t212.length co22] 51 (0, 0)) (by (with_reducible repeat (first | refine blk_drewN ?_ _ | refine blk_drew ?_ | refine blk_alloc ?_ _)); exact BK215.out)) : gb215 ≠ gb237))
                              have n8_ := Aside0.mk ((by rw [hg]; exact Nat.ne_of_gt (blk_lt (g := gb215) (o := .cells #[.bool t211, .slice Ao22 t212.length co22] 51 (0, 0)) (by (with_reducible repeat (first | refine blk_drewN ?_ _ | refine blk_drew ?_ | refine blk_alloc ?_ _)); exact BK215.out)) : gb237 ≠ gb215))
                              clear HO214
                              clear HO220
                              clear BK215
                              clear HB
                              have HO214 := n0_
                              have HO220 := n1_
                              have BK215 := n2_
                              have HB := n3_
                              have BK237 := n4_
                              have GW237 := n5_
                              have GE237 := n6_
                              have NB215_237 := n7_
                              have NB237_215 := n8_
                              clear n0_ n1_ n2_ n3_ n4_ n5_ n6_ n7_ n8_
                              clear hb hbox hg
                              refine hK.out _ _ ⟨(blk_cell BK215.out 0).trans rfl, (blk_cell BK215.out 1).trans rfl⟩ (fun hHeld => ?_)
                              clear hK K
                              refine norm_ (a' := ?_) ?_ ?_
                              rotate_left
                              · show Act.put _ (some 9) _ = _
                                simp only [Act.put, List.setIfInBounds_toArray, List.set_cons_zero, List.set_cons_succ, i64_w, i32_w]
                                rfl
                              exact norm_ (by first | (simp only [putAll, Act.put, List.setIfInBounds_toArray, List.set_cons_zero, List.set_cons_succ]; done) | (simp only [putAll, Act.put, List.setIfInBounds_toArray, List.set_cons_zero, List.set_cons_succ]; rfl)) (hJ3_4_11 ((.slice Ao27 t218.length co27), gb237) _ ⟨hHeld, (by (with_reducible repeat (first | apply Kd.R_alloc | apply Kd.R_drewN | apply Kd.R_drew)); exact HO214.out), (by (with_reducible repeat (first | apply Kd.R_alloc | apply Kd.R_drewN | apply Kd.R_drew)); exact HO220.out), (by (with_reducible repeat (first | refine blk_drewN ?_ _ | refine blk_drew ?_ | refine blk_alloc ?_ _)); exact BK215.out), (by (with_reducible repeat (first | refine blk_drewN ?_ _ | refine blk_drew ?_ | refine blk_alloc ?_ _)); exact BK237.out), GW237.out, GE237.out, NB215_237.out, NB237_215.out, (by repeat (first | (with_reducible first | exact HB.out | apply below_alloc | apply pw_below_drewN | apply below_drew1 | refine below_set ?_ GE215.out | refine below_set ?_ GE237.out) | exact HB.out))⟩)
                        · skip
                          rintro ⟨v219, gb237⟩ w27 ⟨hS_, h0_, h1_, h2_, h3_, h4_, h5_, h6_, h7_, h8_⟩
                          have n0_ : Aside0 (Kd.R (Kd.int .u64) 37 w27 w.heap.size (fun k_ => some k_ ≠ (v219 : Value).ownBlock) (.slice Ao22 t212.length co22) t212) := ⟨h0_⟩
                          have n1_ : Aside0 (Kd.R (Kd.int .u64) 37 w27 w.heap.size (fun k_ => some k_ ≠ (.slice Ao22 t212.length co22 : Value).ownBlock) v219 t218) := ⟨h1_⟩
                          have n2_ : Aside0 (w27.heap[gb215]? = some (.cells #[.bool t211, .slice Ao22 t212.length co22] 51 (0, 0))) := ⟨h2_⟩
                          have n3_ : Aside0 (w27.heap[gb237]? = some (.cells #[.bool false, .slice none 0 0] 51 (0, 0))) := ⟨h3_⟩
                          have n4_ : Aside0 (w.heap.size ≤ gb237) := ⟨h4_⟩
                          have n5_ : Aside0 (w.heap.size ≤ gb237) := ⟨h5_⟩
                          have n6_ : Aside0 (gb215 ≠ gb237) := ⟨h6_⟩
                          have n7_ : Aside0 (gb237 ≠ gb215) := ⟨h7_⟩
                          have n8_ : Aside0 (Below w.heap.size w w27) := ⟨h8_⟩
                          clear HO214
                          clear BK215
                          clear HB
                          clear h0_ h1_ h2_ h3_ h4_ h5_ h6_ h7_ h8_
                          have HO214 := n0_
                          have HO220 := n1_
                          have BK215 := n2_
                          have BK237 := n3_
                          have GW237 := n4_
                          have GE237 := n5_
                          have NB215_237 := n6_
                          have NB237_215 := n7_
                          have HB := n8_
                          clear n0_ n1_ n2_ n3_ n4_ n5_ n6_ n7_ n8_
                          have hHeld : w27.cell? ⟨gb215, 0, none⟩ = some (.bool t211) ∧ w27.cell? ⟨gb215, 1, none⟩ = some (.slice Ao22 t212.length co22) := hS_
                          obtain ⟨Ao28, co28, eo28⟩ := Kd.R_slice HO220.out
                          (first | subst eo28 | (injection eo28 with f1_ f2_ f3_; have f4_ := f1_.symm; have f5_ := f3_.symm; clear f1_ f2_ f3_; subst f4_; subst f5_))
                          refine norm_ (a' := ?_) ?_ ?_
                          rotate_left
                          · simp only [putAll, Act.put, List.setIfInBounds_toArray, List.set_cons_zero, List.set_cons_succ]
                            rfl
                          refine one_ (i := 5) (N := some 33) #[true, true, true, true, true, true, false, true, true, false, false, true, false] rfl rfl (one_of HT_.out (by kernel_rfl)) (by decide) (fun K hK => ?_)
                          refine goes_ Try.func32 (by kernel_rfl) rfl #[.agg #[.bool t217, .slice Ao28 t218.length co28]] (by rfl) rfl rfl (by (try simp only [List.map_toArray, List.map_cons, List.map_nil]); first | done | rfl | (simp only [List.length_drop, List.length_take]; rfl) | (refine congrArg (fun z_ => #[Value.int IntKind.i64 z_]) (?_ : Go.RowKit.wrap64 (IntKind.u8.wrap _) = _); rw [IntKind.wrap_u8]; unfold Go.RowKit.wrap64; omega)) ?_
                          with_reducible refine (horologeref01_Minus.calls t217 (fun k_ => some k_ = (.slice Ao28 t218.length co28 : Value).ownBlock) _ _ t218 t221 t222 _ ?side1 A14.out).mono ?_
                          (case side1 => exact Kd.R_V (Kd.R_tight rfl (Kd.R_types (Kd.R_types (HO220.out) BK215.out (by decide)) BK237.out (by decide))))
                          rintro e w29 ⟨v223, rfl, ho0, hb⟩
                          refine ⟨_, rfl, ?_⟩
                          have n0_ := Aside0.mk (Kd.R_below (by (with_reducible repeat (first | apply Kd.R_alloc | apply Kd.R_drewN | apply Kd.R_drew)); exact HO214.out) hb)
                          have n1_ := Aside0.mk (Kd.R_below (by (with_reducible repeat (first | apply Kd.R_alloc | apply Kd.R_drewN | apply Kd.R_drew)); exact HO220.out) hb)
                          have n2_ := Aside0.mk (Kd.V_lower (Kd.V_mono (ok' := fun k_ => some k_ ≠ (.slice Ao22 t212.length co22 : Value).ownBlock ∧ k_ ≠ gb215 ∧ k_ ≠ gb237) ho0 (fun k_ hk_ => ⟨Or.elim hk_ (fun hs_ => ((Kd.R_types (Kd.R_types (HO220.out) BK215.out (by decide)) BK237.out (by decide)).1 k_ hs_.symm).1.1) (fun hn_ => (Kd.fresh' (Kd.R_lt (by (with_reducible repeat (first | apply Kd.R_alloc | apply Kd.R_drewN | apply Kd.R_drew)); exact HO214.out)) k_ hn_)), Or.elim hk_ (fun hs_ => ((Kd.R_types (Kd.R_types (HO220.out) BK215.out (by decide)) BK237.out (by decide)).1 k_ hs_.symm).1.2) (fun hn_ => (Kd.freshB (g := gb215) (o := .cells #[.bool t211, .slice Ao22 t212.length co22] 51 (0, 0)) (by (with_reducible repeat (first | refine blk_drewN ?_ _ | refine blk_drew ?_ | refine blk_alloc ?_ _)); exact BK215.out) k_ hn_)), Or.elim hk_ (fun hs_ => ((Kd.R_types (Kd.R_types (HO220.out) BK215.out (by decide)) BK237.out (by decide)).1 k_ hs_.symm).2) (fun hn_ => (Kd.freshB (g := gb237) (o := .cells #[.bool false, .slice none 0 0] 51 (0, 0)) (by (with_reducible repeat (first | refine blk_drewN ?_ _ | refine blk_drew ?_ | refine blk_alloc ?_ _)); exact BK237.out) k_ hn_))⟩)) (below_size (by repeat (first | (with_reducible first | exact HB.out | apply below_alloc | apply pw_below_drewN | apply below_drew1 | refine below_set ?_ GE215.out | refine below_set ?_ GE237.out) | exact HB.out))))
                          have n3_ := Aside0.mk (blk_below (g := gb215) (o := .cells #[.bool t211, .slice Ao22 t212.length co22] 51 (0, 0)) (by (with_reducible repeat (first | refine blk_drewN ?_ _ | refine blk_drew ?_ | refine blk_alloc ?_ _)); exact BK215.out) hb)
                          have n4_ := Aside0.mk (blk_below (g := gb237) (o := .cells #[.bool false, .slice none 0 0] 51 (0, 0)) (by (with_reducible repeat (first | refine blk_drewN ?_ _ | refine blk_drew ?_ | refine blk_alloc ?_ _)); exact BK237.out) hb)
                          have n5_ := Aside0.mk (below_step (by repeat (first | (with_reducible first | exact HB.out | apply below_alloc | apply pw_below_drewN | apply below_drew1 | refine below_set ?_ GE215.out | refine below_set ?_ GE237.out) | exact HB.out)) hb)
                          clear HO214
                          clear HO220
                          clear BK215
                          clear BK237
                          clear HB
                          have HO214 := n0_
                          have HO220 := n1_
                          have HO224 := n2_
                          have BK215 := n3_
                          have BK237 := n4_
                          have HB := n5_
                          clear n0_ n1_ n2_ n3_ n4_ n5_
                          (try clear hb)
                          (try clear hb2)
                          (try clear hk)
                          (try clear hi)
                          (try clear ho0)
                          refine hK.out _ _ ⟨(blk_cell BK215.out 0).trans rfl, (blk_cell BK215.out 1).trans rfl⟩ (fun hHeld => ?_)
                          clear hK K
                          refine norm_ (a' := ?_) ?_ ?_
                          rotate_left
                          · show Act.put _ (some 33) _ = _
                            simp only [Act.put, List.setIfInBounds_toArray, List.set_cons_zero, List.set_cons_succ, i64_w, i32_w]
                            rfl
                          exact norm_ (by first | (simp only [putAll, Act.put, List.setIfInBounds_toArray, List.set_cons_zero, List.set_cons_succ]; done) | (simp only [putAll, Act.put, List.setIfInBounds_toArray, List.set_cons_zero, List.set_cons_succ]; rfl)) (hJ3_4_5_11 (.slice Ao28 t218.length co28, v223, gb237) _ ⟨hHeld, (by (with_reducible repeat (first | apply Kd.R_alloc | apply Kd.R_drewN | apply Kd.R_drew)); exact HO214.out), (by (with_reducible repeat (first | apply Kd.R_alloc | apply Kd.R_drewN | apply Kd.R_drew)); exact HO220.out), (by (with_reducible repeat (first | apply Kd.V_alloc | apply Kd.V_drewN | apply Kd.V_drew)); exact HO224.out), (by (with_reducible repeat (first | refine blk_drewN ?_ _ | refine blk_drew ?_ | refine blk_alloc ?_ _)); exact BK215.out), (by (with_reducible repeat (first | refine blk_drewN ?_ _ | refine blk_drew ?_ | refine blk_alloc ?_ _)); exact BK237.out), GW237.out, GE237.out, NB215_237.out, NB237_215.out, (by repeat (first | (with_reducible first | exact HB.out | apply below_alloc | apply pw_below_drewN | apply below_drew1 | refine below_set ?_ GE215.out | refine below_set ?_ GE237.out) | exact HB.out))⟩)
                      · skip
                        rintro ⟨v219, v223⟩ w28 ⟨hS_, h0_, h1_, h2_, h3_, h4_⟩
                        have n0_ : Aside0 (Kd.R (Kd.int .u64) 37 w28 w.heap.size (fun k_ => some k_ ≠ (v219 : Value).ownBlock) (.slice Ao22 t212.length co22) t212) := ⟨h0_⟩
                        have n1_ : Aside0 (Kd.R (Kd.int .u64) 37 w28 w.heap.size (fun k_ => some k_ ≠ (.slice Ao22 t212.length co22 : Value).ownBlock) v219 t218) := ⟨h1_⟩
                        have n2_ : Aside0 (Kd.V (Kd.int .u64) 37 w28 w.heap.size (fun k_ => some k_ ≠ (.slice Ao22 t212.length co22 : Value).ownBlock ∧ k_ ≠ gb215) v223 t222) := ⟨h2_⟩
                        have n3_ : Aside0 (w28.heap[gb215]? = some (.cells #[.bool t211, .slice Ao22 t212.length co22] 51 (0, 0))) := ⟨h3_⟩
                        have n4_ : Aside0 (Below w.heap.size w w28) := ⟨h4_⟩
                        clear HO214
                        clear BK215
                        clear HB
                        clear h0_ h1_ h2_ h3_ h4_
                        have HO214 := n0_
                        have HO220 := n1_
                        have HO224 := n2_
                        have BK215 := n3_
                        have HB := n4_
                        clear n0_ n1_ n2_ n3_ n4_
                        have hHeld : w28.cell? ⟨gb215, 0, none⟩ = some (.bool t211) ∧ w28.cell? ⟨gb215, 1, none⟩ = some (.slice Ao22 t212.length co22) := hS_
                        obtain ⟨Ao29, co29, eo29⟩ := Kd.V_slice HO224.out
                        (first | subst eo29 | (injection eo29 with f1_ f2_ f3_; have f4_ := f1_.symm; have f5_ := f3_.symm; clear f1_ f2_ f3_; subst f4_; subst f5_))
                        refine norm_ (a' := ?_) ?_ ?_
                        rotate_left
                        · simp only [putAll, Act.put, List.setIfInBounds_toArray, List.set_cons_zero, List.set_cons_succ]
                          rfl
                        refine two_ (i := 6) (j := 11) (Ni := some 34) (Nj := some 9) #[true, true, true, true, true, true, true, true, true, false, false, false, false] #[true, true, true, true, true, true, false, true, true, false, false, true, false] rfl rfl rfl rfl (two_of HT_.out (by kernel_rfl)) (by decide) (by decide) (fun K hK => ?_) (fun K hK => ?_)
                        · skip
                          refine goes_ Try.func24 (by kernel_rfl) rfl #[.agg #[.bool t211, .slice Ao22 t212.length co22], .agg #[.bool t221, .slice Ao29 t222.length co29]] (by rfl) rfl rfl (by (try simp only [List.map_toArray, List.map_cons, List.map_nil]); first | done | rfl | (simp only [List.length_drop, List.length_take]; rfl) | (refine congrArg (fun z_ => #[Value.int IntKind.i64 z_]) (?_ : Go.RowKit.wrap64 (IntKind.u8.wrap _) = _); rw [IntKind.wrap_u8]; unfold Go.RowKit.wrap64; omega)) ?_
                          with_reducible refine (horologeref01_Plus.calls kj3 t211 _ _ t212 t221 _ _ t222 t225 t226 _ ?side1 ?side2 ?side3 ?side4 A15.out).mono ?_
                          (case side1 => repeat (first | exact (Kd.R_reads' HO214.out).2.2 | (with_reducible refine Kd.C_alloc ?_ _) | (with_reducible refine Kd.C_drewN ?_ _) | (with_reducible refine Kd.C_drew ?_)))
                          (case side2 => exact (Kd.R_reads' HO214.out).2.1)
                          (case side3 => repeat (first | exact (Kd.V_reads' HO224.out).2.2 | (with_reducible refine Kd.C_alloc ?_ _) | (with_reducible refine Kd.C_drewN ?_ _) | (with_reducible refine Kd.C_drew ?_)))
                          (case side4 => exact (Kd.V_reads' HO224.out).2.1)
                          rintro e w30 ⟨v227, rfl, ho0, hb⟩
                          refine ⟨_, rfl, ?_⟩
                          have n0_ := Aside0.mk (Kd.R_below (by (with_reducible repeat (first | apply Kd.R_alloc | apply Kd.R_drewN | apply Kd.R_drew)); exact HO214.out) hb)
                          have n1_ := Aside0.mk (Kd.R_below (by (with_reducible repeat (first | apply Kd.R_alloc | apply Kd.R_drewN | apply Kd.R_drew)); exact HO220.out) hb)
                          have n2_ := Aside0.mk (Kd.V_below (by (with_reducible repeat (first | apply Kd.V_alloc | apply Kd.V_drewN | apply Kd.V_drew)); exact HO224.out) hb)
                          have n3_ := Aside0.mk (Kd.V_lower (Kd.V_mono (ok' := fun k_ => some k_ ≠ (.slice Ao22 t212.length co22 : Value).ownBlock ∧ some k_ ≠ (v219 : Value).ownBlock ∧ k_ ≠ gb215) ho0 (fun k_ hk_ => ⟨(Kd.fresh' (Kd.R_lt (by (with_reducible repeat (first | apply Kd.R_alloc | apply Kd.R_drewN | apply Kd.R_drew)); exact HO214.out)) k_ hk_), (Kd.fresh' (Kd.R_lt (by (with_reducible repeat (first | apply Kd.R_alloc | apply Kd.R_drewN | apply Kd.R_drew)); exact HO220.out)) k_ hk_), (Kd.freshB (g := gb215) (o := .cells #[.bool t211, .slice Ao22 t212.length co22] 51 (0, 0)) (by (with_reducible repeat (first | refine blk_drewN ?_ _ | refine blk_drew ?_ | refine blk_alloc ?_ _)); exact BK215.out) k_ hk_)⟩)) (below_size (by repeat (first | (with_reducible first | exact HB.out | apply below_alloc | apply pw_below_drewN | apply below_drew1 | refine below_set ?_ GE215.out) | exact HB.out))))
                          have n4_ := Aside0.mk (blk_below (g := gb215) (o := .cells #[.bool t211, .slice Ao22 t212.length co22] 51 (0, 0)) (by (with_reducible repeat (first | refine blk_drewN ?_ _ | refine blk_drew ?_ | refine blk_alloc ?_ _)); exact BK215.out) hb)
                          have n5_ := Aside0.mk (below_step (by repeat (first | (with_reducible first | exact HB.out | apply below_alloc | apply pw_below_drewN | apply below_drew1 | refine below_set ?_ GE215.out) | exact HB.out)) hb)
                          clear HO214
                          clear HO220
                          clear HO224
                          clear BK215
                          clear HB
                          have HO214 := n0_
                          have HO220 := n1_
                          have HO224 := n2_
                          have HO228 := n3_
                          have BK215 := n4_
                          have HB := n5_
                          clear n0_ n1_ n2_ n3_ n4_ n5_
                          (try clear hb)
                          (try clear hb2)
                          (try clear hk)
                          (try clear hi)
                          (try clear ho0)
                          refine hK.out _ _ ⟨(blk_cell BK215.out 0).trans rfl, (blk_cell BK215.out 1).trans rfl⟩ (fun hHeld => ?_)
                          clear hK K
                          refine norm_ (a' := ?_) ?_ ?_
                          rotate_left
                          · show Act.put _ (some 34) _ = _
                            simp only [Act.put, List.setIfInBounds_toArray, List.set_cons_zero, List.set_cons_succ, i64_w, i32_w]
                            rfl
                          exact norm_ (by first | (simp only [putAll, Act.put, List.setIfInBounds_toArray, List.set_cons_zero, List.set_cons_succ]; done) | (simp only [putAll, Act.put, List.setIfInBounds_toArray, List.set_cons_zero, List.set_cons_succ]; rfl)) (hJ3_4_5_6 (v219, .slice Ao29 t222.length co29, v227) _ ⟨hHeld, (by (with_reducible repeat (first | apply Kd.R_alloc | apply Kd.R_drewN | apply Kd.R_drew)); exact HO214.out), (by (with_reducible repeat (first | apply Kd.R_alloc | apply Kd.R_drewN | apply Kd.R_drew)); exact HO220.out), (by (with_reducible repeat (first | apply Kd.V_alloc | apply Kd.V_drewN | apply Kd.V_drew)); exact HO224.out), (by (with_reducible repeat (first | apply Kd.V_alloc | apply Kd.V_drewN | apply Kd.V_drew)); exact HO228.out), (by (with_reducible repeat (first | refine blk_drewN ?_ _ | refine blk_drew ?_ | refine blk_alloc ?_ _)); exact BK215.out), (by repeat (first | (with_reducible first | exact HB.out | apply below_alloc | apply pw_below_drewN | apply below_drew1 | refine below_set ?_ GE215.out) | exact HB.out))⟩)
                        · skip
                          refine box_step ?hg (N := 9) ?hd (cs := #[.bool false, .slice none 0 0]) (t := 51) ?hr ?_; (case hd => rfl); (case hg => rfl); (case hr => first | (go_simp; done) | (go_simp; rfl))
                          intro gb237 hg w29 hbox hb
                          have n0_ := Aside0.mk (Kd.R_below (by (with_reducible repeat (first | apply Kd.R_alloc | apply Kd.R_drewN | apply Kd.R_drew)); exact HO214.out) hb)
                          have n1_ := Aside0.mk (Kd.R_below (by (with_reducible repeat (first | apply Kd.R_alloc | apply Kd.R_drewN | apply Kd.R_drew)); exact HO220.out) hb)
                          have n2_ := Aside0.mk (Kd.V_below (Kd.V_elderB (by (with_reducible repeat (first | apply Kd.V_alloc | apply Kd.V_drewN | apply Kd.V_drew)); exact HO224.out) gb237 (Nat.le_of_eq hg.symm)) hb)
                          have n3_ := Aside0.mk (blk_below (g := gb215) (o := .cells #[.bool t211, .slice Ao22 t212.length co22] 51 (0, 0)) (by (with_reducible repeat (first | refine blk_drewN ?_ _ | refine blk_drew ?_ | refine blk_alloc ?_ _)); exact BK215.out) hb)
                          have n4_ := Aside0.mk (below_step (by repeat (first | (with_reducible first | exact HB.out | apply below_alloc | apply pw_below_drewN | apply below_drew1 | refine below_set ?_ GE215.out) | exact HB.out)) hb)
                          have n5_ := Aside0.mk (hbox)
                          have n6_ := Aside0.mk ((by rw [hg]; exact (below_size (by repeat (first | (with_reducible first | exact HB.out | apply below_alloc | apply pw_below_drewN | apply below_drew1 | refine below_set ?_ GE215.out) | exact HB.out))) : w.heap.size ≤ gb237))
                          have n7_ := Aside0.mk ((by rw [hg]; exact (below_size (by repeat (first | (with_reducible first | exact HB.out | apply below_alloc | apply pw_below_drewN | apply below_drew1 | refine below_set ?_ GE215.out) | exact HB.out))) : w.heap.size ≤ gb237))
                          have n8_ := Aside0.mk ((by rw [hg]; exact Nat.ne_of_lt (blk_lt (g := gb215) (o := .cells #[.bool t211, .slice Ao22 t212.length co22] 51 (0, 0)) (by (with_reducible repeat (first | refine blk_drewN ?_ _ | refine blk_drew ?_ | refine blk_alloc ?_ _)); exact BK215.out)) : gb215 ≠ gb237))
                          have n9_ := Aside0.mk ((by rw [hg]; exact Nat.ne_of_gt (blk_lt (g := gb215) (o := .cells #[.bool t211, .slice Ao22 t212.length co22] 51 (0, 0)) (by (with_reducible repeat (first | refine blk_drewN ?_ _ | refine blk_drew ?_ | refine blk_alloc ?_ _)); exact BK215.out)) : gb237 ≠ gb215))
                          clear HO214
                          clear HO220
                          clear HO224
                          clear BK215
                          clear HB
                          have HO214 := n0_
                          have HO220 := n1_
                          have HO224 := n2_
                          have BK215 := n3_
                          have HB := n4_
                          have BK237 := n5_
                          have GW237 := n6_
                          have GE237 := n7_
                          have NB215_237 := n8_
                          have NB237_215 := n9_
                          clear n0_ n1_ n2_ n3_ n4_ n5_ n6_ n7_ n8_ n9_
                          clear hb hbox hg
                          refine hK.out _ _ ⟨(blk_cell BK215.out 0).trans rfl, (blk_cell BK215.out 1).trans rfl⟩ (fun hHeld => ?_)
                          clear hK K
                          refine norm_ (a' := ?_) ?_ ?_
                          rotate_left
                          · show Act.put _ (some 9) _ = _
                            simp only [Act.put, List.setIfInBounds_toArray, List.set_cons_zero, List.set_cons_succ, i64_w, i32_w]
                            rfl
                          exact norm_ (by first | (simp only [putAll, Act.put, List.setIfInBounds_toArray, List.set_cons_zero, List.set_cons_succ]; done) | (simp only [putAll, Act.put, List.setIfInBounds_toArray, List.set_cons_zero, List.set_cons_succ]; rfl)) (hJ3_4_5_11 (v219, (.slice Ao29 t222.length co29), gb237) _ ⟨hHeld, (by (with_reducible repeat (first | apply Kd.R_alloc | apply Kd.R_drewN | apply Kd.R_drew)); exact HO214.out), (by (with_reducible repeat (first | apply Kd.R_alloc | apply Kd.R_drewN | apply Kd.R_drew)); exact HO220.out), (by (with_reducible repeat (first | apply Kd.V_alloc | apply Kd.V_drewN | apply Kd.V_drew)); exact Kd.V_mono HO224.out (fun _ hk => ⟨hk.1.1, ⟨hk.1.2, hk.2⟩⟩)), (by (with_reducible repeat (first | refine blk_drewN ?_ _ | refine blk_drew ?_ | refine blk_alloc ?_ _)); exact BK215.out), (by (with_reducible repeat (first | refine blk_drewN ?_ _ | refine blk_drew ?_ | refine blk_alloc ?_ _)); exact BK237.out), GW237.out, GE237.out, NB215_237.out, NB237_215.out, (by repeat (first | (with_reducible first | exact HB.out | apply below_alloc | apply pw_below_drewN | apply below_drew1 | refine below_set ?_ GE215.out | refine below_set ?_ GE237.out) | exact HB.out))⟩)
                    · skip
                      rintro ⟨v219, v223, gb237⟩ w29 ⟨hS_, h0_, h1_, h2_, h3_, h4_, h5_, h6_, h7_, h8_, h9_⟩
                      have n0_ : Aside0 (Kd.R (Kd.int .u64) 37 w29 w.heap.size (fun k_ => some k_ ≠ (v219 : Value).ownBlock) (.slice Ao22 t212.length co22) t212) := ⟨h0_⟩
                      have n1_ : Aside0 (Kd.R (Kd.int .u64) 37 w29 w.heap.size (fun k_ => some k_ ≠ (.slice Ao22 t212.length co22 : Value).ownBlock) v219 t218) := ⟨h1_⟩
                      have n2_ : Aside0 (Kd.V (Kd.int .u64) 37 w29 w.heap.size (fun k_ => some k_ ≠ (.slice Ao22 t212.length co22 : Value).ownBlock ∧ k_ ≠ gb215 ∧ k_ ≠ gb237) v223 t222) := ⟨h2_⟩
                      have n3_ : Aside0 (w29.heap[gb215]? = some (.cells #[.bool t211, .slice Ao22 t212.length co22] 51 (0, 0))) := ⟨h3_⟩
                      have n4_ : Aside0 (w29.heap[gb237]? = some (.cells #[.bool false, .slice none 0 0] 51 (0, 0))) := ⟨h4_⟩
                      have n5_ : Aside0 (w.heap.size ≤ gb237) := ⟨h5_⟩
                      have n6_ : Aside0 (w.heap.size ≤ gb237) := ⟨h6_⟩
                      have n7_ : Aside0 (gb215 ≠ gb237) := ⟨h7_⟩
                      have n8_ : Aside0 (gb237 ≠ gb215) := ⟨h8_⟩
                      have n9_ : Aside0 (Below w.heap.size w w29) := ⟨h9_⟩
                      clear HO214
                      clear BK215
                      clear HB
                      clear h0_ h1_ h2_ h3_ h4_ h5_ h6_ h7_ h8_ h9_
                      have HO214 := n0_
                      have HO220 := n1_
                      have HO224 := n2_
                      have BK215 := n3_
                      have BK237 := n4_
                      have GW237 := n5_
                      have GE237 := n6_
                      have NB215_237 := n7_
                      have NB237_215 := n8_
                      have HB := n9_
                      clear n0_ n1_ n2_ n3_ n4_ n5_ n6_ n7_ n8_ n9_
                      have hHeld : w29.cell? ⟨gb215, 0, none⟩ = some (.bool t211) ∧ w29.cell? ⟨gb215, 1, none⟩ = some (.slice Ao22 t212.length co22) := hS_
                      obtain ⟨Ao30, co30, eo30⟩ := Kd.V_slice HO224.out
                      (first | subst eo30 | (injection eo30 with f1_ f2_ f3_; have f4_ := f1_.symm; have f5_ := f3_.symm; clear f1_ f2_ f3_; subst f4_; subst f5_))
                      refine norm_ (a' := ?_) ?_ ?_
                      rotate_left
                      · simp only [putAll, Act.put, List.setIfInBounds_toArray, List.set_cons_zero, List.set_cons_succ]
                        rfl
                      refine one_ (i := 6) (N := some 34) #[true, true, true, true, true, true, true, true, true, false, false, true, false] rfl rfl (one_of HT_.out (by kernel_rfl)) (by decide) (fun K hK => ?_)
                      refine goes_ Try.func24 (by kernel_rfl) rfl #[.agg #[.bool t211, .slice Ao22 t212.length co22], .agg #[.bool t221, .slice Ao30 t222.length co30]] (by rfl) rfl rfl (by (try simp only [List.map_toArray, List.map_cons, List.map_nil]); first | done | rfl | (simp only [List.length_drop, List.length_take]; rfl) | (refine congrArg (fun z_ => #[Value.int IntKind.i64 z_]) (?_ : Go.RowKit.wrap64 (IntKind.u8.wrap _) = _); rw [IntKind.wrap_u8]; unfold Go.RowKit.wrap64; omega)) ?_
                      with_reducible refine (horologeref01_Plus.calls kj3 t211 _ _ t212 t221 _ _ t222 t225 t226 _ ?side1 ?side2 ?side3 ?side4 A15.out).mono ?_
                      (case side1 => repeat (first | exact (Kd.R_reads' HO214.out).2.2 | (with_reducible refine Kd.C_alloc ?_ _) | (with_reducible refine Kd.C_drewN ?_ _) | (with_reducible refine Kd.C_drew ?_)))
                      (case side2 => exact (Kd.R_reads' HO214.out).2.1)
                      (case side3 => repeat (first | exact (Kd.V_reads' HO224.out).2.2 | (with_reducible refine Kd.C_alloc ?_ _) | (with_reducible refine Kd.C_drewN ?_ _) | (with_reducible refine Kd.C_drew ?_)))
                      (case side4 => exact (Kd.V_reads' HO224.out).2.1)
                      rintro e w31 ⟨v227, rfl, ho0, hb⟩
                      refine ⟨_, rfl, ?_⟩
                      have n0_ := Aside0.mk (Kd.R_below (by (with_reducible repeat (first | apply Kd.R_alloc | apply Kd.R_drewN | apply Kd.R_drew)); exact HO214.out) hb)
                      have n1_ := Aside0.mk (Kd.R_below (by (with_reducible repeat (first | apply Kd.R_alloc | apply Kd.R_drewN | apply Kd.R_drew)); exact HO220.out) hb)
                      have n2_ := Aside0.mk (Kd.V_below (by (with_reducible repeat (first | apply Kd.V_alloc | apply Kd.V_drewN | apply Kd.V_drew)); exact HO224.out) hb)
                      have n3_ := Aside0.mk (Kd.V_lower (Kd.V_mono (ok' := fun k_ => some k_ ≠ (.slice Ao22 t212.length co22 : Value).ownBlock ∧ some k_ ≠ (v219 : Value).ownBlock ∧ k_ ≠ gb215 ∧ k_ ≠ gb237) ho0 (fun k_ hk_ => ⟨(Kd.fresh' (Kd.R_lt (by (with_reducible repeat (first | apply Kd.R_alloc | apply Kd.R_drewN | apply Kd.R_drew)); exact HO214.out)) k_ hk_), (Kd.fresh' (Kd.R_lt (by (with_reducible repeat (first | apply Kd.R_alloc | apply Kd.R_drewN | apply Kd.R_drew)); exact HO220.out)) k_ hk_), (Kd.freshB (g := gb215) (o := .cells #[.bool t211, .slice Ao22 t212.length co22] 51 (0, 0)) (by (with_reducible repeat (first | refine blk_drewN ?_ _ | refine blk_drew ?_ | refine blk_alloc ?_ _)); exact BK215.out) k_ hk_), (Kd.freshB (g := gb237) (o := .cells #[.bool false, .slice none 0 0] 51 (0, 0)) (by (with_reducible repeat (first | refine blk_drewN ?_ _ | refine blk_drew ?_ | refine blk_alloc ?_ _)); exact BK237.out) k_ hk_)⟩)) (below_size (by repeat (first | (with_reducible first | exact HB.out | apply below_alloc | apply pw_below_drewN | apply below_drew1 | refine below_set ?_ GE215.out | refine below_set ?_ GE237.out) | exact HB.out))))
                      have n4_ := Aside0.mk (blk_below (g := gb215) (o := .cells #[.bool t211, .slice Ao22 t212.length co22] 51 (0, 0)) (by (with_reducible repeat (first | refine blk_drewN ?_ _ | refine blk_drew ?_ | refine blk_alloc ?_ _)); exact BK215.out) hb)
                      have n5_ := Aside0.mk (blk_below (g := gb237) (o := .cells #[.bool false, .slice none 0 0] 51 (0, 0)) (by (with_reducible repeat (first | refine blk_drewN ?_ _ | refine blk_drew ?_ | refine blk_alloc ?_ _)); exact BK237.out) hb)
                      have n6_ := Aside0.mk (below_step (by repeat (first | (with_reducible first | exact HB.out | apply below_alloc | apply pw_below_drewN | apply below_drew1 | refine below_set ?_ GE215.out | refine below_set ?_ GE237.out) | exact HB.out)) hb)
                      clear HO214
                      clear HO220
                      clear HO224
                      clear BK215
                      clear BK237
                      clear HB
                      have HO214 := n0_
                      have HO220 := n1_
                      have HO224 := n2_
                      have HO228 := n3_
                      have BK215 := n4_
                      have BK237 := n5_
                      have HB := n6_
                      clear n0_ n1_ n2_ n3_ n4_ n5_ n6_
                      (try clear hb)
                      (try clear hb2)
                      (try clear hk)
                      (try clear hi)
                      (try clear ho0)
                      refine hK.out _ _ ⟨(blk_cell BK215.out 0).trans rfl, (blk_cell BK215.out 1).trans rfl⟩ (fun hHeld => ?_)
                      clear hK K
                      refine norm_ (a' := ?_) ?_ ?_
                      rotate_left
                      · show Act.put _ (some 34) _ = _
                        simp only [Act.put, List.setIfInBounds_toArray, List.set_cons_zero, List.set_cons_succ, i64_w, i32_w]
                        rfl
                      exact norm_ (by first | (simp only [putAll, Act.put, List.setIfInBounds_toArray, List.set_cons_zero, List.set_cons_succ]; done) | (simp only [putAll, Act.put, List.setIfInBounds_toArray, List.set_cons_zero, List.set_cons_succ]; rfl)) (hJ3_4_5_6_11 (v219, .slice Ao30 t222.length co30, v227, gb237) _ ⟨hHeld, (by (with_reducible repeat (first | apply Kd.R_alloc | apply Kd.R_drewN | apply Kd.R_drew)); exact HO214.out), (by (with_reducible repeat (first | apply Kd.R_alloc | apply Kd.R_drewN | apply Kd.R_drew)); exact HO220.out), (by (with_reducible repeat (first | apply Kd.V_alloc | apply Kd.V_drewN | apply Kd.V_drew)); exact HO224.out), (by (with_reducible repeat (first | apply Kd.V_alloc | apply Kd.V_drewN | apply Kd.V_drew)); exact HO228.out), (by (with_reducible repeat (first | refine blk_drewN ?_ _ | refine blk_drew ?_ | refine blk_alloc ?_ _)); exact BK215.out), (by (with_reducible repeat (first | refine blk_drewN ?_ _ | refine blk_drew ?_ | refine blk_alloc ?_ _)); exact BK237.out), GW237.out, GE237.out, NB215_237.out, NB237_215.out, (by repeat (first | (with_reducible first | exact HB.out | apply below_alloc | apply pw_below_drewN | apply below_drew1 | refine below_set ?_ GE215.out | refine below_set ?_ GE237.out) | exact HB.out))⟩)
                  · skip
                    rintro ⟨v219, v223, v227⟩ w30 ⟨hS_, h0_, h1_, h2_, h3_, h4_, h5_⟩
                    have n0_ : Aside0 (Kd.R (Kd.int .u64) 37 w30 w.heap.size (fun k_ => some k_ ≠ (v219 : Value).ownBlock) (.slice Ao22 t212.length co22) t212) := ⟨h0_⟩
                    have n1_ : Aside0 (Kd.R (Kd.int .u64) 37 w30 w.heap.size (fun k_ => some k_ ≠ (.slice Ao22 t212.length co22 : Value).ownBlock) v219 t218) := ⟨h1_⟩
                    have n2_ : Aside0 (Kd.V (Kd.int .u64) 37 w30 w.heap.size (fun k_ => some k_ ≠ (.slice Ao22 t212.length co22 : Value).ownBlock ∧ k_ ≠ gb215) v223 t222) := ⟨h2_⟩
                    have n3_ : Aside0 (Kd.V (Kd.int .u64) 37 w30 w.heap.size (fun k_ => some k_ ≠ (.slice Ao22 t212.length co22 : Value).ownBlock ∧ some k_ ≠ (v219 : Value).ownBlock ∧ k_ ≠ gb215) v227 t226) := ⟨h3_⟩
                    have n4_ : Aside0 (w30.heap[gb215]? = some (.cells #[.bool t211, .slice Ao22 t212.length co22] 51 (0, 0))) := ⟨h4_⟩
                    have n5_ : Aside0 (Below w.heap.size w w30) := ⟨h5_⟩
                    clear HO214
                    clear BK215
                    clear HB
                    clear h0_ h1_ h2_ h3_ h4_ h5_
                    have HO214 := n0_
                    have HO220 := n1_
                    have HO224 := n2_
                    have HO228 := n3_
                    have BK215 := n4_
                    have HB := n5_
                    clear n0_ n1_ n2_ n3_ n4_ n5_
                    have hHeld : w30.cell? ⟨gb215, 0, none⟩ = some (.bool t211) ∧ w30.cell? ⟨gb215, 1, none⟩ = some (.slice Ao22 t212.length co22) := hS_
                    refine norm_ (a' := ?_) ?_ ?_
                    rotate_left
                    · simp only [putAll, Act.put, List.setIfInBounds_toArray, List.set_cons_zero, List.set_cons_succ]
                      rfl
                    refine two_ (i := 9) (j := 11) (Ni := some 37) (Nj := some 9) #[true, true, true, true, true, true, true, true, true, true, false, false, false] #[true, true, true, true, true, true, true, true, true, false, false, true, false] rfl rfl rfl rfl (two_of HT_.out (by kernel_rfl)) (by decide) (by decide) (fun K hK => ?_) (fun K hK => ?_)
                    · skip
                      refine goes_ Try.func22 (by kernel_rfl) rfl #[.int .i64 (wrap64 (a0))] (by rfl) rfl rfl (by (try simp only [List.map_toArray, List.map_cons, List.map_nil]); first | done | rfl | (simp only [List.length_drop, List.length_take]; rfl) | (refine congrArg (fun z_ => #[Value.int IntKind.i64 z_]) (?_ : Go.RowKit.wrap64 (IntKind.u8.wrap _) = _); rw [IntKind.wrap_u8]; unfold Go.RowKit.wrap64; omega)) ?_
                      with_reducible refine (horologeref01_Of.calls kj3 (wrap64 (a0)) t229 t230 _ A16.out).mono ?_
                      rintro e w31 ⟨v231, rfl, ho0, hb⟩
                      refine ⟨_, rfl, ?_⟩
                      have n0_ := Aside0.mk (Kd.R_elder' (by (with_reducible repeat (first | apply Kd.R_alloc | apply Kd.R_drewN | apply Kd.R_drew)); exact HO214.out) (Kd.R_base ho0) hb)
                      have n1_ := Aside0.mk (Kd.R_elder' (by (with_reducible repeat (first | apply Kd.R_alloc | apply Kd.R_drewN | apply Kd.R_drew)); exact HO220.out) (Kd.R_base ho0) hb)
                      have n2_ := Aside0.mk (Kd.V_elder' (by (with_reducible repeat (first | apply Kd.V_alloc | apply Kd.V_drewN | apply Kd.V_drew)); exact HO224.out) (Kd.R_base ho0) hb)
                      have n3_ := Aside0.mk (Kd.V_elder' (by (with_reducible repeat (first | apply Kd.V_alloc | apply Kd.V_drewN | apply Kd.V_drew)); exact HO228.out) (Kd.R_base ho0) hb)
                      have n4_ := Aside0.mk (Kd.R_lower (Kd.R_new' (Kd.R_new' ho0 (Kd.R_lt (by (with_reducible repeat (first | apply Kd.R_alloc | apply Kd.R_drewN | apply Kd.R_drew)); exact HO214.out))) (Kd.R_lt (by (with_reducible repeat (first | apply Kd.R_alloc | apply Kd.R_drewN | apply Kd.R_drew)); exact HO220.out))) (below_size (by repeat (first | (with_reducible first | exact HB.out | apply below_alloc | apply pw_below_drewN | apply below_drew1 | refine below_set ?_ GE215.out) | exact HB.out))))
                      have n5_ := Aside0.mk (blk_below (g := gb215) (o := .cells #[.bool t211, .slice Ao22 t212.length co22] 51 (0, 0)) (by (with_reducible repeat (first | refine blk_drewN ?_ _ | refine blk_drew ?_ | refine blk_alloc ?_ _)); exact BK215.out) hb)
                      have n6_ := Aside0.mk (below_step (by repeat (first | (with_reducible first | exact HB.out | apply below_alloc | apply pw_below_drewN | apply below_drew1 | refine below_set ?_ GE215.out) | exact HB.out)) hb)
                      clear HO214
                      clear HO220
                      clear HO224
                      clear HO228
                      clear BK215
                      clear HB
                      have HO214 := n0_
                      have HO220 := n1_
                      have HO224 := n2_
                      have HO228 := n3_
                      have HO232 := n4_
                      have BK215 := n5_
                      have HB := n6_
                      clear n0_ n1_ n2_ n3_ n4_ n5_ n6_
                      (try clear hb)
                      (try clear hb2)
                      (try clear hk)
                      (try clear hi)
                      (try clear ho0)
                      refine hK.out _ _ ⟨(blk_cell BK215.out 0).trans rfl, (blk_cell BK215.out 1).trans rfl⟩ (fun hHeld => ?_)
                      clear hK K
                      refine norm_ (a' := ?_) ?_ ?_
                      rotate_left
                      · show Act.put _ (some 37) _ = _
                        simp only [Act.put, List.setIfInBounds_toArray, List.set_cons_zero, List.set_cons_succ, i64_w, i32_w]
                        rfl
                      exact norm_ (by first | (simp only [putAll, Act.put, List.setIfInBounds_toArray, List.set_cons_zero, List.set_cons_succ]; done) | (simp only [putAll, Act.put, List.setIfInBounds_toArray, List.set_cons_zero, List.set_cons_succ]; rfl)) (hJ3_4_5_6_9 (v219, v223, v227, v231) _ ⟨hHeld, (by (with_reducible repeat (first | apply Kd.R_alloc | apply Kd.R_drewN | apply Kd.R_drew)); exact HO214.out), (by (with_reducible repeat (first | apply Kd.R_alloc | apply Kd.R_drewN | apply Kd.R_drew)); exact HO220.out), (by (with_reducible repeat (first | apply Kd.V_alloc | apply Kd.V_drewN | apply Kd.V_drew)); exact Kd.V_mono HO224.out (fun _ hk => ⟨hk.1.1, ⟨hk.2, hk.1.2⟩⟩)), (by (with_reducible repeat (first | apply Kd.V_alloc | apply Kd.V_drewN | apply Kd.V_drew)); exact Kd.V_mono HO228.out (fun _ hk => ⟨hk.1.1, ⟨hk.1.2.1, ⟨hk.2, hk.1.2.2⟩⟩⟩)), (by (with_reducible repeat (first | apply Kd.R_alloc | apply Kd.R_drewN | apply Kd.R_drew)); exact Kd.R_mono HO232.out (fun _ hk => ⟨hk.1.2, hk.2⟩)), (by (with_reducible repeat (first | refine blk_drewN ?_ _ | refine blk_drew ?_ | refine blk_alloc ?_ _)); exact BK215.out), (by repeat (first | (with_reducible first | exact HB.out | apply below_alloc | apply pw_below_drewN | apply below_drew1 | refine below_set ?_ GE215.out) | exact HB.out))⟩)
                    · skip
                      refine box_step ?hg (N := 9) ?hd (cs := #[.bool false, .slice none 0 0]) (t := 51) ?hr ?_; (case hd => rfl); (case hg => rfl); (case hr => first | (go_simp; done) | (go_simp; rfl))
                      intro gb237 hg w31 hbox hb
                      have n0_ := Aside0.mk (Kd.R_below (by (with_reducible repeat (first | apply Kd.R_alloc | apply Kd.R_drewN | apply Kd.R_drew)); exact HO214.out) hb)
                      have n1_ := Aside0.mk (Kd.R_below (by (with_reducible repeat (first | apply Kd.R_alloc | apply Kd.R_drewN | apply Kd.R_drew)); exact HO220.out) hb)
                      have n2_ := Aside0.mk (Kd.V_below (Kd.V_elderB (by (with_reducible repeat (first | apply Kd.V_alloc | apply Kd.V_drewN | apply Kd.V_drew)); exact HO224.out) gb237 (Nat.le_of_eq hg.symm)) hb)
                      have n3_ := Aside0.mk (Kd.V_below (Kd.V_elderB (by (with_reducible repeat (first | apply Kd.V_alloc | apply Kd.V_drewN | apply Kd.V_drew)); exact HO228.out) gb237 (Nat.le_of_eq hg.symm)) hb)
                      have n4_ := Aside0.mk (blk_below (g := gb215) (o := .cells #[.bool t211, .slice Ao22 t212.length co22] 51 (0, 0)) (by (with_reducible repeat (first | refine blk_drewN ?_ _ | refine blk_drew ?_ | refine blk_alloc ?_ _)); exact BK215.out) hb)
                      have n5_ := Aside0.mk (below_step (by repeat (first | (with_reducible first | exact HB.out | apply below_alloc | apply pw_below_drewN | apply below_drew1 | refine below_set ?_ GE215.out) | exact HB.out)) hb)
                      have n6_ := Aside0.mk (hbox)
                      have n7_ := Aside0.mk ((by rw [hg]; exact (below_size (by repeat (first | (with_reducible first | exact HB.out | apply below_alloc | apply pw_below_drewN | apply below_drew1 | refine below_set ?_ GE215.out) | exact HB.out))) : w.heap.size ≤ gb237))
                      have n8_ := Aside0.mk ((by rw [hg]; exact (below_size (by repeat (first | (with_reducible first | exact HB.out | apply below_alloc | apply pw_below_drewN | apply below_drew1 | refine below_set ?_ GE215.out) | exact HB.out))) : w.heap.size ≤ gb237))
                      have n9_ := Aside0.mk ((by rw [hg]; exact Nat.ne_of_lt (blk_lt (g := gb215) (o := .cells #[.bool t211, .slice Ao22 t212.length co22] 51 (0, 0)) (by (with_reducible repeat (first | refine blk_drewN ?_ _ | refine blk_drew ?_ | refine blk_alloc ?_ _)); exact BK215.out)) : gb215 ≠ gb237))
                      have n10_ := Aside0.mk ((by rw [hg]; exact Nat.ne_of_gt (blk_lt (g := gb215) (o := .cells #[.bool t211, .slice Ao22 t212.length co22] 51 (0, 0)) (by (with_reducible repeat (first | refine blk_drewN ?_ _ | refine blk_drew ?_ | refine blk_alloc ?_ _)); exact BK215.out)) : gb237 ≠ gb215))
                      clear HO214
                      clear HO220
                      clear HO224
                      clear HO228
                      clear BK215
                      clear HB
                      have HO214 := n0_
                      have HO220 := n1_
                      have HO224 := n2_
                      have HO228 := n3_
                      have BK215 := n4_
                      have HB := n5_
                      have BK237 := n6_
                      have GW237 := n7_
                      have GE237 := n8_
                      have NB215_237 := n9_
                      have NB237_215 := n10_
                      clear n0_ n1_ n2_ n3_ n4_ n5_ n6_ n7_ n8_ n9_ n10_
                      clear hb hbox hg
                      refine hK.out _ _ ⟨(blk_cell BK215.out 0).trans rfl, (blk_cell BK215.out 1).trans rfl⟩ (fun hHeld => ?_)
                      clear hK K
                      refine norm_ (a' := ?_) ?_ ?_
                      rotate_left
                      · show Act.put _ (some 9) _ = _
                        simp only [Act.put, List.setIfInBounds_toArray, List.set_cons_zero, List.set_cons_succ, i64_w, i32_w]
                        rfl
                      exact norm_ (by first | (simp only [putAll, Act.put, List.setIfInBounds_toArray, List.set_cons_zero, List.set_cons_succ]; done) | (simp only [putAll, Act.put, List.setIfInBounds_toArray, List.set_cons_zero, List.set_cons_succ]; rfl)) (hJ3_4_5_6_11 (v219, v223, v227, gb237) _ ⟨hHeld, (by (with_reducible repeat (first | apply Kd.R_alloc | apply Kd.R_drewN | apply Kd.R_drew)); exact HO214.out), (by (with_reducible repeat (first | apply Kd.R_alloc | apply Kd.R_drewN | apply Kd.R_drew)); exact HO220.out), (by (with_reducible repeat (first | apply Kd.V_alloc | apply Kd.V_drewN | apply Kd.V_drew)); exact Kd.V_mono HO224.out (fun _ hk => ⟨hk.1.1, ⟨hk.1.2, hk.2⟩⟩)), (by (with_reducible repeat (first | apply Kd.V_alloc | apply Kd.V_drewN | apply Kd.V_drew)); exact Kd.V_mono HO228.out (fun _ hk => ⟨hk.1.1, ⟨hk.1.2.1, ⟨hk.1.2.2, hk.2⟩⟩⟩)), (by (with_reducible repeat (first | refine blk_drewN ?_ _ | refine blk_drew ?_ | refine blk_alloc ?_ _)); exact BK215.out), (by (with_reducible repeat (first | refine blk_drewN ?_ _ | refine blk_drew ?_ | refine blk_alloc ?_ _)); exact BK237.out), GW237.out, GE237.out, NB215_237.out, NB237_215.out, (by repeat (first | (with_reducible first | exact HB.out | apply below_alloc | apply pw_below_drewN | apply below_drew1 | refine below_set ?_ GE215.out | refine below_set ?_ GE237.out) | exact HB.out))⟩)
                · skip
                  rintro ⟨v219, v223, v227, gb237⟩ w31 ⟨hS_, h0_, h1_, h2_, h3_, h4_, h5_, h6_, h7_, h8_, h9_, h10_⟩
                  have n0_ : Aside0 (Kd.R (Kd.int .u64) 37 w31 w.heap.size (fun k_ => some k_ ≠ (v219 : Value).ownBlock) (.slice Ao22 t212.length co22) t212) := ⟨h0_⟩
                  have n1_ : Aside0 (Kd.R (Kd.int .u64) 37 w31 w.heap.size (fun k_ => some k_ ≠ (.slice Ao22 t212.length co22 : Value).ownBlock) v219 t218) := ⟨h1_⟩
                  have n2_ : Aside0 (Kd.V (Kd.int .u64) 37 w31 w.heap.size (fun k_ => some k_ ≠ (.slice Ao22 t212.length co22 : Value).ownBlock ∧ k_ ≠ gb215 ∧ k_ ≠ gb237) v223 t222) := ⟨h2_⟩
                  have n3_ : Aside0 (Kd.V (Kd.int .u64) 37 w31 w.heap.size (fun k_ => some k_ ≠ (.slice Ao22 t212.length co22 : Value).ownBlock ∧ some k_ ≠ (v219 : Value).ownBlock ∧ k_ ≠ gb215 ∧ k_ ≠ gb237) v227 t226) := ⟨h3_⟩
                  have n4_ : Aside0 (w31.heap[gb215]? = some (.cells #[.bool t211, .slice Ao22 t212.length co22] 51 (0, 0))) := ⟨h4_⟩
                  have n5_ : Aside0 (w31.heap[gb237]? = some (.cells #[.bool false, .slice none 0 0] 51 (0, 0))) := ⟨h5_⟩
                  have n6_ : Aside0 (w.heap.size ≤ gb237) := ⟨h6_⟩
                  have n7_ : Aside0 (w.heap.size ≤ gb237) := ⟨h7_⟩
                  have n8_ : Aside0 (gb215 ≠ gb237) := ⟨h8_⟩
                  have n9_ : Aside0 (gb237 ≠ gb215) := ⟨h9_⟩
                  have n10_ : Aside0 (Below w.heap.size w w31) := ⟨h10_⟩
                  clear HO214
                  clear BK215
                  clear HB
                  clear h0_ h1_ h2_ h3_ h4_ h5_ h6_ h7_ h8_ h9_ h10_
                  have HO214 := n0_
                  have HO220 := n1_
                  have HO224 := n2_
                  have HO228 := n3_
                  have BK215 := n4_
                  have BK237 := n5_
                  have GW237 := n6_
                  have GE237 := n7_
                  have NB215_237 := n8_
                  have NB237_215 := n9_
                  have HB := n10_
                  clear n0_ n1_ n2_ n3_ n4_ n5_ n6_ n7_ n8_ n9_ n10_
                  have hHeld : w31.cell? ⟨gb215, 0, none⟩ = some (.bool t211) ∧ w31.cell? ⟨gb215, 1, none⟩ = some (.slice Ao22 t212.length co22) := hS_
                  refine norm_ (a' := ?_) ?_ ?_
                  rotate_left
                  · simp only [putAll, Act.put, List.setIfInBounds_toArray, List.set_cons_zero, List.set_cons_succ]
                    rfl
                  refine one_ (i := 9) (N := some 37) #[true, true, true, true, true, true, true, true, true, true, false, true, false] rfl rfl (one_of HT_.out (by kernel_rfl)) (by decide) (fun K hK => ?_)
                  refine goes_ Try.func22 (by kernel_rfl) rfl #[.int .i64 (wrap64 (a0))] (by rfl) rfl rfl (by (try simp only [List.map_toArray, List.map_cons, List.map_nil]); first | done | rfl | (simp only [List.length_drop, List.length_take]; rfl) | (refine congrArg (fun z_ => #[Value.int IntKind.i64 z_]) (?_ : Go.RowKit.wrap64 (IntKind.u8.wrap _) = _); rw [IntKind.wrap_u8]; unfold Go.RowKit.wrap64; omega)) ?_
                  with_reducible refine (horologeref01_Of.calls kj3 (wrap64 (a0)) t229 t230 _ A16.out).mono ?_
                  rintro e w32 ⟨v231, rfl, ho0, hb⟩
                  refine ⟨_, rfl, ?_⟩
                  have n0_ := Aside0.mk (Kd.R_elder' (by (with_reducible repeat (first | apply Kd.R_alloc | apply Kd.R_drewN | apply Kd.R_drew)); exact HO214.out) (Kd.R_base ho0) hb)
                  have n1_ := Aside0.mk (Kd.R_elder' (by (with_reducible repeat (first | apply Kd.R_alloc | apply Kd.R_drewN | apply Kd.R_drew)); exact HO220.out) (Kd.R_base ho0) hb)
                  have n2_ := Aside0.mk (Kd.V_elder' (by (with_reducible repeat (first | apply Kd.V_alloc | apply Kd.V_drewN | apply Kd.V_drew)); exact HO224.out) (Kd.R_base ho0) hb)
                  have n3_ := Aside0.mk (Kd.V_elder' (by (with_reducible repeat (first | apply Kd.V_alloc | apply Kd.V_drewN | apply Kd.V_drew)); exact HO228.out) (Kd.R_base ho0) hb)
                  have n4_ := Aside0.mk (Kd.R_lower (Kd.R_new' (Kd.R_new' ho0 (Kd.R_lt (by (with_reducible repeat (first | apply Kd.R_alloc | apply Kd.R_drewN | apply Kd.R_drew)); exact HO214.out))) (Kd.R_lt (by (with_reducible repeat (first | apply Kd.R_alloc | apply Kd.R_drewN | apply Kd.R_drew)); exact HO220.out))) (below_size (by repeat (first | (with_reducible first | exact HB.out | apply below_alloc | apply pw_below_drewN | apply below_drew1 | refine below_set ?_ GE215.out | refine below_set ?_ GE237.out) | exact HB.out))))
                  have n5_ := Aside0.mk (blk_below (g := gb215) (o := .cells #[.bool t211, .slice Ao22 t212.length co22] 51 (0, 0)) (by (with_reducible repeat (first | refine blk_drewN ?_ _ | refine blk_drew ?_ | refine blk_alloc ?_ _)); exact BK215.out) hb)
                  have n6_ := Aside0.mk (blk_below (g := gb237) (o := .cells #[.bool false, .slice none 0 0] 51 (0, 0)) (by (with_reducible repeat (first | refine blk_drewN ?_ _ | refine blk_drew ?_ | refine blk_alloc ?_ _)); exact BK237.out) hb)
                  have n7_ := Aside0.mk (below_step (by repeat (first | (with_reducible first | exact HB.out | apply below_alloc | apply pw_below_drewN | apply below_drew1 | refine below_set ?_ GE215.out | refine below_set ?_ GE237.out) | exact HB.out)) hb)
                  clear HO214
                  clear HO220
                  clear HO224
                  clear HO228
                  clear BK215
                  clear BK237
                  clear HB
                  have HO214 := n0_
                  have HO220 := n1_
                  have HO224 := n2_
                  have HO228 := n3_
                  have HO232 := n4_
                  have BK215 := n5_
                  have BK237 := n6_
                  have HB := n7_
                  clear n0_ n1_ n2_ n3_ n4_ n5_ n6_ n7_
                  (try clear hb)
                  (try clear hb2)
                  (try clear hk)
                  (try clear hi)
                  (try clear ho0)
                  refine hK.out _ _ ⟨(blk_cell BK215.out 0).trans rfl, (blk_cell BK215.out 1).trans rfl⟩ (fun hHeld => ?_)
                  clear hK K
                  refine norm_ (a' := ?_) ?_ ?_
                  rotate_left
                  · show Act.put _ (some 37) _ = _
                    simp only [Act.put, List.setIfInBounds_toArray, List.set_cons_zero, List.set_cons_succ, i64_w, i32_w]
                    rfl
                  exact norm_ (by first | (simp only [putAll, Act.put, List.setIfInBounds_toArray, List.set_cons_zero, List.set_cons_succ]; done) | (simp only [putAll, Act.put, List.setIfInBounds_toArray, List.set_cons_zero, List.set_cons_succ]; rfl)) (hJ3_4_5_6_9_11 (v219, v223, v227, v231, gb237) _ ⟨hHeld, (by (with_reducible repeat (first | apply Kd.R_alloc | apply Kd.R_drewN | apply Kd.R_drew)); exact HO214.out), (by (with_reducible repeat (first | apply Kd.R_alloc | apply Kd.R_drewN | apply Kd.R_drew)); exact HO220.out), (by (with_reducible repeat (first | apply Kd.V_alloc | apply Kd.V_drewN | apply Kd.V_drew)); exact Kd.V_mono HO224.out (fun _ hk => ⟨hk.1.1, ⟨hk.2, ⟨hk.1.2.1, hk.1.2.2⟩⟩⟩)), (by (with_reducible repeat (first | apply Kd.V_alloc | apply Kd.V_drewN | apply Kd.V_drew)); exact Kd.V_mono HO228.out (fun _ hk => ⟨hk.1.1, ⟨hk.1.2.1, ⟨hk.2, ⟨hk.1.2.2.1, hk.1.2.2.2⟩⟩⟩⟩)), (by (with_reducible repeat (first | apply Kd.R_alloc | apply Kd.R_drewN | apply Kd.R_drew)); exact Kd.R_mono HO232.out (fun _ hk => ⟨hk.1.2, hk.2⟩)), (by (with_reducible repeat (first | refine blk_drewN ?_ _ | refine blk_drew ?_ | refine blk_alloc ?_ _)); exact BK215.out), (by (with_reducible repeat (first | refine blk_drewN ?_ _ | refine blk_drew ?_ | refine blk_alloc ?_ _)); exact BK237.out), GW237.out, GE237.out, NB215_237.out, NB237_215.out, (by repeat (first | (with_reducible first | exact HB.out | apply below_alloc | apply pw_below_drewN | apply below_drew1 | refine below_set ?_ GE215.out | refine below_set ?_ GE237.out) | exact HB.out))⟩)
              · skip
                rintro ⟨v219, v223, v227, v231⟩ w31 ⟨hS_, h0_, h1_, h2_, h3_, h4_, h5_, h6_⟩
                have n0_ : Aside0 (Kd.R (Kd.int .u64) 37 w31 w.heap.size (fun k_ => some k_ ≠ (v219 : Value).ownBlock ∧ some k_ ≠ (v231 : Value).ownBlock) (.slice Ao22 t212.length co22) t212) := ⟨h0_⟩
                have n1_ : Aside0 (Kd.R (Kd.int .u64) 37 w31 w.heap.size (fun k_ => some k_ ≠ (.slice Ao22 t212.length co22 : Value).ownBlock ∧ some k_ ≠ (v231 : Value).ownBlock) v219 t218) := ⟨h1_⟩
                have n2_ : Aside0 (Kd.V (Kd.int .u64) 37 w31 w.heap.size (fun k_ => some k_ ≠ (.slice Ao22 t212.length co22 : Value).ownBlock ∧ some k_ ≠ (v231 : Value).ownBlock ∧ k_ ≠ gb215) v223 t222) := ⟨h2_⟩
                have n3_ : Aside0 (Kd.V (Kd.int .u64) 37 w31 w.heap.size (fun k_ => some k_ ≠ (.slice Ao22 t212.length co22 : Value).ownBlock ∧ some k_ ≠ (v219 : Value).ownBlock ∧ some k_ ≠ (v231 : Value).ownBlock ∧ k_ ≠ gb215) v227 t226) := ⟨h3_⟩
                have n4_ : Aside0 (Kd.R (Kd.int .u64) 37 w31 w.heap.size (fun k_ => some k_ ≠ (.slice Ao22 t212.length co22 : Value).ownBlock ∧ some k_ ≠ (v219 : Value).ownBlock) v231 t230) := ⟨h4_⟩
                have n5_ : Aside0 (w31.heap[gb215]? = some (.cells #[.bool t211, .slice Ao22 t212.length co22] 51 (0, 0))) := ⟨h5_⟩
                have n6_ : Aside0 (Below w.heap.size w w31) := ⟨h6_⟩
                clear HO214
                clear BK215
                clear HB
                clear h0_ h1_ h2_ h3_ h4_ h5_ h6_
                have HO214 := n0_
                have HO220 := n1_
                have HO224 := n2_
                have HO228 := n3_
                have HO232 := n4_
                have BK215 := n5_
                have HB := n6_
                clear n0_ n1_ n2_ n3_ n4_ n5_ n6_
                have hHeld : w31.cell? ⟨gb215, 0, none⟩ = some (.bool t211) ∧ w31.cell? ⟨gb215, 1, none⟩ = some (.slice Ao22 t212.length co22) := hS_
                obtain ⟨Ao32, co32, eo32⟩ := Kd.V_slice HO228.out
                (first | subst eo32 | (injection eo32 with f1_ f2_ f3_; have f4_ := f1_.symm; have f5_ := f3_.symm; clear f1_ f2_ f3_; subst f4_; subst f5_))
                obtain ⟨Ao33, co33, eo33⟩ := Kd.R_slice HO232.out
                (first | subst eo33 | (injection eo33 with f1_ f2_ f3_; have f4_ := f1_.symm; have f5_ := f3_.symm; clear f1_ f2_ f3_; subst f4_; subst f5_))
                refine norm_ (a' := ?_) ?_ ?_
                rotate_left
                · simp only [putAll, Act.put, List.setIfInBounds_toArray, List.set_cons_zero, List.set_cons_succ]
                  rfl
                refine two_ (i := 10) (j := 11) (Ni := some 38) (Nj := some 9) #[true, true, true, true, true, true, true, true, true, true, true, false, false] #[true, true, true, true, true, true, true, true, true, true, false, true, false] rfl rfl rfl rfl (two_of HT_.out (by kernel_rfl)) (by decide) (by decide) (fun K hK => ?_) (fun K hK => ?_)
                · skip
                  refine goes_ Try.func24 (by kernel_rfl) rfl #[.agg #[.bool t225, .slice Ao32 t226.length co32], .agg #[.bool t229, .slice Ao33 t230.length co33]] (by rfl) rfl rfl (by (try simp only [List.map_toArray, List.map_cons, List.map_nil]); first | done | rfl | (simp only [List.length_drop, List.length_take]; rfl) | (refine congrArg (fun z_ => #[Value.int IntKind.i64 z_]) (?_ : Go.RowKit.wrap64 (IntKind.u8.wrap _) = _); rw [IntKind.wrap_u8]; unfold Go.RowKit.wrap64; omega)) ?_
                  with_reducible refine (horologeref01_Plus.calls kj3 t225 _ _ t226 t229 _ _ t230 t233 t234 _ ?side1 ?side2 ?side3 ?side4 A17.out).mono ?_
                  (case side1 => repeat (first | exact (Kd.V_reads' HO228.out).2.2 | (with_reducible refine Kd.C_alloc ?_ _) | (with_reducible refine Kd.C_drewN ?_ _) | (with_reducible refine Kd.C_drew ?_)))
                  (case side2 => exact (Kd.V_reads' HO228.out).2.1)
                  (case side3 => repeat (first | exact (Kd.R_reads' HO232.out).2.2 | (with_reducible refine Kd.C_alloc ?_ _) | (with_reducible refine Kd.C_drewN ?_ _) | (with_reducible refine Kd.C_drew ?_)))
                  (case side4 => exact (Kd.R_reads' HO232.out).2.1)
                  rintro e w34 ⟨v235, rfl, ho0, hb⟩
                  refine ⟨_, rfl, ?_⟩
                  have n0_ := Aside0.mk (Kd.R_below (by (with_reducible repeat (first | apply Kd.R_alloc | apply Kd.R_drewN | apply Kd.R_drew)); exact HO214.out) hb)
                  have n1_ := Aside0.mk (Kd.R_below (by (with_reducible repeat (first | apply Kd.R_alloc | apply Kd.R_drewN | apply Kd.R_drew)); exact HO220.out) hb)
                  have n2_ := Aside0.mk (Kd.V_below (by (with_reducible repeat (first | apply Kd.V_alloc | apply Kd.V_drewN | apply Kd.V_drew)); exact HO224.out) hb)
                  have n3_ := Aside0.mk (Kd.V_below (by (with_reducible repeat (first | apply Kd.V_alloc | apply Kd.V_drewN | apply Kd.V_drew)); exact HO228.out) hb)
                  have n4_ := Aside0.mk (Kd.R_below (by (with_reducible repeat (first | apply Kd.R_alloc | apply Kd.R_drewN | apply Kd.R_drew)); exact HO232.out) hb)
                  have n5_ := Aside0.mk (Kd.V_lower (Kd.V_mono (ok' := fun k_ => some k_ ≠ (.slice Ao22 t212.length co22 : Value).ownBlock ∧ some k_ ≠ (v219 : Value).ownBlock ∧ some k_ ≠ (.slice Ao33 t230.length co33 : Value).ownBlock ∧ k_ ≠ gb215) ho0 (fun k_ hk_ => ⟨(Kd.fresh' (Kd.R_lt (by (with_reducible repeat (first | apply Kd.R_alloc | apply Kd.R_drewN | apply Kd.R_drew)); exact HO214.out)) k_ hk_), (Kd.fresh' (Kd.R_lt (by (with_reducible repeat (first | apply Kd.R_alloc | apply Kd.R_drewN | apply Kd.R_drew)); exact HO220.out)) k_ hk_), (Kd.fresh' (Kd.R_lt (by (with_reducible repeat (first | apply Kd.R_alloc | apply Kd.R_drewN | apply Kd.R_drew)); exact HO232.out)) k_ hk_), (Kd.freshB (g := gb215) (o := .cells #[.bool t211, .slice Ao22 t212.length co22] 51 (0, 0)) (by (with_reducible repeat (first | refine blk_drewN ?_ _ | refine blk_drew ?_ | refine blk_alloc ?_ _)); exact BK215.out) k_ hk_)⟩)) (below_size (by repeat (first | (with_reducible first | exact HB.out | apply below_alloc | apply pw_below_drewN | apply below_drew1 | refine below_set ?_ GE215.out) | exact HB.out))))
                  have n6_ := Aside0.mk (blk_below (g := gb215) (o := .cells #[.bool t211, .slice Ao22 t212.length co22] 51 (0, 0)) (by (with_reducible repeat (first | refine blk_drewN ?_ _ | refine blk_drew ?_ | refine blk_alloc ?_ _)); exact BK215.out) hb)
                  have n7_ := Aside0.mk (below_step (by repeat (first | (with_reducible first | exact HB.out | apply below_alloc | apply pw_below_drewN | apply below_drew1 | refine below_set ?_ GE215.out) | exact HB.out)) hb)
                  clear HO214
                  clear HO220
                  clear HO224
                  clear HO228
                  clear HO232
                  clear BK215
                  clear HB
                  have HO214 := n0_
                  have HO220 := n1_
                  have HO224 := n2_
                  have HO228 := n3_
                  have HO232 := n4_
                  have HO236 := n5_
                  have BK215 := n6_
                  have HB := n7_
                  clear n0_ n1_ n2_ n3_ n4_ n5_ n6_ n7_
                  (try clear hb)
                  (try clear hb2)
                  (try clear hk)
                  (try clear hi)
                  (try clear ho0)
                  refine hK.out _ _ ⟨(blk_cell BK215.out 0).trans rfl, (blk_cell BK215.out 1).trans rfl⟩ (fun hHeld => ?_)
                  clear hK K
                  refine norm_ (a' := ?_) ?_ ?_
                  rotate_left
                  · show Act.put _ (some 38) _ = _
                    simp only [Act.put, List.setIfInBounds_toArray, List.set_cons_zero, List.set_cons_succ, i64_w, i32_w]
                    rfl
                  exact norm_ (by first | (simp only [putAll, Act.put, List.setIfInBounds_toArray, List.set_cons_zero, List.set_cons_succ]; done) | (simp only [putAll, Act.put, List.setIfInBounds_toArray, List.set_cons_zero, List.set_cons_succ]; rfl)) (hJ3_4_5_6_9_10 (v219, v223, .slice Ao32 t226.length co32, .slice Ao33 t230.length co33, v235) _ ⟨hHeld, (by (with_reducible repeat (first | apply Kd.R_alloc | apply Kd.R_drewN | apply Kd.R_drew)); exact HO214.out), (by (with_reducible repeat (first | apply Kd.R_alloc | apply Kd.R_drewN | apply Kd.R_drew)); exact HO220.out), (by (with_reducible repeat (first | apply Kd.V_alloc | apply Kd.V_drewN | apply Kd.V_drew)); exact HO224.out), (by (with_reducible repeat (first | apply Kd.V_alloc | apply Kd.V_drewN | apply Kd.V_drew)); exact HO228.out), (by (with_reducible repeat (first | apply Kd.R_alloc | apply Kd.R_drewN | apply Kd.R_drew)); exact HO232.out), (by (with_reducible repeat (first | apply Kd.V_alloc | apply Kd.V_drewN | apply Kd.V_drew)); exact HO236.out), (by (with_reducible repeat (first | refine blk_drewN ?_ _ | refine blk_drew ?_ | refine blk_alloc ?_ _)); exact BK215.out), (by repeat (first | (with_reducible first | exact HB.out | apply below_alloc | apply pw_below_drewN | apply below_drew1 | refine below_set ?_ GE215.out) | exact HB.out))⟩)
                · skip
                  refine box_step ?hg (N := 9) ?hd (cs := #[.bool false, .slice none 0 0]) (t := 51) ?hr ?_; (case hd => rfl); (case hg => rfl); (case hr => first | (go_simp; done) | (go_simp; rfl))
                  intro gb237 hg w32 hbox hb
                  have n0_ := Aside0.mk (Kd.R_below (by (with_reducible repeat (first | apply Kd.R_alloc | apply Kd.R_drewN | apply Kd.R_drew)); exact HO214.out) hb)
                  have n1_ := Aside0.mk (Kd.R_below (by (with_reducible repeat (first | apply Kd.R_alloc | apply Kd.R_drewN | apply Kd.R_drew)); exact HO220.out) hb)
                  have n2_ := Aside0.mk (Kd.V_below (Kd.V_elderB (by (with_reducible repeat (first | apply Kd.V_alloc | apply Kd.V_drewN | apply Kd.V_drew)); exact HO224.out) gb237 (Nat.le_of_eq hg.symm)) hb)
                  have n3_ := Aside0.mk (Kd.V_below (Kd.V_elderB (by (with_reducible repeat (first | apply Kd.V_alloc | apply Kd.V_drewN | apply Kd.V_drew)); exact HO228.out) gb237 (Nat.le_of_eq hg.symm)) hb)
                  have n4_ := Aside0.mk (Kd.R_below (by (with_reducible repeat (first | apply Kd.R_alloc | apply Kd.R_drewN | apply Kd.R_drew)); exact HO232.out) hb)
                  have n5_ := Aside0.mk (blk_below (g := gb215) (o := .cells #[.bool t211, .slice Ao22 t212.length co22] 51 (0, 0)) (by (with_reducible repeat (first | refine blk_drewN ?_ _ | refine blk_drew ?_ | refine blk_alloc ?_ _)); exact BK215.out) hb)
                  have n6_ := Aside0.mk (below_step (by repeat (first | (with_reducible first | exact HB.out | apply below_alloc | apply pw_below_drewN | apply below_drew1 | refine below_set ?_ GE215.out) | exact HB.out)) hb)
                  have n7_ := Aside0.mk (hbox)
                  have n8_ := Aside0.mk ((by rw [hg]; exact (below_size (by repeat (first | (with_reducible first | exact HB.out | apply below_alloc | apply pw_below_drewN | apply below_drew1 | refine below_set ?_ GE215.out) | exact HB.out))) : w.heap.size ≤ gb237))
                  have n9_ := Aside0.mk ((by rw [hg]; exact (below_size (by repeat (first | (with_reducible first | exact HB.out | apply below_alloc | apply pw_below_drewN | apply below_drew1 | refine below_set ?_ GE215.out) | exact HB.out))) : w.heap.size ≤ gb237))
                  have n10_ := Aside0.mk ((by rw [hg]; exact Nat.ne_of_lt (blk_lt (g := gb215) (o := .cells #[.bool t211, .slice Ao22 t212.length co22] 51 (0, 0)) (by (with_reducible repeat (first | refine blk_drewN ?_ _ | refine blk_drew ?_ | refine blk_alloc ?_ _)); exact BK215.out)) : gb215 ≠ gb237))
                  have n11_ := Aside0.mk ((by rw [hg]; exact Nat.ne_of_gt (blk_lt (g := gb215) (o := .cells #[.bool t211, .slice Ao22 t212.length co22] 51 (0, 0)) (by (with_reducible repeat (first | refine blk_drewN ?_ _ | refine blk_drew ?_ | refine blk_alloc ?_ _)); exact BK215.out)) : gb237 ≠ gb215))
                  clear HO214
                  clear HO220
                  clear HO224
                  clear HO228
                  clear HO232
                  clear BK215
                  clear HB
                  have HO214 := n0_
                  have HO220 := n1_
                  have HO224 := n2_
                  have HO228 := n3_
                  have HO232 := n4_
                  have BK215 := n5_
                  have HB := n6_
                  have BK237 := n7_
                  have GW237 := n8_
                  have GE237 := n9_
                  have NB215_237 := n10_
                  have NB237_215 := n11_
                  clear n0_ n1_ n2_ n3_ n4_ n5_ n6_ n7_ n8_ n9_ n10_ n11_
                  clear hb hbox hg
                  refine hK.out _ _ ⟨(blk_cell BK215.out 0).trans rfl, (blk_cell BK215.out 1).trans rfl⟩ (fun hHeld => ?_)
                  clear hK K
                  refine norm_ (a' := ?_) ?_ ?_
                  rotate_left
                  · show Act.put _ (some 9) _ = _
                    simp only [Act.put, List.setIfInBounds_toArray, List.set_cons_zero, List.set_cons_succ, i64_w, i32_w]
                    rfl
                  exact norm_ (by first | (simp only [putAll, Act.put, List.setIfInBounds_toArray, List.set_cons_zero, List.set_cons_succ]; done) | (simp only [putAll, Act.put, List.setIfInBounds_toArray, List.set_cons_zero, List.set_cons_succ]; rfl)) (hJ3_4_5_6_9_11 (v219, v223, (.slice Ao32 t226.length co32), (.slice Ao33 t230.length co33), gb237) _ ⟨hHeld, (by (with_reducible repeat (first | apply Kd.R_alloc | apply Kd.R_drewN | apply Kd.R_drew)); exact HO214.out), (by (with_reducible repeat (first | apply Kd.R_alloc | apply Kd.R_drewN | apply Kd.R_drew)); exact HO220.out), (by (with_reducible repeat (first | apply Kd.V_alloc | apply Kd.V_drewN | apply Kd.V_drew)); exact Kd.V_mono HO224.out (fun _ hk => ⟨hk.1.1, ⟨hk.1.2.1, ⟨hk.1.2.2, hk.2⟩⟩⟩)), (by (with_reducible repeat (first | apply Kd.V_alloc | apply Kd.V_drewN | apply Kd.V_drew)); exact Kd.V_mono HO228.out (fun _ hk => ⟨hk.1.1, ⟨hk.1.2.1, ⟨hk.1.2.2.1, ⟨hk.1.2.2.2, hk.2⟩⟩⟩⟩)), (by (with_reducible repeat (first | apply Kd.R_alloc | apply Kd.R_drewN | apply Kd.R_drew)); exact HO232.out), (by (with_reducible repeat (first | refine blk_drewN ?_ _ | refine blk_drew ?_ | refine blk_alloc ?_ _)); exact BK215.out), (by (with_reducible repeat (first | refine blk_drewN ?_ _ | refine blk_drew ?_ | refine blk_alloc ?_ _)); exact BK237.out), GW237.out, GE237.out, NB215_237.out, NB237_215.out, (by repeat (first | (with_reducible first | exact HB.out | apply below_alloc | apply pw_below_drewN | apply below_drew1 | refine below_set ?_ GE215.out | refine below_set ?_ GE237.out) | exact HB.out))⟩)
            · skip
              rintro ⟨v219, v223, v227, v231, gb237⟩ w32 ⟨hS_, h0_, h1_, h2_, h3_, h4_, h5_, h6_, h7_, h8_, h9_, h10_, h11_⟩
              have n0_ : Aside0 (Kd.R (Kd.int .u64) 37 w32 w.heap.size (fun k_ => some k_ ≠ (v219 : Value).ownBlock ∧ some k_ ≠ (v231 : Value).ownBlock) (.slice Ao22 t212.length co22) t212) := ⟨h0_⟩
              have n1_ : Aside0 (Kd.R (Kd.int .u64) 37 w32 w.heap.size (fun k_ => some k_ ≠ (.slice Ao22 t212.length co22 : Value).ownBlock ∧ some k_ ≠ (v231 : Value).ownBlock) v219 t218) := ⟨h1_⟩
              have n2_ : Aside0 (Kd.V (Kd.int .u64) 37 w32 w.heap.size (fun k_ => some k_ ≠ (.slice Ao22 t212.length co22 : Value).ownBlock ∧ some k_ ≠ (v231 : Value).ownBlock ∧ k_ ≠ gb215 ∧ k_ ≠ gb237) v223 t222) := ⟨h2_⟩
              have n3_ : Aside0 (Kd.V (Kd.int .u64) 37 w32 w.heap.size (fun k_ => some k_ ≠ (.slice Ao22 t212.length co22 : Value).ownBlock ∧ some k_ ≠ (v219 : Value).ownBlock ∧ some k_ ≠ (v231 : Value).ownBlock ∧ k_ ≠ gb215 ∧ k_ ≠ gb237) v227 t226) := ⟨h3_⟩
              have n4_ : Aside0 (Kd.R (Kd.int .u64) 37 w32 w.heap.size (fun k_ => some k_ ≠ (.slice Ao22 t212.length co22 : Value).ownBlock ∧ some k_ ≠ (v219 : Value).ownBlock) v231 t230) := ⟨h4_⟩
              have n5_ : Aside0 (w32.heap[gb215]? = some (.cells #[.bool t211, .slice Ao22 t212.length co22] 51 (0, 0))) := ⟨h5_⟩
              have n6_ : Aside0 (w32.heap[gb237]? = some (.cells #[.bool false, .slice none 0 0] 51 (0, 0))) := ⟨h6_⟩
              have n7_ : Aside0 (w.heap.size ≤ gb237) := ⟨h7_⟩
              have n8_ : Aside0 (w.heap.size ≤ gb237) := ⟨h8_⟩
              have n9_ : Aside0 (gb215 ≠ gb237) := ⟨h9_⟩
              have n10_ : Aside0 (gb237 ≠ gb215) := ⟨h10_⟩
              have n11_ : Aside0 (Below w.heap.size w w32) := ⟨h11_⟩
              clear HO214
              clear BK215
              clear HB
              clear h0_ h1_ h2_ h3_ h4_ h5_ h6_ h7_ h8_ h9_ h10_ h11_
              have HO214 := n0_
              have HO220 := n1_
              have HO224 := n2_
              have HO228 := n3_
              have HO232 := n4_
              have BK215 := n5_
              have BK237 := n6_
              have GW237 := n7_
              have GE237 := n8_
              have NB215_237 := n9_
              have NB237_215 := n10_
              have HB := n11_
              clear n0_ n1_ n2_ n3_ n4_ n5_ n6_ n7_ n8_ n9_ n10_ n11_
              have hHeld : w32.cell? ⟨gb215, 0, none⟩ = some (.bool t211) ∧ w32.cell? ⟨gb215, 1, none⟩ = some (.slice Ao22 t212.length co22) := hS_
              obtain ⟨Ao33, co33, eo33⟩ := Kd.V_slice HO228.out
              (first | subst eo33 | (injection eo33 with f1_ f2_ f3_; have f4_ := f1_.symm; have f5_ := f3_.symm; clear f1_ f2_ f3_; subst f4_; subst f5_))
              obtain ⟨Ao34, co34, eo34⟩ := Kd.R_slice HO232.out
              (first | subst eo34 | (injection eo34 with f1_ f2_ f3_; have f4_ := f1_.symm; have f5_ := f3_.symm; clear f1_ f2_ f3_; subst f4_; subst f5_))
              refine norm_ (a' := ?_) ?_ ?_
              rotate_left
              · simp only [putAll, Act.put, List.setIfInBounds_toArray, List.set_cons_zero, List.set_cons_succ]
                rfl
              refine one_ (i := 10) (N := some 38) #[true, true, true, true, true, true, true, true, true, true, true, true, false] rfl rfl (one_of HT_.out (by kernel_rfl)) (by decide) (fun K hK => ?_)
              refine goes_ Try.func24 (by kernel_rfl) rfl #[.agg #[.bool t225, .slice Ao33 t226.length co33], .agg #[.bool t229, .slice Ao34 t230.length co34]] (by rfl) rfl rfl (by (try simp only [List.map_toArray, List.map_cons, List.map_nil]); first | done | rfl | (simp only [List.length_drop, List.length_take]; rfl) | (refine congrArg (fun z_ => #[Value.int IntKind.i64 z_]) (?_ : Go.RowKit.wrap64 (IntKind.u8.wrap _) = _); rw [IntKind.wrap_u8]; unfold Go.RowKit.wrap64; omega)) ?_
              with_reducible refine (horologeref01_Plus.calls kj3 t225 _ _ t226 t229 _ _ t230 t233 t234 _ ?side1 ?side2 ?side3 ?side4 A17.out).mono ?_
              (case side1 => repeat (first | exact (Kd.V_reads' HO228.out).2.2 | (with_reducible refine Kd.C_alloc ?_ _) | (with_reducible refine Kd.C_drewN ?_ _) | (with_reducible refine Kd.C_drew ?_)))
              (case side2 => exact (Kd.V_reads' HO228.out).2.1)
              (case side3 => repeat (first | exact (Kd.R_reads' HO232.out).2.2 | (with_reducible refine Kd.C_alloc ?_ _) | (with_reducible refine Kd.C_drewN ?_ _) | (with_reducible refine Kd.C_drew ?_)))
              (case side4 => exact (Kd.R_reads' HO232.out).2.1)
              rintro e w35 ⟨v235, rfl, ho0, hb⟩
              refine ⟨_, rfl, ?_⟩
              have n0_ := Aside0.mk (Kd.R_below (by (with_reducible repeat (first | apply Kd.R_alloc | apply Kd.R_drewN | apply Kd.R_drew)); exact HO214.out) hb)
              have n1_ := Aside0.mk (Kd.R_below (by (with_reducible repeat (first | apply Kd.R_alloc | apply Kd.R_drewN | apply Kd.R_drew)); exact HO220.out) hb)
              have n2_ := Aside0.mk (Kd.V_below (by (with_reducible repeat (first | apply Kd.V_alloc | apply Kd.V_drewN | apply Kd.V_drew)); exact HO224.out) hb)
              have n3_ := Aside0.mk (Kd.V_below (by (with_reducible repeat (first | apply Kd.V_alloc | apply Kd.V_drewN | apply Kd.V_drew)); exact HO228.out) hb)
              have n4_ := Aside0.mk (Kd.R_below (by (with_reducible repeat (first | apply Kd.R_alloc | apply Kd.R_drewN | apply Kd.R_drew)); exact HO232.out) hb)
              have n5_ := Aside0.mk (Kd.V_lower (Kd.V_mono (ok' := fun k_ => some k_ ≠ (.slice Ao22 t212.length co22 : Value).ownBlock ∧ some k_ ≠ (v219 : Value).ownBlock ∧ some k_ ≠ (.slice Ao34 t230.length co34 : Value).ownBlock ∧ k_ ≠ gb215 ∧ k_ ≠ gb237) ho0 (fun k_ hk_ => ⟨(Kd.fresh' (Kd.R_lt (by (with_reducible repeat (first | apply Kd.R_alloc | apply Kd.R_drewN | apply Kd.R_drew)); exact HO214.out)) k_ hk_), (Kd.fresh' (Kd.R_lt (by (with_reducible repeat (first | apply Kd.R_alloc | apply Kd.R_drewN | apply Kd.R_drew)); exact HO220.out)) k_ hk_), (Kd.fresh' (Kd.R_lt (by (with_reducible repeat (first | apply Kd.R_alloc | apply Kd.R_drewN | apply Kd.R_drew)); exact HO232.out)) k_ hk_), (Kd.freshB (g := gb215) (o := .cells #[.bool t211, .slice Ao22 t212.length co22] 51 (0, 0)) (by (with_reducible repeat (first | refine blk_drewN ?_ _ | refine blk_drew ?_ | refine blk_alloc ?_ _)); exact BK215.out) k_ hk_), (Kd.freshB (g := gb237) (o := .cells #[.bool false, .slice none 0 0] 51 (0, 0)) (by (with_reducible repeat (first | refine blk_drewN ?_ _ | refine blk_drew ?_ | refine blk_alloc ?_ _)); exact BK237.out) k_ hk_)⟩)) (below_size (by repeat (first | (with_reducible first | exact HB.out | apply below_alloc | apply pw_below_drewN | apply below_drew1 | refine below_set ?_ GE215.out | refine below_set ?_ GE237.out) | exact HB.out))))
              have n6_ := Aside0.mk (blk_below (g := gb215) (o := .cells #[.bool t211, .slice Ao22 t212.length co22] 51 (0, 0)) (by (with_reducible repeat (first | refine blk_drewN ?_ _ | refine blk_drew ?_ | refine blk_alloc ?_ _)); exact BK215.out) hb)
              have n7_ := Aside0.mk (blk_below (g := gb237) (o := .cells #[.bool false, .slice none 0 0] 51 (0, 0)) (by (with_reducible repeat (first | refine blk_drewN ?_ _ | refine blk_drew ?_ | refine blk_alloc ?_ _)); exact BK237.out) hb)
              have n8_ := Aside0.mk (below_step (by repeat (first | (with_reducible first | exact HB.out | apply below_alloc | apply pw_below_drewN | apply below_drew1 | refine below_set ?_ GE215.out | refine below_set ?_ GE237.out) | exact HB.out)) hb)
              clear HO214
              clear HO220
              clear HO224
              clear HO228
              clear HO232
              clear BK215
              clear BK237
              clear HB
              have HO214 := n0_
              have HO220 := n1_
              have HO224 := n2_
              have HO228 := n3_
              have HO232 := n4_
              have HO236 := n5_
              have BK215 := n6_
              have BK237 := n7_
              have HB := n8_
              clear n0_ n1_ n2_ n3_ n4_ n5_ n6_ n7_ n8_
              (try clear hb)
              (try clear hb2)
              (try clear hk)
              (try clear hi)
              (try clear ho0)
              refine hK.out _ _ ⟨(blk_cell BK215.out 0).trans rfl, (blk_cell BK215.out 1).trans rfl⟩ (fun hHeld => ?_)
              clear hK K
              refine norm_ (a' := ?_) ?_ ?_
              rotate_left
              · show Act.put _ (some 38) _ = _
                simp only [Act.put, List.setIfInBounds_toArray, List.set_cons_zero, List.set_cons_succ, i64_w, i32_w]
                rfl
              exact norm_ (by first | (simp only [putAll, Act.put, List.setIfInBounds_toArray, List.set_cons_zero, List.set_cons_succ]; done) | (simp only [putAll, Act.put, List.setIfInBounds_toArray, List.set_cons_zero, List.set_cons_succ]; rfl)) (hJ3_4_5_6_9_10_11 (v219, v223, .slice Ao33 t226.length co33, .slice Ao34 t230.length co34, v235, gb237) _ ⟨hHeld, (by (with_reducible repeat (first | apply Kd.R_alloc | apply Kd.R_drewN | apply Kd.R_drew)); exact HO214.out), (by (with_reducible repeat (first | apply Kd.R_alloc | apply Kd.R_drewN | apply Kd.R_drew)); exact HO220.out), (by (with_reducible repeat (first | apply Kd.V_alloc | apply Kd.V_drewN | apply Kd.V_drew)); exact HO224.out), (by (with_reducible repeat (first | apply Kd.V_alloc | apply Kd.V_drewN | apply Kd.V_drew)); exact HO228.out), (by (with_reducible repeat (first | apply Kd.R_alloc | apply Kd.R_drewN | apply Kd.R_drew)); exact HO232.out), (by (with_reducible repeat (first | apply Kd.V_alloc | apply Kd.V_drewN | apply Kd.V_drew)); exact HO236.out), (by (with_reducible repeat (first | refine blk_drewN ?_ _ | refine blk_drew ?_ | refine blk_alloc ?_ _)); exact BK215.out), (by (with_reducible repeat (first | refine blk_drewN ?_ _ | refine blk_drew ?_ | refine blk_alloc ?_ _)); exact BK237.out), GW237.out, GE237.out, NB215_237.out, NB237_215.out, (by repeat (first | (with_reducible first | exact HB.out | apply below_alloc | apply pw_below_drewN | apply below_drew1 | refine below_set ?_ GE215.out | refine below_set ?_ GE237.out) | exact HB.out))⟩)
          · skip
            rintro ⟨v219, v223, v227, v231, v235⟩ w34 ⟨hS_, h0_, h1_, h2_, h3_, h4_, h5_, h6_, h7_⟩
            have n0_ : Aside0 (Kd.R (Kd.int .u64) 37 w34 w.heap.size (fun k_ => some k_ ≠ (v219 : Value).ownBlock ∧ some k_ ≠ (v231 : Value).ownBlock) (.slice Ao22 t212.length co22) t212) := ⟨h0_⟩
            have n1_ : Aside0 (Kd.R (Kd.int .u64) 37 w34 w.heap.size (fun k_ => some k_ ≠ (.slice Ao22 t212.length co22 : Value).ownBlock ∧ some k_ ≠ (v231 : Value).ownBlock) v219 t218) := ⟨h1_⟩
            have n2_ : Aside0 (Kd.V (Kd.int .u64) 37 w34 w.heap.size (fun k_ => some k_ ≠ (.slice Ao22 t212.length co22 : Value).ownBlock ∧ some k_ ≠ (v231 : Value).ownBlock ∧ k_ ≠ gb215) v223 t222) := ⟨h2_⟩
            have n3_ : Aside0 (Kd.V (Kd.int .u64) 37 w34 w.heap.size (fun k_ => some k_ ≠ (.slice Ao22 t212.length co22 : Value).ownBlock ∧ some k_ ≠ (v219 : Value).ownBlock ∧ some k_ ≠ (v231 : Value).ownBlock ∧ k_ ≠ gb215) v227 t226) := ⟨h3_⟩
            have n4_ : Aside0 (Kd.R (Kd.int .u64) 37 w34 w.heap.size (fun k_ => some k_ ≠ (.slice Ao22 t212.length co22 : Value).ownBlock ∧ some k_ ≠ (v219 : Value).ownBlock) v231 t230) := ⟨h4_⟩
            have n5_ : Aside0 (Kd.V (Kd.int .u64) 37 w34 w.heap.size (fun k_ => some k_ ≠ (.slice Ao22 t212.length co22 : Value).ownBlock ∧ some k_ ≠ (v219 : Value).ownBlock ∧ some k_ ≠ (v231 : Value).ownBlock ∧ k_ ≠ gb215) v235 t234) := ⟨h5_⟩
            have n6_ : Aside0 (w34.heap[gb215]? = some (.cells #[.bool t211, .slice Ao22 t212.length co22] 51 (0, 0))) := ⟨h6_⟩
            have n7_ : Aside0 (Below w.heap.size w w34) := ⟨h7_⟩
            clear HO214
            clear BK215
            clear HB
            clear h0_ h1_ h2_ h3_ h4_ h5_ h6_ h7_
            have HO214 := n0_
            have HO220 := n1_
            have HO224 := n2_
            have HO228 := n3_
            have HO232 := n4_
            have HO236 := n5_
            have BK215 := n6_
            have HB := n7_
            clear n0_ n1_ n2_ n3_ n4_ n5_ n6_ n7_
            have hHeld : w34.cell? ⟨gb215, 0, none⟩ = some (.bool t211) ∧ w34.cell? ⟨gb215, 1, none⟩ = some (.slice Ao22 t212.length co22) := hS_
            refine norm_ (a' := ?_) ?_ ?_
            rotate_left
            · simp only [putAll, Act.put, List.setIfInBounds_toArray, List.set_cons_zero, List.set_cons_succ]
              rfl
            refine one_ (i := 11) (N := some 9) #[true, true, true, true, true, true, true, true, true, true, true, true, false] rfl rfl (one_of HT_.out (by kernel_rfl)) (by decide) (fun K hK => ?_)
            refine box_step ?hg (N := 9) ?hd (cs := #[.bool false, .slice none 0 0]) (t := 51) ?hr ?_; (case hd => rfl); (case hg => rfl); (case hr => first | (go_simp; done) | (go_simp; rfl))
            intro gb237 hg w35 hbox hb
            have n0_ := Aside0.mk (Kd.R_below (by (with_reducible repeat (first | apply Kd.R_alloc | apply Kd.R_drewN | apply Kd.R_drew)); exact HO214.out) hb)
            have n1_ := Aside0.mk (Kd.R_below (by (with_reducible repeat (first | apply Kd.R_alloc | apply Kd.R_drewN | apply Kd.R_drew)); exact HO220.out) hb)
            have n2_ := Aside0.mk (Kd.V_below (Kd.V_elderB (by (with_reducible repeat (first | apply Kd.V_alloc | apply Kd.V_drewN | apply Kd.V_drew)); exact HO224.out) gb237 (Nat.le_of_eq hg.symm)) hb)
            have n3_ := Aside0.mk (Kd.V_below (Kd.V_elderB (by (with_reducible repeat (first | apply Kd.V_alloc | apply Kd.V_drewN | apply Kd.V_drew)); exact HO228.out) gb237 (Nat.le_of_eq hg.symm)) hb)
            have n4_ := Aside0.mk (Kd.R_below (by (with_reducible repeat (first | apply Kd.R_alloc | apply Kd.R_drewN | apply Kd.R_drew)); exact HO232.out) hb)
            have n5_ := Aside0.mk (Kd.V_below (Kd.V_elderB (by (with_reducible repeat (first | apply Kd.V_alloc | apply Kd.V_drewN | apply Kd.V_drew)); exact HO236.out) gb237 (Nat.le_of_eq hg.symm)) hb)
            have n6_ := Aside0.mk (blk_below (g := gb215) (o := .cells #[.bool t211, .slice Ao22 t212.length co22] 51 (0, 0)) (by (with_reducible repeat (first | refine blk_drewN ?_ _ | refine blk_drew ?_ | refine blk_alloc ?_ _)); exact BK215.out) hb)
            have n7_ := Aside0.mk (below_step (by repeat (first | (with_reducible first | exact HB.out | apply below_alloc | apply pw_below_drewN | apply below_drew1 | refine below_set ?_ GE215.out) | exact HB.out)) hb)
            have n8_ := Aside0.mk (hbox)
            have n9_ := Aside0.mk ((by rw [hg]; exact (below_size (by repeat (first | (with_reducible first | exact HB.out | apply below_alloc | apply pw_below_drewN | apply below_drew1 | refine below_set ?_ GE215.out) | exact HB.out))) : w.heap.size ≤ gb237))
            have n10_ := Aside0.mk ((by rw [hg]; exact (below_size (by repeat (first | (with_reducible first | exact HB.out | apply below_alloc | apply pw_below_drewN | apply below_drew1 | refine below_set ?_ GE215.out) | exact HB.out))) : w.heap.size ≤ gb237))
            have n11_ := Aside0.mk ((by rw [hg]; exact Nat.ne_of_lt (blk_lt (g := gb215) (o := .cells #[.bool t211, .slice Ao22 t212.length co22] 51 (0, 0)) (by (with_reducible repeat (first | refine blk_drewN ?_ _ | refine blk_drew ?_ | refine blk_alloc ?_ _)); exact BK215.out)) : gb215 ≠ gb237))
            have n12_ := Aside0.mk ((by rw [hg]; exact Nat.ne_of_gt (blk_lt (g := gb215) (o := .cells #[.bool t211, .slice Ao22 t212.length co22] 51 (0, 0)) (by (with_reducible repeat (first | refine blk_drewN ?_ _ | refine blk_drew ?_ | refine blk_alloc ?_ _)); exact BK215.out)) : gb237 ≠ gb215))
            clear HO214
            clear HO220
            clear HO224
            clear HO228
            clear HO232
            clear HO236
            clear BK215
            clear HB
            have HO214 := n0_
            have HO220 := n1_
            have HO224 := n2_
            have HO228 := n3_
            have HO232 := n4_
            have HO236 := n5_
            have BK215 := n6_
            have HB := n7_
            have BK237 := n8_
            have GW237 := n9_
            have GE237 := n10_
            have NB215_237 := n11_
            have NB237_215 := n12_
            clear n0_ n1_ n2_ n3_ n4_ n5_ n6_ n7_ n8_ n9_ n10_ n11_ n12_
            clear hb hbox hg
            refine hK.out _ _ ⟨(blk_cell BK215.out 0).trans rfl, (blk_cell BK215.out 1).trans rfl⟩ (fun hHeld => ?_)
            clear hK K
            refine norm_ (a' := ?_) ?_ ?_
            rotate_left
            · show Act.put _ (some 9) _ = _
              simp only [Act.put, List.setIfInBounds_toArray, List.set_cons_zero, List.set_cons_succ, i64_w, i32_w]
              rfl
            exact norm_ (by first | (simp only [putAll, Act.put, List.setIfInBounds_toArray, List.set_cons_zero, List.set_cons_succ]; done) | (simp only [putAll, Act.put, List.setIfInBounds_toArray, List.set_cons_zero, List.set_cons_succ]; rfl)) (hJ3_4_5_6_9_10_11 (v219, v223, v227, v231, v235, gb237) _ ⟨hHeld, (by (with_reducible repeat (first | apply Kd.R_alloc | apply Kd.R_drewN | apply Kd.R_drew)); exact HO214.out), (by (with_reducible repeat (first | apply Kd.R_alloc | apply Kd.R_drewN | apply Kd.R_drew)); exact HO220.out), (by (with_reducible repeat (first | apply Kd.V_alloc | apply Kd.V_drewN | apply Kd.V_drew)); exact Kd.V_mono HO224.out (fun _ hk => ⟨hk.1.1, ⟨hk.1.2.1, ⟨hk.1.2.2, hk.2⟩⟩⟩)), (by (with_reducible repeat (first | apply Kd.V_alloc | apply Kd.V_drewN | apply Kd.V_drew)); exact Kd.V_mono HO228.out (fun _ hk => ⟨hk.1.1, ⟨hk.1.2.1, ⟨hk.1.2.2.1, ⟨hk.1.2.2.2, hk.2⟩⟩⟩⟩)), (by (with_reducible repeat (first | apply Kd.R_alloc | apply Kd.R_drewN | apply Kd.R_drew)); exact HO232.out), (by (with_reducible repeat (first | apply Kd.V_alloc | apply Kd.V_drewN | apply Kd.V_drew)); exact Kd.V_mono HO236.out (fun _ hk => ⟨hk.1.1, ⟨hk.1.2.1, ⟨hk.1.2.2.1, ⟨hk.1.2.2.2, hk.2⟩⟩⟩⟩)), (by (with_reducible repeat (first | refine blk_drewN ?_ _ | refine blk_drew ?_ | refine blk_alloc ?_ _)); exact BK215.out), (by (with_reducible repeat (first | refine blk_drewN ?_ _ | refine blk_drew ?_ | refine blk_alloc ?_ _)); exact BK237.out), GW237.out, GE237.out, NB215_237.out, NB237_215.out, (by repeat (first | (with_reducible first | exact HB.out | apply below_alloc | apply pw_below_drewN | apply below_drew1 | refine below_set ?_ GE215.out | refine below_set ?_ GE237.out) | exact HB.out))⟩)
        rintro ⟨v219, v223, v227, v231, v235, gb237⟩ w35 ⟨hS_, h0_, h1_, h2_, h3_, h4_, h5_, h6_, h7_, h8_, h9_, h10_, h11_, h12_⟩
        have n0_ : Aside0 (Kd.R (Kd.int .u64) 37 w35 w.heap.size (fun k_ => some k_ ≠ (v219 : Value).ownBlock ∧ some k_ ≠ (v231 : Value).ownBlock) (.slice Ao22 t212.length co22) t212) := ⟨h0_⟩
        have n1_ : Aside0 (Kd.R (Kd.int .u64) 37 w35 w.heap.size (fun k_ => some k_ ≠ (.slice Ao22 t212.length co22 : Value).ownBlock ∧ some k_ ≠ (v231 : Value).ownBlock) v219 t218) := ⟨h1_⟩
        have n2_ : Aside0 (Kd.V (Kd.int .u64) 37 w35 w.heap.size (fun k_ => some k_ ≠ (.slice Ao22 t212.length co22 : Value).ownBlock ∧ some k_ ≠ (v231 : Value).ownBlock ∧ k_ ≠ gb215 ∧ k_ ≠ gb237) v223 t222) := ⟨h2_⟩
        have n3_ : Aside0 (Kd.V (Kd.int .u64) 37 w35 w.heap.size (fun k_ => some k_ ≠ (.slice Ao22 t212.length co22 : Value).ownBlock ∧ some k_ ≠ (v219 : Value).ownBlock ∧ some k_ ≠ (v231 : Value).ownBlock ∧ k_ ≠ gb215 ∧ k_ ≠ gb237) v227 t226) := ⟨h3_⟩
        have n4_ : Aside0 (Kd.R (Kd.int .u64) 37 w35 w.heap.size (fun k_ => some k_ ≠ (.slice Ao22 t212.length co22 : Value).ownBlock ∧ some k_ ≠ (v219 : Value).ownBlock) v231 t230) := ⟨h4_⟩
        have n5_ : Aside0 (Kd.V (Kd.int .u64) 37 w35 w.heap.size (fun k_ => some k_ ≠ (.slice Ao22 t212.length co22 : Value).ownBlock ∧ some k_ ≠ (v219 : Value).ownBlock ∧ some k_ ≠ (v231 : Value).ownBlock ∧ k_ ≠ gb215 ∧ k_ ≠ gb237) v235 t234) := ⟨h5_⟩
        have n6_ : Aside0 (w35.heap[gb215]? = some (.cells #[.bool t211, .slice Ao22 t212.length co22] 51 (0, 0))) := ⟨h6_⟩
        have n7_ : Aside0 (w35.heap[gb237]? = some (.cells #[.bool false, .slice none 0 0] 51 (0, 0))) := ⟨h7_⟩
        have n8_ : Aside0 (w.heap.size ≤ gb237) := ⟨h8_⟩
        have n9_ : Aside0 (w.heap.size ≤ gb237) := ⟨h9_⟩
        have n10_ : Aside0 (gb215 ≠ gb237) := ⟨h10_⟩
        have n11_ : Aside0 (gb237 ≠ gb215) := ⟨h11_⟩
        have n12_ : Aside0 (Below w.heap.size w w35) := ⟨h12_⟩
        clear HO214
        clear BK215
        clear HB
        clear h0_ h1_ h2_ h3_ h4_ h5_ h6_ h7_ h8_ h9_ h10_ h11_ h12_
        have HO214 := n0_
        have HO220 := n1_
        have HO224 := n2_
        have HO228 := n3_
        have HO232 := n4_
        have HO236 := n5_
        have BK215 := n6_
        have BK237 := n7_
        have GW237 := n8_
        have GE237 := n9_
        have NB215_237 := n10_
        have NB237_215 := n11_
        have HB := n12_
        clear n0_ n1_ n2_ n3_ n4_ n5_ n6_ n7_ n8_ n9_ n10_ n11_ n12_
        have hHeld : w35.cell? ⟨gb215, 0, none⟩ = some (.bool t211) ∧ w35.cell? ⟨gb215, 1, none⟩ = some (.slice Ao22 t212.length co22) := hS_
        obtain ⟨Ao37, co37, eo37⟩ := Kd.V_slice HO236.out
        (first | subst eo37 | (injection eo37 with f1_ f2_ f3_; have f4_ := f1_.symm; have f5_ := f3_.symm; clear f1_ f2_ f3_; subst f4_; subst f5_))
        refine norm_ (a' := ?_) ?_ ?_
        rotate_left
        · simp only [putAll, Act.put, List.setIfInBounds_toArray, List.set_cons_zero, List.set_cons_succ]
          rfl
        refine one_ (i := 12) (N := none) #[true, true, true, true, true, true, true, true, true, true, true, true, true] rfl rfl (one_of HT_.out (by kernel_rfl)) (by decide) (fun K hK => ?_)
        have hs36 : w35.cell? ⟨gb237, 0, none⟩ = some (.bool false) := (blk_cell BK237.out 0).trans rfl
        have hfs36 := blk_frozen BK237.out 0
        have hns36_0 := NB215_237.out
        have hms36_0 := NB237_215.out
        have hs38 : w35.cell? ⟨gb237, 1, none⟩ = some (.slice none 0 0) := (blk_cell BK237.out 1).trans rfl
        have hfs38 := blk_frozen BK237.out 1
        have hns38_0 := NB215_237.out
        have hms38_0 := NB237_215.out
        refine skip_ (w1 := ?_) (by rfl) rfl ?_ ?_
        rotate_left
        · go_simp
          rfl
        refine hK.out _ _ ⟨((cell_far (p := ⟨gb237, _, none⟩) NB215_237.out _).trans (((cell_far (p := ⟨gb237, _, none⟩) NB215_237.out _).trans (hHeld.1)))), ((cell_far (p := ⟨gb237, _, none⟩) NB215_237.out _).trans (((cell_far (p := ⟨gb237, _, none⟩) NB215_237.out _).trans (hHeld.2))))⟩ (fun hHeld => ?_)
        clear hK K
        refine done_ (done_of HT_.out (by kernel_rfl)) ?_
        try go_wp2_with (first | ((with_reducible refine gate_callee (f := 26) rfl ?_); refine goesL_ (some 40) rfl rfl Try.func26 (by kernel_rfl) rfl #[.int .i64 a1] rfl (by (try simp only [List.map_toArray, List.map_cons, List.map_nil]); first | done | rfl | (simp only [List.length_drop, List.length_take]; rfl) | (refine congrArg (fun z_ => #[Value.int IntKind.i64 z_]) (?_ : Go.RowKit.wrap64 (IntKind.u8.wrap _) = _); rw [IntKind.wrap_u8]; unfold Go.RowKit.wrap64; omega)) ?_; (with_reducible refine (horologeref13_Power.calls kj3 a1 t238 t239 _ A18.out).mono ?_); rintro e w39 ⟨v240, rfl, ho0, hb⟩; refine ⟨_, rfl, ?_⟩; have n0_ := Aside0.mk (Kd.R_below (by (with_reducible repeat (first | apply Kd.R_alloc | apply Kd.R_drewN | apply Kd.R_drew)); exact (Kd.R_mono (Kd.R_far (p := ⟨gb237, 1, none⟩) (Kd.R_far (p := ⟨gb237, 0, none⟩) (Kd.R_types HO214.out BK237.out (by decide)) (fun _ hk => hk.2) (.bool t233)) (fun _ hk => hk.2) (.slice Ao37 t234.length co37)) (fun _ h_ => h_.1))) hb); have n1_ := Aside0.mk (Kd.R_below (by (with_reducible repeat (first | apply Kd.R_alloc | apply Kd.R_drewN | apply Kd.R_drew)); exact (Kd.R_mono (Kd.R_far (p := ⟨gb237, 1, none⟩) (Kd.R_far (p := ⟨gb237, 0, none⟩) (Kd.R_types HO220.out BK237.out (by decide)) (fun _ hk => hk.2) (.bool t233)) (fun _ hk => hk.2) (.slice Ao37 t234.length co37)) (fun _ h_ => h_.1))) hb); have n2_ := Aside0.mk (Kd.V_below (by (with_reducible repeat (first | apply Kd.V_alloc | apply Kd.V_drewN | apply Kd.V_drew)); exact (Kd.V_mono (Kd.V_far (p := ⟨gb237, 1, none⟩) (Kd.V_far (p := ⟨gb237, 0, none⟩) (Kd.V_mono HO224.out (fun k_ hk => (⟨hk, hk.2.2.2⟩ : _ ∧ k_ ≠ gb237))) (fun _ hk => hk.2) (.bool t233)) (fun _ hk => hk.2) (.slice Ao37 t234.length co37)) (fun _ h_ => h_.1))) hb); have n3_ := Aside0.mk (Kd.V_below (by (with_reducible repeat (first | apply Kd.V_alloc | apply Kd.V_drewN | apply Kd.V_drew)); exact (Kd.V_mono (Kd.V_far (p := ⟨gb237, 1, none⟩) (Kd.V_far (p := ⟨gb237, 0, none⟩) (Kd.V_mono HO228.out (fun k_ hk => (⟨hk, hk.2.2.2.2⟩ : _ ∧ k_ ≠ gb237))) (fun _ hk => hk.2) (.bool t233)) (fun _ hk => hk.2) (.slice Ao37 t234.length co37)) (fun _ h_ => h_.1))) hb); have n4_ := Aside0.mk (Kd.R_below (by (with_reducible repeat (first | apply Kd.R_alloc | apply Kd.R_drewN | apply Kd.R_drew)); exact (Kd.R_mono (Kd.R_far (p := ⟨gb237, 1, none⟩) (Kd.R_far (p := ⟨gb237, 0, none⟩) (Kd.R_types HO232.out BK237.out (by decide)) (fun _ hk => hk.2) (.bool t233)) (fun _ hk => hk.2) (.slice Ao37 t234.length co37)) (fun _ h_ => h_.1))) hb); have n5_ := Aside0.mk (Kd.V_below (by (with_reducible repeat (first | apply Kd.V_alloc | apply Kd.V_drewN | apply Kd.V_drew)); exact (Kd.V_mono (Kd.V_far (p := ⟨gb237, 1, none⟩) (Kd.V_far (p := ⟨gb237, 0, none⟩) (Kd.V_mono HO236.out (fun k_ hk => (⟨hk, hk.2.2.2.2⟩ : _ ∧ k_ ≠ gb237))) (fun _ hk => hk.2) (.bool t233)) (fun _ hk => hk.2) (.slice Ao37 t234.length co37)) (fun _ h_ => h_.1))) hb); have n6_ := Aside0.mk (Kd.V_lower (Kd.V_mono (ok' := fun k_ => some k_ ≠ (.slice Ao22 t212.length co22 : Value).ownBlock ∧ some k_ ≠ (v219 : Value).ownBlock ∧ some k_ ≠ (v231 : Value).ownBlock ∧ k_ ≠ gb215 ∧ k_ ≠ gb237) ho0 (fun k_ hk_ => ⟨(Kd.fresh' (Kd.R_lt (by (with_reducible repeat (first | apply Kd.R_alloc | apply Kd.R_drewN | apply Kd.R_drew)); exact (Kd.R_mono (Kd.R_far (p := ⟨gb237, 1, none⟩) (Kd.R_far (p := ⟨gb237, 0, none⟩) (Kd.R_types HO214.out BK237.out (by decide)) (fun _ hk => hk.2) (.bool t233)) (fun _ hk => hk.2) (.slice Ao37 t234.length co37)) (fun _ h_ => h_.1)))) k_ hk_), (Kd.fresh' (Kd.R_lt (by (with_reducible repeat (first | apply Kd.R_alloc | apply Kd.R_drewN | apply Kd.R_drew)); exact (Kd.R_mono (Kd.R_far (p := ⟨gb237, 1, none⟩) (Kd.R_far (p := ⟨gb237, 0, none⟩) (Kd.R_types HO220.out BK237.out (by decide)) (fun _ hk => hk.2) (.bool t233)) (fun _ hk => hk.2) (.slice Ao37 t234.length co37)) (fun _ h_ => h_.1)))) k_ hk_), (Kd.fresh' (Kd.R_lt (by (with_reducible repeat (first | apply Kd.R_alloc | apply Kd.R_drewN | apply Kd.R_drew)); exact (Kd.R_mono (Kd.R_far (p := ⟨gb237, 1, none⟩) (Kd.R_far (p := ⟨gb237, 0, none⟩) (Kd.R_types HO232.out BK237.out (by decide)) (fun _ hk => hk.2) (.bool t233)) (fun _ hk => hk.2) (.slice Ao37 t234.length co37)) (fun _ h_ => h_.1)))) k_ hk_), (Kd.freshB (g := gb215) (o := .cells #[.bool t211, .slice Ao22 t212.length co22] 51 (0, 0)) (by (with_reducible repeat (first | refine blk_drewN ?_ _ | refine blk_drew ?_ | refine blk_alloc ?_ _)); refine blk_far ?_ NB215_237.out _; (with_reducible repeat (first | refine blk_drewN ?_ _ | refine blk_drew ?_ | refine blk_alloc ?_ _)); refine blk_far ?_ NB215_237.out _; (with_reducible repeat (first | refine blk_drewN ?_ _ | refine blk_drew ?_ | refine blk_alloc ?_ _)); exact BK215.out) k_ hk_), (Kd.freshB (g := gb237) (o := .cells #[.bool t233, .slice Ao37 t234.length co37] 51 (0, 0)) (by (with_reducible repeat (first | refine blk_drewN ?_ _ | refine blk_drew ?_ | refine blk_alloc ?_ _)); refine blk_put (cs := #[.bool t233, .slice none 0 0]) ?_ 1 _ rfl; (with_reducible repeat (first | refine blk_drewN ?_ _ | refine blk_drew ?_ | refine blk_alloc ?_ _)); refine blk_put (cs := #[.bool false, .slice none 0 0]) ?_ 0 _ rfl; (with_reducible repeat (first | refine blk_drewN ?_ _ | refine blk_drew ?_ | refine blk_alloc ?_ _)); exact BK237.out) k_ hk_)⟩)) (below_size (by repeat (first | (with_reducible first | exact HB.out | apply below_alloc | apply pw_below_drewN | apply below_drew1 | refine below_set ?_ GE215.out | refine below_set ?_ GE237.out) | exact HB.out)))); have n7_ := Aside0.mk (blk_below (g := gb215) (o := .cells #[.bool t211, .slice Ao22 t212.length co22] 51 (0, 0)) (by (with_reducible repeat (first | refine blk_drewN ?_ _ | refine blk_drew ?_ | refine blk_alloc ?_ _)); refine blk_far ?_ NB215_237.out _; (with_reducible repeat (first | refine blk_drewN ?_ _ | refine blk_drew ?_ | refine blk_alloc ?_ _)); refine blk_far ?_ NB215_237.out _; (with_reducible repeat (first | refine blk_drewN ?_ _ | refine blk_drew ?_ | refine blk_alloc ?_ _)); exact BK215.out) hb); have n8_ := Aside0.mk (blk_below (g := gb237) (o := .cells #[.bool t233, .slice Ao37 t234.length co37] 51 (0, 0)) (by (with_reducible repeat (first | refine blk_drewN ?_ _ | refine blk_drew ?_ | refine blk_alloc ?_ _)); refine blk_put (cs := #[.bool t233, .slice none 0 0]) ?_ 1 _ rfl; (with_reducible repeat (first | refine blk_drewN ?_ _ | refine blk_drew ?_ | refine blk_alloc ?_ _)); refine blk_put (cs := #[.bool false, .slice none 0 0]) ?_ 0 _ rfl; (with_reducible repeat (first | refine blk_drewN ?_ _ | refine blk_drew ?_ | refine blk_alloc ?_ _)); exact BK237.out) hb); have n9_ := Aside0.mk (below_step (by repeat (first | (with_reducible first | exact HB.out | apply below_alloc | apply pw_below_drewN | apply below_drew1 | refine below_set ?_ GE215.out | refine below_set ?_ GE237.out) | exact HB.out)) hb); clear HO214; clear HO220; clear HO224; clear HO228; clear HO232; clear HO236; clear BK215; clear BK237; clear HB; have HO214 := n0_; have HO220 := n1_; have HO224 := n2_; have HO228 := n3_; have HO232 := n4_; have HO236 := n5_; have HO241 := n6_; have BK215 := n7_; have BK237 := n8_; have HB := n9_; clear n0_ n1_ n2_ n3_ n4_ n5_ n6_ n7_ n8_ n9_; (try clear hb); (try clear hb2); (try clear hk); (try clear hi); (try clear ho0)) | ((with_reducible refine gate_dst (N := 10) rfl ?_); refine box_event ?hg (N := 10) ?hd (cs := #[.bool false, .slice none 0 0]) (t := 51) ?hr ?_; (case hd => rfl); (case hg => rfl); (case hr => first | (go_simp; done) | (go_simp; rfl)); intro gb242 hg w40 hbox hb; have n0_ := Aside0.mk (Kd.R_below (by (with_reducible repeat (first | apply Kd.R_alloc | apply Kd.R_drewN | apply Kd.R_drew)); exact HO214.out) hb); have n1_ := Aside0.mk (Kd.R_below (by (with_reducible repeat (first | apply Kd.R_alloc | apply Kd.R_drewN | apply Kd.R_drew)); exact HO220.out) hb); have n2_ := Aside0.mk (Kd.V_below (Kd.V_elderB (by (with_reducible repeat (first | apply Kd.V_alloc | apply Kd.V_drewN | apply Kd.V_drew)); exact HO224.out) gb242 (Nat.le_of_eq hg.symm)) hb); have n3_ := Aside0.mk (Kd.V_below (Kd.V_elderB (by (with_reducible repeat (first | apply Kd.V_alloc | apply Kd.V_drewN | apply Kd.V_drew)); exact HO228.out) gb242 (Nat.le_of_eq hg.symm)) hb); have n4_ := Aside0.mk (Kd.R_below (by (with_reducible repeat (first | apply Kd.R_alloc | apply Kd.R_drewN | apply Kd.R_drew)); exact HO232.out) hb); have n5_ := Aside0.mk (Kd.V_below (Kd.V_elderB (by (with_reducible repeat (first | apply Kd.V_alloc | apply Kd.V_drewN | apply Kd.V_drew)); exact HO236.out) gb242 (Nat.le_of_eq hg.symm)) hb); have n6_ := Aside0.mk (Kd.V_below (Kd.V_elderB (by (with_reducible repeat (first | apply Kd.V_alloc | apply Kd.V_drewN | apply Kd.V_drew)); exact HO241.out) gb242 (Nat.le_of_eq hg.symm)) hb); have n7_ := Aside0.mk (blk_below (g := gb215) (o := .cells #[.bool t211, .slice Ao22 t212.length co22] 51 (0, 0)) (by (with_reducible repeat (first | refine blk_drewN ?_ _ | refine blk_drew ?_ | refine blk_alloc ?_ _)); exact BK215.out) hb); have n8_ := Aside0.mk (blk_below (g := gb237) (o := .cells #[.bool t233, .slice Ao37 t234.length co37] 51 (0, 0)) (by (with_reducible repeat (first | refine blk_drewN ?_ _ | refine blk_drew ?_ | refine blk_alloc ?_ _)); exact BK237.out) hb); have n9_ := Aside0.mk (below_step (by repeat (first | (with_reducible first | exact HB.out | apply below_alloc | apply pw_below_drewN | apply below_drew1 | refine below_set ?_ GE215.out | refine below_set ?_ GE237.out) | exact HB.out)) hb); have n10_ := Aside0.mk (hbox); have n11_ := Aside0.mk ((by rw [hg]; exact (below_size (by repeat (first | (with_reducible first | exact HB.out | apply below_alloc | apply pw_below_drewN | apply below_drew1 | refine below_set ?_ GE215.out | refine below_set ?_ GE237.out) | exact HB.out))) : w.heap.size ≤ gb242)); have n12_ := Aside0.mk ((by rw [hg]; exact (below_size (by repeat (first | (with_reducible first | exact HB.out | apply below_alloc | apply pw_below_drewN | apply below_drew1 | refine below_set ?_ GE215.out | refine below_set ?_ GE237.out) | exact HB.out))) : w.heap.size ≤ gb242)); have n13_ := Aside0.mk ((by rw [hg]; exact Nat.ne_of_lt (blk_lt (g := gb215) (o := .cells #[.bool t211, .slice Ao22 t212.length co22] 51 (0, 0)) (by (with_reducible repeat (first | refine blk_drewN ?_ _ | refine blk_drew ?_ | refine blk_alloc ?_ _)); exact BK215.out)) : gb215 ≠ gb242)); have n14_ := Aside0.mk ((by rw [hg]; exact Nat.ne_of_gt (blk_lt (g := gb215) (o := .cells #[.bool t211, .slice Ao22 t212.length co22] 51 (0, 0)) (by (with_reducible repeat (first | refine blk_drewN ?_ _ | refine blk_drew ?_ | refine blk_alloc ?_ _)); exact BK215.out)) : gb242 ≠ gb215)); have n15_ := Aside0.mk ((by rw [hg]; exact Nat.ne_of_lt (blk_lt (g := gb237) (o := .cells #[.bool t233, .slice Ao37 t234.length co37] 51 (0, 0)) (by (with_reducible repeat (first | refine blk_drewN ?_ _ | refine blk_drew ?_ | refine blk_alloc ?_ _)); exact BK237.out)) : gb237 ≠ gb242)); have n16_ := Aside0.mk ((by rw [hg]; exact Nat.ne_of_gt (blk_lt (g := gb237) (o := .cells #[.bool t233, .slice Ao37 t234.length co37] 51 (0, 0)) (by (with_reducible repeat (first | refine blk_drewN ?_ _ | refine blk_drew ?_ | refine blk_alloc ?_ _)); exact BK237.out)) : gb242 ≠ gb237)); clear HO214; clear HO220; clear HO224; clear HO228; clear HO232; clear HO236; clear HO241; clear BK215; clear BK237; clear HB; have HO214 := n0_; have HO220 := n1_; have HO224 := n2_; have HO228 := n3_; have HO232 := n4_; have HO236 := n5_; have HO241 := n6_; have BK215 := n7_; have BK237 := n8_; have HB := n9_; have BK242 := n10_; have GW242 := n11_; have GE242 := n12_; have NB215_242 := n13_; have NB242_215 := n14_; have NB237_242 := n15_; have NB242_237 := n16_; clear n0_ n1_ n2_ n3_ n4_ n5_ n6_ n7_ n8_ n9_ n10_ n11_ n12_ n13_ n14_ n15_ n16_; clear hb hbox hg; have hnb41 := NB242_215.out; have hnc41 := NB215_242.out; have hnb42 := NB242_237.out; have hnc42 := NB237_242.out; have hcz43_0 : w40.cell? ⟨gb242, 0, none⟩ = some (.bool false) := (blk_cell BK242.out 0).trans rfl; have hcz43_1 : w40.cell? ⟨gb242, 1, none⟩ = some (.slice none 0 0) := (blk_cell BK242.out 1).trans rfl; have hfz43_0 := blk_frozen BK242.out 0; have hfz43_1 := blk_frozen BK242.out 1; obtain ⟨Ao44, co44, eo44⟩ := Kd.V_slice HO241.out; subst eo44))
        go_loopg [11] kj3 (fun kq v11 w' => ∃ (x11_2 : Int), v11 = .int .i64 x11_2 ∧ Aside0 (horologeref13_Bits.l0 kq a1 x11_2 t211 t212 t233 t234 t238 t239 = some (r1, r2)) ∧ Aside0 (kq ≤ kj3) ∧ Aside0 (Kd.R (Kd.int .u64) 37 w' w.heap.size (fun _ => True) (.slice Ao22 t212.length co22) t212) ∧ Aside0 (Kd.V (Kd.int .u64) 37 w' w.heap.size (fun k_ => some k_ ≠ ((.slice Ao22 t212.length co22) : Value).ownBlock ∧ k_ ≠ gb215 ∧ k_ ≠ gb237 ∧ k_ ≠ gb242) (.slice Ao37 t234.length co37) t234) ∧ Aside0 (Kd.V (Kd.int .u64) 37 w' w.heap.size (fun k_ => some k_ ≠ ((.slice Ao22 t212.length co22) : Value).ownBlock ∧ k_ ≠ gb215 ∧ k_ ≠ gb237 ∧ k_ ≠ gb242) (.slice Ao44 t239.length co44) t239) ∧ Aside0 (w'.heap[gb215]? = some (.cells #[.bool t211, (.slice Ao22 t212.length co22)] 51 (0, 0))) ∧ Aside0 (w'.heap[gb237]? = some (.cells #[.bool t233, (.slice Ao37 t234.length co37)] 51 (0, 0))) ∧ Aside0 (w'.heap[gb242]? = some (.cells #[.bool t238, (.slice Ao44 t239.length co44)] 51 (0, 0))) ∧ Aside0 (Below w.heap.size w w'))
        case atStart => exact ⟨(0), (by first | rfl | (simp; done) | (simp [*]; done)), H', ⟨Nat.le_refl _⟩, ⟨by (with_reducible repeat (first | apply Kd.R_alloc | apply Kd.R_drewN | apply Kd.R_drew)); exact Kd.R_mono (Kd.R_far (p := ⟨gb242, 1, none⟩) (Kd.R_far (p := ⟨gb242, 0, none⟩) (Kd.R_types HO214.out BK242.out (by decide)) (fun _ hk => hk.2) (.bool t238)) (fun _ hk => hk.2) (.slice Ao44 t239.length co44)) (fun _ hk => trivial)⟩, ⟨by (with_reducible repeat (first | apply Kd.V_alloc | apply Kd.V_drewN | apply Kd.V_drew)); exact Kd.V_mono (Kd.V_far (p := ⟨gb242, 1, none⟩) (Kd.V_far (p := ⟨gb242, 0, none⟩) (Kd.V_mono HO236.out (fun k_ hk => (⟨hk, hk.2⟩ : _ ∧ k_ ≠ gb242))) (fun _ hk => hk.2) (.bool t238)) (fun _ hk => hk.2) (.slice Ao44 t239.length co44)) (fun _ hk => ⟨hk.1.1.1, ⟨hk.1.1.2.2.2.1, ⟨hk.1.1.2.2.2.2, hk.1.2⟩⟩⟩)⟩, ⟨by (with_reducible repeat (first | apply Kd.V_alloc | apply Kd.V_drewN | apply Kd.V_drew)); exact Kd.V_mono (Kd.V_far (p := ⟨gb242, 1, none⟩) (Kd.V_far (p := ⟨gb242, 0, none⟩) (Kd.V_mono HO241.out (fun k_ hk => (⟨hk, hk.2⟩ : _ ∧ k_ ≠ gb242))) (fun _ hk => hk.2) (.bool t238)) (fun _ hk => hk.2) (.slice Ao44 t239.length co44)) (fun _ hk => ⟨hk.1.1.1, ⟨hk.1.1.2.2.2.1, ⟨hk.1.1.2.2.2.2, hk.1.2⟩⟩⟩)⟩, ⟨by (with_reducible repeat (first | refine blk_drewN ?_ _ | refine blk_drew ?_ | refine blk_alloc ?_ _)); refine blk_far ?_ NB215_242.out _; (with_reducible repeat (first | refine blk_drewN ?_ _ | refine blk_drew ?_ | refine blk_alloc ?_ _)); refine blk_far ?_ NB215_242.out _; (with_reducible repeat (first | refine blk_drewN ?_ _ | refine blk_drew ?_ | refine blk_alloc ?_ _)); exact BK215.out⟩, ⟨by (with_reducible repeat (first | refine blk_drewN ?_ _ | refine blk_drew ?_ | refine blk_alloc ?_ _)); refine blk_far ?_ NB237_242.out _; (with_reducible repeat (first | refine blk_drewN ?_ _ | refine blk_drew ?_ | refine blk_alloc ?_ _)); refine blk_far ?_ NB237_242.out _; (with_reducible repeat (first | refine blk_drewN ?_ _ | refine blk_drew ?_ | refine blk_alloc ?_ _)); exact BK237.out⟩, ⟨by (with_reducible repeat (first | refine blk_drewN ?_ _ | refine blk_drew ?_ | refine blk_alloc ?_ _)); refine blk_put (cs := #[.bool t238, .slice none 0 0]) ?_ 1 _ rfl; (with_reducible repeat (first | refine blk_drewN ?_ _ | refine blk_drew ?_ | refine blk_alloc ?_ _)); refine blk_put (cs := #[.bool false, .slice none 0 0]) ?_ 0 _ rfl; (with_reducible repeat (first | refine blk_drewN ?_ _ | refine blk_drew ?_ | refine blk_alloc ?_ _)); exact BK242.out⟩, ⟨by repeat (first | (with_reducible first | exact HB.out | apply below_alloc | apply pw_below_drewN | apply below_drew1 | refine below_set ?_ GE215.out | refine below_set ?_ GE237.out | refine below_set ?_ GE242.out) | exact HB.out)⟩⟩
        case round =>
          clear H'
          try clear c2
          try clear p2
          try clear c4
          try clear p6
          try clear c22
          try clear c24
          try clear c26
          try clear c41
          try clear c42
          try clear hcz43_0
          try clear hcz43_1
          try clear hfz43_0
          try clear hfz43_1
          obtain ⟨x11_2, rfl, HA, HK2, HO_216001, HO_238001, HO_243001, BK215, BK237, BK242, HB⟩ := hrel
          cases gk with
          | zero => exact absurd HA.out (by simp [horologeref13_Bits.l0])
          | succ k2 =>
            have H := HA.out
            clear HA
            simp only [horologeref13_Bits.l0] at H
            by_cases c45 : x11_2 < 3
            · rw [if_pos c45] at H
              have c45b0 : decide (x11_2 < 3) = true := decide_eq_true c45
              clear c45
              have HC46 := Aside0.mk H
              clear H
              have hnb47 := NB237_215.out
              have hnc47 := NB215_237.out
              have hnb48 := NB237_242.out
              have hnc48 := NB242_237.out
              have hcz49_0 : wr.cell? ⟨gb237, 0, none⟩ = some (.bool t233) := (blk_cell BK237.out 0).trans rfl
              have hcz49_1 : wr.cell? ⟨gb237, 1, none⟩ = some (.slice Ao37 t234.length co37) := (blk_cell BK237.out 1).trans rfl
              have hfz49_0 := blk_frozen BK237.out 0
              have hfz49_1 := blk_frozen BK237.out 1
              go_upto_if 47 with (first | ((with_reducible refine gate_dst (N := 12) rfl ?_); refine box_event ?hg (N := 12) ?hd (cs := #[.bool false, .slice none 0 0]) (t := 51) ?hr ?_; (case hd => rfl); (case hg => rfl); (case hr => first | (go_simp; done) | (go_simp; rfl)); intro gb243 hg w50 hbox hb; have n0_ := Aside0.mk (Kd.R_below (by (with_reducible repeat (first | apply Kd.R_alloc | apply Kd.R_drewN | apply Kd.R_drew)); exact HO_216001.out) hb); have n1_ := Aside0.mk (Kd.V_below (Kd.V_elderB (by (with_reducible repeat (first | apply Kd.V_alloc | apply Kd.V_drewN | apply Kd.V_drew)); exact HO_238001.out) gb243 (Nat.le_of_eq hg.symm)) hb); have n2_ := Aside0.mk (Kd.V_below (Kd.V_elderB (by (with_reducible repeat (first | apply Kd.V_alloc | apply Kd.V_drewN | apply Kd.V_drew)); exact HO_243001.out) gb243 (Nat.le_of_eq hg.symm)) hb); have n3_ := Aside0.mk (blk_below (g := gb215) (o := .cells #[.bool t211, .slice Ao22 t212.length co22] 51 (0, 0)) (by (with_reducible repeat (first | refine blk_drewN ?_ _ | refine blk_drew ?_ | refine blk_alloc ?_ _)); exact BK215.out) hb); have n4_ := Aside0.mk (blk_below (g := gb237) (o := .cells #[.bool t233, .slice Ao37 t234.length co37] 51 (0, 0)) (by (with_reducible repeat (first | refine blk_drewN ?_ _ | refine blk_drew ?_ | refine blk_alloc ?_ _)); exact BK237.out) hb); have n5_ := Aside0.mk (blk_below (g := gb242) (o := .cells #[.bool t238, .slice Ao44 t239.length co44] 51 (0, 0)) (by (with_reducible repeat (first | refine blk_drewN ?_ _ | refine blk_drew ?_ | refine blk_alloc ?_ _)); exact BK242.out) hb); have n6_ := Aside0.mk (below_step (by repeat (first | (with_reducible first | exact HB.out | apply below_alloc | apply pw_below_drewN | apply below_drew1 | refine below_set ?_ GE215.out | refine below_set ?_ GE237.out | refine below_set ?_ GE242.out) | exact HB.out)) hb); have n7_ := Aside0.mk (hbox); have n8_ := Aside0.mk ((by rw [hg]; exact (below_size (by repeat (first | (with_reducible first | exact HB.out | apply below_alloc | apply pw_below_drewN | apply below_drew1 | refine below_set ?_ GE215.out | refine below_set ?_ GE237.out | refine below_set ?_ GE242.out) | exact HB.out))) : w.heap.size ≤ gb243)); have n9_ := Aside0.mk ((by rw [hg]; exact (below_size (by repeat (first | (with_reducible first | exact HB.out | apply below_alloc | apply pw_below_drewN | apply below_drew1 | refine below_set ?_ GE215.out | refine below_set ?_ GE237.out | refine below_set ?_ GE242.out) | exact HB.out))) : w.heap.size ≤ gb243)); have n10_ := Aside0.mk ((by rw [hg]; exact Nat.ne_of_lt (blk_lt (g := gb215) (o := .cells #[.bool t211, .slice Ao22 t212.length co22] 51 (0, 0)) (by (with_reducible repeat (first | refine blk_drewN ?_ _ | refine blk_drew ?_ | refine blk_alloc ?_ _)); exact BK215.out)) : gb215 ≠ gb243)); have n11_ := Aside0.mk ((by rw [hg]; exact Nat.ne_of_gt (blk_lt (g := gb215) (o := .cells #[.bool t211, .slice Ao22 t212.length co22] 51 (0, 0)) (by (with_reducible repeat (first | refine blk_drewN ?_ _ | refine blk_drew ?_ | refine blk_alloc ?_ _)); exact BK215.out)) : gb243 ≠ gb215)); have n12_ := Aside0.mk ((by rw [hg]; exact Nat.ne_of_lt (blk_lt (g := gb237) (o := .cells #[.bool t233, .slice Ao37 t234.length co37] 51 (0, 0)) (by (with_reducible repeat (first | refine blk_drewN ?_ _ | refine blk_drew ?_ | refine blk_alloc ?_ _)); exact BK237.out)) : gb237 ≠ gb243)); have n13_ := Aside0.mk ((by rw [hg]; exact Nat.ne_of_gt (blk_lt (g := gb237) (o := .cells #[.bool t233, .slice Ao37 t234.length co37] 51 (0, 0)) (by (with_reducible repeat (first | refine blk_drewN ?_ _ | refine blk_drew ?_ | refine blk_alloc ?_ _)); exact BK237.out)) : gb243 ≠ gb237)); have n14_ := Aside0.mk ((by rw [hg]; exact Nat.ne_of_lt (blk_lt (g := gb242) (o := .cells #[.bool t238, .slice Ao44 t239.length co44] 51 (0, 0)) (by (with_reducible repeat (first | refine blk_drewN ?_ _ | refine blk_drew ?_ | refine blk_alloc ?_ _)); exact BK242.out)) : gb242 ≠ gb243)); have n15_ := Aside0.mk ((by rw [hg]; exact Nat.ne_of_gt (blk_lt (g := gb242) (o := .cells #[.bool t238, .slice Ao44 t239.length co44] 51 (0, 0)) (by (with_reducible repeat (first | refine blk_drewN ?_ _ | refine blk_drew ?_ | refine blk_alloc ?_ _)); exact BK242.out)) : gb243 ≠ gb242)); clear HO_216001; clear HO_238001; clear HO_243001; clear BK215; clear BK237; clear BK242; clear HB; have HO_216001 := n0_; have HO_238001 := n1_; have HO_243001 := n2_; have BK215 := n3_; have BK237 := n4_; have BK242 := n5_; have HB := n6_; have BK243 := n7_; have GW243 := n8_; have GE243 := n9_; have NB215_243 := n10_; have NB243_215 := n11_; have NB237_243 := n12_; have NB243_237 := n13_; have NB242_243 := n14_; have NB243_242 := n15_; clear n0_ n1_ n2_ n3_ n4_ n5_ n6_ n7_ n8_ n9_ n10_ n11_ n12_ n13_ n14_ n15_; clear hb hbox hg; have hnb51 := NB243_215.out; have hnc51 := NB215_243.out; have hnb52 := NB243_237.out; have hnc52 := NB237_243.out; have hnb53 := NB243_242.out; have hnc53 := NB242_243.out; have hcz54_0 : w50.cell? ⟨gb243, 0, none⟩ = some (.bool false) := (blk_cell BK243.out 0).trans rfl; have hcz54_1 : w50.cell? ⟨gb243, 1, none⟩ = some (.slice none 0 0) := (blk_cell BK243.out 1).trans rfl; have hfz54_0 := blk_frozen BK243.out 0; have hfz54_1 := blk_frozen BK243.out 1))
              (try simp only [Act.put, List.setIfInBounds_toArray, List.set_cons_zero, List.set_cons_succ])
              go_cut [] (fun wc => ∃ (kq : Nat) (x244000_45 : Bool) (x244001_45 : List Int) (u244001 : Value), Aside0 (horologeref13_Bits.j2 kq a1 x11_2 t211 t212 t233 t234 t238 t239 x244000_45 x244001_45 = some (r1, r2)) ∧ Aside0 (kq ≤ k2) ∧ Aside0 (Kd.R (Kd.int .u64) 37 wc w.heap.size (fun _ => True) (.slice Ao22 t212.length co22) t212) ∧ Aside0 (Kd.V (Kd.int .u64) 37 wc w.heap.size (fun k_ => some k_ ≠ ((.slice Ao22 t212.length co22) : Value).ownBlock ∧ k_ ≠ gb215 ∧ k_ ≠ gb237 ∧ k_ ≠ gb242 ∧ k_ ≠ gb243) (.slice Ao37 t234.length co37) t234) ∧ Aside0 (Kd.V (Kd.int .u64) 37 wc w.heap.size (fun k_ => some k_ ≠ ((.slice Ao22 t212.length co22) : Value).ownBlock ∧ k_ ≠ gb215 ∧ k_ ≠ gb237 ∧ k_ ≠ gb242 ∧ k_ ≠ gb243) (.slice Ao44 t239.length co44) t239) ∧ Aside0 (Kd.V (Kd.int .u64) 37 wc w.heap.size (fun k_ => some k_ ≠ ((.slice Ao22 t212.length co22) : Value).ownBlock ∧ k_ ≠ gb215 ∧ k_ ≠ gb237 ∧ k_ ≠ gb242 ∧ k_ ≠ gb243) u244001 x244001_45) ∧ Aside0 (wc.heap[gb215]? = some (.cells #[.bool t211, (.slice Ao22 t212.length co22)] 51 (0, 0))) ∧ Aside0 (wc.heap[gb237]? = some (.cells #[.bool t233, (.slice Ao37 t234.length co37)] 51 (0, 0))) ∧ Aside0 (wc.heap[gb242]? = some (.cells #[.bool t238, (.slice Ao44 t239.length co44)] 51 (0, 0))) ∧ Aside0 (wc.heap[gb243]? = some (.cells #[.bool x244000_45, u244001] 51 (0, 0))) ∧ Aside0 (Below w.heap.size w wc))
              case first =>
                have H := HC46.out
                clear HC46
                by_cases c55 : x11_2 = 1
                · rw [if_pos c55] at H
                  have c55b0 : (x11_2 == 1) = true := beq_iff_eq.mpr c55
                  have c55b1 : (x11_2 != 1) = false := bne_eq_false_iff_eq.mpr c55
                  clear c55
                  (first | rw [c55b0] | (simp only [i64_w, i32_w]; rw [c55b0]) | skip)
                  replace H := Option.bind_eq_some_iff.mp H
                  obtain ⟨⟨t244, t245⟩, A560, H⟩ := H
                  replace H : (horologeref13_Bits.j2 k2 a1 x11_2 t211 t212 t233 t234 t238 t239 t244 t245) = some (r1, r2) := H
                  have A56 := Aside0.mk A560
                  clear A560
                  have H' := Aside0.mk H
                  clear H
                  have hnb57 := NB237_215.out
                  have hnc57 := NB215_237.out
                  have hnb58 := NB237_242.out
                  have hnc58 := NB242_237.out
                  have hnb59 := NB237_243.out
                  have hnc59 := NB243_237.out
                  have hcz60_0 : w50.cell? ⟨gb237, 0, none⟩ = some (.bool t233) := (blk_cell BK237.out 0).trans rfl
                  have hcz60_1 : w50.cell? ⟨gb237, 1, none⟩ = some (.slice Ao37 t234.length co37) := (blk_cell BK237.out 1).trans rfl
                  have hfz60_0 := blk_frozen BK237.out 0
                  have hfz60_1 := blk_frozen BK237.out 1
                  have hnb61 := NB242_215.out
                  have hnc61 := NB215_242.out
                  have hnb62 := NB242_243.out
                  have hnc62 := NB243_242.out
                  have hcz63_0 : w50.cell? ⟨gb242, 0, none⟩ = some (.bool t238) := (blk_cell BK242.out 0).trans rfl
                  have hcz63_1 : w50.cell? ⟨gb242, 1, none⟩ = some (.slice Ao44 t239.length co44) := (blk_cell BK242.out 1).trans rfl
                  have hfz63_0 := blk_frozen BK242.out 0
                  have hfz63_1 := blk_frozen BK242.out 1
                  go_wp2_with (first | ((with_reducible refine gate_callee (f := 24) rfl ?_); refine goesL_ (some 50) rfl rfl Try.func24 (by kernel_rfl) rfl #[.agg #[.bool t233, .slice Ao37 t234.length co37], .agg #[.bool t238, .slice Ao44 t239.length co44]] rfl (by (try simp only [List.map_toArray, List.map_cons, List.map_nil]); first | done | rfl | (simp only [List.length_drop, List.length_take]; rfl) | (refine congrArg (fun z_ => #[Value.int IntKind.i64 z_]) (?_ : Go.RowKit.wrap64 (IntKind.u8.wrap _) = _); rw [IntKind.wrap_u8]; unfold Go.RowKit.wrap64; omega)) ?_; (with_reducible refine (horologeref01_Plus.calls k2 t233 _ _ t234 t238 _ _ t239 t244 t245 _ ?side1 ?side2 ?side3 ?side4 A56.out).mono ?_); (case side1 => refine (Kd.V_reads' (e := 37) (base := w.heap.size) (ok := fun k_ => ((some k_ ≠ (.slice Ao22 t212.length co22 : Value).ownBlock ∧ (k_ ≠ gb215 ∧ (k_ ≠ gb237 ∧ k_ ≠ gb242))) ∧ k_ ≠ gb243)) (n := t234.length) (c := co37) ?_).2.2; exact (by (with_reducible repeat (first | apply Kd.V_alloc | apply Kd.V_drewN | apply Kd.V_drew)); exact (Kd.V_mono (Kd.V_far (p := ⟨gb243, 1, none⟩) (Kd.V_far (p := ⟨gb243, 0, none⟩) (Kd.V_mono HO_238001.out (fun k_ hk => (⟨hk, hk.2⟩ : _ ∧ k_ ≠ gb243))) (fun _ hk => hk.2) (.bool t233)) (fun _ hk => hk.2) (.slice Ao37 t234.length co37)) (fun _ h_ => h_.1)))); (case side2 => exact (Kd.V_reads' HO_238001.out).2.1); (case side3 => refine (Kd.V_reads' (e := 37) (base := w.heap.size) (ok := fun k_ => ((some k_ ≠ (.slice Ao22 t212.length co22 : Value).ownBlock ∧ (k_ ≠ gb215 ∧ (k_ ≠ gb237 ∧ k_ ≠ gb242))) ∧ k_ ≠ gb243)) (n := t239.length) (c := co44) ?_).2.2; exact (by (with_reducible repeat (first | apply Kd.V_alloc | apply Kd.V_drewN | apply Kd.V_drew)); exact (Kd.V_mono (Kd.V_far (p := ⟨gb243, 1, none⟩) (Kd.V_far (p := ⟨gb243, 0, none⟩) (Kd.V_mono HO_243001.out (fun k_ hk => (⟨hk, hk.2⟩ : _ ∧ k_ ≠ gb243))) (fun _ hk => hk.2) (.bool t233)) (fun _ hk => hk.2) (.slice Ao37 t234.length co37)) (fun _ h_ => h_.1)))); (case side4 => exact (Kd.V_reads' HO_243001.out).2.1); rintro e w64 ⟨v246, rfl, ho0, hb⟩; refine ⟨_, rfl, ?_⟩; have n0_ := Aside0.mk (Kd.R_below (by (with_reducible repeat (first | apply Kd.R_alloc | apply Kd.R_drewN | apply Kd.R_drew)); exact (Kd.R_mono (Kd.R_far (p := ⟨gb243, 1, none⟩) (Kd.R_far (p := ⟨gb243, 0, none⟩) (Kd.R_types HO_216001.out BK243.out (by decide)) (fun _ hk => hk.2) (.bool t233)) (fun _ hk => hk.2) (.slice Ao37 t234.length co37)) (fun _ h_ => h_.1))) hb); have n1_ := Aside0.mk (Kd.V_below (by (with_reducible repeat (first | apply Kd.V_alloc | apply Kd.V_drewN | apply Kd.V_drew)); exact (Kd.V_mono (Kd.V_far (p := ⟨gb243, 1, none⟩) (Kd.V_far (p := ⟨gb243, 0, none⟩) (Kd.V_mono HO_238001.out (fun k_ hk => (⟨hk, hk.2⟩ : _ ∧ k_ ≠ gb243))) (fun _ hk => hk.2) (.bool t233)) (fun _ hk => hk.2) (.slice Ao37 t234.length co37)) (fun _ h_ => h_.1))) hb); have n2_ := Aside0.mk (Kd.V_below (by (with_reducible repeat (first | apply Kd.V_alloc | apply Kd.V_drewN | apply Kd.V_drew)); exact (Kd.V_mono (Kd.V_far (p := ⟨gb243, 1, none⟩) (Kd.V_far (p := ⟨gb243, 0, none⟩) (Kd.V_mono HO_243001.out (fun k_ hk => (⟨hk, hk.2⟩ : _ ∧ k_ ≠ gb243))) (fun _ hk => hk.2) (.bool t233)) (fun _ hk => hk.2) (.slice Ao37 t234.length co37)) (fun _ h_ => h_.1))) hb); have n3_ := Aside0.mk (Kd.V_lower (Kd.V_mono (ok' := fun k_ => some k_ ≠ (.slice Ao22 t212.length co22 : Value).ownBlock ∧ k_ ≠ gb215 ∧ k_ ≠ gb237 ∧ k_ ≠ gb242 ∧ k_ ≠ gb243) ho0 (fun k_ hk_ => ⟨(Kd.fresh' (Kd.R_lt (by (with_reducible repeat (first | apply Kd.R_alloc | apply Kd.R_drewN | apply Kd.R_drew)); exact (Kd.R_mono (Kd.R_far (p := ⟨gb243, 1, none⟩) (Kd.R_far (p := ⟨gb243, 0, none⟩) (Kd.R_types HO_216001.out BK243.out (by decide)) (fun _ hk => hk.2) (.bool t233)) (fun _ hk => hk.2) (.slice Ao37 t234.length co37)) (fun _ h_ => h_.1)))) k_ hk_), (Kd.freshB (g := gb215) (o := .cells #[.bool t211, .slice Ao22 t212.length co22] 51 (0, 0)) (by (with_reducible repeat (first | refine blk_drewN ?_ _ | refine blk_drew ?_ | refine blk_alloc ?_ _)); refine blk_far ?_ NB215_243.out _; (with_reducible repeat (first | refine blk_drewN ?_ _ | refine blk_drew ?_ | refine blk_alloc ?_ _)); refine blk_far ?_ NB215_243.out _; (with_reducible repeat (first | refine blk_drewN ?_ _ | refine blk_drew ?_ | refine blk_alloc ?_ _)); exact BK215.out) k_ hk_), (Kd.freshB (g := gb237) (o := .cells #[.bool t233, .slice Ao37 t234.length co37] 51 (0, 0)) (by (with_reducible repeat (first | refine blk_drewN ?_ _ | refine blk_drew ?_ | refine blk_alloc ?_ _)); refine blk_far ?_ NB237_243.out _; (with_reducible repeat (first | refine blk_drewN ?_ _ | refine blk_drew ?_ | refine blk_alloc ?_ _)); refine blk_far ?_ NB237_243.out _; (with_reducible repeat (first | refine blk_drewN ?_ _ | refine blk_drew ?_ | refine blk_alloc ?_ _)); exact BK237.out) k_ hk_), (Kd.freshB (g := gb242) (o := .cells #[.bool t238, .slice Ao44 t239.length co44] 51 (0, 0)) (by (with_reducible repeat (first | refine blk_drewN ?_ _ | refine blk_drew ?_ | refine blk_alloc ?_ _)); refine blk_far ?_ NB242_243.out _; (with_reducible repeat (first | refine blk_drewN ?_ _ | refine blk_drew ?_ | refine blk_alloc ?_ _)); refine blk_far ?_ NB242_243.out _; (with_reducible repeat (first | refine blk_drewN ?_ _ | refine blk_drew ?_ | refine blk_alloc ?_ _)); exact BK242.out) k_ hk_), (Kd.freshB (g := gb243) (o := .cells #[.bool t233, .slice Ao37 t234.length co37] 51 (0, 0)) (by (with_reducible repeat (first | refine blk_drewN ?_ _ | refine blk_drew ?_ | refine blk_alloc ?_ _)); refine blk_put (cs := #[.bool t233, .slice none 0 0]) ?_ 1 _ rfl; (with_reducible repeat (first | refine blk_drewN ?_ _ | refine blk_drew ?_ | refine blk_alloc ?_ _)); refine blk_put (cs := #[.bool false, .slice none 0 0]) ?_ 0 _ rfl; (with_reducible repeat (first | refine blk_drewN ?_ _ | refine blk_drew ?_ | refine blk_alloc ?_ _)); exact BK243.out) k_ hk_)⟩)) (below_size (by repeat (first | (with_reducible first | exact HB.out | apply below_alloc | apply pw_below_drewN | apply below_drew1 | refine below_set ?_ GE215.out | refine below_set ?_ GE237.out | refine below_set ?_ GE242.out | refine below_set ?_ GE243.out) | exact HB.out)))); have n4_ := Aside0.mk (blk_below (g := gb215) (o := .cells #[.bool t211, .slice Ao22 t212.length co22] 51 (0, 0)) (by (with_reducible repeat (first | refine blk_drewN ?_ _ | refine blk_drew ?_ | refine blk_alloc ?_ _)); refine blk_far ?_ NB215_243.out _; (with_reducible repeat (first | refine blk_drewN ?_ _ | refine blk_drew ?_ | refine blk_alloc ?_ _)); refine blk_far ?_ NB215_243.out _; (with_reducible repeat (first | refine blk_drewN ?_ _ | refine blk_drew ?_ | refine blk_alloc ?_ _)); exact BK215.out) hb); have n5_ := Aside0.mk (blk_below (g := gb237) (o := .cells #[.bool t233, .slice Ao37 t234.length co37] 51 (0, 0)) (by (with_reducible repeat (first | refine blk_drewN ?_ _ | refine blk_drew ?_ | refine blk_alloc ?_ _)); refine blk_far ?_ NB237_243.out _; (with_reducible repeat (first | refine blk_drewN ?_ _ | refine blk_drew ?_ | refine blk_alloc ?_ _)); refine blk_far ?_ NB237_243.out _; (with_reducible repeat (first | refine blk_drewN ?_ _ | refine blk_drew ?_ | refine blk_alloc ?_ _)); exact BK237.out) hb); have n6_ := Aside0.mk (blk_below (g := gb242) (o := .cells #[.bool t238, .slice Ao44 t239.length co44] 51 (0, 0)) (by (with_reducible repeat (first | refine blk_drewN ?_ _ | refine blk_drew ?_ | refine blk_alloc ?_ _)); refine blk_far ?_ NB242_243.out _; (with_reducible repeat (first | refine blk_drewN ?_ _ | refine blk_drew ?_ | refine blk_alloc ?_ _)); refine blk_far ?_ NB242_243.out _; (with_reducible repeat (first | refine blk_drewN ?_ _ | refine blk_drew ?_ | refine blk_alloc ?_ _)); exact BK242.out) hb); have n7_ := Aside0.mk (blk_below (g := gb243) (o := .cells #[.bool t233, .slice Ao37 t234.length co37] 51 (0, 0)) (by (with_reducible repeat (first | refine blk_drewN ?_ _ | refine blk_drew ?_ | refine blk_alloc ?_ _)); refine blk_put (cs := #[.bool t233, .slice none 0 0]) ?_ 1 _ rfl; (with_reducible repeat (first | refine blk_drewN ?_ _ | refine blk_drew ?_ | refine blk_alloc ?_ _)); refine blk_put (cs := #[.bool false, .slice none 0 0]) ?_ 0 _ rfl; (with_reducible repeat (first | refine blk_drewN ?_ _ | refine blk_drew ?_ | refine blk_alloc ?_ _)); exact BK243.out) hb); have n8_ := Aside0.mk (below_step (by repeat (first | (with_reducible first | exact HB.out | apply below_alloc | apply pw_below_drewN | apply below_drew1 | refine below_set ?_ GE215.out | refine below_set ?_ GE237.out | refine below_set ?_ GE242.out | refine below_set ?_ GE243.out) | exact HB.out)) hb); clear HO_216001; clear HO_238001; clear HO_243001; clear BK215; clear BK237; clear BK242; clear BK243; clear HB; have HO_216001 := n0_; have HO_238001 := n1_; have HO_243001 := n2_; have HO247 := n3_; have BK215 := n4_; have BK237 := n5_; have BK242 := n6_; have BK243 := n7_; have HB := n8_; clear n0_ n1_ n2_ n3_ n4_ n5_ n6_ n7_ n8_; (try clear hb); (try clear hb2); (try clear hk); (try clear hi); (try clear ho0); have hnb65 := NB243_215.out; have hnc65 := NB215_243.out; have hcz66_0 : w64.cell? ⟨gb243, 0, none⟩ = some (.bool t233) := (blk_cell BK243.out 0).trans rfl; have hcz66_1 : w64.cell? ⟨gb243, 1, none⟩ = some (.slice Ao37 t234.length co37) := (blk_cell BK243.out 1).trans rfl; have hfz66_0 := blk_frozen BK243.out 0; have hfz66_1 := blk_frozen BK243.out 1; obtain ⟨Ao67, co67, eo67⟩ := Kd.V_slice HO247.out; subst eo67))
                  go_meet
                  case rel => exact ⟨_, (t244), (t245), (.slice Ao67 t245.length co67), H', ⟨by have := HJ3.out; have := HK2.out; first | omega | exact Nat.le_refl _⟩, ⟨by (with_reducible repeat (first | apply Kd.R_alloc | apply Kd.R_drewN | apply Kd.R_drew)); exact Kd.R_mono (Kd.R_far (p := ⟨gb243, 1, none⟩) (Kd.R_far (p := ⟨gb243, 0, none⟩) (Kd.R_types HO_216001.out BK243.out (by decide)) (fun _ hk => hk.2) (.bool t244)) (fun _ hk => hk.2) (.slice Ao67 t245.length co67)) (fun _ hk => trivial)⟩, ⟨by (with_reducible repeat (first | apply Kd.V_alloc | apply Kd.V_drewN | apply Kd.V_drew)); exact Kd.V_mono (Kd.V_far (p := ⟨gb243, 1, none⟩) (Kd.V_far (p := ⟨gb243, 0, none⟩) (Kd.V_mono HO_238001.out (fun k_ hk => (⟨hk, hk.2⟩ : _ ∧ k_ ≠ gb243))) (fun _ hk => hk.2) (.bool t244)) (fun _ hk => hk.2) (.slice Ao67 t245.length co67)) (fun _ hk => ⟨hk.1.1.1, ⟨hk.1.1.2.1, ⟨hk.1.1.2.2.1, ⟨hk.1.1.2.2.2, hk.1.2⟩⟩⟩⟩)⟩, ⟨by (with_reducible repeat (first | apply Kd.V_alloc | apply Kd.V_drewN | apply Kd.V_drew)); exact Kd.V_mono (Kd.V_far (p := ⟨gb243, 1, none⟩) (Kd.V_far (p := ⟨gb243, 0, none⟩) (Kd.V_mono HO_243001.out (fun k_ hk => (⟨hk, hk.2⟩ : _ ∧ k_ ≠ gb243))) (fun _ hk => hk.2) (.bool t244)) (fun _ hk => hk.2) (.slice Ao67 t245.length co67)) (fun _ hk => ⟨hk.1.1.1, ⟨hk.1.1.2.1, ⟨hk.1.1.2.2.1, ⟨hk.1.1.2.2.2, hk.1.2⟩⟩⟩⟩)⟩, ⟨by (with_reducible repeat (first | apply Kd.V_alloc | apply Kd.V_drewN | apply Kd.V_drew)); exact Kd.V_mono (Kd.V_far (p := ⟨gb243, 1, none⟩) (Kd.V_far (p := ⟨gb243, 0, none⟩) (Kd.V_mono HO247.out (fun k_ hk => (⟨hk, hk.2.2.2.2⟩ : _ ∧ k_ ≠ gb243))) (fun _ hk => hk.2) (.bool t244)) (fun _ hk => hk.2) (.slice Ao67 t245.length co67)) (fun _ hk => ⟨hk.1.1, ⟨hk.1.2.1, ⟨hk.1.2.2.1, ⟨hk.1.2.2.2.1, hk.1.2.2.2.2⟩⟩⟩⟩)⟩, ⟨by (with_reducible repeat (first | refine blk_drewN ?_ _ | refine blk_drew ?_ | refine blk_alloc ?_ _)); refine blk_far ?_ NB215_243.out _; (with_reducible repeat (first | refine blk_drewN ?_ _ | refine blk_drew ?_ | refine blk_alloc ?_ _)); refine blk_far ?_ NB215_243.out _; (with_reducible repeat (first | refine blk_drewN ?_ _ | refine blk_drew ?_ | refine blk_alloc ?_ _)); exact BK215.out⟩, ⟨by (with_reducible repeat (first | refine blk_drewN ?_ _ | refine blk_drew ?_ | refine blk_alloc ?_ _)); refine blk_far ?_ NB237_243.out _; (with_reducible repeat (first | refine blk_drewN ?_ _ | refine blk_drew ?_ | refine blk_alloc ?_ _)); refine blk_far ?_ NB237_243.out _; (with_reducible repeat (first | refine blk_drewN ?_ _ | refine blk_drew ?_ | refine blk_alloc ?_ _)); exact BK237.out⟩, ⟨by (with_reducible repeat (first | refine blk_drewN ?_ _ | refine blk_drew ?_ | refine blk_alloc ?_ _)); refine blk_far ?_ NB242_243.out _; (with_reducible repeat (first | refine blk_drewN ?_ _ | refine blk_drew ?_ | refine blk_alloc ?_ _)); refine blk_far ?_ NB242_243.out _; (with_reducible repeat (first | refine blk_drewN ?_ _ | refine blk_drew ?_ | refine blk_alloc ?_ _)); exact BK242.out⟩, ⟨by (with_reducible repeat (first | refine blk_drewN ?_ _ | refine blk_drew ?_ | refine blk_alloc ?_ _)); refine blk_put (cs := #[.bool t244, .slice Ao37 t234.length co37]) ?_ 1 _ rfl; (with_reducible repeat (first | refine blk_drewN ?_ _ | refine blk_drew ?_ | refine blk_alloc ?_ _)); refine blk_put (cs := #[.bool t233, .slice Ao37 t234.length co37]) ?_ 0 _ rfl; (with_reducible repeat (first | refine blk_drewN ?_ _ | refine blk_drew ?_ | refine blk_alloc ?_ _)); exact BK243.out⟩, ⟨by repeat (first | (with_reducible first | exact HB.out | apply below_alloc | apply pw_below_drewN | apply below_drew1 | refine below_set ?_ GE215.out | refine below_set ?_ GE237.out | refine below_set ?_ GE242.out | refine below_set ?_ GE243.out) | exact HB.out)⟩⟩
                · rw [if_neg c55] at H
                  have c55b0 : (x11_2 == 1) = false := beq_eq_false_iff_ne.mpr c55
                  have c55b1 : (x11_2 != 1) = true := bne_iff_ne.mpr c55
                  (first | rw [c55b0] | (simp only [i64_w, i32_w]; rw [c55b0]) | skip)
                  have H' := Aside0.mk H
                  clear H
                  go_wp2
                  go_meet
                  case rel => exact ⟨_, (t233), (t234), (.slice Ao37 t234.length co37), H', ⟨by have := HJ3.out; have := HK2.out; first | omega | exact Nat.le_refl _⟩, ⟨by (with_reducible repeat (first | apply Kd.R_alloc | apply Kd.R_drewN | apply Kd.R_drew)); exact Kd.R_mono (Kd.R_far (p := ⟨gb243, 1, none⟩) (Kd.R_far (p := ⟨gb243, 0, none⟩) (Kd.R_types HO_216001.out BK243.out (by decide)) (fun _ hk => hk.2) (.bool t233)) (fun _ hk => hk.2) (.slice Ao37 t234.length co37)) (fun _ hk => trivial)⟩, ⟨by (with_reducible repeat (first | apply Kd.V_alloc | apply Kd.V_drewN | apply Kd.V_drew)); exact Kd.V_mono (Kd.V_far (p := ⟨gb243, 1, none⟩) (Kd.V_far (p := ⟨gb243, 0, none⟩) (Kd.V_mono HO_238001.out (fun k_ hk => (⟨hk, hk.2⟩ : _ ∧ k_ ≠ gb243))) (fun _ hk => hk.2) (.bool t233)) (fun _ hk => hk.2) (.slice Ao37 t234.length co37)) (fun _ hk => ⟨hk.1.1.1, ⟨hk.1.1.2.1, ⟨hk.1.1.2.2.1, ⟨hk.1.1.2.2.2, hk.1.2⟩⟩⟩⟩)⟩, ⟨by (with_reducible repeat (first | apply Kd.V_alloc | apply Kd.V_drewN | apply Kd.V_drew)); exact Kd.V_mono (Kd.V_far (p := ⟨gb243, 1, none⟩) (Kd.V_far (p := ⟨gb243, 0, none⟩) (Kd.V_mono HO_243001.out (fun k_ hk => (⟨hk, hk.2⟩ : _ ∧ k_ ≠ gb243))) (fun _ hk => hk.2) (.bool t233)) (fun _ hk => hk.2) (.slice Ao37 t234.length co37)) (fun _ hk => ⟨hk.1.1.1, ⟨hk.1.1.2.1, ⟨hk.1.1.2.2.1, ⟨hk.1.1.2.2.2, hk.1.2⟩⟩⟩⟩)⟩, ⟨by (with_reducible repeat (first | apply Kd.V_alloc | apply Kd.V_drewN | apply Kd.V_drew)); exact Kd.V_mono (Kd.V_far (p := ⟨gb243, 1, none⟩) (Kd.V_far (p := ⟨gb243, 0, none⟩) (Kd.V_mono HO_238001.out (fun k_ hk => (⟨hk, hk.2⟩ : _ ∧ k_ ≠ gb243))) (fun _ hk => hk.2) (.bool t233)) (fun _ hk => hk.2) (.slice Ao37 t234.length co37)) (fun _ hk => ⟨hk.1.1.1, ⟨hk.1.1.2.1, ⟨hk.1.1.2.2.1, ⟨hk.1.1.2.2.2, hk.1.2⟩⟩⟩⟩)⟩, ⟨by (with_reducible repeat (first | refine blk_drewN ?_ _ | refine blk_drew ?_ | refine blk_alloc ?_ _)); refine blk_far ?_ NB215_243.out _; (with_reducible repeat (first | refine blk_drewN ?_ _ | refine blk_drew ?_ | refine blk_alloc ?_ _)); refine blk_far ?_ NB215_243.out _; (with_reducible repeat (first | refine blk_drewN ?_ _ | refine blk_drew ?_ | refine blk_alloc ?_ _)); exact BK215.out⟩, ⟨by (with_reducible repeat (first | refine blk_drewN ?_ _ | refine blk_drew ?_ | refine blk_alloc ?_ _)); refine blk_far ?_ NB237_243.out _; (with_reducible repeat (first | refine blk_drewN ?_ _ | refine blk_drew ?_ | refine blk_alloc ?_ _)); refine blk_far ?_ NB237_243.out _; (with_reducible repeat (first | refine blk_drewN ?_ _ | refine blk_drew ?_ | refine blk_alloc ?_ _)); exact BK237.out⟩, ⟨by (with_reducible repeat (first | refine blk_drewN ?_ _ | refine blk_drew ?_ | refine blk_alloc ?_ _)); refine blk_far ?_ NB242_243.out _; (with_reducible repeat (first | refine blk_drewN ?_ _ | refine blk_drew ?_ | refine blk_alloc ?_ _)); refine blk_far ?_ NB242_243.out _; (with_reducible repeat (first | refine blk_drewN ?_ _ | refine blk_drew ?_ | refine blk_alloc ?_ _)); exact BK242.out⟩, ⟨by (with_reducible repeat (first | refine blk_drewN ?_ _ | refine blk_drew ?_ | refine blk_alloc ?_ _)); refine blk_put (cs := #[.bool t233, .slice none 0 0]) ?_ 1 _ rfl; (with_reducible repeat (first | refine blk_drewN ?_ _ | refine blk_drew ?_ | refine blk_alloc ?_ _)); refine blk_put (cs := #[.bool false, .slice none 0 0]) ?_ 0 _ rfl; (with_reducible repeat (first | refine blk_drewN ?_ _ | refine blk_drew ?_ | refine blk_alloc ?_ _)); exact BK243.out⟩, ⟨by repeat (first | (with_reducible first | exact HB.out | apply below_alloc | apply pw_below_drewN | apply below_drew1 | refine below_set ?_ GE215.out | refine below_set ?_ GE237.out | refine below_set ?_ GE242.out | refine below_set ?_ GE243.out) | exact HB.out)⟩⟩
              case rest =>
                clear HC46
                try clear c2
                try clear p2
                try clear c4
                try clear c5
                try clear c6
                try clear p6
                try clear c22
                try clear c24
                try clear c26
                try clear c41
                try clear c42
                try clear c45
                try clear c45b0
                try clear c47
                try clear c48
                try clear c51
                try clear c52
                try clear c53
                try clear c55
                try clear c55b0
                try clear c55b1
                try clear c57
                try clear c58
                try clear c59
                try clear c61
                try clear c62
                try clear p64
                try clear c65
                try clear hcz43_0
                try clear hcz43_1
                try clear hcz49_0
                try clear hcz49_1
                try clear hcz54_0
                try clear hcz54_1
                try clear hcz60_0
                try clear hcz60_1
                try clear hcz63_0
                try clear hcz63_1
                try clear hcz66_0
                try clear hcz66_1
                try clear hfz43_0
                try clear hfz43_1
                try clear hfz49_0
                try clear hfz49_1
                try clear hfz54_0
                try clear hfz54_1
                try clear hfz60_0
                try clear hfz60_1
                try clear hfz63_0
                try clear hfz63_1
                try clear hfz66_0
                try clear hfz66_1
                try clear p2
                try clear p6
                obtain ⟨kq, x244000_45, x244001_45, u244001, HA, HJ45, HO_216001, HO_238001, HO_243001, HO_244001, BK215, BK237, BK242, BK243, HB⟩ := hcut
                cases kq with
                | zero => exact absurd HA.out (by simp [horologeref13_Bits.j2])
                | succ kj45 =>
                  have H := HA.out
                  clear HA
                  simp only [horologeref13_Bits.j2] at H
                  have HC68 := Aside0.mk H
                  clear H
                  go_upto_if 52 with (fail)
                  go_cut [] (fun wc => ∃ (kq : Nat) (x244000_67 : Bool) (x244001_67 : List Int) (u244001 : Value), Aside0 (horologeref13_Bits.j3 kq a1 x11_2 t211 t212 t233 t234 t238 t239 x244000_67 x244001_67 = some (r1, r2)) ∧ Aside0 (kq ≤ kj45) ∧ Aside0 (Kd.R (Kd.int .u64) 37 wc w.heap.size (fun _ => True) (.slice Ao22 t212.length co22) t212) ∧ Aside0 (Kd.V (Kd.int .u64) 37 wc w.heap.size (fun k_ => some k_ ≠ ((.slice Ao22 t212.length co22) : Value).ownBlock ∧ k_ ≠ gb215 ∧ k_ ≠ gb237 ∧ k_ ≠ gb242 ∧ k_ ≠ gb243) (.slice Ao37 t234.length co37) t234) ∧ Aside0 (Kd.V (Kd.int .u64) 37 wc w.heap.size (fun k_ => some k_ ≠ ((.slice Ao22 t212.length co22) : Value).ownBlock ∧ k_ ≠ gb215 ∧ k_ ≠ gb237 ∧ k_ ≠ gb242 ∧ k_ ≠ gb243) (.slice Ao44 t239.length co44) t239) ∧ Aside0 (Kd.V (Kd.int .u64) 37 wc w.heap.size (fun k_ => some k_ ≠ ((.slice Ao22 t212.length co22) : Value).ownBlock ∧ k_ ≠ gb215 ∧ k_ ≠ gb237 ∧ k_ ≠ gb242 ∧ k_ ≠ gb243) u244001 x244001_67) ∧ Aside0 (wc.heap[gb215]? = some (.cells #[.bool t211, (.slice Ao22 t212.length co22)] 51 (0, 0))) ∧ Aside0 (wc.heap[gb237]? = some (.cells #[.bool t233, (.slice Ao37 t234.length co37)] 51 (0, 0))) ∧ Aside0 (wc.heap[gb242]? = some (.cells #[.bool t238, (.slice Ao44 t239.length co44)] 51 (0, 0))) ∧ Aside0 (wc.heap[gb243]? = some (.cells #[.bool x244000_67, u244001] 51 (0, 0))) ∧ Aside0 (Below w.heap.size w wc))
                  case first =>
                    have H := HC68.out
                    clear HC68
                    by_cases c69 : x11_2 = 2
                    · rw [if_pos c69] at H
                      have c69b0 : (x11_2 == 2) = true := beq_iff_eq.mpr c69
                      have c69b1 : (x11_2 != 2) = false := bne_eq_false_iff_eq.mpr c69
                      clear c69
                      (first | rw [c69b0] | (simp only [i64_w, i32_w]; rw [c69b0]) | skip)
                      replace H := Option.bind_eq_some_iff.mp H
                      obtain ⟨⟨t248, t249⟩, A700, H⟩ := H
                      replace H : ((horologeref01_Plus.f kj45 t233 t234 t248 t249).bind fun bt252 => (horologeref13_Bits.j3 kj45 a1 x11_2 t211 t212 t233 t234 t238 t239 bt252.1 bt252.2)) = some (r1, r2) := H
                      have A70 := Aside0.mk A700
                      clear A700
                      replace H := Option.bind_eq_some_iff.mp H
                      obtain ⟨⟨t252, t253⟩, A710, H⟩ := H
                      replace H : (horologeref13_Bits.j3 kj45 a1 x11_2 t211 t212 t233 t234 t238 t239 t252 t253) = some (r1, r2) := H
                      have A71 := Aside0.mk A710
                      clear A710
                      have H' := Aside0.mk H
                      clear H
                      try go_wp2
                      have n0_ := Aside0.mk (Kd.R_drew HO_216001.out)
                      have n1_ := Aside0.mk (Kd.V_drew HO_238001.out)
                      have n2_ := Aside0.mk (Kd.V_drew HO_243001.out)
                      have n3_ := Aside0.mk (Kd.V_drew HO_244001.out)
                      have n4_ := Aside0.mk (blk_drew BK215.out)
                      have n5_ := Aside0.mk (blk_drew BK237.out)
                      have n6_ := Aside0.mk (blk_drew BK242.out)
                      have n7_ := Aside0.mk (blk_drew BK243.out)
                      have n8_ := Aside0.mk (below_drew1 HB.out)
                      clear HO_216001
                      clear HO_238001
                      clear HO_243001
                      clear HO_244001
                      clear BK215
                      clear BK237
                      clear BK242
                      clear BK243
                      clear HB
                      have HO_216001 := n0_
                      have HO_238001 := n1_
                      have HO_243001 := n2_
                      have HO_244001 := n3_
                      have BK215 := n4_
                      have BK237 := n5_
                      have BK242 := n6_
                      have BK243 := n7_
                      have HB := n8_
                      clear n0_ n1_ n2_ n3_ n4_ n5_ n6_ n7_ n8_
                      refine start_ (n := 5) (S := fun w' => w'.cell? ⟨gb237, 0, none⟩ = some (.bool t233) ∧ w'.cell? ⟨gb237, 1, none⟩ = some (.slice Ao37 t234.length co37) ∧ w'.cell? ⟨gb242, 0, none⟩ = some (.bool t238) ∧ w'.cell? ⟨gb242, 1, none⟩ = some (.slice Ao44 t239.length co44)) (ds := []) #[false, false, false, false, false] (by kernel_rfl) rfl rfl ⟨(blk_cell BK237.out 0).trans rfl, (blk_cell BK237.out 1).trans rfl, (blk_cell BK242.out 0).trans rfl, (blk_cell BK242.out 1).trans rfl⟩ (fun hHeld => ?_)
                      generalize wc.drew = w72 at HO_216001 HO_238001 HO_243001 HO_244001 BK215 BK237 BK242 BK243 HB hHeld ⊢
                      refine take_ (i := 0) (N := some 53) (v := ?_) (a' := ?_) #[true, false, false, false, false] rfl rfl (by kernel_rfl) (fun _ _ _ h => h) (Or.inl ⟨by rfl, ?_⟩) hHeld ?_ ?_
                      rotate_left
                      · rintro w' ⟨s0, s1, s2, s3⟩
                        go_simp
                        with_reducible rfl
                      rotate_left
                      · simp only [Act.put, List.setIfInBounds_toArray, List.set_cons_zero, List.set_cons_succ, i64_w, i32_w]
                        rfl
                      refine take_ (i := 1) (N := some 54) (v := ?_) (a' := ?_) #[true, true, false, false, false] rfl rfl (by kernel_rfl) (fun _ _ _ h => h) (Or.inl ⟨by rfl, ?_⟩) hHeld ?_ ?_
                      rotate_left
                      · rintro w' ⟨s0, s1, s2, s3⟩
                        go_simp
                        with_reducible rfl
                      rotate_left
                      · simp only [Act.put, List.setIfInBounds_toArray, List.set_cons_zero, List.set_cons_succ, i64_w, i32_w]
                        rfl
                      refine one_ (i := 2) (N := some 55) #[true, true, true, false, false] rfl rfl (by kernel_rfl) (by decide) (fun K hK => ?_)
                      refine goes_ Try.func32 (by kernel_rfl) rfl #[.agg #[.bool t238, .slice Ao44 t239.length co44]] (by rfl) rfl rfl (by (try simp only [List.map_toArray, List.map_cons, List.map_nil]); first | done | rfl | (simp only [List.length_drop, List.length_take]; rfl) | (refine congrArg (fun z_ => #[Value.int IntKind.i64 z_]) (?_ : Go.RowKit.wrap64 (IntKind.u8.wrap _) = _); rw [IntKind.wrap_u8]; unfold Go.RowKit.wrap64; omega)) ?_
                      with_reducible refine (horologeref01_Minus.calls t238 (fun k_ => (some k_ ≠ (.slice Ao22 t212.length co22 : Value).ownBlock ∧ (k_ ≠ gb215 ∧ (k_ ≠ gb237 ∧ (k_ ≠ gb242 ∧ k_ ≠ gb243))))) _ _ t239 t248 t249 _ ?side1 A70.out).mono ?_
                      (case side1 => exact HO_243001.out)
                      rintro e w73 ⟨v250, rfl, ho0, hb⟩
                      refine ⟨_, rfl, ?_⟩
                      have n0_ := Aside0.mk (Kd.R_below (by (with_reducible repeat (first | apply Kd.R_alloc | apply Kd.R_drewN | apply Kd.R_drew)); exact HO_216001.out) hb)
                      have n1_ := Aside0.mk (Kd.V_below (by (with_reducible repeat (first | apply Kd.V_alloc | apply Kd.V_drewN | apply Kd.V_drew)); exact HO_238001.out) hb)
                      have n2_ := Aside0.mk (Kd.V_below (by (with_reducible repeat (first | apply Kd.V_alloc | apply Kd.V_drewN | apply Kd.V_drew)); exact HO_243001.out) hb)
                      have n3_ := Aside0.mk (Kd.V_below (by (with_reducible repeat (first | apply Kd.V_alloc | apply Kd.V_drewN | apply Kd.V_drew)); exact HO_244001.out) hb)
                      have n4_ := Aside0.mk (Kd.V_lower (Kd.V_mono (ok' := fun k_ => some k_ ≠ (.slice Ao22 t212.length co22 : Value).ownBlock ∧ k_ ≠ gb215 ∧ k_ ≠ gb237 ∧ k_ ≠ gb242 ∧ k_ ≠ gb243) ho0 (fun k_ hk_ => ⟨Or.elim hk_ (fun hs_ => hs_.1) (fun hn_ => (Kd.fresh' (Kd.R_lt (by (with_reducible repeat (first | apply Kd.R_alloc | apply Kd.R_drewN | apply Kd.R_drew)); exact HO_216001.out)) k_ hn_)), Or.elim hk_ (fun hs_ => hs_.2.1) (fun hn_ => (Kd.freshB (g := gb215) (o := .cells #[.bool t211, .slice Ao22 t212.length co22] 51 (0, 0)) (by (with_reducible repeat (first | refine blk_drewN ?_ _ | refine blk_drew ?_ | refine blk_alloc ?_ _)); exact BK215.out) k_ hn_)), Or.elim hk_ (fun hs_ => hs_.2.2.1) (fun hn_ => (Kd.freshB (g := gb237) (o := .cells #[.bool t233, .slice Ao37 t234.length co37] 51 (0, 0)) (by (with_reducible repeat (first | refine blk_drewN ?_ _ | refine blk_drew ?_ | refine blk_alloc ?_ _)); exact BK237.out) k_ hn_)), Or.elim hk_ (fun hs_ => hs_.2.2.2.1) (fun hn_ => (Kd.freshB (g := gb242) (o := .cells #[.bool t238, .slice Ao44 t239.length co44] 51 (0, 0)) (by (with_reducible repeat (first | refine blk_drewN ?_ _ | refine blk_drew ?_ | refine blk_alloc ?_ _)); exact BK242.out) k_ hn_)), Or.elim hk_ (fun hs_ => hs_.2.2.2.2) (fun hn_ => (Kd.freshB (g := gb243) (o := .cells #[.bool x244000_45, u244001] 51 (0, 0)) (by (with_reducible repeat (first | refine blk_drewN ?_ _ | refine blk_drew ?_ | refine blk_alloc ?_ _)); exact BK243.out) k_ hn_))⟩)) (below_size (by repeat (first | (with_reducible first | exact HB.out | apply below_alloc | apply pw_below_drewN | apply below_drew1 | refine below_set ?_ GE215.out | refine below_set ?_ GE237.out | refine below_set ?_ GE242.out | refine below_set ?_ GE243.out) | exact HB.out))))
                      have n5_ := Aside0.mk (blk_below (g := gb215) (o := .cells #[.bool t211, .slice Ao22 t212.length co22] 51 (0, 0)) (by (with_reducible repeat (first | refine blk_drewN ?_ _ | refine blk_drew ?_ | refine blk_alloc ?_ _)); exact BK215.out) hb)
                      have n6_ := Aside0.mk (blk_below (g := gb237) (o := .cells #[.bool t233, .slice Ao37 t234.length co37] 51 (0, 0)) (by (with_reducible repeat (first | refine blk_drewN ?_ _ | refine blk_drew ?_ | refine blk_alloc ?_ _)); exact BK237.out) hb)
                      have n7_ := Aside0.mk (blk_below (g := gb242) (o := .cells #[.bool t238, .slice Ao44 t239.length co44] 51 (0, 0)) (by (with_reducible repeat (first | refine blk_drewN ?_ _ | refine blk_drew ?_ | refine blk_alloc ?_ _)); exact BK242.out) hb)
                      have n8_ := Aside0.mk (blk_below (g := gb243) (o := .cells #[.bool x244000_45, u244001] 51 (0, 0)) (by (with_reducible repeat (first | refine blk_drewN ?_ _ | refine blk_drew ?_ | refine blk_alloc ?_ _)); exact BK243.out) hb)
                      have n9_ := Aside0.mk (below_step (by repeat (first | (with_reducible first | exact HB.out | apply below_alloc | apply pw_below_drewN | apply below_drew1 | refine below_set ?_ GE215.out | refine below_set ?_ GE237.out | refine below_set ?_ GE242.out | refine below_set ?_ GE243.out) | exact HB.out)) hb)
                      clear HO_216001
                      clear HO_238001
                      clear HO_243001
                      clear HO_244001
                      clear BK215
                      clear BK237
                      clear BK242
                      clear BK243
                      clear HB
                      have HO_216001 := n0_
                      have HO_238001 := n1_
                      have HO_243001 := n2_
                      have HO_244001 := n3_
                      have HO251 := n4_
                      have BK215 := n5_
                      have BK237 := n6_
                      have BK242 := n7_
                      have BK243 := n8_
                      have HB := n9_
                      clear n0_ n1_ n2_ n3_ n4_ n5_ n6_ n7_ n8_ n9_
                      (try clear hb)
                      (try clear hb2)
                      (try clear hk)
                      (try clear hi)
                      (try clear ho0)
                      obtain ⟨Ao74, co74, eo74⟩ := Kd.V_slice HO251.out
                      (first | subst eo74 | (injection eo74 with f1_ f2_ f3_; have f4_ := f1_.symm; have f5_ := f3_.symm; clear f1_ f2_ f3_; subst f4_; subst f5_))
                      refine hK.out _ _ ⟨(blk_cell BK237.out 0).trans rfl, (blk_cell BK237.out 1).trans rfl, (blk_cell BK242.out 0).trans rfl, (blk_cell BK242.out 1).trans rfl⟩ (fun hHeld => ?_)
                      clear hK K
                      refine norm_ (a' := ?_) ?_ ?_
                      rotate_left
                      · show Act.put _ (some 55) _ = _
                        simp only [Act.put, List.setIfInBounds_toArray, List.set_cons_zero, List.set_cons_succ, i64_w, i32_w]
                        rfl
                      refine one_ (i := 3) (N := some 56) #[true, true, true, true, false] rfl rfl (by kernel_rfl) (by decide) (fun K hK => ?_)
                      refine goes_ Try.func24 (by kernel_rfl) rfl #[.agg #[.bool t233, .slice Ao37 t234.length co37], .agg #[.bool t248, .slice Ao74 t249.length co74]] (by rfl) rfl rfl (by (try simp only [List.map_toArray, List.map_cons, List.map_nil]); first | done | rfl | (simp only [List.length_drop, List.length_take]; rfl) | (refine congrArg (fun z_ => #[Value.int IntKind.i64 z_]) (?_ : Go.RowKit.wrap64 (IntKind.u8.wrap _) = _); rw [IntKind.wrap_u8]; unfold Go.RowKit.wrap64; omega)) ?_
                      with_reducible refine (horologeref01_Plus.calls kj45 t233 _ _ t234 t248 _ _ t249 t252 t253 _ ?side1 ?side2 ?side3 ?side4 A71.out).mono ?_
                      (case side1 => repeat (first | exact (Kd.V_reads' HO_238001.out).2.2 | (with_reducible refine Kd.C_alloc ?_ _) | (with_reducible refine Kd.C_drewN ?_ _) | (with_reducible refine Kd.C_drew ?_)))
                      (case side2 => exact (Kd.V_reads' HO_238001.out).2.1)
                      (case side3 => repeat (first | exact (Kd.V_reads' HO251.out).2.2 | (with_reducible refine Kd.C_alloc ?_ _) | (with_reducible refine Kd.C_drewN ?_ _) | (with_reducible refine Kd.C_drew ?_)))
                      (case side4 => exact (Kd.V_reads' HO251.out).2.1)
                      rintro e w75 ⟨v254, rfl, ho0, hb⟩
                      refine ⟨_, rfl, ?_⟩
                      have n0_ := Aside0.mk (Kd.R_below (by (with_reducible repeat (first | apply Kd.R_alloc | apply Kd.R_drewN | apply Kd.R_drew)); exact HO_216001.out) hb)
                      have n1_ := Aside0.mk (Kd.V_below (by (with_reducible repeat (first | apply Kd.V_alloc | apply Kd.V_drewN | apply Kd.V_drew)); exact HO_238001.out) hb)
                      have n2_ := Aside0.mk (Kd.V_below (by (with_reducible repeat (first | apply Kd.V_alloc | apply Kd.V_drewN | apply Kd.V_drew)); exact HO_243001.out) hb)
                      have n3_ := Aside0.mk (Kd.V_below (by (with_reducible repeat (first | apply Kd.V_alloc | apply Kd.V_drewN | apply Kd.V_drew)); exact HO_244001.out) hb)
                      have n4_ := Aside0.mk (Kd.V_below (by (with_reducible repeat (first | apply Kd.V_alloc | apply Kd.V_drewN | apply Kd.V_drew)); exact HO251.out) hb)
                      have n5_ := Aside0.mk (Kd.V_lower (Kd.V_mono (ok' := fun k_ => some k_ ≠ (.slice Ao22 t212.length co22 : Value).ownBlock ∧ k_ ≠ gb215 ∧ k_ ≠ gb237 ∧ k_ ≠ gb242 ∧ k_ ≠ gb243) ho0 (fun k_ hk_ => ⟨(Kd.fresh' (Kd.R_lt (by (with_reducible repeat (first | apply Kd.R_alloc | apply Kd.R_drewN | apply Kd.R_drew)); exact HO_216001.out)) k_ hk_), (Kd.freshB (g := gb215) (o := .cells #[.bool t211, .slice Ao22 t212.length co22] 51 (0, 0)) (by (with_reducible repeat (first | refine blk_drewN ?_ _ | refine blk_drew ?_ | refine blk_alloc ?_ _)); exact BK215.out) k_ hk_), (Kd.freshB (g := gb237) (o := .cells #[.bool t233, .slice Ao37 t234.length co37] 51 (0, 0)) (by (with_reducible repeat (first | refine blk_drewN ?_ _ | refine blk_drew ?_ | refine blk_alloc ?_ _)); exact BK237.out) k_ hk_), (Kd.freshB (g := gb242) (o := .cells #[.bool t238, .slice Ao44 t239.length co44] 51 (0, 0)) (by (with_reducible repeat (first | refine blk_drewN ?_ _ | refine blk_drew ?_ | refine blk_alloc ?_ _)); exact BK242.out) k_ hk_), (Kd.freshB (g := gb243) (o := .cells #[.bool x244000_45, u244001] 51 (0, 0)) (by (with_reducible repeat (first | refine blk_drewN ?_ _ | refine blk_drew ?_ | refine blk_alloc ?_ _)); exact BK243.out) k_ hk_)⟩)) (below_size (by repeat (first | (with_reducible first | exact HB.out | apply below_alloc | apply pw_below_drewN | apply below_drew1 | refine below_set ?_ GE215.out | refine below_set ?_ GE237.out | refine below_set ?_ GE242.out | refine below_set ?_ GE243.out) | exact HB.out))))
                      have n6_ := Aside0.mk (blk_below (g := gb215) (o := .cells #[.bool t211, .slice Ao22 t212.length co22] 51 (0, 0)) (by (with_reducible repeat (first | refine blk_drewN ?_ _ | refine blk_drew ?_ | refine blk_alloc ?_ _)); exact BK215.out) hb)
                      have n7_ := Aside0.mk (blk_below (g := gb237) (o := .cells #[.bool t233, .slice Ao37 t234.length co37] 51 (0, 0)) (by (with_reducible repeat (first | refine blk_drewN ?_ _ | refine blk_drew ?_ | refine blk_alloc ?_ _)); exact BK237.out) hb)
                      have n8_ := Aside0.mk (blk_below (g := gb242) (o := .cells #[.bool t238, .slice Ao44 t239.length co44] 51 (0, 0)) (by (with_reducible repeat (first | refine blk_drewN ?_ _ | refine blk_drew ?_ | refine blk_alloc ?_ _)); exact BK242.out) hb)
                      have n9_ := Aside0.mk (blk_below (g := gb243) (o := .cells #[.bool x244000_45, u244001] 51 (0, 0)) (by (with_reducible repeat (first | refine blk_drewN ?_ _ | refine blk_drew ?_ | refine blk_alloc ?_ _)); exact BK243.out) hb)
                      have n10_ := Aside0.mk (below_step (by repeat (first | (with_reducible first | exact HB.out | apply below_alloc | apply pw_below_drewN | apply below_drew1 | refine below_set ?_ GE215.out | refine below_set ?_ GE237.out | refine below_set ?_ GE242.out | refine below_set ?_ GE243.out) | exact HB.out)) hb)
                      clear HO_216001
                      clear HO_238001
                      clear HO_243001
                      clear HO_244001
                      clear HO251
                      clear BK215
                      clear BK237
                      clear BK242
                      clear BK243
                      clear HB
                      have HO_216001 := n0_
                      have HO_238001 := n1_
                      have HO_243001 := n2_
                      have HO_244001 := n3_
                      have HO251 := n4_
                      have HO255 := n5_
                      have BK215 := n6_
                      have BK237 := n7_
                      have BK242 := n8_
                      have BK243 := n9_
                      have HB := n10_
                      clear n0_ n1_ n2_ n3_ n4_ n5_ n6_ n7_ n8_ n9_ n10_
                      (try clear hb)
                      (try clear hb2)
                      (try clear hk)
                      (try clear hi)
                      (try clear ho0)
                      obtain ⟨Ao77, co77, eo77⟩ := Kd.V_slice HO255.out
                      (first | subst eo77 | (injection eo77 with f1_ f2_ f3_; have f4_ := f1_.symm; have f5_ := f3_.symm; clear f1_ f2_ f3_; subst f4_; subst f5_))
                      refine hK.out _ _ ⟨(blk_cell BK237.out 0).trans rfl, (blk_cell BK237.out 1).trans rfl, (blk_cell BK242.out 0).trans rfl, (blk_cell BK242.out 1).trans rfl⟩ (fun hHeld => ?_)
                      clear hK K
                      refine norm_ (a' := ?_) ?_ ?_
                      rotate_left
                      · show Act.put _ (some 56) _ = _
                        simp only [Act.put, List.setIfInBounds_toArray, List.set_cons_zero, List.set_cons_succ, i64_w, i32_w]
                        rfl
                      refine one_ (i := 4) (N := none) #[true, true, true, true, true] rfl rfl (by kernel_rfl) (by decide) (fun K hK => ?_)
                      have hs76 : w75.cell? ⟨gb243, 0, none⟩ = some (.bool x244000_45) := (blk_cell BK243.out 0).trans rfl
                      have hfs76 := blk_frozen BK243.out 0
                      have hns76_0 := NB215_243.out
                      have hns76_1 := NB237_243.out
                      have hns76_2 := NB242_243.out
                      have hms76_0 := NB243_215.out
                      have hms76_1 := NB243_237.out
                      have hms76_2 := NB243_242.out
                      have hs78 : w75.cell? ⟨gb243, 1, none⟩ = some (u244001) := (blk_cell BK243.out 1).trans rfl
                      have hfs78 := blk_frozen BK243.out 1
                      have hns78_0 := NB215_243.out
                      have hns78_1 := NB237_243.out
                      have hns78_2 := NB242_243.out
                      have hms78_0 := NB243_215.out
                      have hms78_1 := NB243_237.out
                      have hms78_2 := NB243_242.out
                      refine skip_ (w1 := ?_) (by rfl) rfl ?_ ?_
                      rotate_left
                      · go_simp
                        rfl
                      refine hK.out _ _ ⟨((cell_far (p := ⟨gb243, _, none⟩) NB237_243.out _).trans (((cell_far (p := ⟨gb243, _, none⟩) NB237_243.out _).trans (hHeld.1)))), ((cell_far (p := ⟨gb243, _, none⟩) NB237_243.out _).trans (((cell_far (p := ⟨gb243, _, none⟩) NB237_243.out _).trans (hHeld.2.1)))), ((cell_far (p := ⟨gb243, _, none⟩) NB242_243.out _).trans (((cell_far (p := ⟨gb243, _, none⟩) NB242_243.out _).trans (hHeld.2.2.1)))), ((cell_far (p := ⟨gb243, _, none⟩) NB242_243.out _).trans (((cell_far (p := ⟨gb243, _, none⟩) NB242_243.out _).trans (hHeld.2.2.2))))⟩ (fun hHeld => ?_)
                      clear hK K
                      refine done_ (by kernel_rfl) ?_
                      try go_wp2
                      go_meet
                      case rel => exact ⟨_, (t252), (t253), (.slice Ao77 t253.length co77), H', ⟨by have := HJ3.out; have := HK2.out; have := HJ45.out; first | omega | exact Nat.le_refl _⟩, ⟨by (with_reducible repeat (first | apply Kd.R_alloc | apply Kd.R_drewN | apply Kd.R_drew)); exact Kd.R_mono (Kd.R_far (p := ⟨gb243, 1, none⟩) (Kd.R_far (p := ⟨gb243, 0, none⟩) (Kd.R_types HO_216001.out BK243.out (by decide)) (fun _ hk => hk.2) (.bool t252)) (fun _ hk => hk.2) (.slice Ao77 t253.length co77)) (fun _ hk => trivial)⟩, ⟨by (with_reducible repeat (first | apply Kd.V_alloc | apply Kd.V_drewN | apply Kd.V_drew)); exact Kd.V_mono (Kd.V_far (p := ⟨gb243, 1, none⟩) (Kd.V_far (p := ⟨gb243, 0, none⟩) (Kd.V_mono HO_238001.out (fun k_ hk => (⟨hk, hk.2.2.2.2⟩ : _ ∧ k_ ≠ gb243))) (fun _ hk => hk.2) (.bool t252)) (fun _ hk => hk.2) (.slice Ao77 t253.length co77)) (fun _ hk => ⟨hk.1.1, ⟨hk.1.2.1, ⟨hk.1.2.2.1, ⟨hk.1.2.2.2.1, hk.1.2.2.2.2⟩⟩⟩⟩)⟩, ⟨by (with_reducible repeat (first | apply Kd.V_alloc | apply Kd.V_drewN | apply Kd.V_drew)); exact Kd.V_mono (Kd.V_far (p := ⟨gb243, 1, none⟩) (Kd.V_far (p := ⟨gb243, 0, none⟩) (Kd.V_mono HO_243001.out (fun k_ hk => (⟨hk, hk.2.2.2.2⟩ : _ ∧ k_ ≠ gb243))) (fun _ hk => hk.2) (.bool t252)) (fun _ hk => hk.2) (.slice Ao77 t253.length co77)) (fun _ hk => ⟨hk.1.1, ⟨hk.1.2.1, ⟨hk.1.2.2.1, ⟨hk.1.2.2.2.1, hk.1.2.2.2.2⟩⟩⟩⟩)⟩, ⟨by (with_reducible repeat (first | apply Kd.V_alloc | apply Kd.V_drewN | apply Kd.V_drew)); exact Kd.V_mono (Kd.V_far (p := ⟨gb243, 1, none⟩) (Kd.V_far (p := ⟨gb243, 0, none⟩) (Kd.V_mono HO255.out (fun k_ hk => (⟨hk, hk.2.2.2.2⟩ : _ ∧ k_ ≠ gb243))) (fun _ hk => hk.2) (.bool t252)) (fun _ hk => hk.2) (.slice Ao77 t253.length co77)) (fun _ hk => ⟨hk.1.1, ⟨hk.1.2.1, ⟨hk.1.2.2.1, ⟨hk.1.2.2.2.1, hk.1.2.2.2.2⟩⟩⟩⟩)⟩, ⟨by (with_reducible repeat (first | refine blk_drewN ?_ _ | refine blk_drew ?_ | refine blk_alloc ?_ _)); refine blk_far ?_ NB215_243.out _; (with_reducible repeat (first | refine blk_drewN ?_ _ | refine blk_drew ?_ | refine blk_alloc ?_ _)); refine blk_far ?_ NB215_243.out _; (with_reducible repeat (first | refine blk_drewN ?_ _ | refine blk_drew ?_ | refine blk_alloc ?_ _)); exact BK215.out⟩, ⟨by (with_reducible repeat (first | refine blk_drewN ?_ _ | refine blk_drew ?_ | refine blk_alloc ?_ _)); refine blk_far ?_ NB237_243.out _; (with_reducible repeat (first | refine blk_drewN ?_ _ | refine blk_drew ?_ | refine blk_alloc ?_ _)); refine blk_far ?_ NB237_243.out _; (with_reducible repeat (first | refine blk_drewN ?_ _ | refine blk_drew ?_ | refine blk_alloc ?_ _)); exact BK237.out⟩, ⟨by (with_reducible repeat (first | refine blk_drewN ?_ _ | refine blk_drew ?_ | refine blk_alloc ?_ _)); refine blk_far ?_ NB242_243.out _; (with_reducible repeat (first | refine blk_drewN ?_ _ | refine blk_drew ?_ | refine blk_alloc ?_ _)); refine blk_far ?_ NB242_243.out _; (with_reducible repeat (first | refine blk_drewN ?_ _ | refine blk_drew ?_ | refine blk_alloc ?_ _)); exact BK242.out⟩, ⟨by (with_reducible repeat (first | refine blk_drewN ?_ _ | refine blk_drew ?_ | refine blk_alloc ?_ _)); refine blk_put (cs := #[.bool t252, u244001]) ?_ 1 _ rfl; (with_reducible repeat (first | refine blk_drewN ?_ _ | refine blk_drew ?_ | refine blk_alloc ?_ _)); refine blk_put (cs := #[.bool x244000_45, u244001]) ?_ 0 _ rfl; (with_reducible repeat (first | refine blk_drewN ?_ _ | refine blk_drew ?_ | refine blk_alloc ?_ _)); exact BK243.out⟩, ⟨by repeat (first | (with_reducible first | exact HB.out | apply below_alloc | apply pw_below_drewN | apply below_drew1 | refine below_set ?_ GE215.out | refine below_set ?_ GE237.out | refine below_set ?_ GE242.out | refine below_set ?_ GE243.out) | exact HB.out)⟩⟩
                    · rw [if_neg c69] at H
                      have c69b0 : (x11_2 == 2) = false := beq_eq_false_iff_ne.mpr c69
                      have c69b1 : (x11_2 != 2) = true := bne_iff_ne.mpr c69
                      (first | rw [c69b0] | (simp only [i64_w, i32_w]; rw [c69b0]) | skip)
                      have H' := Aside0.mk H
                      clear H
                      go_wp2
                      go_meet
                      case rel => exact ⟨_, (x244000_45), (x244001_45), (u244001), H', ⟨by have := HJ3.out; have := HK2.out; have := HJ45.out; first | omega | exact Nat.le_refl _⟩, ⟨by (with_reducible repeat (first | apply Kd.R_alloc | apply Kd.R_drewN | apply Kd.R_drew)); exact HO_216001.out⟩, ⟨by (with_reducible repeat (first | apply Kd.V_alloc | apply Kd.V_drewN | apply Kd.V_drew)); exact HO_238001.out⟩, ⟨by (with_reducible repeat (first | apply Kd.V_alloc | apply Kd.V_drewN | apply Kd.V_drew)); exact HO_243001.out⟩, ⟨by (with_reducible repeat (first | apply Kd.V_alloc | apply Kd.V_drewN | apply Kd.V_drew)); exact HO_244001.out⟩, ⟨by (with_reducible repeat (first | refine blk_drewN ?_ _ | refine blk_drew ?_ | refine blk_alloc ?_ _)); exact BK215.out⟩, ⟨by (with_reducible repeat (first | refine blk_drewN ?_ _ | refine blk_drew ?_ | refine blk_alloc ?_ _)); exact BK237.out⟩, ⟨by (with_reducible repeat (first | refine blk_drewN ?_ _ | refine blk_drew ?_ | refine blk_alloc ?_ _)); exact BK242.out⟩, ⟨by (with_reducible repeat (first | refine blk_drewN ?_ _ | refine blk_drew ?_ | refine blk_alloc ?_ _)); exact BK243.out⟩, ⟨by repeat (first | (with_reducible first | exact HB.out | apply below_alloc | apply pw_below_drewN | apply below_drew1 | refine below_set ?_ GE215.out | refine below_set ?_ GE237.out | refine below_set ?_ GE242.out | refine below_set ?_ GE243.out) | exact HB.out)⟩⟩
                  case rest =>
                    clear HC68
                    try clear c2
                    try clear p2
                    try clear c3
                    try clear c4
                    try clear c5
                    try clear c6
                    try clear p6
                    try clear c22
                    try clear c24
                    try clear c26
                    try clear c32
                    try clear c41
                    try clear c42
                    try clear c45
                    try clear c45b0
                    try clear c47
                    try clear c48
                    try clear c51
                    try clear c52
                    try clear c53
                    try clear c55
                    try clear c55b0
                    try clear c55b1
                    try clear c57
                    try clear c58
                    try clear c59
                    try clear c61
                    try clear c62
                    try clear p64
                    try clear c65
                    try clear c69
                    try clear c69b0
                    try clear c69b1
                    try clear hcz43_0
                    try clear hcz43_1
                    try clear hcz49_0
                    try clear hcz49_1
                    try clear hcz54_0
                    try clear hcz54_1
                    try clear hcz60_0
                    try clear hcz60_1
                    try clear hcz63_0
                    try clear hcz63_1
                    try clear hcz66_0
                    try clear hcz66_1
                    try clear hfz43_0
                    try clear hfz43_1
                    try clear hfz49_0
                    try clear hfz49_1
                    try clear hfz54_0
                    try clear hfz54_1
                    try clear hfz60_0
                    try clear hfz60_1
                    try clear hfz63_0
                    try clear hfz63_1
                    try clear hfz66_0
                    try clear hfz66_1
                    try clear p2
                    try clear p6
                    try clear p64
                    obtain ⟨kq, x244000_67, x244001_67, u244001, HA, HJ67, HO_216001, HO_238001, HO_243001, HO_244001, BK215, BK237, BK242, BK243, HB⟩ := hcut
                    cases kq with
                    | zero => exact absurd HA.out (by simp [horologeref13_Bits.j3])
                    | succ kj67 =>
                      have H := HA.out
                      clear HA
                      simp only [horologeref13_Bits.j3] at H
                      replace H := Option.bind_eq_some_iff.mp H
                      obtain ⟨t256, A790, H⟩ := H
                      replace H : (if t256 = true then ((horologeref01_Small.f kj67 x244000_67 x244001_67).bind fun bt257 => (some (bt257.1, bt257.2))) else (horologeref13_Bits.l0 kj67 a1 (wrap64 (x11_2 + 1)) t211 t212 t233 t234 t238 t239)) = some (r1, r2) := H
                      have A79 := Aside0.mk A790
                      clear A790
                      by_cases c80 : t256 = true
                      · subst c80
                        have H1 : ((horologeref01_Small.f kj67 x244000_67 x244001_67).bind fun bt257 => (some (bt257.1, bt257.2))) = some (r1, r2) := by rw [if_pos rfl] at H; exact H
                        clear H
                        have H := H1
                        clear H1
                        replace H := Option.bind_eq_some_iff.mp H
                        obtain ⟨⟨t257, t258⟩, A810, H⟩ := H
                        replace H : (some (t257, t258)) = some (r1, r2) := H
                        have A81 := Aside0.mk A810
                        clear A810
                        simp only [Option.some.injEq, Prod.mk.injEq] at H
                        obtain ⟨rfl, rfl⟩ := H
                        have hnb82 := NB243_215.out
                        have hnc82 := NB215_243.out
                        have hnb83 := NB243_237.out
                        have hnc83 := NB237_243.out
                        have hnb84 := NB243_242.out
                        have hnc84 := NB242_243.out
                        have hcz85_0 : wc.cell? ⟨gb243, 0, none⟩ = some (.bool x244000_67) := (blk_cell BK243.out 0).trans rfl
                        have hcz85_1 : wc.cell? ⟨gb243, 1, none⟩ = some (u244001) := (blk_cell BK243.out 1).trans rfl
                        have hfz85_0 := blk_frozen BK243.out 0
                        have hfz85_1 := blk_frozen BK243.out 1
                        have hnb86 := NB215_237.out
                        have hnc86 := NB237_215.out
                        have hnb87 := NB215_242.out
                        have hnc87 := NB242_215.out
                        have hcz88_0 : wc.cell? ⟨gb215, 0, none⟩ = some (.bool t211) := (blk_cell BK215.out 0).trans rfl
                        have hcz88_1 : wc.cell? ⟨gb215, 1, none⟩ = some (.slice Ao22 t212.length co22) := (blk_cell BK215.out 1).trans rfl
                        have hfz88_0 := blk_frozen BK215.out 0
                        have hfz88_1 := blk_frozen BK215.out 1
                        obtain ⟨Ao89, co89, eo89⟩ := Kd.V_slice HO_244001.out
                        subst eo89
                        go_wp2_with (first | ((with_reducible refine gate_callee (f := 21) rfl ?_); refine goesL_ (some 60) rfl rfl Try.func21 (by kernel_rfl) rfl #[.agg #[.bool x244000_67, .slice Ao89 x244001_67.length co89], .agg #[.bool t211, .slice Ao22 t212.length co22], .int .i64 a1] rfl (by (try simp only [List.map_toArray, List.map_cons, List.map_nil]); first | done | rfl | (simp only [List.length_drop, List.length_take]; rfl) | (refine congrArg (fun z_ => #[Value.int IntKind.i64 z_]) (?_ : Go.RowKit.wrap64 (IntKind.u8.wrap _) = _); rw [IntKind.wrap_u8]; unfold Go.RowKit.wrap64; omega)) ?_; (with_reducible refine (horologeref13_Near.calls kj67 x244000_67 _ _ x244001_67 t211 _ _ t212 a1 true _ ?side1 ?side2 ?side3 ?side4 A79.out).mono ?_); (case side1 => repeat (first | exact (Kd.V_reads' HO_244001.out).2.2 | (with_reducible refine Kd.C_alloc ?_ _) | (with_reducible refine Kd.C_drewN ?_ _) | (with_reducible refine Kd.C_drew ?_))); (case side2 => exact (Kd.V_reads' HO_244001.out).2.1); (case side3 => repeat (first | exact (Kd.R_reads' HO_216001.out).2.2 | (with_reducible refine Kd.C_alloc ?_ _) | (with_reducible refine Kd.C_drewN ?_ _) | (with_reducible refine Kd.C_drew ?_))); (case side4 => exact (Kd.R_reads' HO_216001.out).2.1); rintro e w90 ⟨rfl, hb⟩; refine ⟨_, rfl, ?_⟩; have n0_ := Aside0.mk (Kd.R_below (by (with_reducible repeat (first | apply Kd.R_alloc | apply Kd.R_drewN | apply Kd.R_drew)); exact HO_216001.out) hb); have n1_ := Aside0.mk (Kd.V_below (by (with_reducible repeat (first | apply Kd.V_alloc | apply Kd.V_drewN | apply Kd.V_drew)); exact HO_238001.out) hb); have n2_ := Aside0.mk (Kd.V_below (by (with_reducible repeat (first | apply Kd.V_alloc | apply Kd.V_drewN | apply Kd.V_drew)); exact HO_243001.out) hb); have n3_ := Aside0.mk (Kd.V_below (by (with_reducible repeat (first | apply Kd.V_alloc | apply Kd.V_drewN | apply Kd.V_drew)); exact HO_244001.out) hb); have n4_ := Aside0.mk (blk_below (g := gb215) (o := .cells #[.bool t211, .slice Ao22 t212.length co22] 51 (0, 0)) (by (with_reducible repeat (first | refine blk_drewN ?_ _ | refine blk_drew ?_ | refine blk_alloc ?_ _)); exact BK215.out) hb); have n5_ := Aside0.mk (blk_below (g := gb237) (o := .cells #[.bool t233, .slice Ao37 t234.length co37] 51 (0, 0)) (by (with_reducible repeat (first | refine blk_drewN ?_ _ | refine blk_drew ?_ | refine blk_alloc ?_ _)); exact BK237.out) hb); have n6_ := Aside0.mk (blk_below (g := gb242) (o := .cells #[.bool t238, .slice Ao44 t239.length co44] 51 (0, 0)) (by (with_reducible repeat (first | refine blk_drewN ?_ _ | refine blk_drew ?_ | refine blk_alloc ?_ _)); exact BK242.out) hb); have n7_ := Aside0.mk (blk_below (g := gb243) (o := .cells #[.bool x244000_67, .slice Ao89 x244001_67.length co89] 51 (0, 0)) (by (with_reducible repeat (first | refine blk_drewN ?_ _ | refine blk_drew ?_ | refine blk_alloc ?_ _)); exact BK243.out) hb); have n8_ := Aside0.mk (below_step (by repeat (first | (with_reducible first | exact HB.out | apply below_alloc | apply pw_below_drewN | apply below_drew1 | refine below_set ?_ GE215.out | refine below_set ?_ GE237.out | refine below_set ?_ GE242.out | refine below_set ?_ GE243.out) | exact HB.out)) hb); clear HO_216001; clear HO_238001; clear HO_243001; clear HO_244001; clear BK215; clear BK237; clear BK242; clear BK243; clear HB; have HO_216001 := n0_; have HO_238001 := n1_; have HO_243001 := n2_; have HO_244001 := n3_; have BK215 := n4_; have BK237 := n5_; have BK242 := n6_; have BK243 := n7_; have HB := n8_; clear n0_ n1_ n2_ n3_ n4_ n5_ n6_ n7_ n8_; (try clear hb); (try clear hb2); (try clear hk); (try clear hi); have hcz91_0 : w90.cell? ⟨gb243, 0, none⟩ = some (.bool x244000_67) := (blk_cell BK243.out 0).trans rfl; have hcz91_1 : w90.cell? ⟨gb243, 1, none⟩ = some (.slice Ao89 x244001_67.length co89) := (blk_cell BK243.out 1).trans rfl; have hfz91_0 := blk_frozen BK243.out 0; have hfz91_1 := blk_frozen BK243.out 1) | ((with_reducible refine gate_callee (f := 27) rfl ?_); refine goesL_ (some 62) rfl rfl Try.func27 (by kernel_rfl) rfl #[.agg #[.bool x244000_67, .slice Ao89 x244001_67.length co89]] rfl (by (try simp only [List.map_toArray, List.map_cons, List.map_nil]); first | done | rfl | (simp only [List.length_drop, List.length_take]; rfl) | (refine congrArg (fun z_ => #[Value.int IntKind.i64 z_]) (?_ : Go.RowKit.wrap64 (IntKind.u8.wrap _) = _); rw [IntKind.wrap_u8]; unfold Go.RowKit.wrap64; omega)) ?_; (with_reducible refine (horologeref01_Small.calls kj67 x244000_67 _ _ x244001_67 t257 t258 _ ?side1 ?side2 A81.out).mono ?_); (case side1 => repeat (first | exact (Kd.V_reads' HO_244001.out).2.2 | (with_reducible refine Kd.C_alloc ?_ _) | (with_reducible refine Kd.C_drewN ?_ _) | (with_reducible refine Kd.C_drew ?_))); (case side2 => exact (Kd.V_reads' HO_244001.out).2.1); rintro e w92 ⟨rfl, hb⟩; refine ⟨_, rfl, ?_⟩; have n0_ := Aside0.mk (Kd.R_below (by (with_reducible repeat (first | apply Kd.R_alloc | apply Kd.R_drewN | apply Kd.R_drew)); exact HO_216001.out) hb); have n1_ := Aside0.mk (Kd.V_below (by (with_reducible repeat (first | apply Kd.V_alloc | apply Kd.V_drewN | apply Kd.V_drew)); exact HO_238001.out) hb); have n2_ := Aside0.mk (Kd.V_below (by (with_reducible repeat (first | apply Kd.V_alloc | apply Kd.V_drewN | apply Kd.V_drew)); exact HO_243001.out) hb); have n3_ := Aside0.mk (Kd.V_below (by (with_reducible repeat (first | apply Kd.V_alloc | apply Kd.V_drewN | apply Kd.V_drew)); exact HO_244001.out) hb); have n4_ := Aside0.mk (blk_below (g := gb215) (o := .cells #[.bool t211, .slice Ao22 t212.length co22] 51 (0, 0)) (by (with_reducible repeat (first | refine blk_drewN ?_ _ | refine blk_drew ?_ | refine blk_alloc ?_ _)); exact BK215.out) hb); have n5_ := Aside0.mk (blk_below (g := gb237) (o := .cells #[.bool t233, .slice Ao37 t234.length co37] 51 (0, 0)) (by (with_reducible repeat (first | refine blk_drewN ?_ _ | refine blk_drew ?_ | refine blk_alloc ?_ _)); exact BK237.out) hb); have n6_ := Aside0.mk (blk_below (g := gb242) (o := .cells #[.bool t238, .slice Ao44 t239.length co44] 51 (0, 0)) (by (with_reducible repeat (first | refine blk_drewN ?_ _ | refine blk_drew ?_ | refine blk_alloc ?_ _)); exact BK242.out) hb); have n7_ := Aside0.mk (blk_below (g := gb243) (o := .cells #[.bool x244000_67, .slice Ao89 x244001_67.length co89] 51 (0, 0)) (by (with_reducible repeat (first | refine blk_drewN ?_ _ | refine blk_drew ?_ | refine blk_alloc ?_ _)); exact BK243.out) hb); have n8_ := Aside0.mk (below_step (by repeat (first | (with_reducible first | exact HB.out | apply below_alloc | apply pw_below_drewN | apply below_drew1 | refine below_set ?_ GE215.out | refine below_set ?_ GE237.out | refine below_set ?_ GE242.out | refine below_set ?_ GE243.out) | exact HB.out)) hb); clear HO_216001; clear HO_238001; clear HO_243001; clear HO_244001; clear BK215; clear BK237; clear BK242; clear BK243; clear HB; have HO_216001 := n0_; have HO_238001 := n1_; have HO_243001 := n2_; have HO_244001 := n3_; have BK215 := n4_; have BK237 := n5_; have BK242 := n6_; have BK243 := n7_; have HB := n8_; clear n0_ n1_ n2_ n3_ n4_ n5_ n6_ n7_ n8_; (try clear hb); (try clear hb2); (try clear hk); (try clear hi)))
                        go_ret2
                        exact ⟨by first | rfl | (simp [errW_none, errW_some] <;> rfl) | (simp [*, errW_none, errW_some] <;> rfl), by repeat (first | (with_reducible first | exact HB.out | apply below_alloc | apply pw_below_drewN | apply below_drew1 | refine below_set ?_ GE215.out | refine below_set ?_ GE237.out | refine below_set ?_ GE242.out | refine below_set ?_ GE243.out) | exact HB.out)⟩
                      · replace c80 := Bool.eq_false_iff.mpr c80
                        subst c80
                        have H1 : (horologeref13_Bits.l0 kj67 a1 (wrap64 (x11_2 + 1)) t211 t212 t233 t234 t238 t239) = some (r1, r2) := by rw [if_neg (show ¬ (false = true) by decide)] at H; exact H
                        clear H
                        have H := H1
                        clear H1
                        have H' := Aside0.mk H
                        clear H
                        have hnb93 := NB243_215.out
                        have hnc93 := NB215_243.out
                        have hnb94 := NB243_237.out
                        have hnc94 := NB237_243.out
                        have hnb95 := NB243_242.out
                        have hnc95 := NB242_243.out
                        have hcz96_0 : wc.cell? ⟨gb243, 0, none⟩ = some (.bool x244000_67) := (blk_cell BK243.out 0).trans rfl
                        have hcz96_1 : wc.cell? ⟨gb243, 1, none⟩ = some (u244001) := (blk_cell BK243.out 1).trans rfl
                        have hfz96_0 := blk_frozen BK243.out 0
                        have hfz96_1 := blk_frozen BK243.out 1
                        have hnb97 := NB215_237.out
                        have hnc97 := NB237_215.out
                        have hnb98 := NB215_242.out
                        have hnc98 := NB242_215.out
                        have hcz99_0 : wc.cell? ⟨gb215, 0, none⟩ = some (.bool t211) := (blk_cell BK215.out 0).trans rfl
                        have hcz99_1 : wc.cell? ⟨gb215, 1, none⟩ = some (.slice Ao22 t212.length co22) := (blk_cell BK215.out 1).trans rfl
                        have hfz99_0 := blk_frozen BK215.out 0
                        have hfz99_1 := blk_frozen BK215.out 1
                        obtain ⟨Ao100, co100, eo100⟩ := Kd.V_slice HO_244001.out
                        subst eo100
                        go_wp2_with (first | ((with_reducible refine gate_callee (f := 21) rfl ?_); refine goesL_ (some 60) rfl rfl Try.func21 (by kernel_rfl) rfl #[.agg #[.bool x244000_67, .slice Ao100 x244001_67.length co100], .agg #[.bool t211, .slice Ao22 t212.length co22], .int .i64 a1] rfl (by (try simp only [List.map_toArray, List.map_cons, List.map_nil]); first | done | rfl | (simp only [List.length_drop, List.length_take]; rfl) | (refine congrArg (fun z_ => #[Value.int IntKind.i64 z_]) (?_ : Go.RowKit.wrap64 (IntKind.u8.wrap _) = _); rw [IntKind.wrap_u8]; unfold Go.RowKit.wrap64; omega)) ?_; (with_reducible refine (horologeref13_Near.calls kj67 x244000_67 _ _ x244001_67 t211 _ _ t212 a1 false _ ?side1 ?side2 ?side3 ?side4 A79.out).mono ?_); (case side1 => repeat (first | exact (Kd.V_reads' HO_244001.out).2.2 | (with_reducible refine Kd.C_alloc ?_ _) | (with_reducible refine Kd.C_drewN ?_ _) | (with_reducible refine Kd.C_drew ?_))); (case side2 => exact (Kd.V_reads' HO_244001.out).2.1); (case side3 => repeat (first | exact (Kd.R_reads' HO_216001.out).2.2 | (with_reducible refine Kd.C_alloc ?_ _) | (with_reducible refine Kd.C_drewN ?_ _) | (with_reducible refine Kd.C_drew ?_))); (case side4 => exact (Kd.R_reads' HO_216001.out).2.1); rintro e w101 ⟨rfl, hb⟩; refine ⟨_, rfl, ?_⟩; have n0_ := Aside0.mk (Kd.R_below (by (with_reducible repeat (first | apply Kd.R_alloc | apply Kd.R_drewN | apply Kd.R_drew)); exact HO_216001.out) hb); have n1_ := Aside0.mk (Kd.V_below (by (with_reducible repeat (first | apply Kd.V_alloc | apply Kd.V_drewN | apply Kd.V_drew)); exact HO_238001.out) hb); have n2_ := Aside0.mk (Kd.V_below (by (with_reducible repeat (first | apply Kd.V_alloc | apply Kd.V_drewN | apply Kd.V_drew)); exact HO_243001.out) hb); have n3_ := Aside0.mk (Kd.V_below (by (with_reducible repeat (first | apply Kd.V_alloc | apply Kd.V_drewN | apply Kd.V_drew)); exact HO_244001.out) hb); have n4_ := Aside0.mk (blk_below (g := gb215) (o := .cells #[.bool t211, .slice Ao22 t212.length co22] 51 (0, 0)) (by (with_reducible repeat (first | refine blk_drewN ?_ _ | refine blk_drew ?_ | refine blk_alloc ?_ _)); exact BK215.out) hb); have n5_ := Aside0.mk (blk_below (g := gb237) (o := .cells #[.bool t233, .slice Ao37 t234.length co37] 51 (0, 0)) (by (with_reducible repeat (first | refine blk_drewN ?_ _ | refine blk_drew ?_ | refine blk_alloc ?_ _)); exact BK237.out) hb); have n6_ := Aside0.mk (blk_below (g := gb242) (o := .cells #[.bool t238, .slice Ao44 t239.length co44] 51 (0, 0)) (by (with_reducible repeat (first | refine blk_drewN ?_ _ | refine blk_drew ?_ | refine blk_alloc ?_ _)); exact BK242.out) hb); have n7_ := Aside0.mk (blk_below (g := gb243) (o := .cells #[.bool x244000_67, .slice Ao100 x244001_67.length co100] 51 (0, 0)) (by (with_reducible repeat (first | refine blk_drewN ?_ _ | refine blk_drew ?_ | refine blk_alloc ?_ _)); exact BK243.out) hb); have n8_ := Aside0.mk (below_step (by repeat (first | (with_reducible first | exact HB.out | apply below_alloc | apply pw_below_drewN | apply below_drew1 | refine below_set ?_ GE215.out | refine below_set ?_ GE237.out | refine below_set ?_ GE242.out | refine below_set ?_ GE243.out) | exact HB.out)) hb); clear HO_216001; clear HO_238001; clear HO_243001; clear HO_244001; clear BK215; clear BK237; clear BK242; clear BK243; clear HB; have HO_216001 := n0_; have HO_238001 := n1_; have HO_243001 := n2_; have HO_244001 := n3_; have BK215 := n4_; have BK237 := n5_; have BK242 := n6_; have BK243 := n7_; have HB := n8_; clear n0_ n1_ n2_ n3_ n4_ n5_ n6_ n7_ n8_; (try clear hb); (try clear hb2); (try clear hk); (try clear hi)))
                        go_roundg kj67
                        case measure => have := HJ3.out; have := HK2.out; have := HJ45.out; have := HJ67.out; omega
                        case rel => exact ⟨(wrap64 (x11_2 + 1)), (by first | rfl | (simp; done) | (simp [*]; done)), H', ⟨by have := HJ3.out; have := HK2.out; have := HJ45.out; have := HJ67.out; omega⟩, ⟨by (with_reducible repeat (first | apply Kd.R_alloc | apply Kd.R_drewN | apply Kd.R_drew)); exact HO_216001.out⟩, ⟨by (with_reducible repeat (first | apply Kd.V_alloc | apply Kd.V_drewN | apply Kd.V_drew)); exact Kd.V_mono HO_238001.out (fun _ hk => ⟨hk.1, ⟨hk.2.1, ⟨hk.2.2.1, hk.2.2.2.1⟩⟩⟩)⟩, ⟨by (with_reducible repeat (first | apply Kd.V_alloc | apply Kd.V_drewN | apply Kd.V_drew)); exact Kd.V_mono HO_243001.out (fun _ hk => ⟨hk.1, ⟨hk.2.1, ⟨hk.2.2.1, hk.2.2.2.1⟩⟩⟩)⟩, ⟨by (with_reducible repeat (first | refine blk_drewN ?_ _ | refine blk_drew ?_ | refine blk_alloc ?_ _)); exact BK215.out⟩, ⟨by (with_reducible repeat (first | refine blk_drewN ?_ _ | refine blk_drew ?_ | refine blk_alloc ?_ _)); exact BK237.out⟩, ⟨by (with_reducible repeat (first | refine blk_drewN ?_ _ | refine blk_drew ?_ | refine blk_alloc ?_ _)); exact BK242.out⟩, ⟨by repeat (first | (with_reducible first | exact HB.out | apply below_alloc | apply pw_below_drewN | apply below_drew1 | refine below_set ?_ GE215.out | refine below_set ?_ GE237.out | refine below_set ?_ GE242.out | refine below_set ?_ GE243.out) | exact HB.out)⟩⟩
            · rw [if_neg c45] at H
              have c45b0 : decide (x11_2 < 3) = false := decide_eq_false c45
              clear c45
              simp only [Option.some.injEq, Prod.mk.injEq] at H
              obtain ⟨rfl, rfl⟩ := H
              go_wp2
              go_ret2
              exact ⟨by first | rfl | (simp [errW_none, errW_some] <;> rfl) | (simp [*, errW_none, errW_some] <;> rfl), by repeat (first | (with_reducible first | exact HB.out | apply below_alloc | apply pw_below_drewN | apply below_drew1 | refine below_set ?_ GE215.out | refine below_set ?_ GE237.out | refine below_set ?_ GE242.out) | exact HB.out)⟩

end Go.Proofs.Ytcjmanlcogeikaa.MEraBits
