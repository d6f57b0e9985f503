-- This text was written by a program of this session (a changed scratch copy of a tool of the kit; NOTES.md tells the changes).
import Derived.Test.YtonjfggfcnpgbaaMScanPlaysx0
import Derived.Test.YtonjfggfcnpgbaaMScanPlaysx1
namespace Go.Proofs.Ytonjfggfcnpgbaa.MScanPlays
open Go.RowKit Go.Proofs.YtonjfggfcnpgbaaW.PrintWords Go.Proofs.YtonjfggfcnpgbaaW.PrintLast Go.Proofs.YtonjfggfcnpgbaaW.PrintMore
attribute [local go_sem] max2_int min2_int max_two min_two max_three min_three max_four min_four   -- for this text's walks alone
set_option linter.unusedVariables false
set_option linter.unusedSimpArgs false

/-! ### figures_take: function 69 -/
def figures_take.j0 : Nat → ByteArray → Int → Int → Int → Bool → Option (Int × Int × Option Int)
 | 0, _, _, _, _, _ => none
 | k + 1, x0, x1, x2, x3, x24 => if x24 = true then (some (0, 0, some 1)) else ((figures_run.f k x0 x2).bind fun t124 => (if t124 < x1 then (some (0, 0, some 2)) else (if 0 ≤ t124 then (if t124 ≤ (x0.size : Int) then ((figures_value.f k (x0.extract 0 (t124 : Int).toNat) x3).bind fun bt125 => (if bt125.2.isNone = true then (some (bt125.1, t124, none)) else (some (0, 0, some (bt125.2.getD 0))))) else (none)) else (none))))
def figures_take.f (k : Nat) (a0 : ByteArray) (a1 : Int) (a2 : Int) (a3 : Int) : Option (Int × Int × Option Int) := if a1 < 1 then (figures_take.j0 k a0 a1 a2 a3 true) else (if a1 > a2 then (figures_take.j0 k a0 a1 a2 a3 true) else (figures_take.j0 k a0 a1 a2 a3 (decide (a2 > 20))))
set_option maxHeartbeats 8000000 in
set_option maxRecDepth 100000 in
theorem figures_take.calls (k : Nat) (a0 : ByteArray) (a1 : Int) (a2 : Int) (a3 : Int) (r1 : Int) (r2 : Int) (r3 : Option Int) (w : World) (h : figures_take.f k a0 a1 a2 a3 = some (r1, r2, r3)) :
  Calls Try.prog 69 #[.string a0, .int .i64 a1, .int .i64 a2, .int .u64 a3] w fun e w' => e = .returned (.tuple #[.int .u64 r1, .int .i64 r2, errW r3]) ∧ Below w.heap.size w w' := by
 have hu42 := Try.underlying42
 have hu50 := Try.underlying50
 have HB := Aside0.mk (Below.refl w.heap.size w)
 have H : (if a1 < 1 then (figures_take.j0 k a0 a1 a2 a3 true) else (if a1 > a2 then (figures_take.j0 k a0 a1 a2 a3 true) else (figures_take.j0 k a0 a1 a2 a3 (decide (a2 > 20))))) = some (r1, r2, r3) := h
 clear h
 have HC5 := Aside0.mk H
 clear H
 go_enter Try.func69, Try.ntmps69
 go_upto_region 1 with (fail)
 go_cut [24] (fun v24 wc => ∃ (kq : Nat) (x24_4 : Bool), v24 = .bool x24_4 ∧ Aside0 (figures_take.j0 kq a0 a1 a2 a3 x24_4 = some (r1, r2, r3)) ∧ Aside0 (kq ≤ k) ∧ Aside0 (Below w.heap.size w wc))
 case first =>
  have H := HC5.out
  clear HC5
  by_cases c6 : a1 < 1
  ·rw [if_pos c6] at H
   have c6b0 : decide (a1 < 1) = true := decide_eq_true c6
   clear c6
   (first | rw [c6b0] | (simp only [i64_w, i32_w]; rw [c6b0]) | skip)
   have H' := Aside0.mk H
   clear H
   go_wp2
   go_meet
   case rel => exact ⟨_, (true), zq9, H', ⟨zq53⟩, ⟨zq2⟩⟩
  ·rw [if_neg c6] at H
   have c6b0 : decide (a1 < 1) = false := decide_eq_false c6
   clear c6
   (first | rw [c6b0] | (simp only [i64_w, i32_w]; rw [c6b0]) | skip)
   by_cases c7 : a1 > a2
   ·rw [if_pos c7] at H
    have c7b0 : decide (a2 < a1) = true := decide_eq_true c7
    clear c7
    have H' := Aside0.mk H
    clear H
    go_wp2
    go_meet
    case rel => exact ⟨_, (true), zq9, H', ⟨zq53⟩, ⟨zq2⟩⟩
   ·rw [if_neg c7] at H
    have c7b0 : decide (a2 < a1) = false := decide_eq_false c7
    clear c7
    have H' := Aside0.mk H
    clear H
    go_wp2
    go_meet
    case rel => exact ⟨_, (decide (a2 > 20)), zq9, H', ⟨zq53⟩, ⟨zq2⟩⟩
 case rest =>
  clear HC5
  try clear p2
  try clear c6
  try clear c6b0
  try clear c7
  try clear c7b0
  obtain ⟨kq, x24_4, rfl, HA, HJ4, HB⟩ := hcut
  cases kq with
  | zero => exact absurd HA.out (by simp [figures_take.j0])
  | succ kj4 =>
   have H := HA.out
   clear HA
   simp only [figures_take.j0] at H
   by_cases c8 : x24_4 = true
   ·subst c8
    have H1 : (some (0, 0, some 1)) = some (r1, r2, r3) := by rw [if_pos rfl] at H; exact H
    clear H
    have H := H1
    clear H1
    simp only [Option.some.injEq, Prod.mk.injEq] at H
    obtain ⟨rfl, rfl, rfl⟩ := H
    go_wp2
    go_ret3
    exact ⟨zq8, zq2⟩
   ·replace c8 := Bool.eq_false_iff.mpr c8
    subst c8
    have H1 : ((figures_run.f kj4 a0 a2).bind fun t124 => (if t124 < a1 then (some (0, 0, some 2)) else (if 0 ≤ t124 then (if t124 ≤ (a0.size : Int) then ((figures_value.f kj4 (a0.extract 0 (t124 : Int).toNat) a3).bind fun bt125 => (if bt125.2.isNone = true then (some (bt125.1, t124, none)) else (some (0, 0, some (bt125.2.getD 0))))) else (none)) else (none)))) = some (r1, r2, r3) := by rw [if_neg (show ¬ (false = true) by decide)] at H; exact H
    clear H
    have H := H1
    clear H1
    replace H := Option.bind_eq_some_iff.mp H
    obtain ⟨t124, A90, H⟩ := H
    replace H : (if t124 < a1 then (some (0, 0, some 2)) else (if 0 ≤ t124 then (if t124 ≤ (a0.size : Int) then ((figures_value.f kj4 (a0.extract 0 (t124 : Int).toNat) a3).bind fun bt125 => (if bt125.2.isNone = true then (some (bt125.1, t124, none)) else (some (0, 0, some (bt125.2.getD 0))))) else (none)) else (none))) = some (r1, r2, r3) := H
    have A9 := Aside0.mk A90
    clear A90
    by_cases c10 : t124 < a1
    ·rw [if_pos c10] at H
     have c10b0 : decide (t124 < a1) = true := decide_eq_true c10
     clear c10
     simp only [Option.some.injEq, Prod.mk.injEq] at H
     obtain ⟨rfl, rfl, rfl⟩ := H
     go_wp2_with (first | ((with_reducible refine gate_callee (f := 75) rfl ?_); refine goesL_ (some 28) rfl rfl Try.func75 (by kernel_rfl) rfl #[.string a0, .int .i64 a2] rfl zq1 ?_; (with_reducible refine (figures_run.calls kj4 a0 a2 t124 _ A9.out).mono ?_); rintro e w11 ⟨rfl, hb⟩; refine ⟨_, rfl, ?_⟩; replace HB := Aside0.mk (below_step zq2 hb); (try clear hb hk hi); (try clear hb2)))
     go_ret3
     exact ⟨zq8, zq2⟩
    ·rw [if_neg c10] at H
     have c10b0 : decide (t124 < a1) = false := decide_eq_false c10
     clear c10
     by_cases c12 : 0 ≤ t124
     ·rw [if_pos c12] at H
      have c12b0 := eq_true c12
      have c12b1 : decide (0 ≤ t124) = true := decide_eq_true c12
      clear c12
      by_cases c13 : t124 ≤ (a0.size : Int)
      ·rw [if_pos c13] at H
       have c13b0 := eq_true c13
       have c13b1 : decide (t124 ≤ (a0.size : Int)) = true := decide_eq_true c13
       clear c13
       replace H := Option.bind_eq_some_iff.mp H
       obtain ⟨⟨t125, t126⟩, A140, H⟩ := H
       replace H : (if t126.isNone = true then (some (t125, t124, none)) else (some (0, 0, some (t126.getD 0)))) = some (r1, r2, r3) := H
       have A14 := Aside0.mk A140
       clear A140
       rcases t126 with _ | q127
       ·have H1 : (some (t125, t124, none)) = some (r1, r2, r3) := by rw [if_pos (show (none : Option Int).isNone = true by rfl)] at H; exact H
        clear H
        have H := H1
        clear H1
        try simp only [errW_none, errW_some]
        simp only [Option.some.injEq, Prod.mk.injEq] at H
        obtain ⟨rfl, rfl, rfl⟩ := H
        go_wp2_with (first | ((with_reducible refine gate_callee (f := 75) rfl ?_); refine goesL_ (some 28) rfl rfl Try.func75 (by kernel_rfl) rfl #[.string a0, .int .i64 a2] rfl zq1 ?_; (with_reducible refine (figures_run.calls kj4 a0 a2 t124 _ A9.out).mono ?_); rintro e w15 ⟨rfl, hb⟩; refine ⟨_, rfl, ?_⟩; replace HB := Aside0.mk (below_step zq2 hb); (try clear hb hk hi); (try clear hb2)) | ((with_reducible refine gate_callee (f := 76) rfl ?_); refine goesL_ (some 38) rfl rfl Try.func76 (by kernel_rfl) rfl #[.string (a0.extract 0 (t124 : Int).toNat), .int .u64 a3] rfl zq1 ?_; (with_reducible refine (figures_value.calls kj4 (a0.extract 0 (t124 : Int).toNat) a3 t125 none _ A14.out).mono ?_); rintro e w' ⟨rfl, ⟨nd, rfl⟩⟩; refine ⟨_, rfl, ?_⟩; (try simp only [errW_none, errW_some])))
        go_ret3
        exact ⟨zq8, zq2⟩
       ·have H1 : (some (0, 0, some q127)) = some (r1, r2, r3) := by rw [if_neg (show ¬ (some q127).isNone = true by simp)] at H; exact H
        clear H
        have H := H1
        clear H1
        try simp only [errW_none, errW_some]
        simp only [Option.some.injEq, Prod.mk.injEq] at H
        obtain ⟨rfl, rfl, rfl⟩ := H
        go_wp2_with (first | ((with_reducible refine gate_callee (f := 75) rfl ?_); refine goesL_ (some 28) rfl rfl Try.func75 (by kernel_rfl) rfl #[.string a0, .int .i64 a2] rfl zq1 ?_; (with_reducible refine (figures_run.calls kj4 a0 a2 t124 _ A9.out).mono ?_); rintro e w16 ⟨rfl, hb⟩; refine ⟨_, rfl, ?_⟩; replace HB := Aside0.mk (below_step zq2 hb); (try clear hb hk hi); (try clear hb2)) | ((with_reducible refine gate_callee (f := 76) rfl ?_); refine goesL_ (some 38) rfl rfl Try.func76 (by kernel_rfl) rfl #[.string (a0.extract 0 (t124 : Int).toNat), .int .u64 a3] rfl zq1 ?_; (with_reducible refine (figures_value.calls kj4 (a0.extract 0 (t124 : Int).toNat) a3 t125 (some q127) _ A14.out).mono ?_); rintro e w' ⟨rfl, ⟨nd, rfl⟩⟩; refine ⟨_, rfl, ?_⟩; (try simp only [errW_none, errW_some])))
        go_ret3
        exact ⟨zq8, zq2⟩
      ·rw [if_neg c13] at H
       exact absurd H (by simp)
     ·rw [if_neg c12] at H
      exact absurd H (by simp)

/-! ### figures_Take: function 55 -/
def figures_Take.f (k : Nat) (a0 : ByteArray) (a1 : Int) (a2 : Int) : Option (Int × Int × Option Int) := (figures_take.f k a0 a1 a2 9223372036854775807).bind fun bt128 => (some (wrap64 (bt128.1), bt128.2.1, bt128.2.2))
set_option maxHeartbeats 8000000 in
set_option maxRecDepth 100000 in
theorem figures_Take.calls (k : Nat) (a0 : ByteArray) (a1 : Int) (a2 : Int) (r1 : Int) (r2 : Int) (r3 : Option Int) (w : World) (h : figures_Take.f k a0 a1 a2 = some (r1, r2, r3)) :
  Calls Try.prog 55 #[.string a0, .int .i64 a1, .int .i64 a2] w fun e w' => e = .returned (.tuple #[.int .i64 r1, .int .i64 r2, errW r3]) ∧ Below w.heap.size w w' := by
 have HB := Aside0.mk (Below.refl w.heap.size w)
 have H : ((figures_take.f k a0 a1 a2 9223372036854775807).bind fun bt128 => (some (wrap64 (bt128.1), bt128.2.1, bt128.2.2))) = some (r1, r2, r3) := h
 clear h
 replace H := Option.bind_eq_some_iff.mp H
 obtain ⟨⟨t128, t129, t130⟩, A40, H⟩ := H
 replace H : (some (wrap64 (t128), t129, t130)) = some (r1, r2, r3) := H
 have A4 := Aside0.mk A40
 clear A40
 simp only [Option.some.injEq, Prod.mk.injEq] at H
 obtain ⟨rfl, rfl, rfl⟩ := H
 go_enter Try.func55, Try.ntmps55
 go_wp2_with (first | ((with_reducible refine gate_callee (f := 69) rfl ?_); refine goesL_ (some 16) rfl rfl Try.func69 (by kernel_rfl) rfl #[.string a0, .int .i64 a1, .int .i64 a2, .int .u64 9223372036854775807] rfl zq1 ?_; (with_reducible refine (figures_take.calls k a0 a1 a2 9223372036854775807 t128 t129 t130 _ A4.out).mono ?_); rintro e w5 ⟨rfl, hb⟩; refine ⟨_, rfl, ?_⟩; replace HB := Aside0.mk (below_step zq2 hb); (try clear hb hk hi); (try clear hb2); (try simp only [errW_none, errW_some])))
 go_ret3
 exact ⟨zq8, zq2⟩

/-! ### sS_Figures: function 25 -/
def sS_Figures.f (k : Nat) (s0_0 : ByteArray) (s0_1 : Int) (s0_2 : Option Int) (a1 : Int) (a2 : Int) : Option (Int × ByteArray × Int × Option Int) := (sS_going.f s0_0 s0_1 s0_2).bind fun bt131 => (if bt131.1 = true then ((sS_rest.f bt131.2.1 bt131.2.2.1 bt131.2.2.2).bind fun bt135 => ((figures_Take.f k bt135.1 a1 a2).bind fun bt139 => (if bt139.2.2.isNone = true then ((sS_take.f k bt135.2.1 bt135.2.2.1 bt135.2.2.2 bt139.2.1).bind fun bt143 => (some (bt139.1, bt143.2.1, bt143.2.2.1, bt143.2.2.2))) else (some (0, bt135.2.1, bt135.2.2.1, some (bt139.2.2.getD 0)))))) else (some (0, bt131.2.1, bt131.2.2.1, bt131.2.2.2)))
set_option maxHeartbeats 8000000 in
set_option maxRecDepth 100000 in
theorem sS_Figures.calls (k : Nat) (g : Nat) (s0_0 : ByteArray) (s0_1 : Int) (s0_2 : Option Int) (a1 : Int) (a2 : Int) (r1 : Int) (r2 : ByteArray) (r3 : Int) (r4 : Option Int) (w0 w : World) (hI : IsS60 w0 w g s0_0 s0_1 s0_2) (hB : Below w0.heap.size w0 w) (h : sS_Figures.f k s0_0 s0_1 s0_2 a1 a2 = some (r1, r2, r3, r4)) :
  Calls Try.prog 25 #[.pointer (some ⟨g, 0, none⟩), .int .i64 a1, .int .i64 a2] w fun e w' => e = .returned (.int .i64 r1) ∧ IsS60 w0 w' g r2 r3 r4 ∧ Below w0.heap.size w0 w' ∧ KeepBut w w' g none := by
 have hu42 := Try.underlying42
 have hu50 := Try.underlying50
 have HI0 := Aside0.mk hI
 have HK := Aside0.mk (KeepBut.refl w g none)
 have HL := Aside0.mk hB.size
 clear hI
 have HW0 := Aside0.mk hB.size
 have HB := Aside0.mk hB
 clear hB
 have H : ((sS_going.f s0_0 s0_1 s0_2).bind fun bt131 => (if bt131.1 = true then ((sS_rest.f bt131.2.1 bt131.2.2.1 bt131.2.2.2).bind fun bt135 => ((figures_Take.f k bt135.1 a1 a2).bind fun bt139 => (if bt139.2.2.isNone = true then ((sS_take.f k bt135.2.1 bt135.2.2.1 bt135.2.2.2 bt139.2.1).bind fun bt143 => (some (bt139.1, bt143.2.1, bt143.2.2.1, bt143.2.2.2))) else (some (0, bt135.2.1, bt135.2.2.1, some (bt139.2.2.getD 0)))))) else (some (0, bt131.2.1, bt131.2.2.1, bt131.2.2.2)))) = some (r1, r2, r3, r4) := h
 clear h
 replace H := Option.bind_eq_some_iff.mp H
 obtain ⟨⟨t131, t132, t133, t134⟩, A40, H⟩ := H
 replace H : (if t131 = true then ((sS_rest.f t132 t133 t134).bind fun bt135 => ((figures_Take.f k bt135.1 a1 a2).bind fun bt139 => (if bt139.2.2.isNone = true then ((sS_take.f k bt135.2.1 bt135.2.2.1 bt135.2.2.2 bt139.2.1).bind fun bt143 => (some (bt139.1, bt143.2.1, bt143.2.2.1, bt143.2.2.2))) else (some (0, bt135.2.1, bt135.2.2.1, some (bt139.2.2.getD 0)))))) else (some (0, t132, t133, t134))) = some (r1, r2, r3, r4) := H
 have A4 := Aside0.mk A40
 clear A40
 by_cases c5 : t131 = true
 ·subst c5
  have H1 : ((sS_rest.f t132 t133 t134).bind fun bt135 => ((figures_Take.f k bt135.1 a1 a2).bind fun bt139 => (if bt139.2.2.isNone = true then ((sS_take.f k bt135.2.1 bt135.2.2.1 bt135.2.2.2 bt139.2.1).bind fun bt143 => (some (bt139.1, bt143.2.1, bt143.2.2.1, bt143.2.2.2))) else (some (0, bt135.2.1, bt135.2.2.1, some (bt139.2.2.getD 0)))))) = some (r1, r2, r3, r4) := by rw [if_pos rfl] at H; exact H
  clear H
  have H := H1
  clear H1
  replace H := Option.bind_eq_some_iff.mp H
  obtain ⟨⟨t135, t136, t137, t138⟩, A60, H⟩ := H
  replace H : ((figures_Take.f k t135 a1 a2).bind fun bt139 => (if bt139.2.2.isNone = true then ((sS_take.f k t136 t137 t138 bt139.2.1).bind fun bt143 => (some (bt139.1, bt143.2.1, bt143.2.2.1, bt143.2.2.2))) else (some (0, t136, t137, some (bt139.2.2.getD 0))))) = some (r1, r2, r3, r4) := H
  have A6 := Aside0.mk A60
  clear A60
  replace H := Option.bind_eq_some_iff.mp H
  obtain ⟨⟨t139, t140, t141⟩, A70, H⟩ := H
  replace H : (if t141.isNone = true then ((sS_take.f k t136 t137 t138 t140).bind fun bt143 => (some (t139, bt143.2.1, bt143.2.2.1, bt143.2.2.2))) else (some (0, t136, t137, some (t141.getD 0)))) = some (r1, r2, r3, r4) := H
  have A7 := Aside0.mk A70
  clear A70
  rcases t141 with _ | q142
  ·have H1 : ((sS_take.f k t136 t137 t138 t140).bind fun bt143 => (some (t139, bt143.2.1, bt143.2.2.1, bt143.2.2.2))) = some (r1, r2, r3, r4) := by rw [if_pos (show (none : Option Int).isNone = true by rfl)] at H; exact H
   clear H
   have H := H1
   clear H1
   try simp only [errW_none, errW_some]
   replace H := Option.bind_eq_some_iff.mp H
   obtain ⟨⟨t143, t144, t145, t146⟩, A80, H⟩ := H
   replace H : (some (t139, t144, t145, t146)) = some (r1, r2, r3, r4) := H
   have A8 := Aside0.mk A80
   clear A80
   simp only [Option.some.injEq, Prod.mk.injEq] at H
   obtain ⟨rfl, rfl, rfl, rfl⟩ := H
   go_enter Try.func25, Try.ntmps25
   go_wp2_with (first | ((with_reducible refine gate_callee (f := 53) rfl ?_); refine goesL_ (some 11) rfl rfl Try.func53 (by kernel_rfl) rfl #[.pointer (some ⟨g, 0, none⟩)] rfl zq1 ?_; (with_reducible refine (sS_going.calls g s0_0 s0_1 s0_2 true t132 t133 t134 w0 _ ?side1 ?side2 A4.out).mono ?_); (case side1 => exact zq4); (case side2 => exact zq6); rintro e w9 ⟨rfl, hi, hb, hk⟩; refine ⟨_, rfl, ?_⟩; replace HK := Aside0.mk (KeepBut.trans zq3 hk (.inl rfl)); replace HB := Aside0.mk (hb); replace HI0 := Aside0.mk (hi); (try clear hb hk hi); (try clear hb2); (try simp only [errW_none, errW_some])) | ((with_reducible refine gate_callee (f := 50) rfl ?_); refine goesL_ (some 15) rfl rfl Try.func50 (by kernel_rfl) rfl #[.pointer (some ⟨g, 0, none⟩)] rfl zq1 ?_; (with_reducible refine (sS_rest.calls g t132 t133 t134 t135 t136 t137 t138 w0 _ ?side1 ?side2 A6.out).mono ?_); (case side1 => exact zq4); (case side2 => exact zq6); rintro e w10 ⟨rfl, hi, hb, hk⟩; refine ⟨_, rfl, ?_⟩; replace HK := Aside0.mk (KeepBut.trans zq3 hk (.inl rfl)); replace HB := Aside0.mk (hb); replace HI0 := Aside0.mk (hi); (try clear hb hk hi); (try clear hb2); (try simp only [errW_none, errW_some])) | ((with_reducible refine gate_callee (f := 55) rfl ?_); refine goesL_ (some 18) rfl rfl Try.func55 (by kernel_rfl) rfl #[.string t135, .int .i64 a1, .int .i64 a2] rfl zq1 ?_; (with_reducible refine (figures_Take.calls k t135 a1 a2 t139 t140 none _ A7.out).mono ?_); rintro e w11 ⟨rfl, hb⟩; refine ⟨_, rfl, ?_⟩; replace HI0 := Aside0.mk (IsS60.below zq4 hb); replace HK := Aside0.mk (KeepBut.trans zq3 (KeepBut.of_below hb g none) (.inl rfl)); replace HB := Aside0.mk (below_step zq6 hb); (try clear hb hk hi); (try clear hb2); (try simp only [errW_none, errW_some])) | ((with_reducible refine gate_callee (f := 52) rfl ?_); refine goesL_ (some 30) rfl rfl Try.func52 (by kernel_rfl) rfl #[.pointer (some ⟨g, 0, none⟩), .int .i64 t140] rfl zq1 ?_; (with_reducible refine (sS_take.calls k g t136 t137 t138 t140 t143 t144 t145 t146 w0 _ ?side1 ?side2 A8.out).mono ?_); (case side1 => exact zq4); (case side2 => exact zq6); rintro e w12 ⟨rfl, hi, hb, hk⟩; refine ⟨_, rfl, ?_⟩; replace HK := Aside0.mk (KeepBut.trans zq3 hk (.inl rfl)); replace HB := Aside0.mk (hb); replace HI0 := Aside0.mk (hi); (try clear hb hk hi); (try clear hb2); (try simp only [errW_none, errW_some])))
   go_ret
   exact ⟨zq8, zq4, zq6, zq3⟩
  ·have H1 : (some (0, t136, t137, some q142)) = some (r1, r2, r3, r4) := by rw [if_neg (show ¬ (some q142).isNone = true by simp)] at H; exact H
   clear H
   have H := H1
   clear H1
   try simp only [errW_none, errW_some]
   simp only [Option.some.injEq, Prod.mk.injEq] at H
   obtain ⟨rfl, rfl, rfl, rfl⟩ := H
   go_enter Try.func25, Try.ntmps25
   go_wp2_with (first | ((with_reducible refine gate_callee (f := 53) rfl ?_); refine goesL_ (some 11) rfl rfl Try.func53 (by kernel_rfl) rfl #[.pointer (some ⟨g, 0, none⟩)] rfl zq1 ?_; (with_reducible refine (sS_going.calls g s0_0 s0_1 s0_2 true t132 t133 t134 w0 _ ?side1 ?side2 A4.out).mono ?_); (case side1 => exact zq4); (case side2 => exact zq6); rintro e w13 ⟨rfl, hi, hb, hk⟩; refine ⟨_, rfl, ?_⟩; replace HK := Aside0.mk (KeepBut.trans zq3 hk (.inl rfl)); replace HB := Aside0.mk (hb); replace HI0 := Aside0.mk (hi); (try clear hb hk hi); (try clear hb2); (try simp only [errW_none, errW_some])) | ((with_reducible refine gate_callee (f := 50) rfl ?_); refine goesL_ (some 15) rfl rfl Try.func50 (by kernel_rfl) rfl #[.pointer (some ⟨g, 0, none⟩)] rfl zq1 ?_; (with_reducible refine (sS_rest.calls g t132 t133 t134 t135 t136 t137 t138 w0 _ ?side1 ?side2 A6.out).mono ?_); (case side1 => exact zq4); (case side2 => exact zq6); rintro e w14 ⟨rfl, hi, hb, hk⟩; refine ⟨_, rfl, ?_⟩; replace HK := Aside0.mk (KeepBut.trans zq3 hk (.inl rfl)); replace HB := Aside0.mk (hb); replace HI0 := Aside0.mk (hi); (try clear hb hk hi); (try clear hb2); (try simp only [errW_none, errW_some])) | ((with_reducible refine gate_callee (f := 55) rfl ?_); refine goesL_ (some 18) rfl rfl Try.func55 (by kernel_rfl) rfl #[.string t135, .int .i64 a1, .int .i64 a2] rfl zq1 ?_; (with_reducible refine (figures_Take.calls k t135 a1 a2 t139 t140 (some q142) _ A7.out).mono ?_); rintro e w15 ⟨rfl, hb⟩; refine ⟨_, rfl, ?_⟩; replace HI0 := Aside0.mk (IsS60.below zq4 hb); replace HK := Aside0.mk (KeepBut.trans zq3 (KeepBut.of_below hb g none) (.inl rfl)); replace HB := Aside0.mk (below_step zq6 hb); (try clear hb hk hi); (try clear hb2); (try simp only [errW_none, errW_some]); obtain ⟨HGz16, hgz16⟩ := HI0.out; have hcz16_0 := cellS60_0 HGz16; have hcz16_1 := cellS60_1 HGz16; have hcz16_2 := cellS60_2 HGz16; have hfz16_0 := blk_frozen HGz16 0; have hfz16_1 := blk_frozen HGz16 1; have hfz16_2 := blk_frozen HGz16 2; try simp only [errW_none, errW_some] at hcz16_2; clear HGz16 hgz16))
   go_ret
   exact ⟨zq8, zq4, zq6, zq3⟩
 ·replace c5 := Bool.eq_false_iff.mpr c5
  subst c5
  have H1 : (some (0, t132, t133, t134)) = some (r1, r2, r3, r4) := by rw [if_neg (show ¬ (false = true) by decide)] at H; exact H
  clear H
  have H := H1
  clear H1
  simp only [Option.some.injEq, Prod.mk.injEq] at H
  obtain ⟨rfl, rfl, rfl, rfl⟩ := H
  go_enter Try.func25, Try.ntmps25
  go_wp2_with (first | ((with_reducible refine gate_callee (f := 53) rfl ?_); refine goesL_ (some 11) rfl rfl Try.func53 (by kernel_rfl) rfl #[.pointer (some ⟨g, 0, none⟩)] rfl zq1 ?_; (with_reducible refine (sS_going.calls g s0_0 s0_1 s0_2 false t132 t133 t134 w0 _ ?side1 ?side2 A4.out).mono ?_); (case side1 => exact zq4); (case side2 => exact zq6); rintro e w17 ⟨rfl, hi, hb, hk⟩; refine ⟨_, rfl, ?_⟩; replace HK := Aside0.mk (KeepBut.trans zq3 hk (.inl rfl)); replace HB := Aside0.mk (hb); replace HI0 := Aside0.mk (hi); (try clear hb hk hi); (try clear hb2); (try simp only [errW_none, errW_some])))
  go_ret
  exact ⟨zq8, zq4, zq6, zq3⟩

/-! ### sS_Err: function 15 -/
def sS_Err.f (s0_0 : ByteArray) (s0_1 : Int) (s0_2 : Option Int) : Option (Option Int × ByteArray × Int × Option Int) := some (s0_2, s0_0, s0_1, s0_2)
set_option maxHeartbeats 8000000 in
set_option maxRecDepth 100000 in
theorem sS_Err.calls (g : Nat) (s0_0 : ByteArray) (s0_1 : Int) (s0_2 : Option Int) (r1 : Option Int) (r2 : ByteArray) (r3 : Int) (r4 : Option Int) (w0 w : World) (hI : IsS60 w0 w g s0_0 s0_1 s0_2) (hB : Below w0.heap.size w0 w) (h : sS_Err.f s0_0 s0_1 s0_2 = some (r1, r2, r3, r4)) :
  Calls Try.prog 15 #[.pointer (some ⟨g, 0, none⟩)] w fun e w' => e = .returned (errW r1) ∧ IsS60 w0 w' g r2 r3 r4 ∧ Below w0.heap.size w0 w' ∧ KeepBut w w' g none := by
 have hu42 := Try.underlying42
 have hu50 := Try.underlying50
 have HI0 := Aside0.mk hI
 have HK := Aside0.mk (KeepBut.refl w g none)
 have HL := Aside0.mk hB.size
 clear hI
 have HW0 := Aside0.mk hB.size
 have HB := Aside0.mk hB
 clear hB
 have H : (some (s0_2, s0_0, s0_1, s0_2)) = some (r1, r2, r3, r4) := h
 clear h
 simp only [Option.some.injEq, Prod.mk.injEq] at H
 obtain ⟨rfl, rfl, rfl, rfl⟩ := H
 obtain ⟨HGz2, hgz2⟩ := HI0.out
 have hcz2_0 := cellS60_0 HGz2
 have hcz2_1 := cellS60_1 HGz2
 have hcz2_2 := cellS60_2 HGz2
 have hfz2_0 := blk_frozen HGz2 0
 have hfz2_1 := blk_frozen HGz2 1
 have hfz2_2 := blk_frozen HGz2 2
 try simp only [errW_none, errW_some] at hcz2_2
 clear HGz2 hgz2
 go_enter Try.func15, Try.ntmps15
 go_wp2
 go_ret
 exact ⟨zq8, zq4, zq6, zq3⟩

/-! ### sS_Left: function 18 -/
def sS_Left.f (s0_0 : ByteArray) (s0_1 : Int) (s0_2 : Option Int) : Option (Int × ByteArray × Int × Option Int) := (sS_rest.f s0_0 s0_1 s0_2).bind fun bt147 => (some ((bt147.1.size : Int), bt147.2.1, bt147.2.2.1, bt147.2.2.2))
set_option maxHeartbeats 8000000 in
set_option maxRecDepth 100000 in
theorem sS_Left.calls (g : Nat) (s0_0 : ByteArray) (s0_1 : Int) (s0_2 : Option Int) (r1 : Int) (r2 : ByteArray) (r3 : Int) (r4 : Option Int) (w0 w : World) (hI : IsS60 w0 w g s0_0 s0_1 s0_2) (hB : Below w0.heap.size w0 w) (h : sS_Left.f s0_0 s0_1 s0_2 = some (r1, r2, r3, r4)) :
  Calls Try.prog 18 #[.pointer (some ⟨g, 0, none⟩)] w fun e w' => e = .returned (.int .i64 r1) ∧ IsS60 w0 w' g r2 r3 r4 ∧ Below w0.heap.size w0 w' ∧ KeepBut w w' g none := by
 have HI0 := Aside0.mk hI
 have HK := Aside0.mk (KeepBut.refl w g none)
 have HL := Aside0.mk hB.size
 clear hI
 have HW0 := Aside0.mk hB.size
 have HB := Aside0.mk hB
 clear hB
 have H : ((sS_rest.f s0_0 s0_1 s0_2).bind fun bt147 => (some ((bt147.1.size : Int), bt147.2.1, bt147.2.2.1, bt147.2.2.2))) = some (r1, r2, r3, r4) := h
 clear h
 replace H := Option.bind_eq_some_iff.mp H
 obtain ⟨⟨t147, t148, t149, t150⟩, A20, H⟩ := H
 replace H : (some ((t147.size : Int), t148, t149, t150)) = some (r1, r2, r3, r4) := H
 have A2 := Aside0.mk A20
 clear A20
 simp only [Option.some.injEq, Prod.mk.injEq] at H
 obtain ⟨rfl, rfl, rfl, rfl⟩ := H
 go_enter Try.func18, Try.ntmps18
 go_wp2_with (first | ((with_reducible refine gate_callee (f := 50) rfl ?_); refine goesL_ (some 4) rfl rfl Try.func50 (by kernel_rfl) rfl #[.pointer (some ⟨g, 0, none⟩)] rfl zq1 ?_; (with_reducible refine (sS_rest.calls g s0_0 s0_1 s0_2 t147 t148 t149 t150 w0 _ ?side1 ?side2 A2.out).mono ?_); (case side1 => exact zq4); (case side2 => exact zq6); rintro e w3 ⟨rfl, hi, hb, hk⟩; refine ⟨_, rfl, ?_⟩; replace HK := Aside0.mk (KeepBut.trans zq3 hk (.inl rfl)); replace HB := Aside0.mk (hb); replace HI0 := Aside0.mk (hi); (try clear hb hk hi); (try clear hb2); (try simp only [errW_none, errW_some])))
 go_ret
 exact ⟨zq8, zq4, zq6, zq3⟩

/-! ### sS_End: function 28 -/
def sS_End.f (s0_0 : ByteArray) (s0_1 : Int) (s0_2 : Option Int) : Option (Option Int × ByteArray × Int × Option Int) := (sS_Err.f s0_0 s0_1 s0_2).bind fun bt151 => (if bt151.1.isNone = true then ((sS_Left.f bt151.2.1 bt151.2.2.1 bt151.2.2.2).bind fun bt156 => (if bt156.1 > 0 then (some (some 2, bt156.2.1, bt156.2.2.1, bt156.2.2.2)) else (some (none, bt156.2.1, bt156.2.2.1, bt156.2.2.2)))) else (some (some (bt151.1.getD 0), bt151.2.1, bt151.2.2.1, bt151.2.2.2)))
set_option maxHeartbeats 8000000 in
set_option maxRecDepth 100000 in
theorem sS_End.calls (g : Nat) (s0_0 : ByteArray) (s0_1 : Int) (s0_2 : Option Int) (r1 : Option Int) (r2 : ByteArray) (r3 : Int) (r4 : Option Int) (w0 w : World) (hI : IsS60 w0 w g s0_0 s0_1 s0_2) (hB : Below w0.heap.size w0 w) (h : sS_End.f s0_0 s0_1 s0_2 = some (r1, r2, r3, r4)) :
  Calls Try.prog 28 #[.pointer (some ⟨g, 0, none⟩)] w fun e w' => e = .returned (errW r1) ∧ IsS60 w0 w' g r2 r3 r4 ∧ Below w0.heap.size w0 w' ∧ KeepBut w w' g none := by
 have hu42 := Try.underlying42
 have hu50 := Try.underlying50
 have HI0 := Aside0.mk hI
 have HK := Aside0.mk (KeepBut.refl w g none)
 have HL := Aside0.mk hB.size
 clear hI
 have HW0 := Aside0.mk hB.size
 have HB := Aside0.mk hB
 clear hB
 have H : ((sS_Err.f s0_0 s0_1 s0_2).bind fun bt151 => (if bt151.1.isNone = true then ((sS_Left.f bt151.2.1 bt151.2.2.1 bt151.2.2.2).bind fun bt156 => (if bt156.1 > 0 then (some (some 2, bt156.2.1, bt156.2.2.1, bt156.2.2.2)) else (some (none, bt156.2.1, bt156.2.2.1, bt156.2.2.2)))) else (some (some (bt151.1.getD 0), bt151.2.1, bt151.2.2.1, bt151.2.2.2)))) = some (r1, r2, r3, r4) := h
 clear h
 replace H := Option.bind_eq_some_iff.mp H
 obtain ⟨⟨t151, t152, t153, t154⟩, A20, H⟩ := H
 replace H : (if t151.isNone = true then ((sS_Left.f t152 t153 t154).bind fun bt156 => (if bt156.1 > 0 then (some (some 2, bt156.2.1, bt156.2.2.1, bt156.2.2.2)) else (some (none, bt156.2.1, bt156.2.2.1, bt156.2.2.2)))) else (some (some (t151.getD 0), t152, t153, t154))) = some (r1, r2, r3, r4) := H
 have A2 := Aside0.mk A20
 clear A20
 rcases t151 with _ | q155
 ·have H1 : ((sS_Left.f t152 t153 t154).bind fun bt156 => (if bt156.1 > 0 then (some (some 2, bt156.2.1, bt156.2.2.1, bt156.2.2.2)) else (some (none, bt156.2.1, bt156.2.2.1, bt156.2.2.2)))) = some (r1, r2, r3, r4) := by rw [if_pos (show (none : Option Int).isNone = true by rfl)] at H; exact H
  clear H
  have H := H1
  clear H1
  try simp only [errW_none, errW_some]
  replace H := Option.bind_eq_some_iff.mp H
  obtain ⟨⟨t156, t157, t158, t159⟩, A30, H⟩ := H
  replace H : (if t156 > 0 then (some (some 2, t157, t158, t159)) else (some (none, t157, t158, t159))) = some (r1, r2, r3, r4) := H
  have A3 := Aside0.mk A30
  clear A30
  by_cases c4 : t156 > 0
  ·rw [if_pos c4] at H
   have c4b0 : decide (0 < t156) = true := decide_eq_true c4
   clear c4
   simp only [Option.some.injEq, Prod.mk.injEq] at H
   obtain ⟨rfl, rfl, rfl, rfl⟩ := H
   go_enter Try.func28, Try.ntmps28
   go_wp2_with (first | ((with_reducible refine gate_callee (f := 15) rfl ?_); refine goesL_ (some 5) rfl rfl Try.func15 (by kernel_rfl) rfl #[.pointer (some ⟨g, 0, none⟩)] rfl zq1 ?_; (with_reducible refine (sS_Err.calls g s0_0 s0_1 s0_2 none t152 t153 t154 w0 _ ?side1 ?side2 A2.out).mono ?_); (case side1 => exact zq4); (case side2 => exact zq6); rintro e w5 ⟨rfl, hi, hb, hk⟩; refine ⟨_, rfl, ?_⟩; replace HK := Aside0.mk (KeepBut.trans zq3 hk (.inl rfl)); replace HB := Aside0.mk (hb); replace HI0 := Aside0.mk (hi); (try clear hb hk hi); (try clear hb2); (try simp only [errW_none, errW_some])) | ((with_reducible refine gate_callee (f := 18) rfl ?_); refine goesL_ (some 10) rfl rfl Try.func18 (by kernel_rfl) rfl #[.pointer (some ⟨g, 0, none⟩)] rfl zq1 ?_; (with_reducible refine (sS_Left.calls g t152 t153 t154 t156 t157 t158 t159 w0 _ ?side1 ?side2 A3.out).mono ?_); (case side1 => exact zq4); (case side2 => exact zq6); rintro e w6 ⟨rfl, hi, hb, hk⟩; refine ⟨_, rfl, ?_⟩; replace HK := Aside0.mk (KeepBut.trans zq3 hk (.inl rfl)); replace HB := Aside0.mk (hb); replace HI0 := Aside0.mk (hi); (try clear hb hk hi); (try clear hb2); (try simp only [errW_none, errW_some])))
   go_ret
   exact ⟨zq8, zq4, zq6, zq3⟩
  ·rw [if_neg c4] at H
   have c4b0 : decide (0 < t156) = false := decide_eq_false c4
   clear c4
   simp only [Option.some.injEq, Prod.mk.injEq] at H
   obtain ⟨rfl, rfl, rfl, rfl⟩ := H
   go_enter Try.func28, Try.ntmps28
   go_wp2_with (first | ((with_reducible refine gate_callee (f := 15) rfl ?_); refine goesL_ (some 5) rfl rfl Try.func15 (by kernel_rfl) rfl #[.pointer (some ⟨g, 0, none⟩)] rfl zq1 ?_; (with_reducible refine (sS_Err.calls g s0_0 s0_1 s0_2 none t152 t153 t154 w0 _ ?side1 ?side2 A2.out).mono ?_); (case side1 => exact zq4); (case side2 => exact zq6); rintro e w7 ⟨rfl, hi, hb, hk⟩; refine ⟨_, rfl, ?_⟩; replace HK := Aside0.mk (KeepBut.trans zq3 hk (.inl rfl)); replace HB := Aside0.mk (hb); replace HI0 := Aside0.mk (hi); (try clear hb hk hi); (try clear hb2); (try simp only [errW_none, errW_some])) | ((with_reducible refine gate_callee (f := 18) rfl ?_); refine goesL_ (some 10) rfl rfl Try.func18 (by kernel_rfl) rfl #[.pointer (some ⟨g, 0, none⟩)] rfl zq1 ?_; (with_reducible refine (sS_Left.calls g t152 t153 t154 t156 t157 t158 t159 w0 _ ?side1 ?side2 A3.out).mono ?_); (case side1 => exact zq4); (case side2 => exact zq6); rintro e w8 ⟨rfl, hi, hb, hk⟩; refine ⟨_, rfl, ?_⟩; replace HK := Aside0.mk (KeepBut.trans zq3 hk (.inl rfl)); replace HB := Aside0.mk (hb); replace HI0 := Aside0.mk (hi); (try clear hb hk hi); (try clear hb2); (try simp only [errW_none, errW_some])))
   go_ret
   exact ⟨zq8, zq4, zq6, zq3⟩
 ·have H1 : (some (some q155, t152, t153, t154)) = some (r1, r2, r3, r4) := by rw [if_neg (show ¬ (some q155).isNone = true by simp)] at H; exact H
  clear H
  have H := H1
  clear H1
  try simp only [errW_none, errW_some]
  simp only [Option.some.injEq, Prod.mk.injEq] at H
  obtain ⟨rfl, rfl, rfl, rfl⟩ := H
  go_enter Try.func28, Try.ntmps28
  go_wp2_with (first | ((with_reducible refine gate_callee (f := 15) rfl ?_); refine goesL_ (some 5) rfl rfl Try.func15 (by kernel_rfl) rfl #[.pointer (some ⟨g, 0, none⟩)] rfl zq1 ?_; (with_reducible refine (sS_Err.calls g s0_0 s0_1 s0_2 (some q155) t152 t153 t154 w0 _ ?side1 ?side2 A2.out).mono ?_); (case side1 => exact zq4); (case side2 => exact zq6); rintro e w9 ⟨rfl, hi, hb, hk⟩; refine ⟨_, rfl, ?_⟩; replace HK := Aside0.mk (KeepBut.trans zq3 hk (.inl rfl)); replace HB := Aside0.mk (hb); replace HI0 := Aside0.mk (hi); (try clear hb hk hi); (try clear hb2); (try simp only [errW_none, errW_some])))
  go_ret
  exact ⟨zq8, zq4, zq6, zq3⟩

/-! ### horologelaw04_alive: function 6 -/
def horologelaw04_alive.j0 : Nat → Bool → ByteArray → Int → Option Int → Option (Bool)
 | 0, _, _, _, _ => none
 | k + 1, x19, x164000, x164001, x164002 => if x19 = true then (some false) else ((sS_End.f x164000 x164001 x164002).bind fun bt176 => (if bt176.1.isNone = true then ((sS_At.f bt176.2.1 bt176.2.2.1 bt176.2.2.2).bind fun bt181 => (some (bt181.1 == 5))) else (some false)))
def horologelaw04_alive.f (k : Nat)  : Option (Bool) := (scan_New_string.f (⟨#[49, 50, 58, 48, 53]⟩ : ByteArray)).bind fun bt160 => ((sS_Figures.f k bt160.1 bt160.2.1 bt160.2.2 1 2).bind fun bt164 => (if bt164.1 = 12 then ((sS_Take.f k bt164.2.1 bt164.2.2.1 bt164.2.2.2 58).bind fun bt168 => (if bt168.1 = true then ((sS_Figures.f k bt168.2.1 bt168.2.2.1 bt168.2.2.2 2 2).bind fun bt172 => (horologelaw04_alive.j0 k (bt172.1 != 5) bt172.2.1 bt172.2.2.1 bt172.2.2.2)) else (horologelaw04_alive.j0 k true bt168.2.1 bt168.2.2.1 bt168.2.2.2))) else (horologelaw04_alive.j0 k true bt164.2.1 bt164.2.2.1 bt164.2.2.2)))
set_option maxHeartbeats 8000000 in
set_option maxRecDepth 100000 in
theorem horologelaw04_alive.calls (k : Nat)  (r : Bool) (w : World) (h : horologelaw04_alive.f k  = some r) :
  Calls Try.prog 6 #[] w fun e w' => e = .returned (.bool r) ∧ Below w.heap.size w w' := by
 have hu42 := Try.underlying42
 have hu50 := Try.underlying50
 have HB := Aside0.mk (Below.refl w.heap.size w)
 have H : ((scan_New_string.f (⟨#[49, 50, 58, 48, 53]⟩ : ByteArray)).bind fun bt160 => ((sS_Figures.f k bt160.1 bt160.2.1 bt160.2.2 1 2).bind fun bt164 => (if bt164.1 = 12 then ((sS_Take.f k bt164.2.1 bt164.2.2.1 bt164.2.2.2 58).bind fun bt168 => (if bt168.1 = true then ((sS_Figures.f k bt168.2.1 bt168.2.2.1 bt168.2.2.2 2 2).bind fun bt172 => (horologelaw04_alive.j0 k (bt172.1 != 5) bt172.2.1 bt172.2.2.1 bt172.2.2.2)) else (horologelaw04_alive.j0 k true bt168.2.1 bt168.2.2.1 bt168.2.2.2))) else (horologelaw04_alive.j0 k true bt164.2.1 bt164.2.2.1 bt164.2.2.2)))) = some r := h
 clear h
 replace H := Option.bind_eq_some_iff.mp H
 obtain ⟨⟨t160, t161, t162⟩, A10, H⟩ := H
 replace H : ((sS_Figures.f k t160 t161 t162 1 2).bind fun bt164 => (if bt164.1 = 12 then ((sS_Take.f k bt164.2.1 bt164.2.2.1 bt164.2.2.2 58).bind fun bt168 => (if bt168.1 = true then ((sS_Figures.f k bt168.2.1 bt168.2.2.1 bt168.2.2.2 2 2).bind fun bt172 => (horologelaw04_alive.j0 k (bt172.1 != 5) bt172.2.1 bt172.2.2.1 bt172.2.2.2)) else (horologelaw04_alive.j0 k true bt168.2.1 bt168.2.2.1 bt168.2.2.2))) else (horologelaw04_alive.j0 k true bt164.2.1 bt164.2.2.1 bt164.2.2.2))) = some r := H
 have A1 := Aside0.mk A10
 clear A10
 have HC2 := Aside0.mk H
 clear H
 go_enter Try.func6, Try.ntmps6
 go_upto_region 2 with (first | ((with_reducible refine gate_callee (f := 8) rfl ?_); refine goesL_ (some 2) rfl rfl Try.func8 (by kernel_rfl) rfl #[.string (⟨#[49, 50, 58, 48, 53]⟩ : ByteArray)] rfl zq1 ?_; (with_reducible refine (scan_New_string.calls (⟨#[49, 50, 58, 48, 53]⟩ : ByteArray) t160 t161 t162 w _ ?side1 A1.out).mono ?_); (case side1 => exact zq2); rintro e w3 ⟨g163, rfl, hi, hb, hb2⟩; refine ⟨_, rfl, ?_⟩; have n0_ := Aside0.mk (hb); have n1_ := Aside0.mk (hi); clear HB; have HB := n0_; have HI163 := n1_; clear n0_ n1_; (try clear hb hk hi); (try clear hb2); (try simp only [errW_none, errW_some])))
 (try simp only [Act.put, sl_])
 go_cut [19] (fun v19 wc => ∃ (kq : Nat) (x19_1 : Bool) (x164000_1 : ByteArray) (x164001_1 : Int) (x164002_1 : Option Int), v19 = .bool x19_1 ∧ Aside0 (horologelaw04_alive.j0 kq x19_1 x164000_1 x164001_1 x164002_1 = some r) ∧ Aside0 (kq ≤ k) ∧ Aside0 (IsS60 w wc g163 x164000_1 x164001_1 x164002_1) ∧ Aside0 (Below w.heap.size w wc))
 case first =>
  have H := HC2.out
  clear HC2
  replace H := Option.bind_eq_some_iff.mp H
  obtain ⟨⟨t164, t165, t166, t167⟩, A40, H⟩ := H
  replace H : (if t164 = 12 then ((sS_Take.f k t165 t166 t167 58).bind fun bt168 => (if bt168.1 = true then ((sS_Figures.f k bt168.2.1 bt168.2.2.1 bt168.2.2.2 2 2).bind fun bt172 => (horologelaw04_alive.j0 k (bt172.1 != 5) bt172.2.1 bt172.2.2.1 bt172.2.2.2)) else (horologelaw04_alive.j0 k true bt168.2.1 bt168.2.2.1 bt168.2.2.2))) else (horologelaw04_alive.j0 k true t165 t166 t167)) = some r := H
  have A4 := Aside0.mk A40
  clear A40
  by_cases c5 : t164 = 12
  ·rw [if_pos c5] at H
   have c5b0 : (t164 == 12) = true := beq_iff_eq.mpr c5
   have c5b1 : (t164 != 12) = false := bne_eq_false_iff_eq.mpr c5
   clear c5
   (first | rw [c5b0] | (simp only [i64_w, i32_w]; rw [c5b0]) | skip)
   replace H := Option.bind_eq_some_iff.mp H
   obtain ⟨⟨t168, t169, t170, t171⟩, A60, H⟩ := H
   replace H : (if t168 = true then ((sS_Figures.f k t169 t170 t171 2 2).bind fun bt172 => (horologelaw04_alive.j0 k (bt172.1 != 5) bt172.2.1 bt172.2.2.1 bt172.2.2.2)) else (horologelaw04_alive.j0 k true t169 t170 t171)) = some r := H
   have A6 := Aside0.mk A60
   clear A60
   by_cases c7 : t168 = true
   ·subst c7
    have H1 : ((sS_Figures.f k t169 t170 t171 2 2).bind fun bt172 => (horologelaw04_alive.j0 k (bt172.1 != 5) bt172.2.1 bt172.2.2.1 bt172.2.2.2)) = some r := by rw [if_pos rfl] at H; exact H
    clear H
    have H := H1
    clear H1
    replace H := Option.bind_eq_some_iff.mp H
    obtain ⟨⟨t172, t173, t174, t175⟩, A80, H⟩ := H
    replace H : (horologelaw04_alive.j0 k (t172 != 5) t173 t174 t175) = some r := H
    have A8 := Aside0.mk A80
    clear A80
    have H' := Aside0.mk H
    clear H
    go_wp2_with (first | (go_at_call 25; (with_reducible refine (sS_Figures.calls k g163 t160 t161 t162 1 2 t164 t165 t166 t167 w _ ?side1 ?side2 A4.out).mono ?_); (case side1 => exact zq17); (case side2 => exact zq19); rintro e w9 ⟨rfl, hi, hb, hk⟩; replace HB := Aside0.mk (hb); replace HI163 := Aside0.mk (hi); (try clear hb hk hi); (try clear hb2); (try simp only [errW_none, errW_some])) | (go_at_call 23; (with_reducible refine (sS_Take.calls k g163 t165 t166 t167 58 true t169 t170 t171 w _ ?side1 ?side2 A6.out).mono ?_); (case side1 => exact zq17); (case side2 => exact zq19); rintro e w10 ⟨rfl, hi, hb, hk⟩; replace HB := Aside0.mk (hb); replace HI163 := Aside0.mk (hi); (try clear hb hk hi); (try clear hb2); (try simp only [errW_none, errW_some])) | (go_at_call 25; (with_reducible refine (sS_Figures.calls k g163 t169 t170 t171 2 2 t172 t173 t174 t175 w _ ?side1 ?side2 A8.out).mono ?_); (case side1 => exact zq17); (case side2 => exact zq19); rintro e w11 ⟨rfl, hi, hb, hk⟩; replace HB := Aside0.mk (hb); replace HI163 := Aside0.mk (hi); (try clear hb hk hi); (try clear hb2); (try simp only [errW_none, errW_some])))
    go_meet
    case rel => exact ⟨_, ((t172 != 5)), (t173), (t174), (t175), zq9, H', ⟨zq53⟩, ⟨zq17⟩, ⟨zq19⟩⟩
   ·replace c7 := Bool.eq_false_iff.mpr c7
    subst c7
    have H1 : (horologelaw04_alive.j0 k true t169 t170 t171) = some r := by rw [if_neg (show ¬ (false = true) by decide)] at H; exact H
    clear H
    have H := H1
    clear H1
    have H' := Aside0.mk H
    clear H
    go_wp2_with (first | (go_at_call 25; (with_reducible refine (sS_Figures.calls k g163 t160 t161 t162 1 2 t164 t165 t166 t167 w _ ?side1 ?side2 A4.out).mono ?_); (case side1 => exact zq17); (case side2 => exact zq19); rintro e w12 ⟨rfl, hi, hb, hk⟩; replace HB := Aside0.mk (hb); replace HI163 := Aside0.mk (hi); (try clear hb hk hi); (try clear hb2); (try simp only [errW_none, errW_some])) | (go_at_call 23; (with_reducible refine (sS_Take.calls k g163 t165 t166 t167 58 false t169 t170 t171 w _ ?side1 ?side2 A6.out).mono ?_); (case side1 => exact zq17); (case side2 => exact zq19); rintro e w13 ⟨rfl, hi, hb, hk⟩; replace HB := Aside0.mk (hb); replace HI163 := Aside0.mk (hi); (try clear hb hk hi); (try clear hb2); (try simp only [errW_none, errW_some])))
    go_meet
    case rel => exact ⟨_, (true), (t169), (t170), (t171), zq9, H', ⟨zq53⟩, ⟨zq17⟩, ⟨zq19⟩⟩
  ·rw [if_neg c5] at H
   have c5b0 : (t164 == 12) = false := beq_eq_false_iff_ne.mpr c5
   have c5b1 : (t164 != 12) = true := bne_iff_ne.mpr c5
   (first | rw [c5b0] | (simp only [i64_w, i32_w]; rw [c5b0]) | skip)
   have H' := Aside0.mk H
   clear H
   go_wp2_with (first | (go_at_call 25; (with_reducible refine (sS_Figures.calls k g163 t160 t161 t162 1 2 t164 t165 t166 t167 w _ ?side1 ?side2 A4.out).mono ?_); (case side1 => exact zq17); (case side2 => exact zq19); rintro e w14 ⟨rfl, hi, hb, hk⟩; replace HB := Aside0.mk (hb); replace HI163 := Aside0.mk (hi); (try clear hb hk hi); (try clear hb2); (try simp only [errW_none, errW_some])))
   go_meet
   case rel => exact ⟨_, (true), (t165), (t166), (t167), zq9, H', ⟨zq53⟩, ⟨zq17⟩, ⟨zq19⟩⟩
 case rest =>
  clear HC2
  try clear p2
  try clear c5
  try clear c5b0
  try clear c5b1
  try clear c6
  try clear p6
  try clear c7
  try clear c8
  obtain ⟨kq, x19_1, x164000_1, x164001_1, x164002_1, rfl, HA, HJ1, HI163, HB⟩ := hcut
  cases kq with
  | zero => exact absurd HA.out (by simp [horologelaw04_alive.j0])
  | succ kj1 =>
   have H := HA.out
   clear HA
   simp only [horologelaw04_alive.j0] at H
   by_cases c15 : x19_1 = true
   ·subst c15
    have H1 : (some false) = some r := by rw [if_pos rfl] at H; exact H
    clear H
    have H := H1
    clear H1
    obtain rfl := Option.some.inj H
    go_wp2
    go_ret
    exact ⟨zq8, zq19⟩
   ·replace c15 := Bool.eq_false_iff.mpr c15
    subst c15
    have H1 : ((sS_End.f x164000_1 x164001_1 x164002_1).bind fun bt176 => (if bt176.1.isNone = true then ((sS_At.f bt176.2.1 bt176.2.2.1 bt176.2.2.2).bind fun bt181 => (some (bt181.1 == 5))) else (some false))) = some r := by rw [if_neg (show ¬ (false = true) by decide)] at H; exact H
    clear H
    have H := H1
    clear H1
    replace H := Option.bind_eq_some_iff.mp H
    obtain ⟨⟨t176, t177, t178, t179⟩, A160, H⟩ := H
    replace H : (if t176.isNone = true then ((sS_At.f t177 t178 t179).bind fun bt181 => (some (bt181.1 == 5))) else (some false)) = some r := H
    have A16 := Aside0.mk A160
    clear A160
    rcases t176 with _ | q180
    ·have H1 : ((sS_At.f t177 t178 t179).bind fun bt181 => (some (bt181.1 == 5))) = some r := by rw [if_pos (show (none : Option Int).isNone = true by rfl)] at H; exact H
     clear H
     have H := H1
     clear H1
     try simp only [errW_none, errW_some]
     replace H := Option.bind_eq_some_iff.mp H
     obtain ⟨⟨t181, t182, t183, t184⟩, A170, H⟩ := H
     replace H : (some (t181 == 5)) = some r := H
     have A17 := Aside0.mk A170
     clear A170
     obtain rfl := Option.some.inj H
     go_wp2_with (first | ((with_reducible refine gate_callee (f := 28) rfl ?_); refine goesL_ (some 21) rfl rfl Try.func28 (by kernel_rfl) rfl #[.pointer (some ⟨g163, 0, none⟩)] rfl zq1 ?_; (with_reducible refine (sS_End.calls g163 x164000_1 x164001_1 x164002_1 none t177 t178 t179 w _ ?side1 ?side2 A16.out).mono ?_); (case side1 => exact zq17); (case side2 => exact zq19); rintro e w18 ⟨rfl, hi, hb, hk⟩; refine ⟨_, rfl, ?_⟩; replace HB := Aside0.mk (hb); replace HI163 := Aside0.mk (hi); (try clear hb hk hi); (try clear hb2); (try simp only [errW_none, errW_some])) | (go_at_call 14; (with_reducible refine (sS_At.calls g163 t177 t178 t179 t181 t182 t183 t184 w _ ?side1 ?side2 A17.out).mono ?_); (case side1 => exact zq17); (case side2 => exact zq19); rintro e w19 ⟨rfl, hi, hb, hk⟩; replace HB := Aside0.mk (hb); replace HI163 := Aside0.mk (hi); (try clear hb hk hi); (try clear hb2); (try simp only [errW_none, errW_some])))
     go_ret
     exact ⟨zq8, zq19⟩
    ·have H1 : (some false) = some r := by rw [if_neg (show ¬ (some q180).isNone = true by simp)] at H; exact H
     clear H
     have H := H1
     clear H1
     try simp only [errW_none, errW_some]
     obtain rfl := Option.some.inj H
     go_wp2_with (first | ((with_reducible refine gate_callee (f := 28) rfl ?_); refine goesL_ (some 21) rfl rfl Try.func28 (by kernel_rfl) rfl #[.pointer (some ⟨g163, 0, none⟩)] rfl zq1 ?_; (with_reducible refine (sS_End.calls g163 x164000_1 x164001_1 x164002_1 (some q180) t177 t178 t179 w _ ?side1 ?side2 A16.out).mono ?_); (case side1 => exact zq17); (case side2 => exact zq19); rintro e w20 ⟨rfl, hi, hb, hk⟩; refine ⟨_, rfl, ?_⟩; replace HB := Aside0.mk (hb); replace HI163 := Aside0.mk (hi); (try clear hb hk hi); (try clear hb2); (try simp only [errW_none, errW_some])))
     go_ret
     exact ⟨zq8, zq19⟩

end Go.Proofs.Ytonjfggfcnpgbaa.MScanPlays
