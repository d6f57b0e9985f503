-- This text was written by a program of this session (a changed scratch copy of a tool of the kit; NOTES.md tells the changes).
import Derived.Test.YtonjfggfcnpgbaaMScanPlaysx0
import Derived.Test.YtonjfggfcnpgbaaMScanPlaysx1
import Derived.Test.YtonjfggfcnpgbaaMScanPlaysx3
import Derived.Test.YtonjfggfcnpgbaaMScanPlaysx5
namespace Go.Proofs.Ytonjfggfcnpgbaa.MScanPlays
open Go.RowKit Go.Proofs.YtonjfggfcnpgbaaW.PrintWords Go.Proofs.YtonjfggfcnpgbaaW.PrintLast Go.Proofs.YtonjfggfcnpgbaaW.PrintMore
attribute [local go_sem] max2_int min2_int max_two min_two max_three min_three max_four min_four   -- for this text's walks alone
set_option linter.unusedVariables false
set_option linter.unusedSimpArgs false

/-! ### sB_rest: function 60 -/
def sB_rest.f (s0_0 : ByteArray) (s0_1 : Int) (s0_2 : Option Int) : Option (ByteArray × ByteArray × Int × Option Int) := if s0_2.isNone = true then (if 0 ≤ s0_1 then (if s0_1 ≤ (s0_0.size : Int) then (some (s0_0.extract (s0_1 : Int).toNat s0_0.size, s0_0, s0_1, none)) else (none)) else (none)) else (some ((⟨#[]⟩ : ByteArray), s0_0, s0_1, some (s0_2.getD 0)))
set_option maxHeartbeats 8000000 in
set_option maxRecDepth 100000 in
theorem sB_rest.calls (g : Nat) (s0_0 : ByteArray) (s0_1 : Int) (s0_2 : Option Int) (r1 : ByteArray) (r2 : ByteArray) (r3 : Int) (r4 : Option Int) (w0 w : World) (hI : IsS61 w0 w g s0_0 s0_1 s0_2) (hB : Below w0.heap.size w0 w) (h : sB_rest.f s0_0 s0_1 s0_2 = some (r1, r2, r3, r4)) :
  Calls Try.prog 60 #[.pointer (some ⟨g, 0, none⟩)] w fun e w' => e = .returned (.string r1) ∧ IsS61 w0 w' g r2 r3 r4 ∧ Below w0.heap.size w0 w' ∧ KeepBut w w' g none := by
 have hu42 := Try.underlying42
 have hu50 := Try.underlying50
 have HI0 := Aside0.mk hI
 have HK := Aside0.mk (KeepBut.refl w g none)
 have HL := Aside0.mk hB.size
 clear hI
 have HW0 := Aside0.mk hB.size
 have HB := Aside0.mk hB
 clear hB
 have H : (if s0_2.isNone = true then (if 0 ≤ s0_1 then (if s0_1 ≤ (s0_0.size : Int) then (some (s0_0.extract (s0_1 : Int).toNat s0_0.size, s0_0, s0_1, none)) else (none)) else (none)) else (some ((⟨#[]⟩ : ByteArray), s0_0, s0_1, some (s0_2.getD 0)))) = some (r1, r2, r3, r4) := h
 clear h
 rcases s0_2 with _ | q533
 ·have H1 : (if 0 ≤ s0_1 then (if s0_1 ≤ (s0_0.size : Int) then (some (s0_0.extract (s0_1 : Int).toNat s0_0.size, s0_0, s0_1, none)) else (none)) else (none)) = some (r1, r2, r3, r4) := by rw [if_pos (show (none : Option Int).isNone = true by rfl)] at H; exact H
  clear H
  have H := H1
  clear H1
  try simp only [errW_none, errW_some]
  by_cases c2 : 0 ≤ s0_1
  ·rw [if_pos c2] at H
   have c2b0 := eq_true c2
   have c2b1 : decide (0 ≤ s0_1) = true := decide_eq_true c2
   clear c2
   by_cases c3 : s0_1 ≤ (s0_0.size : Int)
   ·rw [if_pos c3] at H
    have c3b0 := eq_true c3
    have c3b1 : decide (s0_1 ≤ (s0_0.size : Int)) = true := decide_eq_true c3
    clear c3
    simp only [Option.some.injEq, Prod.mk.injEq] at H
    obtain ⟨rfl, rfl, rfl, rfl⟩ := H
    obtain ⟨HGz4, hgz4⟩ := HI0.out
    have hcz4_0 := cellS61_0 HGz4
    have hcz4_1 := cellS61_1 HGz4
    have hcz4_2 := cellS61_2 HGz4
    have hfz4_0 := blk_frozen HGz4 0
    have hfz4_1 := blk_frozen HGz4 1
    have hfz4_2 := blk_frozen HGz4 2
    try simp only [errW_none, errW_some] at hcz4_2
    clear HGz4 hgz4
    go_enter Try.func60, Try.ntmps60
    go_wp2
    repeat (go_quiet (fail); try go_wp2)
    go_ret
    exact ⟨zq8, zq5, zq7, zq3⟩
   ·rw [if_neg c3] at H
    exact absurd H (by simp)
  ·rw [if_neg c2] at H
   exact absurd H (by simp)
 ·have H1 : (some ((⟨#[]⟩ : ByteArray), s0_0, s0_1, some q533)) = some (r1, r2, r3, r4) := by rw [if_neg (show ¬ (some q533).isNone = true by simp)] at H; exact H
  clear H
  have H := H1
  clear H1
  try simp only [errW_none, errW_some]
  simp only [Option.some.injEq, Prod.mk.injEq] at H
  obtain ⟨rfl, rfl, rfl, rfl⟩ := H
  obtain ⟨HGz5, hgz5⟩ := HI0.out
  have hcz5_0 := cellS61_0 HGz5
  have hcz5_1 := cellS61_1 HGz5
  have hcz5_2 := cellS61_2 HGz5
  have hfz5_0 := blk_frozen HGz5 0
  have hfz5_1 := blk_frozen HGz5 1
  have hfz5_2 := blk_frozen HGz5 2
  try simp only [errW_none, errW_some] at hcz5_2
  clear HGz5 hgz5
  go_enter Try.func60, Try.ntmps60
  go_wp2
  repeat (go_quiet (fail); try go_wp2)
  go_ret
  exact ⟨zq8, zq5, zq7, zq3⟩

/-! ### sB_Peek: function 58 -/
def sB_Peek.f (s0_0 : ByteArray) (s0_1 : Int) (s0_2 : Option Int) : Option (Int × Bool × ByteArray × Int × Option Int) := (sB_rest.f s0_0 s0_1 s0_2).bind fun bt534 => (if bt534.1.toList = ([] : List UInt8) then (some (0, false, bt534.2.1, bt534.2.2.1, bt534.2.2.2)) else (if 0 < (bt534.1.size : Int) then (some (bt bt534.1 0, true, bt534.2.1, bt534.2.2.1, bt534.2.2.2)) else (none)))
set_option maxHeartbeats 8000000 in
set_option maxRecDepth 100000 in
theorem sB_Peek.calls (g : Nat) (s0_0 : ByteArray) (s0_1 : Int) (s0_2 : Option Int) (r1 : Int) (r2 : Bool) (r3 : ByteArray) (r4 : Int) (r5 : Option Int) (w0 w : World) (hI : IsS61 w0 w g s0_0 s0_1 s0_2) (hB : Below w0.heap.size w0 w) (h : sB_Peek.f s0_0 s0_1 s0_2 = some (r1, r2, r3, r4, r5)) :
  Calls Try.prog 58 #[.pointer (some ⟨g, 0, none⟩)] w fun e w' => e = .returned (.tuple #[.int .u8 r1, .bool r2]) ∧ IsS61 w0 w' g r3 r4 r5 ∧ Below w0.heap.size w0 w' ∧ KeepBut w w' g none := by
 have HI0 := Aside0.mk hI
 have HK := Aside0.mk (KeepBut.refl w g none)
 have HL := Aside0.mk hB.size
 clear hI
 have HW0 := Aside0.mk hB.size
 have HB := Aside0.mk hB
 clear hB
 have H : ((sB_rest.f s0_0 s0_1 s0_2).bind fun bt534 => (if bt534.1.toList = ([] : List UInt8) then (some (0, false, bt534.2.1, bt534.2.2.1, bt534.2.2.2)) else (if 0 < (bt534.1.size : Int) then (some (bt bt534.1 0, true, bt534.2.1, bt534.2.2.1, bt534.2.2.2)) else (none)))) = some (r1, r2, r3, r4, r5) := h
 clear h
 replace H := Option.bind_eq_some_iff.mp H
 obtain ⟨⟨t534, t535, t536, t537⟩, A20, H⟩ := H
 replace H : (if t534.toList = ([] : List UInt8) then (some (0, false, t535, t536, t537)) else (if 0 < (t534.size : Int) then (some (bt t534 0, true, t535, t536, t537)) else (none))) = some (r1, r2, r3, r4, r5) := H
 have A2 := Aside0.mk A20
 clear A20
 by_cases c3 : t534.toList = ([] : List UInt8)
 ·rw [if_pos c3] at H
  have c3b0 : (t534.toList == ([] : List UInt8)) = true := beq_iff_eq.mpr c3
  have c3b1 : (t534.toList != ([] : List UInt8)) = false := bne_eq_false_iff_eq.mpr c3
  clear c3
  simp only [Option.some.injEq, Prod.mk.injEq] at H
  obtain ⟨rfl, rfl, rfl, rfl, rfl⟩ := H
  go_enter Try.func58, Try.ntmps58
  go_wp2_with (first | ((with_reducible refine gate_callee (f := 60) rfl ?_); refine goesL_ (some 6) rfl rfl Try.func60 (by kernel_rfl) rfl #[.pointer (some ⟨g, 0, none⟩)] rfl zq1 ?_; (with_reducible refine (sB_rest.calls g s0_0 s0_1 s0_2 t534 t535 t536 t537 w0 _ ?side1 ?side2 A2.out).mono ?_); (case side1 => exact zq5); (case side2 => exact zq7); rintro e w4 ⟨rfl, hi, hb, hk⟩; refine ⟨_, rfl, ?_⟩; replace HK := Aside0.mk (KeepBut.trans zq3 hk (.inl rfl)); replace HB := Aside0.mk (hb); replace HI0 := Aside0.mk (hi); (try clear hb hk hi); (try clear hb2); (try simp only [errW_none, errW_some])))
  go_ret2
  exact ⟨zq8, zq5, zq7, zq3⟩
 ·rw [if_neg c3] at H
  have c3b0 : (t534.toList == ([] : List UInt8)) = false := beq_eq_false_iff_ne.mpr c3
  have c3b1 : (t534.toList != ([] : List UInt8)) = true := bne_iff_ne.mpr c3
  by_cases c5 : 0 < (t534.size : Int)
  ·rw [if_pos c5] at H
   have c5b0 : decide (0 < (t534.size : Int)) = true := decide_eq_true c5
   have c5b1 : decide (0 < t534.size) = true := decide_eq_true (by omega)
   clear c5
   simp only [Option.some.injEq, Prod.mk.injEq] at H
   obtain ⟨rfl, rfl, rfl, rfl, rfl⟩ := H
   go_enter Try.func58, Try.ntmps58
   go_wp2_with (first | ((with_reducible refine gate_callee (f := 60) rfl ?_); refine goesL_ (some 6) rfl rfl Try.func60 (by kernel_rfl) rfl #[.pointer (some ⟨g, 0, none⟩)] rfl zq1 ?_; (with_reducible refine (sB_rest.calls g s0_0 s0_1 s0_2 t534 t535 t536 t537 w0 _ ?side1 ?side2 A2.out).mono ?_); (case side1 => exact zq5); (case side2 => exact zq7); rintro e w7 ⟨rfl, hi, hb, hk⟩; refine ⟨_, rfl, ?_⟩; replace HK := Aside0.mk (KeepBut.trans zq3 hk (.inl rfl)); replace HB := Aside0.mk (hb); replace HI0 := Aside0.mk (hi); (try clear hb hk hi); (try clear hb2); (try simp only [errW_none, errW_some]); have p6 : 0 ≤ (0 : Int) := (by omega); have q6 : 0 < t534.size := (by have : (0 : Int) < (t534.size : Int) := of_decide_eq_true zq10; omega); have hx6 : ∀ h : 0 < t534.size, ((t534[0]'h).toNat : Int) = bt t534 0 := bt_at t534 0; clear p6; have qi6 : (0 < (t534.size : Int)) = True := eq_true (of_decide_eq_true zq10); replace q6 := eq_true q6))
   go_ret2
   exact ⟨zq8, zq5, zq7, zq3⟩
  ·rw [if_neg c5] at H
   exact absurd H (by simp)

/-! ### sB_take: function 59 -/
def sB_take.j0 : Nat → ByteArray → ByteArray → Int → Option Int → Option (ByteArray × ByteArray × Int × Option Int)
 | 0, _, _, _, _ => none
 | k + 1, x5, x1000, x1001, x1002 => (strings_Clone.f x5).bind fun t542 => (some (t542, x1000, x1001, x1002))
def sB_take.f (k : Nat) (s0_0 : ByteArray) (s0_1 : Int) (s0_2 : Option Int) (a1 : Int) : Option (ByteArray × ByteArray × Int × Option Int) := (sB_rest.f s0_0 s0_1 s0_2).bind fun bt538 => (if 0 ≤ a1 then (if a1 ≤ (bt538.1.size : Int) then (if a1 > 0 then (sB_take.j0 k (bt538.1.extract 0 (a1 : Int).toNat) bt538.2.1 (wrap64 (bt538.2.2.1 + a1)) bt538.2.2.2) else (sB_take.j0 k (bt538.1.extract 0 (a1 : Int).toNat) bt538.2.1 bt538.2.2.1 bt538.2.2.2)) else (none)) else (none))
set_option maxHeartbeats 8000000 in
set_option maxRecDepth 100000 in
theorem sB_take.calls (k : Nat) (g : Nat) (s0_0 : ByteArray) (s0_1 : Int) (s0_2 : Option Int) (a1 : Int) (r1 : ByteArray) (r2 : ByteArray) (r3 : Int) (r4 : Option Int) (w0 w : World) (hI : IsS61 w0 w g s0_0 s0_1 s0_2) (hB : Below w0.heap.size w0 w) (h : sB_take.f k s0_0 s0_1 s0_2 a1 = some (r1, r2, r3, r4)) :
  Calls Try.prog 59 #[.pointer (some ⟨g, 0, none⟩), .int .i64 a1] w fun e w' => e = .returned (.string r1) ∧ IsS61 w0 w' g r2 r3 r4 ∧ Below w0.heap.size w0 w' ∧ KeepBut w w' g none := by
 have HI0 := Aside0.mk hI
 have HK := Aside0.mk (KeepBut.refl w g none)
 have HL := Aside0.mk hB.size
 clear hI
 have HW0 := Aside0.mk hB.size
 have HB := Aside0.mk hB
 clear hB
 have H : ((sB_rest.f s0_0 s0_1 s0_2).bind fun bt538 => (if 0 ≤ a1 then (if a1 ≤ (bt538.1.size : Int) then (if a1 > 0 then (sB_take.j0 k (bt538.1.extract 0 (a1 : Int).toNat) bt538.2.1 (wrap64 (bt538.2.2.1 + a1)) bt538.2.2.2) else (sB_take.j0 k (bt538.1.extract 0 (a1 : Int).toNat) bt538.2.1 bt538.2.2.1 bt538.2.2.2)) else (none)) else (none))) = some (r1, r2, r3, r4) := h
 clear h
 replace H := Option.bind_eq_some_iff.mp H
 obtain ⟨⟨t538, t539, t540, t541⟩, A30, H⟩ := H
 replace H : (if 0 ≤ a1 then (if a1 ≤ (t538.size : Int) then (if a1 > 0 then (sB_take.j0 k (t538.extract 0 (a1 : Int).toNat) t539 (wrap64 (t540 + a1)) t541) else (sB_take.j0 k (t538.extract 0 (a1 : Int).toNat) t539 t540 t541)) else (none)) else (none)) = some (r1, r2, r3, r4) := H
 have A3 := Aside0.mk A30
 clear A30
 by_cases c4 : 0 ≤ a1
 ·rw [if_pos c4] at H
  have c4b0 := eq_true c4
  have c4b1 : decide (0 ≤ a1) = true := decide_eq_true c4
  clear c4
  by_cases c5 : a1 ≤ (t538.size : Int)
  ·rw [if_pos c5] at H
   have c5b0 := eq_true c5
   have c5b1 : decide (a1 ≤ (t538.size : Int)) = true := decide_eq_true c5
   clear c5
   have HC6 := Aside0.mk H
   clear H
   go_enter Try.func59, Try.ntmps59
   go_upto_if 11 with (first | ((with_reducible refine gate_callee (f := 60) rfl ?_); refine goesL_ (some 7) rfl rfl Try.func60 (by kernel_rfl) rfl #[.pointer (some ⟨g, 0, none⟩)] rfl zq1 ?_; (with_reducible refine (sB_rest.calls g s0_0 s0_1 s0_2 t538 t539 t540 t541 w0 _ ?side1 ?side2 A3.out).mono ?_); (case side1 => exact zq5); (case side2 => exact zq7); rintro e w7 ⟨rfl, hi, hb, hk⟩; refine ⟨_, rfl, ?_⟩; replace HK := Aside0.mk (KeepBut.trans zq3 hk (.inl rfl)); replace HB := Aside0.mk (hb); replace HI0 := Aside0.mk (hi); (try clear hb hk hi); (try clear hb2); (try simp only [errW_none, errW_some])))
   (try simp only [Act.put, sl_])
   go_cut [] (fun wc => ∃ (kq : Nat) (x1001_5 : Int), Aside0 (sB_take.j0 kq (t538.extract 0 (a1 : Int).toNat) t539 x1001_5 t541 = some (r1, r2, r3, r4)) ∧ Aside0 (kq ≤ k) ∧ Aside0 (IsS61 w0 wc g t539 x1001_5 t541) ∧ Aside0 (KeepBut w wc g none) ∧ Aside0 (Below w0.heap.size w0 wc))
   case first =>
    have H := HC6.out
    clear HC6
    by_cases c8 : a1 > 0
    ·rw [if_pos c8] at H
     have c8b0 : decide (0 < a1) = true := decide_eq_true c8
     clear c8
     (first | rw [c8b0] | (simp only [i64_w, i32_w]; rw [c8b0]) | skip)
     have H' := Aside0.mk H
     clear H
     obtain ⟨HGz9, hgz9⟩ := HI0.out
     have hcz9_0 := cellS61_0 HGz9
     have hcz9_1 := cellS61_1 HGz9
     have hcz9_2 := cellS61_2 HGz9
     have hfz9_0 := blk_frozen HGz9 0
     have hfz9_1 := blk_frozen HGz9 1
     have hfz9_2 := blk_frozen HGz9 2
     try simp only [errW_none, errW_some] at hcz9_2
     clear HGz9 hgz9
     go_wp2
     go_meet
     case rel => exact ⟨_, (wrap64 (t540 + a1)), H', ⟨zq53⟩, ⟨zq5⟩, ⟨zq3⟩, ⟨zq7⟩⟩
    ·rw [if_neg c8] at H
     have c8b0 : decide (0 < a1) = false := decide_eq_false c8
     clear c8
     (first | rw [c8b0] | (simp only [i64_w, i32_w]; rw [c8b0]) | skip)
     have H' := Aside0.mk H
     clear H
     go_wp2
     go_meet
     case rel => exact ⟨_, (t540), H', ⟨zq53⟩, ⟨zq5⟩, ⟨zq3⟩, ⟨zq7⟩⟩
   case rest =>
    clear HC6
    try clear p2
    try clear c4
    try clear c4b0
    try clear c4b1
    try clear c5
    try clear c5b0
    try clear c5b1
    try clear c6
    try clear p6
    try clear c8
    try clear c8b0
    try clear hcz9_0
    try clear hcz9_1
    try clear hcz9_2
    try clear hfz9_0
    try clear hfz9_1
    try clear hfz9_2
    obtain ⟨kq, x1001_5, HA, HJ5, HI0, HK, HB⟩ := hcut
    cases kq with
    | zero => exact absurd HA.out (by simp [sB_take.j0])
    | succ kj5 =>
     have H := HA.out
     clear HA
     simp only [sB_take.j0] at H
     replace H := Option.bind_eq_some_iff.mp H
     obtain ⟨t542, A100, H⟩ := H
     replace H : (some (t542, t539, x1001_5, t541)) = some (r1, r2, r3, r4) := H
     have A10 := Aside0.mk A100
     clear A100
     simp only [Option.some.injEq, Prod.mk.injEq] at H
     obtain ⟨rfl, rfl, rfl, rfl⟩ := H
     go_wp2_with (first | ((with_reducible refine gate_callee (f := 67) rfl ?_); refine goesL_ (some 21) rfl rfl Try.func67 (by kernel_rfl) rfl #[.string (t538.extract 0 (a1 : Int).toNat)] rfl zq1 ?_; (with_reducible refine (strings_Clone.calls (t538.extract 0 (a1 : Int).toNat) t542 _ A10.out).mono ?_); rintro e w11 ⟨rfl, hb⟩; refine ⟨_, rfl, ?_⟩; replace HI0 := Aside0.mk (IsS61.below zq5 hb); replace HK := Aside0.mk (KeepBut.trans zq3 (KeepBut.of_below hb g none) (.inl rfl)); replace HB := Aside0.mk (below_step zq7 hb); (try clear hb hk hi); (try clear hb2)))
     go_ret
     exact ⟨zq8, zq5, zq7, zq3⟩
  ·rw [if_neg c5] at H
   exact absurd H (by simp)
 ·rw [if_neg c4] at H
  exact absurd H (by simp)

/-! ### sB_Take: function 40 -/
def sB_Take.f (k : Nat) (s0_0 : ByteArray) (s0_1 : Int) (s0_2 : Option Int) (a1 : Int) : Option (Bool × ByteArray × Int × Option Int) := (sB_Peek.f s0_0 s0_1 s0_2).bind fun bt543 => (if bt543.2.1 = true then (if bt543.1 = a1 then ((sB_take.f k bt543.2.2.1 bt543.2.2.2.1 bt543.2.2.2.2 1).bind fun bt548 => (some (true, bt548.2.1, bt548.2.2.1, bt548.2.2.2))) else (some (false, bt543.2.2.1, bt543.2.2.2.1, bt543.2.2.2.2))) else (some (false, bt543.2.2.1, bt543.2.2.2.1, bt543.2.2.2.2)))
set_option maxHeartbeats 8000000 in
set_option maxRecDepth 100000 in
theorem sB_Take.calls (k : Nat) (g : Nat) (s0_0 : ByteArray) (s0_1 : Int) (s0_2 : Option Int) (a1 : Int) (r1 : Bool) (r2 : ByteArray) (r3 : Int) (r4 : Option Int) (w0 w : World) (hI : IsS61 w0 w g s0_0 s0_1 s0_2) (hB : Below w0.heap.size w0 w) (h : sB_Take.f k s0_0 s0_1 s0_2 a1 = some (r1, r2, r3, r4)) :
  Calls Try.prog 40 #[.pointer (some ⟨g, 0, none⟩), .int .u8 a1] w fun e w' => e = .returned (.bool r1) ∧ IsS61 w0 w' g r2 r3 r4 ∧ Below w0.heap.size w0 w' ∧ KeepBut w w' g none := by
 have HI0 := Aside0.mk hI
 have HK := Aside0.mk (KeepBut.refl w g none)
 have HL := Aside0.mk hB.size
 clear hI
 have HW0 := Aside0.mk hB.size
 have HB := Aside0.mk hB
 clear hB
 have H : ((sB_Peek.f s0_0 s0_1 s0_2).bind fun bt543 => (if bt543.2.1 = true then (if bt543.1 = a1 then ((sB_take.f k bt543.2.2.1 bt543.2.2.2.1 bt543.2.2.2.2 1).bind fun bt548 => (some (true, bt548.2.1, bt548.2.2.1, bt548.2.2.2))) else (some (false, bt543.2.2.1, bt543.2.2.2.1, bt543.2.2.2.2))) else (some (false, bt543.2.2.1, bt543.2.2.2.1, bt543.2.2.2.2)))) = some (r1, r2, r3, r4) := h
 clear h
 replace H := Option.bind_eq_some_iff.mp H
 obtain ⟨⟨t543, t544, t545, t546, t547⟩, A30, H⟩ := H
 replace H : (if t544 = true then (if t543 = a1 then ((sB_take.f k t545 t546 t547 1).bind fun bt548 => (some (true, bt548.2.1, bt548.2.2.1, bt548.2.2.2))) else (some (false, t545, t546, t547))) else (some (false, t545, t546, t547))) = some (r1, r2, r3, r4) := H
 have A3 := Aside0.mk A30
 clear A30
 by_cases c4 : t544 = true
 ·subst c4
  have H1 : (if t543 = a1 then ((sB_take.f k t545 t546 t547 1).bind fun bt548 => (some (true, bt548.2.1, bt548.2.2.1, bt548.2.2.2))) else (some (false, t545, t546, t547))) = some (r1, r2, r3, r4) := by rw [if_pos rfl] at H; exact H
  clear H
  have H := H1
  clear H1
  by_cases c5 : t543 = a1
  ·rw [if_pos c5] at H
   have c5b0 : (t543 == a1) = true := beq_iff_eq.mpr c5
   have c5b1 : (t543 != a1) = false := bne_eq_false_iff_eq.mpr c5
   clear c5
   replace H := Option.bind_eq_some_iff.mp H
   obtain ⟨⟨t548, t549, t550, t551⟩, A60, H⟩ := H
   replace H : (some (true, t549, t550, t551)) = some (r1, r2, r3, r4) := H
   have A6 := Aside0.mk A60
   clear A60
   simp only [Option.some.injEq, Prod.mk.injEq] at H
   obtain ⟨rfl, rfl, rfl, rfl⟩ := H
   go_enter Try.func40, Try.ntmps40
   go_wp2_with (first | ((with_reducible refine gate_callee (f := 58) rfl ?_); refine goesL_ (some 9) rfl rfl Try.func58 (by kernel_rfl) rfl #[.pointer (some ⟨g, 0, none⟩)] rfl zq1 ?_; (with_reducible refine (sB_Peek.calls g s0_0 s0_1 s0_2 t543 true t545 t546 t547 w0 _ ?side1 ?side2 A3.out).mono ?_); (case side1 => exact zq5); (case side2 => exact zq7); rintro e w7 ⟨rfl, hi, hb, hk⟩; refine ⟨_, rfl, ?_⟩; replace HK := Aside0.mk (KeepBut.trans zq3 hk (.inl rfl)); replace HB := Aside0.mk (hb); replace HI0 := Aside0.mk (hi); (try clear hb hk hi); (try clear hb2); (try simp only [errW_none, errW_some])) | ((with_reducible refine gate_callee (f := 59) rfl ?_); refine goesL_ (some 20) rfl rfl Try.func59 (by kernel_rfl) rfl #[.pointer (some ⟨g, 0, none⟩), .int .i64 1] rfl zq1 ?_; (with_reducible refine (sB_take.calls k g t545 t546 t547 1 t548 t549 t550 t551 w0 _ ?side1 ?side2 A6.out).mono ?_); (case side1 => exact zq5); (case side2 => exact zq7); rintro e w8 ⟨rfl, hi, hb, hk⟩; refine ⟨_, rfl, ?_⟩; replace HK := Aside0.mk (KeepBut.trans zq3 hk (.inl rfl)); replace HB := Aside0.mk (hb); replace HI0 := Aside0.mk (hi); (try clear hb hk hi); (try clear hb2); (try simp only [errW_none, errW_some])))
   go_ret
   exact ⟨zq8, zq5, zq7, zq3⟩
  ·rw [if_neg c5] at H
   have c5b0 : (t543 == a1) = false := beq_eq_false_iff_ne.mpr c5
   have c5b1 : (t543 != a1) = true := bne_iff_ne.mpr c5
   simp only [Option.some.injEq, Prod.mk.injEq] at H
   obtain ⟨rfl, rfl, rfl, rfl⟩ := H
   go_enter Try.func40, Try.ntmps40
   go_wp2_with (first | ((with_reducible refine gate_callee (f := 58) rfl ?_); refine goesL_ (some 9) rfl rfl Try.func58 (by kernel_rfl) rfl #[.pointer (some ⟨g, 0, none⟩)] rfl zq1 ?_; (with_reducible refine (sB_Peek.calls g s0_0 s0_1 s0_2 t543 true t545 t546 t547 w0 _ ?side1 ?side2 A3.out).mono ?_); (case side1 => exact zq5); (case side2 => exact zq7); rintro e w9 ⟨rfl, hi, hb, hk⟩; refine ⟨_, rfl, ?_⟩; replace HK := Aside0.mk (KeepBut.trans zq3 hk (.inl rfl)); replace HB := Aside0.mk (hb); replace HI0 := Aside0.mk (hi); (try clear hb hk hi); (try clear hb2); (try simp only [errW_none, errW_some])))
   go_ret
   exact ⟨zq8, zq5, zq7, zq3⟩
 ·replace c4 := Bool.eq_false_iff.mpr c4
  subst c4
  have H1 : (some (false, t545, t546, t547)) = some (r1, r2, r3, r4) := by rw [if_neg (show ¬ (false = true) by decide)] at H; exact H
  clear H
  have H := H1
  clear H1
  simp only [Option.some.injEq, Prod.mk.injEq] at H
  obtain ⟨rfl, rfl, rfl, rfl⟩ := H
  go_enter Try.func40, Try.ntmps40
  go_wp2_with (first | ((with_reducible refine gate_callee (f := 58) rfl ?_); refine goesL_ (some 9) rfl rfl Try.func58 (by kernel_rfl) rfl #[.pointer (some ⟨g, 0, none⟩)] rfl zq1 ?_; (with_reducible refine (sB_Peek.calls g s0_0 s0_1 s0_2 t543 false t545 t546 t547 w0 _ ?side1 ?side2 A3.out).mono ?_); (case side1 => exact zq5); (case side2 => exact zq7); rintro e w10 ⟨rfl, hi, hb, hk⟩; refine ⟨_, rfl, ?_⟩; replace HK := Aside0.mk (KeepBut.trans zq3 hk (.inl rfl)); replace HB := Aside0.mk (hb); replace HI0 := Aside0.mk (hi); (try clear hb hk hi); (try clear hb2); (try simp only [errW_none, errW_some])))
  go_ret
  exact ⟨zq8, zq5, zq7, zq3⟩

/-! ### sB_going: function 61 -/
def sB_going.f (s0_0 : ByteArray) (s0_1 : Int) (s0_2 : Option Int) : Option (Bool × ByteArray × Int × Option Int) := if s0_2.isNone = true then (some (true, s0_0, s0_1, none)) else (some (false, s0_0, s0_1, some (s0_2.getD 0)))
set_option maxHeartbeats 8000000 in
set_option maxRecDepth 100000 in
theorem sB_going.calls (g : Nat) (s0_0 : ByteArray) (s0_1 : Int) (s0_2 : Option Int) (r1 : Bool) (r2 : ByteArray) (r3 : Int) (r4 : Option Int) (w0 w : World) (hI : IsS61 w0 w g s0_0 s0_1 s0_2) (hB : Below w0.heap.size w0 w) (h : sB_going.f s0_0 s0_1 s0_2 = some (r1, r2, r3, r4)) :
  Calls Try.prog 61 #[.pointer (some ⟨g, 0, none⟩)] w fun e w' => e = .returned (.bool r1) ∧ IsS61 w0 w' g r2 r3 r4 ∧ Below w0.heap.size w0 w' ∧ KeepBut w w' g none := by
 have hu42 := Try.underlying42
 have hu50 := Try.underlying50
 have HI0 := Aside0.mk hI
 have HK := Aside0.mk (KeepBut.refl w g none)
 have HL := Aside0.mk hB.size
 clear hI
 have HW0 := Aside0.mk hB.size
 have HB := Aside0.mk hB
 clear hB
 have H : (if s0_2.isNone = true then (some (true, s0_0, s0_1, none)) else (some (false, s0_0, s0_1, some (s0_2.getD 0)))) = some (r1, r2, r3, r4) := h
 clear h
 rcases s0_2 with _ | q552
 ·have H1 : (some (true, s0_0, s0_1, none)) = some (r1, r2, r3, r4) := by rw [if_pos (show (none : Option Int).isNone = true by rfl)] at H; exact H
  clear H
  have H := H1
  clear H1
  try simp only [errW_none, errW_some]
  simp only [Option.some.injEq, Prod.mk.injEq] at H
  obtain ⟨rfl, rfl, rfl, rfl⟩ := H
  obtain ⟨HGz2, hgz2⟩ := HI0.out
  have hcz2_0 := cellS61_0 HGz2
  have hcz2_1 := cellS61_1 HGz2
  have hcz2_2 := cellS61_2 HGz2
  have hfz2_0 := blk_frozen HGz2 0
  have hfz2_1 := blk_frozen HGz2 1
  have hfz2_2 := blk_frozen HGz2 2
  try simp only [errW_none, errW_some] at hcz2_2
  clear HGz2 hgz2
  go_enter Try.func61, Try.ntmps61
  go_wp2
  go_ret
  exact ⟨zq8, zq5, zq7, zq3⟩
 ·have H1 : (some (false, s0_0, s0_1, some q552)) = some (r1, r2, r3, r4) := by rw [if_neg (show ¬ (some q552).isNone = true by simp)] at H; exact H
  clear H
  have H := H1
  clear H1
  try simp only [errW_none, errW_some]
  simp only [Option.some.injEq, Prod.mk.injEq] at H
  obtain ⟨rfl, rfl, rfl, rfl⟩ := H
  obtain ⟨HGz3, hgz3⟩ := HI0.out
  have hcz3_0 := cellS61_0 HGz3
  have hcz3_1 := cellS61_1 HGz3
  have hcz3_2 := cellS61_2 HGz3
  have hfz3_0 := blk_frozen HGz3 0
  have hfz3_1 := blk_frozen HGz3 1
  have hfz3_2 := blk_frozen HGz3 2
  try simp only [errW_none, errW_some] at hcz3_2
  clear HGz3 hgz3
  go_enter Try.func61, Try.ntmps61
  go_wp2
  go_ret
  exact ⟨zq8, zq5, zq7, zq3⟩

/-! ### sB_Fold: function 41 -/
def sB_Fold.j0 : Nat → ByteArray → Bool → ByteArray → Int → Option Int → Option (Bool × ByteArray × Int × Option Int)
 | 0, _, _, _, _, _ => none
 | k + 1, x1, x26, x1000, x1001, x1002 => if x26 = true then (some (false, x1000, x1001, x1002)) else ((sB_take.f k x1000 x1001 x1002 (x1.size : Int)).bind fun bt562 => (some (true, bt562.2.1, bt562.2.2.1, bt562.2.2.2)))
def sB_Fold.f (k : Nat) (s0_0 : ByteArray) (s0_1 : Int) (s0_2 : Option Int) (a1 : ByteArray) : Option (Bool × ByteArray × Int × Option Int) := (sB_rest.f s0_0 s0_1 s0_2).bind fun bt553 => ((sB_going.f bt553.2.1 bt553.2.2.1 bt553.2.2.2).bind fun bt557 => (if bt557.1 = true then (if (bt553.1.size : Int) < (a1.size : Int) then (sB_Fold.j0 k a1 true bt557.2.1 bt557.2.2.1 bt557.2.2.2) else (if 0 ≤ (a1.size : Int) then (if (a1.size : Int) ≤ (bt553.1.size : Int) then ((scan_alike.f k (bt553.1.extract 0 ((a1.size : Int) : Int).toNat) a1).bind fun t561 => (sB_Fold.j0 k a1 (!t561) bt557.2.1 bt557.2.2.1 bt557.2.2.2)) else (none)) else (none))) else (sB_Fold.j0 k a1 true bt557.2.1 bt557.2.2.1 bt557.2.2.2)))
set_option maxHeartbeats 8000000 in
set_option maxRecDepth 100000 in
theorem sB_Fold.calls (k : Nat) (g : Nat) (s0_0 : ByteArray) (s0_1 : Int) (s0_2 : Option Int) (a1 : ByteArray) (r1 : Bool) (r2 : ByteArray) (r3 : Int) (r4 : Option Int) (w0 w : World) (hI : IsS61 w0 w g s0_0 s0_1 s0_2) (hB : Below w0.heap.size w0 w) (h : sB_Fold.f k s0_0 s0_1 s0_2 a1 = some (r1, r2, r3, r4)) :
  Calls Try.prog 41 #[.pointer (some ⟨g, 0, none⟩), .string a1] w fun e w' => e = .returned (.bool r1) ∧ IsS61 w0 w' g r2 r3 r4 ∧ Below w0.heap.size w0 w' ∧ KeepBut w w' g none := by
 have HI0 := Aside0.mk hI
 have HK := Aside0.mk (KeepBut.refl w g none)
 have HL := Aside0.mk hB.size
 clear hI
 have HW0 := Aside0.mk hB.size
 have HB := Aside0.mk hB
 clear hB
 have H : ((sB_rest.f s0_0 s0_1 s0_2).bind fun bt553 => ((sB_going.f bt553.2.1 bt553.2.2.1 bt553.2.2.2).bind fun bt557 => (if bt557.1 = true then (if (bt553.1.size : Int) < (a1.size : Int) then (sB_Fold.j0 k a1 true bt557.2.1 bt557.2.2.1 bt557.2.2.2) else (if 0 ≤ (a1.size : Int) then (if (a1.size : Int) ≤ (bt553.1.size : Int) then ((scan_alike.f k (bt553.1.extract 0 ((a1.size : Int) : Int).toNat) a1).bind fun t561 => (sB_Fold.j0 k a1 (!t561) bt557.2.1 bt557.2.2.1 bt557.2.2.2)) else (none)) else (none))) else (sB_Fold.j0 k a1 true bt557.2.1 bt557.2.2.1 bt557.2.2.2)))) = some (r1, r2, r3, r4) := h
 clear h
 replace H := Option.bind_eq_some_iff.mp H
 obtain ⟨⟨t553, t554, t555, t556⟩, A30, H⟩ := H
 replace H : ((sB_going.f t554 t555 t556).bind fun bt557 => (if bt557.1 = true then (if (t553.size : Int) < (a1.size : Int) then (sB_Fold.j0 k a1 true bt557.2.1 bt557.2.2.1 bt557.2.2.2) else (if 0 ≤ (a1.size : Int) then (if (a1.size : Int) ≤ (t553.size : Int) then ((scan_alike.f k (t553.extract 0 ((a1.size : Int) : Int).toNat) a1).bind fun t561 => (sB_Fold.j0 k a1 (!t561) bt557.2.1 bt557.2.2.1 bt557.2.2.2)) else (none)) else (none))) else (sB_Fold.j0 k a1 true bt557.2.1 bt557.2.2.1 bt557.2.2.2))) = some (r1, r2, r3, r4) := H
 have A3 := Aside0.mk A30
 clear A30
 have HC4 := Aside0.mk H
 clear H
 go_enter Try.func41, Try.ntmps41
 go_upto_region 2 with (first | ((with_reducible refine gate_callee (f := 60) rfl ?_); refine goesL_ (some 7) rfl rfl Try.func60 (by kernel_rfl) rfl #[.pointer (some ⟨g, 0, none⟩)] rfl zq1 ?_; (with_reducible refine (sB_rest.calls g s0_0 s0_1 s0_2 t553 t554 t555 t556 w0 _ ?side1 ?side2 A3.out).mono ?_); (case side1 => exact zq5); (case side2 => exact zq7); rintro e w5 ⟨rfl, hi, hb, hk⟩; refine ⟨_, rfl, ?_⟩; replace HK := Aside0.mk (KeepBut.trans zq3 hk (.inl rfl)); replace HB := Aside0.mk (hb); replace HI0 := Aside0.mk (hi); (try clear hb hk hi); (try clear hb2); (try simp only [errW_none, errW_some])))
 (try simp only [Act.put, sl_])
 go_cut [26] (fun v26 wc => ∃ (kq : Nat) (x26_3 : Bool) (x1000_3 : ByteArray) (x1001_3 : Int) (x1002_3 : Option Int), v26 = .bool x26_3 ∧ Aside0 (sB_Fold.j0 kq a1 x26_3 x1000_3 x1001_3 x1002_3 = some (r1, r2, r3, r4)) ∧ Aside0 (kq ≤ k) ∧ Aside0 (IsS61 w0 wc g x1000_3 x1001_3 x1002_3) ∧ Aside0 (KeepBut w wc g none) ∧ Aside0 (Below w0.heap.size w0 wc))
 case first =>
  have H := HC4.out
  clear HC4
  replace H := Option.bind_eq_some_iff.mp H
  obtain ⟨⟨t557, t558, t559, t560⟩, A60, H⟩ := H
  replace H : (if t557 = true then (if (t553.size : Int) < (a1.size : Int) then (sB_Fold.j0 k a1 true t558 t559 t560) else (if 0 ≤ (a1.size : Int) then (if (a1.size : Int) ≤ (t553.size : Int) then ((scan_alike.f k (t553.extract 0 ((a1.size : Int) : Int).toNat) a1).bind fun t561 => (sB_Fold.j0 k a1 (!t561) t558 t559 t560)) else (none)) else (none))) else (sB_Fold.j0 k a1 true t558 t559 t560)) = some (r1, r2, r3, r4) := H
  have A6 := Aside0.mk A60
  clear A60
  by_cases c7 : t557 = true
  ·subst c7
   have H1 : (if (t553.size : Int) < (a1.size : Int) then (sB_Fold.j0 k a1 true t558 t559 t560) else (if 0 ≤ (a1.size : Int) then (if (a1.size : Int) ≤ (t553.size : Int) then ((scan_alike.f k (t553.extract 0 ((a1.size : Int) : Int).toNat) a1).bind fun t561 => (sB_Fold.j0 k a1 (!t561) t558 t559 t560)) else (none)) else (none))) = some (r1, r2, r3, r4) := by rw [if_pos rfl] at H; exact H
   clear H
   have H := H1
   clear H1
   by_cases c8 : (t553.size : Int) < (a1.size : Int)
   ·rw [if_pos c8] at H
    have c8b0 : decide ((t553.size : Int) < (a1.size : Int)) = true := decide_eq_true c8
    have c8b1 : decide (t553.size < a1.size) = true := decide_eq_true (Int.ofNat_lt.mp c8)
    clear c8
    (first | rw [c8b0] | (simp only [i64_w, i32_w]; rw [c8b0]) | skip)
    have H' := Aside0.mk H
    clear H
    go_wp2_with (first | ((with_reducible refine gate_callee (f := 61) rfl ?_); refine goesL_ (some 9) rfl rfl Try.func61 (by kernel_rfl) rfl #[.pointer (some ⟨g, 0, none⟩)] rfl zq1 ?_; (with_reducible refine (sB_going.calls g t554 t555 t556 true t558 t559 t560 w0 _ ?side1 ?side2 A6.out).mono ?_); (case side1 => exact zq5); (case side2 => exact zq7); rintro e w9 ⟨rfl, hi, hb, hk⟩; refine ⟨_, rfl, ?_⟩; replace HK := Aside0.mk (KeepBut.trans zq3 hk (.inl rfl)); replace HB := Aside0.mk (hb); replace HI0 := Aside0.mk (hi); (try clear hb hk hi); (try clear hb2); (try simp only [errW_none, errW_some])))
    go_meet
    case rel => exact ⟨_, (true), (t558), (t559), (t560), zq9, H', ⟨zq53⟩, ⟨zq5⟩, ⟨zq3⟩, ⟨zq7⟩⟩
   ·rw [if_neg c8] at H
    have c8b0 : decide ((t553.size : Int) < (a1.size : Int)) = false := decide_eq_false c8
    have c8b1 : decide (t553.size < a1.size) = false := decide_eq_false (fun h => c8 (Int.ofNat_lt.mpr h))
    clear c8
    (first | rw [c8b0] | (simp only [i64_w, i32_w]; rw [c8b0]) | skip)
    by_cases c10 : 0 ≤ (a1.size : Int)
    ·rw [if_pos c10] at H
     have c10b0 := eq_true c10
     have c10b1 : decide (0 ≤ (a1.size : Int)) = true := decide_eq_true c10
     clear c10
     by_cases c11 : (a1.size : Int) ≤ (t553.size : Int)
     ·rw [if_pos c11] at H
      have c11b0 := eq_true c11
      have c11b1 : decide ((a1.size : Int) ≤ (t553.size : Int)) = true := decide_eq_true c11
      clear c11
      replace H := Option.bind_eq_some_iff.mp H
      obtain ⟨t561, A120, H⟩ := H
      replace H : (sB_Fold.j0 k a1 (!t561) t558 t559 t560) = some (r1, r2, r3, r4) := H
      have A12 := Aside0.mk A120
      clear A120
      have H' := Aside0.mk H
      clear H
      go_wp2_with (first | ((with_reducible refine gate_callee (f := 61) rfl ?_); refine goesL_ (some 9) rfl rfl Try.func61 (by kernel_rfl) rfl #[.pointer (some ⟨g, 0, none⟩)] rfl zq1 ?_; (with_reducible refine (sB_going.calls g t554 t555 t556 true t558 t559 t560 w0 _ ?side1 ?side2 A6.out).mono ?_); (case side1 => exact zq5); (case side2 => exact zq7); rintro e w13 ⟨rfl, hi, hb, hk⟩; refine ⟨_, rfl, ?_⟩; replace HK := Aside0.mk (KeepBut.trans zq3 hk (.inl rfl)); replace HB := Aside0.mk (hb); replace HI0 := Aside0.mk (hi); (try clear hb hk hi); (try clear hb2); (try simp only [errW_none, errW_some])) | (go_at_call 54; refine calls_of_args (args' := #[.string (t553.extract 0 ((a1.size : Int) : Int).toNat), .string a1]) (by first | rfl | rfl) ?_; (with_reducible refine (scan_alike.calls k (t553.extract 0 ((a1.size : Int) : Int).toNat) a1 t561 _ A12.out).mono ?_); rintro e w' ⟨rfl, ⟨nd, rfl⟩⟩))
      go_meet
      case rel => exact ⟨_, (!t561), (t558), (t559), (t560), zq9, H', ⟨zq53⟩, ⟨zq5⟩, ⟨zq3⟩, ⟨zq7⟩⟩
     ·rw [if_neg c11] at H
      exact absurd H (by simp)
    ·rw [if_neg c10] at H
     exact absurd H (by simp)
  ·replace c7 := Bool.eq_false_iff.mpr c7
   subst c7
   have H1 : (sB_Fold.j0 k a1 true t558 t559 t560) = some (r1, r2, r3, r4) := by rw [if_neg (show ¬ (false = true) by decide)] at H; exact H
   clear H
   have H := H1
   clear H1
   have H' := Aside0.mk H
   clear H
   go_wp2_with (first | ((with_reducible refine gate_callee (f := 61) rfl ?_); refine goesL_ (some 9) rfl rfl Try.func61 (by kernel_rfl) rfl #[.pointer (some ⟨g, 0, none⟩)] rfl zq1 ?_; (with_reducible refine (sB_going.calls g t554 t555 t556 false t558 t559 t560 w0 _ ?side1 ?side2 A6.out).mono ?_); (case side1 => exact zq5); (case side2 => exact zq7); rintro e w14 ⟨rfl, hi, hb, hk⟩; refine ⟨_, rfl, ?_⟩; replace HK := Aside0.mk (KeepBut.trans zq3 hk (.inl rfl)); replace HB := Aside0.mk (hb); replace HI0 := Aside0.mk (hi); (try clear hb hk hi); (try clear hb2); (try simp only [errW_none, errW_some])))
   go_meet
   case rel => exact ⟨_, (true), (t558), (t559), (t560), zq9, H', ⟨zq53⟩, ⟨zq5⟩, ⟨zq3⟩, ⟨zq7⟩⟩
 case rest =>
  clear HC4
  try clear c1
  try clear p2
  try clear c4
  try clear c6
  try clear p6
  try clear c7
  try clear c8
  try clear c8b0
  try clear c8b1
  try clear c10
  try clear c10b0
  try clear c10b1
  try clear c11
  try clear c11b0
  try clear c11b1
  obtain ⟨kq, x26_3, x1000_3, x1001_3, x1002_3, rfl, HA, HJ3, HI0, HK, HB⟩ := hcut
  cases kq with
  | zero => exact absurd HA.out (by simp [sB_Fold.j0])
  | succ kj3 =>
   have H := HA.out
   clear HA
   simp only [sB_Fold.j0] at H
   by_cases c15 : x26_3 = true
   ·subst c15
    have H1 : (some (false, x1000_3, x1001_3, x1002_3)) = some (r1, r2, r3, r4) := by rw [if_pos rfl] at H; exact H
    clear H
    have H := H1
    clear H1
    simp only [Option.some.injEq, Prod.mk.injEq] at H
    obtain ⟨rfl, rfl, rfl, rfl⟩ := H
    go_wp2
    go_ret
    exact ⟨zq8, zq5, zq7, zq3⟩
   ·replace c15 := Bool.eq_false_iff.mpr c15
    subst c15
    have H1 : ((sB_take.f kj3 x1000_3 x1001_3 x1002_3 (a1.size : Int)).bind fun bt562 => (some (true, bt562.2.1, bt562.2.2.1, bt562.2.2.2))) = some (r1, r2, r3, r4) := by rw [if_neg (show ¬ (false = true) by decide)] at H; exact H
    clear H
    have H := H1
    clear H1
    replace H := Option.bind_eq_some_iff.mp H
    obtain ⟨⟨t562, t563, t564, t565⟩, A160, H⟩ := H
    replace H : (some (true, t563, t564, t565)) = some (r1, r2, r3, r4) := H
    have A16 := Aside0.mk A160
    clear A160
    simp only [Option.some.injEq, Prod.mk.injEq] at H
    obtain ⟨rfl, rfl, rfl, rfl⟩ := H
    go_wp2_with (first | ((with_reducible refine gate_callee (f := 59) rfl ?_); refine goesL_ (some 30) rfl rfl Try.func59 (by kernel_rfl) rfl #[.pointer (some ⟨g, 0, none⟩), .int .i64 (a1.size : Int)] rfl zq1 ?_; (with_reducible refine (sB_take.calls kj3 g x1000_3 x1001_3 x1002_3 (a1.size : Int) t562 t563 t564 t565 w0 _ ?side1 ?side2 A16.out).mono ?_); (case side1 => exact zq5); (case side2 => exact zq7); rintro e w17 ⟨rfl, hi, hb, hk⟩; refine ⟨_, rfl, ?_⟩; replace HK := Aside0.mk (KeepBut.trans zq3 hk (.inl rfl)); replace HB := Aside0.mk (hb); replace HI0 := Aside0.mk (hi); (try clear hb hk hi); (try clear hb2); (try simp only [errW_none, errW_some])))
    go_ret
    exact ⟨zq8, zq5, zq7, zq3⟩

/-! ### sB_Run: function 42 -/
mutual
def sB_Run.j1 : Nat → Int → ByteArray → Int → Option Int → Option (ByteArray × ByteArray × Int × Option Int)
 | 0, _, _, _, _ => none
 | k + 1, x6, x1000, x1001, x1002 => (sB_take.f k x1000 x1001 x1002 x6).bind fun bt571 => (some (bt571.1, bt571.2.1, bt571.2.2.1, bt571.2.2.2))
def sB_Run.l0 : Nat → ByteArray → ByteArray → Int → ByteArray → Int → Option Int → Option (ByteArray × ByteArray × Int × Option Int)
 | 0, _, _, _, _, _, _ => none
 | k + 1, x1, x5, x6, x1000, x1001, x1002 => if x6 < (x5.size : Int) then (if 0 ≤ x6 then ((strings_IndexByte.f x1 (bt x5 x6)).bind fun t570 => (if t570 ≥ 0 then (sB_Run.l0 k x1 x5 (wrap64 (x6 + 1)) x1000 x1001 x1002) else (sB_Run.j1 k x6 x1000 x1001 x1002))) else (none)) else (sB_Run.j1 k x6 x1000 x1001 x1002)
end
def sB_Run.f (k : Nat) (s0_0 : ByteArray) (s0_1 : Int) (s0_2 : Option Int) (a1 : ByteArray) : Option (ByteArray × ByteArray × Int × Option Int) := (sB_rest.f s0_0 s0_1 s0_2).bind fun bt566 => (sB_Run.l0 k a1 bt566.1 0 bt566.2.1 bt566.2.2.1 bt566.2.2.2)
set_option maxHeartbeats 8000000 in
set_option maxRecDepth 100000 in
theorem sB_Run.calls (k : Nat) (g : Nat) (s0_0 : ByteArray) (s0_1 : Int) (s0_2 : Option Int) (a1 : ByteArray) (r1 : ByteArray) (r2 : ByteArray) (r3 : Int) (r4 : Option Int) (w0 w : World) (hI : IsS61 w0 w g s0_0 s0_1 s0_2) (hB : Below w0.heap.size w0 w) (h : sB_Run.f k s0_0 s0_1 s0_2 a1 = some (r1, r2, r3, r4)) :
  Calls Try.prog 42 #[.pointer (some ⟨g, 0, none⟩), .string a1] w fun e w' => e = .returned (.string r1) ∧ IsS61 w0 w' g r2 r3 r4 ∧ Below w0.heap.size w0 w' ∧ KeepBut w w' g none := by
 have HI0 := Aside0.mk hI
 have HK := Aside0.mk (KeepBut.refl w g none)
 have HL := Aside0.mk hB.size
 clear hI
 have HW0 := Aside0.mk hB.size
 have HB := Aside0.mk hB
 clear hB
 have H : ((sB_rest.f s0_0 s0_1 s0_2).bind fun bt566 => (sB_Run.l0 k a1 bt566.1 0 bt566.2.1 bt566.2.2.1 bt566.2.2.2)) = some (r1, r2, r3, r4) := h
 clear h
 replace H := Option.bind_eq_some_iff.mp H
 obtain ⟨⟨t566, t567, t568, t569⟩, A30, H⟩ := H
 replace H : (sB_Run.l0 k a1 t566 0 t567 t568 t569) = some (r1, r2, r3, r4) := H
 have A3 := Aside0.mk A30
 clear A30
 have HC4 := Aside0.mk H
 clear H
 go_enter Try.func42, Try.ntmps42
 go_upto_block 0 with (first | ((with_reducible refine gate_callee (f := 60) rfl ?_); refine goesL_ (some 8) rfl rfl Try.func60 (by kernel_rfl) rfl #[.pointer (some ⟨g, 0, none⟩)] rfl zq1 ?_; (with_reducible refine (sB_rest.calls g s0_0 s0_1 s0_2 t566 t567 t568 t569 w0 _ ?side1 ?side2 A3.out).mono ?_); (case side1 => exact zq5); (case side2 => exact zq7); rintro e w5 ⟨rfl, hi, hb, hk⟩; refine ⟨_, rfl, ?_⟩; replace HK := Aside0.mk (KeepBut.trans zq3 hk (.inl rfl)); replace HB := Aside0.mk (hb); replace HI0 := Aside0.mk (hi); (try clear hb hk hi); (try clear hb2); (try simp only [errW_none, errW_some])))
 (try simp only [Act.put, sl_])
 go_cut [6] (fun v6 wc => ∃ (kq : Nat) (x6_3 : Int), v6 = .int .i64 x6_3 ∧ Aside0 (sB_Run.j1 kq x6_3 t567 t568 t569 = some (r1, r2, r3, r4)) ∧ Aside0 (kq ≤ k) ∧ Aside0 (IsS61 w0 wc g t567 t568 t569) ∧ Aside0 (KeepBut w wc g none) ∧ Aside0 (Below w0.heap.size w0 wc))
 case first =>
  have H := HC4.out
  clear HC4
  have H' := Aside0.mk H
  clear H
  go_wp2
  try simp only [Act.put, sl_]
  go_loopg [6] k (fun kq v6 w' => ∃ (x6_1 : Int), v6 = .int .i64 x6_1 ∧ Aside0 (sB_Run.l0 kq a1 t566 x6_1 t567 t568 t569 = some (r1, r2, r3, r4)) ∧ Aside0 (kq ≤ k) ∧ Aside0 (IsS61 w0 w' g t567 t568 t569) ∧ Aside0 (KeepBut w w' g none) ∧ Aside0 (Below w0.heap.size w0 w'))
  case atStart => exact ⟨(0), zq9, H', ⟨Nat.le_refl _⟩, ⟨zq5⟩, ⟨zq3⟩, ⟨zq7⟩⟩
  case round =>
   clear H'
   try clear p2
   try clear c4
   obtain ⟨x6_1, rfl, HA, HK1, HI0, HK, HB⟩ := hrel
   cases gk with
   | zero => exact absurd HA.out (by simp [sB_Run.l0])
   | succ k1 =>
    have H := HA.out
    clear HA
    simp only [sB_Run.l0] at H
    by_cases c6 : x6_1 < (t566.size : Int)
    ·rw [if_pos c6] at H
     have c6b0 : decide (x6_1 < (t566.size : Int)) = true := decide_eq_true c6
     clear c6
     (first | rw [c6b0] | (simp only [i64_w, i32_w]; rw [c6b0]) | skip)
     by_cases c7 : 0 ≤ x6_1
     ·rw [if_pos c7] at H
      have c7b0 : decide (0 ≤ x6_1) = true := decide_eq_true c7
      clear c7
      replace H := Option.bind_eq_some_iff.mp H
      obtain ⟨t570, A90, H⟩ := H
      replace H : (if t570 ≥ 0 then (sB_Run.l0 k1 a1 t566 (wrap64 (x6_1 + 1)) t567 t568 t569) else (sB_Run.j1 k1 x6_1 t567 t568 t569)) = some (r1, r2, r3, r4) := H
      have A9 := Aside0.mk A90
      clear A90
      by_cases c10 : t570 ≥ 0
      ·rw [if_pos c10] at H
       have c10b0 : decide (0 ≤ t570) = true := decide_eq_true c10
       clear c10
       have H' := Aside0.mk H
       clear H
       have p8 : 0 ≤ (x6_1 : Int) := of_decide_eq_true zq10
       have q8 : x6_1 < (t566.size : Int) := of_decide_eq_true zq10
       have hx8 := bt_at t566 x6_1
       replace p8 := eq_true p8
       replace q8 := eq_true q8
       go_wp2_with (first | (go_at_call 51; (with_reducible refine (strings_IndexByte.calls a1 (bt t566 x6_1) t570 _ A9.out).mono ?_); rintro e w' ⟨rfl, ⟨nd, rfl⟩⟩))
       go_roundg k1
       case measure => have := HK1.out; omega
       case rel => exact ⟨(wrap64 (x6_1 + 1)), zq9, H', ⟨by have := HK1.out; omega⟩, ⟨zq5⟩, ⟨zq3⟩, ⟨zq7⟩⟩
      ·rw [if_neg c10] at H
       have c10b0 : decide (0 ≤ t570) = false := decide_eq_false c10
       clear c10
       have H' := Aside0.mk H
       clear H
       have p8 : 0 ≤ (x6_1 : Int) := of_decide_eq_true zq10
       have q8 : x6_1 < (t566.size : Int) := of_decide_eq_true zq10
       have hx8 := bt_at t566 x6_1
       replace p8 := eq_true p8
       replace q8 := eq_true q8
       go_wp2_with (first | (go_at_call 51; (with_reducible refine (strings_IndexByte.calls a1 (bt t566 x6_1) t570 _ A9.out).mono ?_); rintro e w' ⟨rfl, ⟨nd, rfl⟩⟩))
       go_meet
       case rel => exact ⟨_, (x6_1), zq9, H', ⟨zq76⟩, ⟨zq5⟩, ⟨zq3⟩, ⟨zq7⟩⟩
     ·rw [if_neg c7] at H
      exact absurd H (by simp)
    ·rw [if_neg c6] at H
     have c6b0 : decide (x6_1 < (t566.size : Int)) = false := decide_eq_false c6
     clear c6
     (first | rw [c6b0] | (simp only [i64_w, i32_w]; rw [c6b0]) | skip)
     have H' := Aside0.mk H
     clear H
     go_wp2
     go_meet
     case rel => exact ⟨_, (x6_1), zq9, H', ⟨zq76⟩, ⟨zq5⟩, ⟨zq3⟩, ⟨zq7⟩⟩
 case rest =>
  clear HC4
  try clear c1
  try clear p2
  try clear c4
  try clear c6
  try clear c6b0
  try clear p6
  try clear c7
  try clear c7b0
  try clear p8
  try clear q8
  try clear hx8
  try clear c10
  try clear c10b0
  try clear p2
  try clear p8
  try clear q8
  obtain ⟨kq, x6_3, rfl, HA, HJ3, HI0, HK, HB⟩ := hcut
  cases kq with
  | zero => exact absurd HA.out (by simp [sB_Run.j1])
  | succ kj3 =>
   have H := HA.out
   clear HA
   simp only [sB_Run.j1] at H
   replace H := Option.bind_eq_some_iff.mp H
   obtain ⟨⟨t571, t572, t573, t574⟩, A110, H⟩ := H
   replace H : (some (t571, t572, t573, t574)) = some (r1, r2, r3, r4) := H
   have A11 := Aside0.mk A110
   clear A110
   simp only [Option.some.injEq, Prod.mk.injEq] at H
   obtain ⟨rfl, rfl, rfl, rfl⟩ := H
   go_wp2_with (first | ((with_reducible refine gate_callee (f := 59) rfl ?_); refine goesL_ (some 25) rfl rfl Try.func59 (by kernel_rfl) rfl #[.pointer (some ⟨g, 0, none⟩), .int .i64 x6_3] rfl zq1 ?_; (with_reducible refine (sB_take.calls kj3 g t567 t568 t569 x6_3 t571 t572 t573 t574 w0 _ ?side1 ?side2 A11.out).mono ?_); (case side1 => exact zq5); (case side2 => exact zq7); rintro e w12 ⟨rfl, hi, hb, hk⟩; refine ⟨_, rfl, ?_⟩; replace HK := Aside0.mk (KeepBut.trans zq3 hk (.inl rfl)); replace HB := Aside0.mk (hb); replace HI0 := Aside0.mk (hi); (try clear hb hk hi); (try clear hb2); (try simp only [errW_none, errW_some])))
   go_ret
   exact ⟨zq8, zq5, zq7, zq3⟩

/-! ### sB_Until: function 43 -/
def sB_Until.j0 : Nat → Int → ByteArray → Int → Option Int → Option (ByteArray × ByteArray × Int × Option Int)
 | 0, _, _, _, _ => none
 | k + 1, x6, x1000, x1001, x1002 => (sB_take.f k x1000 x1001 x1002 x6).bind fun bt580 => (some (bt580.1, bt580.2.1, bt580.2.2.1, bt580.2.2.2))
def sB_Until.f (k : Nat) (s0_0 : ByteArray) (s0_1 : Int) (s0_2 : Option Int) (a1 : Int) : Option (ByteArray × ByteArray × Int × Option Int) := (sB_rest.f s0_0 s0_1 s0_2).bind fun bt575 => ((strings_IndexByte.f bt575.1 a1).bind fun t579 => (if t579 < 0 then (sB_Until.j0 k (bt575.1.size : Int) bt575.2.1 bt575.2.2.1 bt575.2.2.2) else (sB_Until.j0 k t579 bt575.2.1 bt575.2.2.1 bt575.2.2.2)))
set_option maxHeartbeats 8000000 in
set_option maxRecDepth 100000 in
theorem sB_Until.calls (k : Nat) (g : Nat) (s0_0 : ByteArray) (s0_1 : Int) (s0_2 : Option Int) (a1 : Int) (r1 : ByteArray) (r2 : ByteArray) (r3 : Int) (r4 : Option Int) (w0 w : World) (hI : IsS61 w0 w g s0_0 s0_1 s0_2) (hB : Below w0.heap.size w0 w) (h : sB_Until.f k s0_0 s0_1 s0_2 a1 = some (r1, r2, r3, r4)) :
  Calls Try.prog 43 #[.pointer (some ⟨g, 0, none⟩), .int .u8 a1] w fun e w' => e = .returned (.string r1) ∧ IsS61 w0 w' g r2 r3 r4 ∧ Below w0.heap.size w0 w' ∧ KeepBut w w' g none := by
 have HI0 := Aside0.mk hI
 have HK := Aside0.mk (KeepBut.refl w g none)
 have HL := Aside0.mk hB.size
 clear hI
 have HW0 := Aside0.mk hB.size
 have HB := Aside0.mk hB
 clear hB
 have H : ((sB_rest.f s0_0 s0_1 s0_2).bind fun bt575 => ((strings_IndexByte.f bt575.1 a1).bind fun t579 => (if t579 < 0 then (sB_Until.j0 k (bt575.1.size : Int) bt575.2.1 bt575.2.2.1 bt575.2.2.2) else (sB_Until.j0 k t579 bt575.2.1 bt575.2.2.1 bt575.2.2.2)))) = some (r1, r2, r3, r4) := h
 clear h
 replace H := Option.bind_eq_some_iff.mp H
 obtain ⟨⟨t575, t576, t577, t578⟩, A30, H⟩ := H
 replace H : ((strings_IndexByte.f t575 a1).bind fun t579 => (if t579 < 0 then (sB_Until.j0 k (t575.size : Int) t576 t577 t578) else (sB_Until.j0 k t579 t576 t577 t578))) = some (r1, r2, r3, r4) := H
 have A3 := Aside0.mk A30
 clear A30
 replace H := Option.bind_eq_some_iff.mp H
 obtain ⟨t579, A40, H⟩ := H
 replace H : (if t579 < 0 then (sB_Until.j0 k (t575.size : Int) t576 t577 t578) else (sB_Until.j0 k t579 t576 t577 t578)) = some (r1, r2, r3, r4) := H
 have A4 := Aside0.mk A40
 clear A40
 have HC5 := Aside0.mk H
 clear H
 go_enter Try.func43, Try.ntmps43
 go_upto_if 13 with (first | ((with_reducible refine gate_callee (f := 60) rfl ?_); refine goesL_ (some 8) rfl rfl Try.func60 (by kernel_rfl) rfl #[.pointer (some ⟨g, 0, none⟩)] rfl zq1 ?_; (with_reducible refine (sB_rest.calls g s0_0 s0_1 s0_2 t575 t576 t577 t578 w0 _ ?side1 ?side2 A3.out).mono ?_); (case side1 => exact zq5); (case side2 => exact zq7); rintro e w6 ⟨rfl, hi, hb, hk⟩; refine ⟨_, rfl, ?_⟩; replace HK := Aside0.mk (KeepBut.trans zq3 hk (.inl rfl)); replace HB := Aside0.mk (hb); replace HI0 := Aside0.mk (hi); (try clear hb hk hi); (try clear hb2); (try simp only [errW_none, errW_some])) | ((with_reducible refine gate_callee (f := 51) rfl ?_); refine goesL_ (some 11) rfl rfl Try.func51 (by kernel_rfl) rfl #[.string t575, .int .u8 a1] rfl zq1 ?_; (with_reducible refine (strings_IndexByte.calls t575 a1 t579 _ A4.out).mono ?_); rintro e w' ⟨rfl, ⟨nd, rfl⟩⟩; refine ⟨_, rfl, ?_⟩))
 (try simp only [Act.put, sl_])
 go_cut [6] (fun v6 wc => ∃ (kq : Nat) (x6_4 : Int), v6 = .int .i64 x6_4 ∧ Aside0 (sB_Until.j0 kq x6_4 t576 t577 t578 = some (r1, r2, r3, r4)) ∧ Aside0 (kq ≤ k) ∧ Aside0 (IsS61 w0 wc g t576 t577 t578) ∧ Aside0 (KeepBut w wc g none) ∧ Aside0 (Below w0.heap.size w0 wc))
 case first =>
  have H := HC5.out
  clear HC5
  by_cases c7 : t579 < 0
  ·rw [if_pos c7] at H
   have c7b0 : decide (t579 < 0) = true := decide_eq_true c7
   clear c7
   (first | rw [c7b0] | (simp only [i64_w, i32_w]; rw [c7b0]) | skip)
   have H' := Aside0.mk H
   clear H
   go_wp2
   go_meet
   case rel => exact ⟨_, ((t575.size : Int)), zq9, H', ⟨zq53⟩, ⟨zq5⟩, ⟨zq3⟩, ⟨zq7⟩⟩
  ·rw [if_neg c7] at H
   have c7b0 : decide (t579 < 0) = false := decide_eq_false c7
   clear c7
   (first | rw [c7b0] | (simp only [i64_w, i32_w]; rw [c7b0]) | skip)
   have H' := Aside0.mk H
   clear H
   go_wp2
   go_meet
   case rel => exact ⟨_, (t579), zq9, H', ⟨zq53⟩, ⟨zq5⟩, ⟨zq3⟩, ⟨zq7⟩⟩
 case rest =>
  clear HC5
  try clear p2
  try clear c4
  try clear c5
  try clear c6
  try clear p6
  try clear c7
  try clear c7b0
  obtain ⟨kq, x6_4, rfl, HA, HJ4, HI0, HK, HB⟩ := hcut
  cases kq with
  | zero => exact absurd HA.out (by simp [sB_Until.j0])
  | succ kj4 =>
   have H := HA.out
   clear HA
   simp only [sB_Until.j0] at H
   replace H := Option.bind_eq_some_iff.mp H
   obtain ⟨⟨t580, t581, t582, t583⟩, A80, H⟩ := H
   replace H : (some (t580, t581, t582, t583)) = some (r1, r2, r3, r4) := H
   have A8 := Aside0.mk A80
   clear A80
   simp only [Option.some.injEq, Prod.mk.injEq] at H
   obtain ⟨rfl, rfl, rfl, rfl⟩ := H
   go_wp2_with (first | ((with_reducible refine gate_callee (f := 59) rfl ?_); refine goesL_ (some 18) rfl rfl Try.func59 (by kernel_rfl) rfl #[.pointer (some ⟨g, 0, none⟩), .int .i64 x6_4] rfl zq1 ?_; (with_reducible refine (sB_take.calls kj4 g t576 t577 t578 x6_4 t580 t581 t582 t583 w0 _ ?side1 ?side2 A8.out).mono ?_); (case side1 => exact zq5); (case side2 => exact zq7); rintro e w9 ⟨rfl, hi, hb, hk⟩; refine ⟨_, rfl, ?_⟩; replace HK := Aside0.mk (KeepBut.trans zq3 hk (.inl rfl)); replace HB := Aside0.mk (hb); replace HI0 := Aside0.mk (hi); (try clear hb hk hi); (try clear hb2); (try simp only [errW_none, errW_some])))
   go_ret
   exact ⟨zq8, zq5, zq7, zq3⟩

end Go.Proofs.Ytonjfggfcnpgbaa.MScanPlays
