-- This text was written by a program of this session (a changed scratch copy of a tool of the kit; NOTES.md tells the changes).
import Derived.Test.YtonjfggfcnpgbaaMScanPlaysx0
import Derived.Test.YtonjfggfcnpgbaaMScanPlaysx1
namespace Go.Proofs.Ytonjfggfcnpgbaa.MScanPlays
open Go.RowKit Go.Proofs.YtonjfggfcnpgbaaW.PrintWords Go.Proofs.YtonjfggfcnpgbaaW.PrintLast Go.Proofs.YtonjfggfcnpgbaaW.PrintMore
attribute [local go_sem] max2_int min2_int max_two min_two max_three min_three max_four min_four   -- for this text's walks alone
set_option linter.unusedVariables false
set_option linter.unusedSimpArgs false

-- NOT PRINTED: function 73 (bytealg_IndexByteString)

/-! ### stringslite_IndexByte: function 66 -/
def stringslite_IndexByte.f (a0 : ByteArray) (a1 : Int) : Option (Int) := some (idxb a0 a1)
set_option maxHeartbeats 8000000 in
set_option maxRecDepth 100000 in
theorem stringslite_IndexByte.calls (a0 : ByteArray) (a1 : Int) (r : Int) (w : World) (h : stringslite_IndexByte.f a0 a1 = some r) :
  Calls Try.prog 66 #[.string a0, .int .u8 a1] w fun e w' => e = .returned (.int .i64 r) ∧ Drawn0 w w' := by
 have H : (some (idxb a0 a1)) = some r := h
 clear h
 obtain rfl := Option.some.inj H
 go_enter Try.func66, Try.ntmps66
 go_wp2
 go_ret
 exact ⟨zq9, zq22⟩

/-! ### strings_IndexByte: function 51 -/
def strings_IndexByte.f (a0 : ByteArray) (a1 : Int) : Option (Int) := (stringslite_IndexByte.f a0 a1).bind fun t218 => (some t218)
set_option maxHeartbeats 8000000 in
set_option maxRecDepth 100000 in
theorem strings_IndexByte.calls (a0 : ByteArray) (a1 : Int) (r : Int) (w : World) (h : strings_IndexByte.f a0 a1 = some r) :
  Calls Try.prog 51 #[.string a0, .int .u8 a1] w fun e w' => e = .returned (.int .i64 r) ∧ Drawn0 w w' := by
 have H : ((stringslite_IndexByte.f a0 a1).bind fun t218 => (some t218)) = some r := h
 clear h
 replace H := Option.bind_eq_some_iff.mp H
 obtain ⟨t218, A30, H⟩ := H
 replace H : (some t218) = some r := H
 have A3 := Aside0.mk A30
 clear A30
 obtain rfl := Option.some.inj H
 go_enter Try.func51, Try.ntmps51
 go_wp2_with (first | ((with_reducible refine gate_callee (f := 66) rfl ?_); refine goesL_ (some 7) rfl rfl Try.func66 (by kernel_rfl) rfl #[.string a0, .int .u8 a1] rfl zq1 ?_; (with_reducible refine (stringslite_IndexByte.calls a0 a1 t218 _ A3.out).mono ?_); rintro e w' ⟨rfl, ⟨nd, rfl⟩⟩; refine ⟨_, rfl, ?_⟩))
 go_ret
 exact ⟨zq9, zq22⟩

/-! ### sS_Run: function 16 -/
mutual
def sS_Run.j1 : Nat → Int → ByteArray → Int → Option Int → Option (ByteArray × ByteArray × Int × Option Int)
 | 0, _, _, _, _ => none
 | k + 1, x6, x1000, x1001, x1002 => (sS_take.f k x1000 x1001 x1002 x6).bind fun bt224 => (some (bt224.1, bt224.2.1, bt224.2.2.1, bt224.2.2.2))
def sS_Run.l0 : Nat → ByteArray → ByteArray → Int → ByteArray → Int → Option Int → Option (ByteArray × ByteArray × Int × Option Int)
 | 0, _, _, _, _, _, _ => none
 | k + 1, x1, x5, x6, x1000, x1001, x1002 => if x6 < (x5.size : Int) then (if 0 ≤ x6 then ((strings_IndexByte.f x1 (bt x5 x6)).bind fun t223 => (if t223 ≥ 0 then (sS_Run.l0 k x1 x5 (wrap64 (x6 + 1)) x1000 x1001 x1002) else (sS_Run.j1 k x6 x1000 x1001 x1002))) else (none)) else (sS_Run.j1 k x6 x1000 x1001 x1002)
end
def sS_Run.f (k : Nat) (s0_0 : ByteArray) (s0_1 : Int) (s0_2 : Option Int) (a1 : ByteArray) : Option (ByteArray × ByteArray × Int × Option Int) := (sS_rest.f s0_0 s0_1 s0_2).bind fun bt219 => (sS_Run.l0 k a1 bt219.1 0 bt219.2.1 bt219.2.2.1 bt219.2.2.2)
set_option maxHeartbeats 8000000 in
set_option maxRecDepth 100000 in
theorem sS_Run.calls (k : Nat) (g : Nat) (s0_0 : ByteArray) (s0_1 : Int) (s0_2 : Option Int) (a1 : ByteArray) (r1 : ByteArray) (r2 : ByteArray) (r3 : Int) (r4 : Option Int) (w0 w : World) (hI : IsS60 w0 w g s0_0 s0_1 s0_2) (hB : Below w0.heap.size w0 w) (h : sS_Run.f k s0_0 s0_1 s0_2 a1 = some (r1, r2, r3, r4)) :
  Calls Try.prog 16 #[.pointer (some ⟨g, 0, none⟩), .string a1] w fun e w' => e = .returned (.string r1) ∧ IsS60 w0 w' g r2 r3 r4 ∧ Below w0.heap.size w0 w' ∧ KeepBut w w' g none := by
 have HI0 := Aside0.mk hI
 have HK := Aside0.mk (KeepBut.refl w g none)
 have HL := Aside0.mk hB.size
 clear hI
 have HW0 := Aside0.mk hB.size
 have HB := Aside0.mk hB
 clear hB
 have H : ((sS_rest.f s0_0 s0_1 s0_2).bind fun bt219 => (sS_Run.l0 k a1 bt219.1 0 bt219.2.1 bt219.2.2.1 bt219.2.2.2)) = some (r1, r2, r3, r4) := h
 clear h
 replace H := Option.bind_eq_some_iff.mp H
 obtain ⟨⟨t219, t220, t221, t222⟩, A30, H⟩ := H
 replace H : (sS_Run.l0 k a1 t219 0 t220 t221 t222) = some (r1, r2, r3, r4) := H
 have A3 := Aside0.mk A30
 clear A30
 have HC4 := Aside0.mk H
 clear H
 go_enter Try.func16, Try.ntmps16
 go_upto_block 0 with (first | ((with_reducible refine gate_callee (f := 50) rfl ?_); refine goesL_ (some 8) rfl rfl Try.func50 (by kernel_rfl) rfl #[.pointer (some ⟨g, 0, none⟩)] rfl zq1 ?_; (with_reducible refine (sS_rest.calls g s0_0 s0_1 s0_2 t219 t220 t221 t222 w0 _ ?side1 ?side2 A3.out).mono ?_); (case side1 => exact zq4); (case side2 => exact zq6); rintro e w5 ⟨rfl, hi, hb, hk⟩; refine ⟨_, rfl, ?_⟩; replace HK := Aside0.mk (KeepBut.trans zq3 hk (.inl rfl)); replace HB := Aside0.mk (hb); replace HI0 := Aside0.mk (hi); (try clear hb hk hi); (try clear hb2); (try simp only [errW_none, errW_some])))
 (try simp only [Act.put, sl_])
 go_cut [6] (fun v6 wc => ∃ (kq : Nat) (x6_3 : Int), v6 = .int .i64 x6_3 ∧ Aside0 (sS_Run.j1 kq x6_3 t220 t221 t222 = some (r1, r2, r3, r4)) ∧ Aside0 (kq ≤ k) ∧ Aside0 (IsS60 w0 wc g t220 t221 t222) ∧ Aside0 (KeepBut w wc g none) ∧ Aside0 (Below w0.heap.size w0 wc))
 case first =>
  have H := HC4.out
  clear HC4
  have H' := Aside0.mk H
  clear H
  go_wp2
  try simp only [Act.put, sl_]
  go_loopg [6] k (fun kq v6 w' => ∃ (x6_1 : Int), v6 = .int .i64 x6_1 ∧ Aside0 (sS_Run.l0 kq a1 t219 x6_1 t220 t221 t222 = some (r1, r2, r3, r4)) ∧ Aside0 (kq ≤ k) ∧ Aside0 (IsS60 w0 w' g t220 t221 t222) ∧ Aside0 (KeepBut w w' g none) ∧ Aside0 (Below w0.heap.size w0 w'))
  case atStart => exact ⟨(0), zq9, H', ⟨Nat.le_refl _⟩, ⟨zq4⟩, ⟨zq3⟩, ⟨zq6⟩⟩
  case round =>
   clear H'
   try clear c1
   try clear p2
   try clear c5
   obtain ⟨x6_1, rfl, HA, HK1, HI0, HK, HB⟩ := hrel
   cases gk with
   | zero => exact absurd HA.out (by simp [sS_Run.l0])
   | succ k1 =>
    have H := HA.out
    clear HA
    simp only [sS_Run.l0] at H
    by_cases c6 : x6_1 < (t219.size : Int)
    ·rw [if_pos c6] at H
     have c6b0 : decide (x6_1 < (t219.size : Int)) = true := decide_eq_true c6
     clear c6
     (first | rw [c6b0] | (simp only [i64_w, i32_w]; rw [c6b0]) | skip)
     by_cases c7 : 0 ≤ x6_1
     ·rw [if_pos c7] at H
      have c7b0 : decide (0 ≤ x6_1) = true := decide_eq_true c7
      clear c7
      replace H := Option.bind_eq_some_iff.mp H
      obtain ⟨t223, A90, H⟩ := H
      replace H : (if t223 ≥ 0 then (sS_Run.l0 k1 a1 t219 (wrap64 (x6_1 + 1)) t220 t221 t222) else (sS_Run.j1 k1 x6_1 t220 t221 t222)) = some (r1, r2, r3, r4) := H
      have A9 := Aside0.mk A90
      clear A90
      by_cases c10 : t223 ≥ 0
      ·rw [if_pos c10] at H
       have c10b0 : decide (0 ≤ t223) = true := decide_eq_true c10
       clear c10
       have H' := Aside0.mk H
       clear H
       have p8 : 0 ≤ (x6_1 : Int) := of_decide_eq_true zq10
       have q8 : x6_1 < (t219.size : Int) := of_decide_eq_true zq10
       have hx8 := bt_at t219 x6_1
       replace p8 := eq_true p8
       replace q8 := eq_true q8
       go_wp2_with (first | (go_at_call 51; (with_reducible refine (strings_IndexByte.calls a1 (bt t219 x6_1) t223 _ A9.out).mono ?_); rintro e w' ⟨rfl, ⟨nd, rfl⟩⟩))
       go_roundg k1
       case measure => have := HK1.out; omega
       case rel => exact ⟨(wrap64 (x6_1 + 1)), zq9, H', ⟨by have := HK1.out; omega⟩, ⟨zq4⟩, ⟨zq3⟩, ⟨zq6⟩⟩
      ·rw [if_neg c10] at H
       have c10b0 : decide (0 ≤ t223) = false := decide_eq_false c10
       clear c10
       have H' := Aside0.mk H
       clear H
       have p8 : 0 ≤ (x6_1 : Int) := of_decide_eq_true zq10
       have q8 : x6_1 < (t219.size : Int) := of_decide_eq_true zq10
       have hx8 := bt_at t219 x6_1
       replace p8 := eq_true p8
       replace q8 := eq_true q8
       go_wp2_with (first | (go_at_call 51; (with_reducible refine (strings_IndexByte.calls a1 (bt t219 x6_1) t223 _ A9.out).mono ?_); rintro e w' ⟨rfl, ⟨nd, rfl⟩⟩))
       go_meet
       case rel => exact ⟨_, (x6_1), zq9, H', ⟨zq76⟩, ⟨zq4⟩, ⟨zq3⟩, ⟨zq6⟩⟩
     ·rw [if_neg c7] at H
      exact absurd H (by simp)
    ·rw [if_neg c6] at H
     have c6b0 : decide (x6_1 < (t219.size : Int)) = false := decide_eq_false c6
     clear c6
     (first | rw [c6b0] | (simp only [i64_w, i32_w]; rw [c6b0]) | skip)
     have H' := Aside0.mk H
     clear H
     go_wp2
     go_meet
     case rel => exact ⟨_, (x6_1), zq9, H', ⟨zq76⟩, ⟨zq4⟩, ⟨zq3⟩, ⟨zq6⟩⟩
 case rest =>
  clear HC4
  try clear c1
  try clear p2
  try clear c5
  try clear c6
  try clear c6b0
  try clear p6
  try clear c7
  try clear c7b0
  try clear p8
  try clear q8
  try clear hx8
  try clear c10
  try clear c10b0
  try clear p2
  try clear p8
  try clear q8
  obtain ⟨kq, x6_3, rfl, HA, HJ3, HI0, HK, HB⟩ := hcut
  cases kq with
  | zero => exact absurd HA.out (by simp [sS_Run.j1])
  | succ kj3 =>
   have H := HA.out
   clear HA
   simp only [sS_Run.j1] at H
   replace H := Option.bind_eq_some_iff.mp H
   obtain ⟨⟨t224, t225, t226, t227⟩, A110, H⟩ := H
   replace H : (some (t224, t225, t226, t227)) = some (r1, r2, r3, r4) := H
   have A11 := Aside0.mk A110
   clear A110
   simp only [Option.some.injEq, Prod.mk.injEq] at H
   obtain ⟨rfl, rfl, rfl, rfl⟩ := H
   go_wp2_with (first | ((with_reducible refine gate_callee (f := 52) rfl ?_); refine goesL_ (some 25) rfl rfl Try.func52 (by kernel_rfl) rfl #[.pointer (some ⟨g, 0, none⟩), .int .i64 x6_3] rfl zq1 ?_; (with_reducible refine (sS_take.calls kj3 g t220 t221 t222 x6_3 t224 t225 t226 t227 w0 _ ?side1 ?side2 A11.out).mono ?_); (case side1 => exact zq4); (case side2 => exact zq6); rintro e w12 ⟨rfl, hi, hb, hk⟩; refine ⟨_, rfl, ?_⟩; replace HK := Aside0.mk (KeepBut.trans zq3 hk (.inl rfl)); replace HB := Aside0.mk (hb); replace HI0 := Aside0.mk (hi); (try clear hb hk hi); (try clear hb2); (try simp only [errW_none, errW_some])))
   go_ret
   exact ⟨zq8, zq4, zq6, zq3⟩

/-! ### sS_Until: function 17 -/
def sS_Until.j0 : Nat → Int → ByteArray → Int → Option Int → Option (ByteArray × ByteArray × Int × Option Int)
 | 0, _, _, _, _ => none
 | k + 1, x6, x1000, x1001, x1002 => (sS_take.f k x1000 x1001 x1002 x6).bind fun bt233 => (some (bt233.1, bt233.2.1, bt233.2.2.1, bt233.2.2.2))
def sS_Until.f (k : Nat) (s0_0 : ByteArray) (s0_1 : Int) (s0_2 : Option Int) (a1 : Int) : Option (ByteArray × ByteArray × Int × Option Int) := (sS_rest.f s0_0 s0_1 s0_2).bind fun bt228 => ((strings_IndexByte.f bt228.1 a1).bind fun t232 => (if t232 < 0 then (sS_Until.j0 k (bt228.1.size : Int) bt228.2.1 bt228.2.2.1 bt228.2.2.2) else (sS_Until.j0 k t232 bt228.2.1 bt228.2.2.1 bt228.2.2.2)))
set_option maxHeartbeats 8000000 in
set_option maxRecDepth 100000 in
theorem sS_Until.calls (k : Nat) (g : Nat) (s0_0 : ByteArray) (s0_1 : Int) (s0_2 : Option Int) (a1 : Int) (r1 : ByteArray) (r2 : ByteArray) (r3 : Int) (r4 : Option Int) (w0 w : World) (hI : IsS60 w0 w g s0_0 s0_1 s0_2) (hB : Below w0.heap.size w0 w) (h : sS_Until.f k s0_0 s0_1 s0_2 a1 = some (r1, r2, r3, r4)) :
  Calls Try.prog 17 #[.pointer (some ⟨g, 0, none⟩), .int .u8 a1] w fun e w' => e = .returned (.string r1) ∧ IsS60 w0 w' g r2 r3 r4 ∧ Below w0.heap.size w0 w' ∧ KeepBut w w' g none := by
 have HI0 := Aside0.mk hI
 have HK := Aside0.mk (KeepBut.refl w g none)
 have HL := Aside0.mk hB.size
 clear hI
 have HW0 := Aside0.mk hB.size
 have HB := Aside0.mk hB
 clear hB
 have H : ((sS_rest.f s0_0 s0_1 s0_2).bind fun bt228 => ((strings_IndexByte.f bt228.1 a1).bind fun t232 => (if t232 < 0 then (sS_Until.j0 k (bt228.1.size : Int) bt228.2.1 bt228.2.2.1 bt228.2.2.2) else (sS_Until.j0 k t232 bt228.2.1 bt228.2.2.1 bt228.2.2.2)))) = some (r1, r2, r3, r4) := h
 clear h
 replace H := Option.bind_eq_some_iff.mp H
 obtain ⟨⟨t228, t229, t230, t231⟩, A30, H⟩ := H
 replace H : ((strings_IndexByte.f t228 a1).bind fun t232 => (if t232 < 0 then (sS_Until.j0 k (t228.size : Int) t229 t230 t231) else (sS_Until.j0 k t232 t229 t230 t231))) = some (r1, r2, r3, r4) := H
 have A3 := Aside0.mk A30
 clear A30
 replace H := Option.bind_eq_some_iff.mp H
 obtain ⟨t232, A40, H⟩ := H
 replace H : (if t232 < 0 then (sS_Until.j0 k (t228.size : Int) t229 t230 t231) else (sS_Until.j0 k t232 t229 t230 t231)) = some (r1, r2, r3, r4) := H
 have A4 := Aside0.mk A40
 clear A40
 have HC5 := Aside0.mk H
 clear H
 go_enter Try.func17, Try.ntmps17
 go_upto_if 13 with (first | ((with_reducible refine gate_callee (f := 50) rfl ?_); refine goesL_ (some 8) rfl rfl Try.func50 (by kernel_rfl) rfl #[.pointer (some ⟨g, 0, none⟩)] rfl zq1 ?_; (with_reducible refine (sS_rest.calls g s0_0 s0_1 s0_2 t228 t229 t230 t231 w0 _ ?side1 ?side2 A3.out).mono ?_); (case side1 => exact zq4); (case side2 => exact zq6); rintro e w6 ⟨rfl, hi, hb, hk⟩; refine ⟨_, rfl, ?_⟩; replace HK := Aside0.mk (KeepBut.trans zq3 hk (.inl rfl)); replace HB := Aside0.mk (hb); replace HI0 := Aside0.mk (hi); (try clear hb hk hi); (try clear hb2); (try simp only [errW_none, errW_some])) | ((with_reducible refine gate_callee (f := 51) rfl ?_); refine goesL_ (some 11) rfl rfl Try.func51 (by kernel_rfl) rfl #[.string t228, .int .u8 a1] rfl zq1 ?_; (with_reducible refine (strings_IndexByte.calls t228 a1 t232 _ A4.out).mono ?_); rintro e w' ⟨rfl, ⟨nd, rfl⟩⟩; refine ⟨_, rfl, ?_⟩))
 (try simp only [Act.put, sl_])
 go_cut [6] (fun v6 wc => ∃ (kq : Nat) (x6_4 : Int), v6 = .int .i64 x6_4 ∧ Aside0 (sS_Until.j0 kq x6_4 t229 t230 t231 = some (r1, r2, r3, r4)) ∧ Aside0 (kq ≤ k) ∧ Aside0 (IsS60 w0 wc g t229 t230 t231) ∧ Aside0 (KeepBut w wc g none) ∧ Aside0 (Below w0.heap.size w0 wc))
 case first =>
  have H := HC5.out
  clear HC5
  by_cases c7 : t232 < 0
  ·rw [if_pos c7] at H
   have c7b0 : decide (t232 < 0) = true := decide_eq_true c7
   clear c7
   (first | rw [c7b0] | (simp only [i64_w, i32_w]; rw [c7b0]) | skip)
   have H' := Aside0.mk H
   clear H
   go_wp2
   go_meet
   case rel => exact ⟨_, ((t228.size : Int)), zq9, H', ⟨zq53⟩, ⟨zq4⟩, ⟨zq3⟩, ⟨zq6⟩⟩
  ·rw [if_neg c7] at H
   have c7b0 : decide (t232 < 0) = false := decide_eq_false c7
   clear c7
   (first | rw [c7b0] | (simp only [i64_w, i32_w]; rw [c7b0]) | skip)
   have H' := Aside0.mk H
   clear H
   go_wp2
   go_meet
   case rel => exact ⟨_, (t232), zq9, H', ⟨zq53⟩, ⟨zq4⟩, ⟨zq3⟩, ⟨zq6⟩⟩
 case rest =>
  clear HC5
  try clear c1
  try clear p2
  try clear c5
  try clear p6
  try clear c7
  try clear c7b0
  obtain ⟨kq, x6_4, rfl, HA, HJ4, HI0, HK, HB⟩ := hcut
  cases kq with
  | zero => exact absurd HA.out (by simp [sS_Until.j0])
  | succ kj4 =>
   have H := HA.out
   clear HA
   simp only [sS_Until.j0] at H
   replace H := Option.bind_eq_some_iff.mp H
   obtain ⟨⟨t233, t234, t235, t236⟩, A80, H⟩ := H
   replace H : (some (t233, t234, t235, t236)) = some (r1, r2, r3, r4) := H
   have A8 := Aside0.mk A80
   clear A80
   simp only [Option.some.injEq, Prod.mk.injEq] at H
   obtain ⟨rfl, rfl, rfl, rfl⟩ := H
   go_wp2_with (first | ((with_reducible refine gate_callee (f := 52) rfl ?_); refine goesL_ (some 18) rfl rfl Try.func52 (by kernel_rfl) rfl #[.pointer (some ⟨g, 0, none⟩), .int .i64 x6_4] rfl zq1 ?_; (with_reducible refine (sS_take.calls kj4 g t229 t230 t231 x6_4 t233 t234 t235 t236 w0 _ ?side1 ?side2 A8.out).mono ?_); (case side1 => exact zq4); (case side2 => exact zq6); rintro e w9 ⟨rfl, hi, hb, hk⟩; refine ⟨_, rfl, ?_⟩; replace HK := Aside0.mk (KeepBut.trans zq3 hk (.inl rfl)); replace HB := Aside0.mk (hb); replace HI0 := Aside0.mk (hi); (try clear hb hk hi); (try clear hb2); (try simp only [errW_none, errW_some])))
   go_ret
   exact ⟨zq8, zq4, zq6, zq3⟩

/-! ### sS_Fail: function 21 -/
def sS_Fail.f (s0_0 : ByteArray) (s0_1 : Int) (s0_2 : Option Int) (a1 : Option Int) : Option (ByteArray × Int × Option Int) := (sS_going.f s0_0 s0_1 s0_2).bind fun bt237 => (if bt237.1 = true then (if a1.isNone = true then (some (bt237.2.1, bt237.2.2.1, none)) else (some (bt237.2.1, bt237.2.2.1, some (a1.getD 0)))) else (some (bt237.2.1, bt237.2.2.1, bt237.2.2.2)))
set_option maxHeartbeats 8000000 in
set_option maxRecDepth 100000 in
theorem sS_Fail.calls (g : Nat) (s0_0 : ByteArray) (s0_1 : Int) (s0_2 : Option Int) (a1 : Option Int) (r1 : ByteArray) (r2 : Int) (r3 : Option Int) (w0 w : World) (hI : IsS60 w0 w g s0_0 s0_1 s0_2) (hB : Below w0.heap.size w0 w) (h : sS_Fail.f s0_0 s0_1 s0_2 a1 = some (r1, r2, r3)) :
  Calls Try.prog 21 #[.pointer (some ⟨g, 0, none⟩), errW a1] w fun e w' => e = .returned (.tuple #[]) ∧ IsS60 w0 w' g r1 r2 r3 ∧ Below w0.heap.size w0 w' ∧ KeepBut w w' g none := by
 have HI0 := Aside0.mk hI
 have HK := Aside0.mk (KeepBut.refl w g none)
 have HL := Aside0.mk hB.size
 clear hI
 have HW0 := Aside0.mk hB.size
 have HB := Aside0.mk hB
 clear hB
 have H : ((sS_going.f s0_0 s0_1 s0_2).bind fun bt237 => (if bt237.1 = true then (if a1.isNone = true then (some (bt237.2.1, bt237.2.2.1, none)) else (some (bt237.2.1, bt237.2.2.1, some (a1.getD 0)))) else (some (bt237.2.1, bt237.2.2.1, bt237.2.2.2)))) = some (r1, r2, r3) := h
 clear h
 replace H := Option.bind_eq_some_iff.mp H
 obtain ⟨⟨t237, t238, t239, t240⟩, A30, H⟩ := H
 replace H : (if t237 = true then (if a1.isNone = true then (some (t238, t239, none)) else (some (t238, t239, some (a1.getD 0)))) else (some (t238, t239, t240))) = some (r1, r2, r3) := H
 have A3 := Aside0.mk A30
 clear A30
 by_cases c4 : t237 = true
 ·subst c4
  have H1 : (if a1.isNone = true then (some (t238, t239, none)) else (some (t238, t239, some (a1.getD 0)))) = some (r1, r2, r3) := by rw [if_pos rfl] at H; exact H
  clear H
  have H := H1
  clear H1
  rcases a1 with _ | q241
  ·have H1 : (some (t238, t239, none)) = some (r1, r2, r3) := by rw [if_pos (show (none : Option Int).isNone = true by rfl)] at H; exact H
   clear H
   have H := H1
   clear H1
   simp only [errW_none, errW_some]
   simp only [Option.some.injEq, Prod.mk.injEq] at H
   obtain ⟨rfl, rfl, rfl⟩ := H
   go_enter Try.func21, Try.ntmps21
   go_wp2_with (first | ((with_reducible refine gate_callee (f := 53) rfl ?_); refine goesL_ (some 5) rfl rfl Try.func53 (by kernel_rfl) rfl #[.pointer (some ⟨g, 0, none⟩)] rfl zq1 ?_; (with_reducible refine (sS_going.calls g s0_0 s0_1 s0_2 true t238 t239 t240 w0 _ ?side1 ?side2 A3.out).mono ?_); (case side1 => exact zq4); (case side2 => exact zq6); rintro e w5 ⟨rfl, hi, hb, hk⟩; refine ⟨_, rfl, ?_⟩; replace HK := Aside0.mk (KeepBut.trans zq3 hk (.inl rfl)); replace HB := Aside0.mk (hb); replace HI0 := Aside0.mk (hi); (try clear hb hk hi); (try clear hb2); (try simp only [errW_none, errW_some]); obtain ⟨HGz6, hgz6⟩ := HI0.out; have hcz6_0 := cellS60_0 HGz6; have hcz6_1 := cellS60_1 HGz6; have hcz6_2 := cellS60_2 HGz6; have hfz6_0 := blk_frozen HGz6 0; have hfz6_1 := blk_frozen HGz6 1; have hfz6_2 := blk_frozen HGz6 2; try simp only [errW_none, errW_some] at hcz6_2; clear HGz6 hgz6))
   first | go_end0 | ((try simp only [Exit.inBlock, Exit.then]); refine bodyPost_ret (results_none rfl _ _ _) rfl ?_)
   exact ⟨zq8, zq4, zq6, zq3⟩
  ·have H1 : (some (t238, t239, some q241)) = some (r1, r2, r3) := by rw [if_neg (show ¬ (some q241).isNone = true by simp)] at H; exact H
   clear H
   have H := H1
   clear H1
   simp only [errW_none, errW_some]
   simp only [Option.some.injEq, Prod.mk.injEq] at H
   obtain ⟨rfl, rfl, rfl⟩ := H
   go_enter Try.func21, Try.ntmps21
   go_wp2_with (first | ((with_reducible refine gate_callee (f := 53) rfl ?_); refine goesL_ (some 5) rfl rfl Try.func53 (by kernel_rfl) rfl #[.pointer (some ⟨g, 0, none⟩)] rfl zq1 ?_; (with_reducible refine (sS_going.calls g s0_0 s0_1 s0_2 true t238 t239 t240 w0 _ ?side1 ?side2 A3.out).mono ?_); (case side1 => exact zq4); (case side2 => exact zq6); rintro e w7 ⟨rfl, hi, hb, hk⟩; refine ⟨_, rfl, ?_⟩; replace HK := Aside0.mk (KeepBut.trans zq3 hk (.inl rfl)); replace HB := Aside0.mk (hb); replace HI0 := Aside0.mk (hi); (try clear hb hk hi); (try clear hb2); (try simp only [errW_none, errW_some]); obtain ⟨HGz8, hgz8⟩ := HI0.out; have hcz8_0 := cellS60_0 HGz8; have hcz8_1 := cellS60_1 HGz8; have hcz8_2 := cellS60_2 HGz8; have hfz8_0 := blk_frozen HGz8 0; have hfz8_1 := blk_frozen HGz8 1; have hfz8_2 := blk_frozen HGz8 2; try simp only [errW_none, errW_some] at hcz8_2; clear HGz8 hgz8))
   first | go_end0 | ((try simp only [Exit.inBlock, Exit.then]); refine bodyPost_ret (results_none rfl _ _ _) rfl ?_)
   exact ⟨zq8, zq4, zq6, zq3⟩
 ·replace c4 := Bool.eq_false_iff.mpr c4
  subst c4
  have H1 : (some (t238, t239, t240)) = some (r1, r2, r3) := by rw [if_neg (show ¬ (false = true) by decide)] at H; exact H
  clear H
  have H := H1
  clear H1
  simp only [Option.some.injEq, Prod.mk.injEq] at H
  obtain ⟨rfl, rfl, rfl⟩ := H
  go_enter Try.func21, Try.ntmps21
  go_wp2_with (first | ((with_reducible refine gate_callee (f := 53) rfl ?_); refine goesL_ (some 5) rfl rfl Try.func53 (by kernel_rfl) rfl #[.pointer (some ⟨g, 0, none⟩)] rfl zq1 ?_; (with_reducible refine (sS_going.calls g s0_0 s0_1 s0_2 false t238 t239 t240 w0 _ ?side1 ?side2 A3.out).mono ?_); (case side1 => exact zq4); (case side2 => exact zq6); rintro e w9 ⟨rfl, hi, hb, hk⟩; refine ⟨_, rfl, ?_⟩; replace HK := Aside0.mk (KeepBut.trans zq3 hk (.inl rfl)); replace HB := Aside0.mk (hb); replace HI0 := Aside0.mk (hi); (try clear hb hk hi); (try clear hb2); (try simp only [errW_none, errW_some])))
  first | go_end0 | ((try simp only [Exit.inBlock, Exit.then]); refine bodyPost_ret (results_none rfl _ _ _) rfl ?_)
  exact ⟨zq8, zq4, zq6, zq3⟩

/-! ### scan_small: function 68 -/
def scan_small.f (a0 : Int) : Option (Int) := if a0 ≥ 65 then (if a0 ≤ 90 then (some (((a0 - 65) + 97) % 256)) else (some a0)) else (some a0)
set_option maxHeartbeats 8000000 in
set_option maxRecDepth 100000 in
theorem scan_small.calls (a0 : Int) (r : Int) (w : World) (h : scan_small.f a0 = some r) :
  Calls Try.prog 68 #[.int .u8 a0] w fun e w' => e = .returned (.int .u8 r) ∧ Drawn0 w w' := by
 have H : (if a0 ≥ 65 then (if a0 ≤ 90 then (some (((a0 - 65) + 97) % 256)) else (some a0)) else (some a0)) = some r := h
 clear h
 by_cases c2 : a0 ≥ 65
 ·rw [if_pos c2] at H
  have c2b0 : decide (65 ≤ a0) = true := decide_eq_true c2
  clear c2
  by_cases c3 : a0 ≤ 90
  ·rw [if_pos c3] at H
   have c3b0 : decide (a0 ≤ 90) = true := decide_eq_true c3
   clear c3
   obtain rfl := Option.some.inj H
   go_enter Try.func68, Try.ntmps68
   go_wp2
   go_ret
   exact ⟨zq9, zq22⟩
  ·rw [if_neg c3] at H
   have c3b0 : decide (a0 ≤ 90) = false := decide_eq_false c3
   clear c3
   obtain rfl := Option.some.inj H
   go_enter Try.func68, Try.ntmps68
   go_wp2
   go_ret
   exact ⟨zq9, zq22⟩
 ·rw [if_neg c2] at H
  have c2b0 : decide (65 ≤ a0) = false := decide_eq_false c2
  clear c2
  obtain rfl := Option.some.inj H
  go_enter Try.func68, Try.ntmps68
  go_wp2
  go_ret
  exact ⟨zq9, zq22⟩

/-! ### scan_alike: function 54 -/
def scan_alike.l0 : Nat → ByteArray → ByteArray → Int → Int → Option (Bool)
 | 0, _, _, _, _ => none
 | k + 1, x0, x1, x7, x8 => if x8 < x7 then (if 0 ≤ x8 then (if x8 < (x0.size : Int) then ((scan_small.f (bt x0 x8)).bind fun t242 => (if x8 < (x1.size : Int) then ((scan_small.f (bt x1 x8)).bind fun t243 => (if t242 = t243 then (scan_alike.l0 k x0 x1 x7 (wrap64 (x8 + 1))) else (some false))) else (none))) else (none)) else (none)) else (some true)
def scan_alike.f (k : Nat) (a0 : ByteArray) (a1 : ByteArray) : Option (Bool) := scan_alike.l0 k a0 a1 (a0.size : Int) 0
set_option maxHeartbeats 8000000 in
set_option maxRecDepth 100000 in
theorem scan_alike.calls (k : Nat) (a0 : ByteArray) (a1 : ByteArray) (r : Bool) (w : World) (h : scan_alike.f k a0 a1 = some r) :
  Calls Try.prog 54 #[.string a0, .string a1] w fun e w' => e = .returned (.bool r) ∧ Drawn0 w w' := by
 have H : (scan_alike.l0 k a0 a1 (a0.size : Int) 0) = some r := h
 clear h
 have H' := Aside0.mk H
 clear H
 go_enter Try.func54, Try.ntmps54
 go_wp2
 repeat (go_quiet (fail); try go_wp2)
 try simp only [Act.put, sl_]
 go_loopg [8] k (fun kq v8 w' => ∃ (x8_1 : Int), v8 = .int .i64 x8_1 ∧ Aside0 (scan_alike.l0 kq a0 a1 (a0.size : Int) x8_1 = some r) ∧ Aside0 (kq ≤ k) ∧ Drawn0 w w')
 case atStart => exact ⟨(0), zq9, H', ⟨Nat.le_refl _⟩, zq22⟩
 case round =>
  clear H'
  try clear p2
  obtain ⟨x8_1, rfl, HA, HK1, ⟨m1, rfl⟩⟩ := hrel
  cases gk with
  | zero => exact absurd HA.out (by simp [scan_alike.l0])
  | succ k1 =>
   have H := HA.out
   clear HA
   simp only [scan_alike.l0] at H
   by_cases c3 : x8_1 < (a0.size : Int)
   ·rw [if_pos c3] at H
    have c3b0 : decide (x8_1 < (a0.size : Int)) = true := decide_eq_true c3
    clear c3
    by_cases c4 : 0 ≤ x8_1
    ·rw [if_pos c4] at H
     have c4b0 : decide (0 ≤ x8_1) = true := decide_eq_true c4
     clear c4
     by_cases c5 : x8_1 < (a0.size : Int)
     ·rw [if_pos c5] at H
      have c5b0 : decide (x8_1 < (a0.size : Int)) = true := decide_eq_true c5
      clear c5
      replace H := Option.bind_eq_some_iff.mp H
      obtain ⟨t242, A70, H⟩ := H
      replace H : (if x8_1 < (a1.size : Int) then ((scan_small.f (bt a1 x8_1)).bind fun t243 => (if t242 = t243 then (scan_alike.l0 k1 a0 a1 (a0.size : Int) (wrap64 (x8_1 + 1))) else (some false))) else (none)) = some r := H
      have A7 := Aside0.mk A70
      clear A70
      by_cases c8 : x8_1 < (a1.size : Int)
      ·rw [if_pos c8] at H
       have c8b0 : decide (x8_1 < (a1.size : Int)) = true := decide_eq_true c8
       clear c8
       replace H := Option.bind_eq_some_iff.mp H
       obtain ⟨t243, A100, H⟩ := H
       replace H : (if t242 = t243 then (scan_alike.l0 k1 a0 a1 (a0.size : Int) (wrap64 (x8_1 + 1))) else (some false)) = some r := H
       have A10 := Aside0.mk A100
       clear A100
       by_cases c11 : t242 = t243
       ·rw [if_pos c11] at H
        have c11b0 : (t242 == t243) = true := beq_iff_eq.mpr c11
        have c11b1 : (t242 != t243) = false := bne_eq_false_iff_eq.mpr c11
        clear c11
        have H' := Aside0.mk H
        clear H
        have p6 : 0 ≤ (x8_1 : Int) := of_decide_eq_true zq10
        have q6 : x8_1 < (a0.size : Int) := of_decide_eq_true zq10
        have hx6 := bt_at a0 x8_1
        replace p6 := eq_true p6
        replace q6 := eq_true q6
        go_wp2_with (first | (go_at_call 68; (with_reducible refine (scan_small.calls (bt a0 x8_1) t242 _ A7.out).mono ?_); rintro e w' ⟨rfl, ⟨nd, rfl⟩⟩; (try first | exact ⟨rfl, _, World.drewN_drewN _ _ _⟩ | exact ⟨rfl, _, Eq.trans (World.drewN_drewN _ _ _) (congrArg (World.drewN _) (Nat.add_assoc _ _ _))⟩); have p9 : 0 ≤ (x8_1 : Int) := of_decide_eq_true zq10; have q9 : x8_1 < (a1.size : Int) := of_decide_eq_true zq10; have hx9 := bt_at a1 x8_1; replace p9 := eq_true p9; replace q9 := eq_true q9) | (go_at_call 68; (with_reducible refine (scan_small.calls (bt a1 x8_1) t243 _ A10.out).mono ?_); rintro e w' ⟨rfl, ⟨nd, rfl⟩⟩; (try first | exact ⟨rfl, _, World.drewN_drewN _ _ _⟩ | exact ⟨rfl, _, Eq.trans (World.drewN_drewN _ _ _) (congrArg (World.drewN _) (Nat.add_assoc _ _ _))⟩)))
        repeat (go_quiet (first | (go_at_call 68; (with_reducible refine (scan_small.calls (bt a0 x8_1) t242 _ A7.out).mono ?_); rintro e w' ⟨rfl, ⟨nd, rfl⟩⟩; (try first | exact ⟨rfl, _, World.drewN_drewN _ _ _⟩ | exact ⟨rfl, _, Eq.trans (World.drewN_drewN _ _ _) (congrArg (World.drewN _) (Nat.add_assoc _ _ _))⟩); have p9 : 0 ≤ (x8_1 : Int) := of_decide_eq_true zq10; have q9 : x8_1 < (a1.size : Int) := of_decide_eq_true zq10; have hx9 := bt_at a1 x8_1; replace p9 := eq_true p9; replace q9 := eq_true q9) | (go_at_call 68; (with_reducible refine (scan_small.calls (bt a1 x8_1) t243 _ A10.out).mono ?_); rintro e w' ⟨rfl, ⟨nd, rfl⟩⟩; (try first | exact ⟨rfl, _, World.drewN_drewN _ _ _⟩ | exact ⟨rfl, _, Eq.trans (World.drewN_drewN _ _ _) (congrArg (World.drewN _) (Nat.add_assoc _ _ _))⟩))); try go_wp2_with (first | (go_at_call 68; (with_reducible refine (scan_small.calls (bt a0 x8_1) t242 _ A7.out).mono ?_); rintro e w' ⟨rfl, ⟨nd, rfl⟩⟩; (try first | exact ⟨rfl, _, World.drewN_drewN _ _ _⟩ | exact ⟨rfl, _, Eq.trans (World.drewN_drewN _ _ _) (congrArg (World.drewN _) (Nat.add_assoc _ _ _))⟩); have p9 : 0 ≤ (x8_1 : Int) := of_decide_eq_true zq10; have q9 : x8_1 < (a1.size : Int) := of_decide_eq_true zq10; have hx9 := bt_at a1 x8_1; replace p9 := eq_true p9; replace q9 := eq_true q9) | (go_at_call 68; (with_reducible refine (scan_small.calls (bt a1 x8_1) t243 _ A10.out).mono ?_); rintro e w' ⟨rfl, ⟨nd, rfl⟩⟩; (try first | exact ⟨rfl, _, World.drewN_drewN _ _ _⟩ | exact ⟨rfl, _, Eq.trans (World.drewN_drewN _ _ _) (congrArg (World.drewN _) (Nat.add_assoc _ _ _))⟩))))
        go_roundg k1
        case measure => have := HK1.out; omega
        case rel => exact ⟨(wrap64 (x8_1 + 1)), zq9, H', ⟨by have := HK1.out; omega⟩, zq22⟩
       ·rw [if_neg c11] at H
        have c11b0 : (t242 == t243) = false := beq_eq_false_iff_ne.mpr c11
        have c11b1 : (t242 != t243) = true := bne_iff_ne.mpr c11
        obtain rfl := Option.some.inj H
        have p6 : 0 ≤ (x8_1 : Int) := of_decide_eq_true zq10
        have q6 : x8_1 < (a0.size : Int) := of_decide_eq_true zq10
        have hx6 := bt_at a0 x8_1
        replace p6 := eq_true p6
        replace q6 := eq_true q6
        go_wp2_with (first | (go_at_call 68; (with_reducible refine (scan_small.calls (bt a0 x8_1) t242 _ A7.out).mono ?_); rintro e w' ⟨rfl, ⟨nd, rfl⟩⟩; (try first | exact ⟨rfl, _, World.drewN_drewN _ _ _⟩ | exact ⟨rfl, _, Eq.trans (World.drewN_drewN _ _ _) (congrArg (World.drewN _) (Nat.add_assoc _ _ _))⟩); have p9 : 0 ≤ (x8_1 : Int) := of_decide_eq_true zq10; have q9 : x8_1 < (a1.size : Int) := of_decide_eq_true zq10; have hx9 := bt_at a1 x8_1; replace p9 := eq_true p9; replace q9 := eq_true q9) | (go_at_call 68; (with_reducible refine (scan_small.calls (bt a1 x8_1) t243 _ A10.out).mono ?_); rintro e w' ⟨rfl, ⟨nd, rfl⟩⟩; (try first | exact ⟨rfl, _, World.drewN_drewN _ _ _⟩ | exact ⟨rfl, _, Eq.trans (World.drewN_drewN _ _ _) (congrArg (World.drewN _) (Nat.add_assoc _ _ _))⟩)))
        repeat (go_quiet (first | (go_at_call 68; (with_reducible refine (scan_small.calls (bt a0 x8_1) t242 _ A7.out).mono ?_); rintro e w' ⟨rfl, ⟨nd, rfl⟩⟩; (try first | exact ⟨rfl, _, World.drewN_drewN _ _ _⟩ | exact ⟨rfl, _, Eq.trans (World.drewN_drewN _ _ _) (congrArg (World.drewN _) (Nat.add_assoc _ _ _))⟩); have p9 : 0 ≤ (x8_1 : Int) := of_decide_eq_true zq10; have q9 : x8_1 < (a1.size : Int) := of_decide_eq_true zq10; have hx9 := bt_at a1 x8_1; replace p9 := eq_true p9; replace q9 := eq_true q9) | (go_at_call 68; (with_reducible refine (scan_small.calls (bt a1 x8_1) t243 _ A10.out).mono ?_); rintro e w' ⟨rfl, ⟨nd, rfl⟩⟩; (try first | exact ⟨rfl, _, World.drewN_drewN _ _ _⟩ | exact ⟨rfl, _, Eq.trans (World.drewN_drewN _ _ _) (congrArg (World.drewN _) (Nat.add_assoc _ _ _))⟩))); try go_wp2_with (first | (go_at_call 68; (with_reducible refine (scan_small.calls (bt a0 x8_1) t242 _ A7.out).mono ?_); rintro e w' ⟨rfl, ⟨nd, rfl⟩⟩; (try first | exact ⟨rfl, _, World.drewN_drewN _ _ _⟩ | exact ⟨rfl, _, Eq.trans (World.drewN_drewN _ _ _) (congrArg (World.drewN _) (Nat.add_assoc _ _ _))⟩); have p9 : 0 ≤ (x8_1 : Int) := of_decide_eq_true zq10; have q9 : x8_1 < (a1.size : Int) := of_decide_eq_true zq10; have hx9 := bt_at a1 x8_1; replace p9 := eq_true p9; replace q9 := eq_true q9) | (go_at_call 68; (with_reducible refine (scan_small.calls (bt a1 x8_1) t243 _ A10.out).mono ?_); rintro e w' ⟨rfl, ⟨nd, rfl⟩⟩; (try first | exact ⟨rfl, _, World.drewN_drewN _ _ _⟩ | exact ⟨rfl, _, Eq.trans (World.drewN_drewN _ _ _) (congrArg (World.drewN _) (Nat.add_assoc _ _ _))⟩))))
        go_ret
        exact ⟨zq9, zq22⟩
      ·rw [if_neg c8] at H
       exact absurd H (by simp)
     ·rw [if_neg c5] at H
      exact absurd H (by simp)
    ·rw [if_neg c4] at H
     exact absurd H (by simp)
   ·rw [if_neg c3] at H
    have c3b0 : decide (x8_1 < (a0.size : Int)) = false := decide_eq_false c3
    clear c3
    obtain rfl := Option.some.inj H
    go_wp2
    repeat (go_quiet (fail); try go_wp2)
    go_ret
    exact ⟨zq9, zq22⟩

/-! ### sS_Fold: function 24 -/
def sS_Fold.j0 : Nat → ByteArray → Bool → ByteArray → Int → Option Int → Option (Bool × ByteArray × Int × Option Int)
 | 0, _, _, _, _, _ => none
 | k + 1, x1, x26, x1000, x1001, x1002 => if x26 = true then (some (false, x1000, x1001, x1002)) else ((sS_take.f k x1000 x1001 x1002 (x1.size : Int)).bind fun bt253 => (some (true, bt253.2.1, bt253.2.2.1, bt253.2.2.2)))
def sS_Fold.f (k : Nat) (s0_0 : ByteArray) (s0_1 : Int) (s0_2 : Option Int) (a1 : ByteArray) : Option (Bool × ByteArray × Int × Option Int) := (sS_rest.f s0_0 s0_1 s0_2).bind fun bt244 => ((sS_going.f bt244.2.1 bt244.2.2.1 bt244.2.2.2).bind fun bt248 => (if bt248.1 = true then (if (bt244.1.size : Int) < (a1.size : Int) then (sS_Fold.j0 k a1 true bt248.2.1 bt248.2.2.1 bt248.2.2.2) else (if 0 ≤ (a1.size : Int) then (if (a1.size : Int) ≤ (bt244.1.size : Int) then ((scan_alike.f k (bt244.1.extract 0 ((a1.size : Int) : Int).toNat) a1).bind fun t252 => (sS_Fold.j0 k a1 (!t252) bt248.2.1 bt248.2.2.1 bt248.2.2.2)) else (none)) else (none))) else (sS_Fold.j0 k a1 true bt248.2.1 bt248.2.2.1 bt248.2.2.2)))
set_option maxHeartbeats 8000000 in
set_option maxRecDepth 100000 in
theorem sS_Fold.calls (k : Nat) (g : Nat) (s0_0 : ByteArray) (s0_1 : Int) (s0_2 : Option Int) (a1 : ByteArray) (r1 : Bool) (r2 : ByteArray) (r3 : Int) (r4 : Option Int) (w0 w : World) (hI : IsS60 w0 w g s0_0 s0_1 s0_2) (hB : Below w0.heap.size w0 w) (h : sS_Fold.f k s0_0 s0_1 s0_2 a1 = some (r1, r2, r3, r4)) :
  Calls Try.prog 24 #[.pointer (some ⟨g, 0, none⟩), .string a1] w fun e w' => e = .returned (.bool r1) ∧ IsS60 w0 w' g r2 r3 r4 ∧ Below w0.heap.size w0 w' ∧ KeepBut w w' g none := by
 have HI0 := Aside0.mk hI
 have HK := Aside0.mk (KeepBut.refl w g none)
 have HL := Aside0.mk hB.size
 clear hI
 have HW0 := Aside0.mk hB.size
 have HB := Aside0.mk hB
 clear hB
 have H : ((sS_rest.f s0_0 s0_1 s0_2).bind fun bt244 => ((sS_going.f bt244.2.1 bt244.2.2.1 bt244.2.2.2).bind fun bt248 => (if bt248.1 = true then (if (bt244.1.size : Int) < (a1.size : Int) then (sS_Fold.j0 k a1 true bt248.2.1 bt248.2.2.1 bt248.2.2.2) else (if 0 ≤ (a1.size : Int) then (if (a1.size : Int) ≤ (bt244.1.size : Int) then ((scan_alike.f k (bt244.1.extract 0 ((a1.size : Int) : Int).toNat) a1).bind fun t252 => (sS_Fold.j0 k a1 (!t252) bt248.2.1 bt248.2.2.1 bt248.2.2.2)) else (none)) else (none))) else (sS_Fold.j0 k a1 true bt248.2.1 bt248.2.2.1 bt248.2.2.2)))) = some (r1, r2, r3, r4) := h
 clear h
 replace H := Option.bind_eq_some_iff.mp H
 obtain ⟨⟨t244, t245, t246, t247⟩, A30, H⟩ := H
 replace H : ((sS_going.f t245 t246 t247).bind fun bt248 => (if bt248.1 = true then (if (t244.size : Int) < (a1.size : Int) then (sS_Fold.j0 k a1 true bt248.2.1 bt248.2.2.1 bt248.2.2.2) else (if 0 ≤ (a1.size : Int) then (if (a1.size : Int) ≤ (t244.size : Int) then ((scan_alike.f k (t244.extract 0 ((a1.size : Int) : Int).toNat) a1).bind fun t252 => (sS_Fold.j0 k a1 (!t252) bt248.2.1 bt248.2.2.1 bt248.2.2.2)) else (none)) else (none))) else (sS_Fold.j0 k a1 true bt248.2.1 bt248.2.2.1 bt248.2.2.2))) = some (r1, r2, r3, r4) := H
 have A3 := Aside0.mk A30
 clear A30
 have HC4 := Aside0.mk H
 clear H
 go_enter Try.func24, Try.ntmps24
 go_upto_region 2 with (first | ((with_reducible refine gate_callee (f := 50) rfl ?_); refine goesL_ (some 7) rfl rfl Try.func50 (by kernel_rfl) rfl #[.pointer (some ⟨g, 0, none⟩)] rfl zq1 ?_; (with_reducible refine (sS_rest.calls g s0_0 s0_1 s0_2 t244 t245 t246 t247 w0 _ ?side1 ?side2 A3.out).mono ?_); (case side1 => exact zq4); (case side2 => exact zq6); rintro e w5 ⟨rfl, hi, hb, hk⟩; refine ⟨_, rfl, ?_⟩; replace HK := Aside0.mk (KeepBut.trans zq3 hk (.inl rfl)); replace HB := Aside0.mk (hb); replace HI0 := Aside0.mk (hi); (try clear hb hk hi); (try clear hb2); (try simp only [errW_none, errW_some])))
 (try simp only [Act.put, sl_])
 go_cut [26] (fun v26 wc => ∃ (kq : Nat) (x26_3 : Bool) (x1000_3 : ByteArray) (x1001_3 : Int) (x1002_3 : Option Int), v26 = .bool x26_3 ∧ Aside0 (sS_Fold.j0 kq a1 x26_3 x1000_3 x1001_3 x1002_3 = some (r1, r2, r3, r4)) ∧ Aside0 (kq ≤ k) ∧ Aside0 (IsS60 w0 wc g x1000_3 x1001_3 x1002_3) ∧ Aside0 (KeepBut w wc g none) ∧ Aside0 (Below w0.heap.size w0 wc))
 case first =>
  have H := HC4.out
  clear HC4
  replace H := Option.bind_eq_some_iff.mp H
  obtain ⟨⟨t248, t249, t250, t251⟩, A60, H⟩ := H
  replace H : (if t248 = true then (if (t244.size : Int) < (a1.size : Int) then (sS_Fold.j0 k a1 true t249 t250 t251) else (if 0 ≤ (a1.size : Int) then (if (a1.size : Int) ≤ (t244.size : Int) then ((scan_alike.f k (t244.extract 0 ((a1.size : Int) : Int).toNat) a1).bind fun t252 => (sS_Fold.j0 k a1 (!t252) t249 t250 t251)) else (none)) else (none))) else (sS_Fold.j0 k a1 true t249 t250 t251)) = some (r1, r2, r3, r4) := H
  have A6 := Aside0.mk A60
  clear A60
  by_cases c7 : t248 = true
  ·subst c7
   have H1 : (if (t244.size : Int) < (a1.size : Int) then (sS_Fold.j0 k a1 true t249 t250 t251) else (if 0 ≤ (a1.size : Int) then (if (a1.size : Int) ≤ (t244.size : Int) then ((scan_alike.f k (t244.extract 0 ((a1.size : Int) : Int).toNat) a1).bind fun t252 => (sS_Fold.j0 k a1 (!t252) t249 t250 t251)) else (none)) else (none))) = some (r1, r2, r3, r4) := by rw [if_pos rfl] at H; exact H
   clear H
   have H := H1
   clear H1
   by_cases c8 : (t244.size : Int) < (a1.size : Int)
   ·rw [if_pos c8] at H
    have c8b0 : decide ((t244.size : Int) < (a1.size : Int)) = true := decide_eq_true c8
    have c8b1 : decide (t244.size < a1.size) = true := decide_eq_true (Int.ofNat_lt.mp c8)
    clear c8
    (first | rw [c8b0] | (simp only [i64_w, i32_w]; rw [c8b0]) | skip)
    have H' := Aside0.mk H
    clear H
    go_wp2_with (first | ((with_reducible refine gate_callee (f := 53) rfl ?_); refine goesL_ (some 9) rfl rfl Try.func53 (by kernel_rfl) rfl #[.pointer (some ⟨g, 0, none⟩)] rfl zq1 ?_; (with_reducible refine (sS_going.calls g t245 t246 t247 true t249 t250 t251 w0 _ ?side1 ?side2 A6.out).mono ?_); (case side1 => exact zq4); (case side2 => exact zq6); rintro e w9 ⟨rfl, hi, hb, hk⟩; refine ⟨_, rfl, ?_⟩; replace HK := Aside0.mk (KeepBut.trans zq3 hk (.inl rfl)); replace HB := Aside0.mk (hb); replace HI0 := Aside0.mk (hi); (try clear hb hk hi); (try clear hb2); (try simp only [errW_none, errW_some])))
    go_meet
    case rel => exact ⟨_, (true), (t249), (t250), (t251), zq9, H', ⟨zq53⟩, ⟨zq4⟩, ⟨zq3⟩, ⟨zq6⟩⟩
   ·rw [if_neg c8] at H
    have c8b0 : decide ((t244.size : Int) < (a1.size : Int)) = false := decide_eq_false c8
    have c8b1 : decide (t244.size < a1.size) = false := decide_eq_false (fun h => c8 (Int.ofNat_lt.mpr h))
    clear c8
    (first | rw [c8b0] | (simp only [i64_w, i32_w]; rw [c8b0]) | skip)
    by_cases c10 : 0 ≤ (a1.size : Int)
    ·rw [if_pos c10] at H
     have c10b0 := eq_true c10
     have c10b1 : decide (0 ≤ (a1.size : Int)) = true := decide_eq_true c10
     clear c10
     by_cases c11 : (a1.size : Int) ≤ (t244.size : Int)
     ·rw [if_pos c11] at H
      have c11b0 := eq_true c11
      have c11b1 : decide ((a1.size : Int) ≤ (t244.size : Int)) = true := decide_eq_true c11
      clear c11
      replace H := Option.bind_eq_some_iff.mp H
      obtain ⟨t252, A120, H⟩ := H
      replace H : (sS_Fold.j0 k a1 (!t252) t249 t250 t251) = some (r1, r2, r3, r4) := H
      have A12 := Aside0.mk A120
      clear A120
      have H' := Aside0.mk H
      clear H
      go_wp2_with (first | ((with_reducible refine gate_callee (f := 53) rfl ?_); refine goesL_ (some 9) rfl rfl Try.func53 (by kernel_rfl) rfl #[.pointer (some ⟨g, 0, none⟩)] rfl zq1 ?_; (with_reducible refine (sS_going.calls g t245 t246 t247 true t249 t250 t251 w0 _ ?side1 ?side2 A6.out).mono ?_); (case side1 => exact zq4); (case side2 => exact zq6); rintro e w13 ⟨rfl, hi, hb, hk⟩; refine ⟨_, rfl, ?_⟩; replace HK := Aside0.mk (KeepBut.trans zq3 hk (.inl rfl)); replace HB := Aside0.mk (hb); replace HI0 := Aside0.mk (hi); (try clear hb hk hi); (try clear hb2); (try simp only [errW_none, errW_some])) | (go_at_call 54; refine calls_of_args (args' := #[.string (t244.extract 0 ((a1.size : Int) : Int).toNat), .string a1]) (by first | rfl | rfl) ?_; (with_reducible refine (scan_alike.calls k (t244.extract 0 ((a1.size : Int) : Int).toNat) a1 t252 _ A12.out).mono ?_); rintro e w' ⟨rfl, ⟨nd, rfl⟩⟩))
      go_meet
      case rel => exact ⟨_, (!t252), (t249), (t250), (t251), zq9, H', ⟨zq53⟩, ⟨zq4⟩, ⟨zq3⟩, ⟨zq6⟩⟩
     ·rw [if_neg c11] at H
      exact absurd H (by simp)
    ·rw [if_neg c10] at H
     exact absurd H (by simp)
  ·replace c7 := Bool.eq_false_iff.mpr c7
   subst c7
   have H1 : (sS_Fold.j0 k a1 true t249 t250 t251) = some (r1, r2, r3, r4) := by rw [if_neg (show ¬ (false = true) by decide)] at H; exact H
   clear H
   have H := H1
   clear H1
   have H' := Aside0.mk H
   clear H
   go_wp2_with (first | ((with_reducible refine gate_callee (f := 53) rfl ?_); refine goesL_ (some 9) rfl rfl Try.func53 (by kernel_rfl) rfl #[.pointer (some ⟨g, 0, none⟩)] rfl zq1 ?_; (with_reducible refine (sS_going.calls g t245 t246 t247 false t249 t250 t251 w0 _ ?side1 ?side2 A6.out).mono ?_); (case side1 => exact zq4); (case side2 => exact zq6); rintro e w14 ⟨rfl, hi, hb, hk⟩; refine ⟨_, rfl, ?_⟩; replace HK := Aside0.mk (KeepBut.trans zq3 hk (.inl rfl)); replace HB := Aside0.mk (hb); replace HI0 := Aside0.mk (hi); (try clear hb hk hi); (try clear hb2); (try simp only [errW_none, errW_some])))
   go_meet
   case rel => exact ⟨_, (true), (t249), (t250), (t251), zq9, H', ⟨zq53⟩, ⟨zq4⟩, ⟨zq3⟩, ⟨zq6⟩⟩
 case rest =>
  clear HC4
  try clear c1
  try clear c2
  try clear p2
  try clear c5
  try clear p6
  try clear c7
  try clear c8
  try clear c8b0
  try clear c8b1
  try clear c10
  try clear c10b0
  try clear c10b1
  try clear c11
  try clear c11b0
  try clear c11b1
  obtain ⟨kq, x26_3, x1000_3, x1001_3, x1002_3, rfl, HA, HJ3, HI0, HK, HB⟩ := hcut
  cases kq with
  | zero => exact absurd HA.out (by simp [sS_Fold.j0])
  | succ kj3 =>
   have H := HA.out
   clear HA
   simp only [sS_Fold.j0] at H
   by_cases c15 : x26_3 = true
   ·subst c15
    have H1 : (some (false, x1000_3, x1001_3, x1002_3)) = some (r1, r2, r3, r4) := by rw [if_pos rfl] at H; exact H
    clear H
    have H := H1
    clear H1
    simp only [Option.some.injEq, Prod.mk.injEq] at H
    obtain ⟨rfl, rfl, rfl, rfl⟩ := H
    go_wp2
    go_ret
    exact ⟨zq8, zq4, zq6, zq3⟩
   ·replace c15 := Bool.eq_false_iff.mpr c15
    subst c15
    have H1 : ((sS_take.f kj3 x1000_3 x1001_3 x1002_3 (a1.size : Int)).bind fun bt253 => (some (true, bt253.2.1, bt253.2.2.1, bt253.2.2.2))) = some (r1, r2, r3, r4) := by rw [if_neg (show ¬ (false = true) by decide)] at H; exact H
    clear H
    have H := H1
    clear H1
    replace H := Option.bind_eq_some_iff.mp H
    obtain ⟨⟨t253, t254, t255, t256⟩, A160, H⟩ := H
    replace H : (some (true, t254, t255, t256)) = some (r1, r2, r3, r4) := H
    have A16 := Aside0.mk A160
    clear A160
    simp only [Option.some.injEq, Prod.mk.injEq] at H
    obtain ⟨rfl, rfl, rfl, rfl⟩ := H
    go_wp2_with (first | ((with_reducible refine gate_callee (f := 52) rfl ?_); refine goesL_ (some 30) rfl rfl Try.func52 (by kernel_rfl) rfl #[.pointer (some ⟨g, 0, none⟩), .int .i64 (a1.size : Int)] rfl zq1 ?_; (with_reducible refine (sS_take.calls kj3 g x1000_3 x1001_3 x1002_3 (a1.size : Int) t253 t254 t255 t256 w0 _ ?side1 ?side2 A16.out).mono ?_); (case side1 => exact zq4); (case side2 => exact zq6); rintro e w17 ⟨rfl, hi, hb, hk⟩; refine ⟨_, rfl, ?_⟩; replace HK := Aside0.mk (KeepBut.trans zq3 hk (.inl rfl)); replace HB := Aside0.mk (hb); replace HI0 := Aside0.mk (hi); (try clear hb hk hi); (try clear hb2); (try simp only [errW_none, errW_some])))
    go_ret
    exact ⟨zq8, zq4, zq6, zq3⟩

/-! ### sS_Must: function 19 -/
def sS_Must.f (k : Nat) (s0_0 : ByteArray) (s0_1 : Int) (s0_2 : Option Int) (a1 : ByteArray) : Option (ByteArray × Int × Option Int) := (sS_Fold.f k s0_0 s0_1 s0_2 a1).bind fun bt257 => (if bt257.1 = true then (some (bt257.2.1, bt257.2.2.1, bt257.2.2.2)) else ((sS_Fail.f bt257.2.1 bt257.2.2.1 bt257.2.2.2 (some 2)).bind fun bt261 => (some (bt261.1, bt261.2.1, bt261.2.2))))
set_option maxHeartbeats 8000000 in
set_option maxRecDepth 100000 in
theorem sS_Must.calls (k : Nat) (g : Nat) (s0_0 : ByteArray) (s0_1 : Int) (s0_2 : Option Int) (a1 : ByteArray) (r1 : ByteArray) (r2 : Int) (r3 : Option Int) (w0 w : World) (hI : IsS60 w0 w g s0_0 s0_1 s0_2) (hB : Below w0.heap.size w0 w) (h : sS_Must.f k s0_0 s0_1 s0_2 a1 = some (r1, r2, r3)) :
  Calls Try.prog 19 #[.pointer (some ⟨g, 0, none⟩), .string a1] w fun e w' => e = .returned (.tuple #[]) ∧ IsS60 w0 w' g r1 r2 r3 ∧ Below w0.heap.size w0 w' ∧ KeepBut w w' g none := by
 have hu42 := Try.underlying42
 have hu50 := Try.underlying50
 have HI0 := Aside0.mk hI
 have HK := Aside0.mk (KeepBut.refl w g none)
 have HL := Aside0.mk hB.size
 clear hI
 have HW0 := Aside0.mk hB.size
 have HB := Aside0.mk hB
 clear hB
 have H : ((sS_Fold.f k s0_0 s0_1 s0_2 a1).bind fun bt257 => (if bt257.1 = true then (some (bt257.2.1, bt257.2.2.1, bt257.2.2.2)) else ((sS_Fail.f bt257.2.1 bt257.2.2.1 bt257.2.2.2 (some 2)).bind fun bt261 => (some (bt261.1, bt261.2.1, bt261.2.2))))) = some (r1, r2, r3) := h
 clear h
 replace H := Option.bind_eq_some_iff.mp H
 obtain ⟨⟨t257, t258, t259, t260⟩, A30, H⟩ := H
 replace H : (if t257 = true then (some (t258, t259, t260)) else ((sS_Fail.f t258 t259 t260 (some 2)).bind fun bt261 => (some (bt261.1, bt261.2.1, bt261.2.2)))) = some (r1, r2, r3) := H
 have A3 := Aside0.mk A30
 clear A30
 by_cases c4 : t257 = true
 ·subst c4
  have H1 : (some (t258, t259, t260)) = some (r1, r2, r3) := by rw [if_pos rfl] at H; exact H
  clear H
  have H := H1
  clear H1
  simp only [Option.some.injEq, Prod.mk.injEq] at H
  obtain ⟨rfl, rfl, rfl⟩ := H
  go_enter Try.func19, Try.ntmps19
  go_wp2_with (first | ((with_reducible refine gate_callee (f := 24) rfl ?_); refine goesL_ (some 6) rfl rfl Try.func24 (by kernel_rfl) rfl #[.pointer (some ⟨g, 0, none⟩), .string a1] rfl zq1 ?_; (with_reducible refine (sS_Fold.calls k g s0_0 s0_1 s0_2 a1 true t258 t259 t260 w0 _ ?side1 ?side2 A3.out).mono ?_); (case side1 => exact zq4); (case side2 => exact zq6); rintro e w5 ⟨rfl, hi, hb, hk⟩; refine ⟨_, rfl, ?_⟩; replace HK := Aside0.mk (KeepBut.trans zq3 hk (.inl rfl)); replace HB := Aside0.mk (hb); replace HI0 := Aside0.mk (hi); (try clear hb hk hi); (try clear hb2); (try simp only [errW_none, errW_some])))
  first | go_end0 | ((try simp only [Exit.inBlock, Exit.then]); refine bodyPost_ret (results_none rfl _ _ _) rfl ?_)
  exact ⟨zq8, zq4, zq6, zq3⟩
 ·replace c4 := Bool.eq_false_iff.mpr c4
  subst c4
  have H1 : ((sS_Fail.f t258 t259 t260 (some 2)).bind fun bt261 => (some (bt261.1, bt261.2.1, bt261.2.2))) = some (r1, r2, r3) := by rw [if_neg (show ¬ (false = true) by decide)] at H; exact H
  clear H
  have H := H1
  clear H1
  replace H := Option.bind_eq_some_iff.mp H
  obtain ⟨⟨t261, t262, t263⟩, A60, H⟩ := H
  replace H : (some (t261, t262, t263)) = some (r1, r2, r3) := H
  have A6 := Aside0.mk A60
  clear A60
  simp only [Option.some.injEq, Prod.mk.injEq] at H
  obtain ⟨rfl, rfl, rfl⟩ := H
  go_enter Try.func19, Try.ntmps19
  go_wp2_with (first | ((with_reducible refine gate_callee (f := 24) rfl ?_); refine goesL_ (some 6) rfl rfl Try.func24 (by kernel_rfl) rfl #[.pointer (some ⟨g, 0, none⟩), .string a1] rfl zq1 ?_; (with_reducible refine (sS_Fold.calls k g s0_0 s0_1 s0_2 a1 false t258 t259 t260 w0 _ ?side1 ?side2 A3.out).mono ?_); (case side1 => exact zq4); (case side2 => exact zq6); rintro e w7 ⟨rfl, hi, hb, hk⟩; refine ⟨_, rfl, ?_⟩; replace HK := Aside0.mk (KeepBut.trans zq3 hk (.inl rfl)); replace HB := Aside0.mk (hb); replace HI0 := Aside0.mk (hi); (try clear hb hk hi); (try clear hb2); (try simp only [errW_none, errW_some])) | (go_at_call 21; (refine (sS_Fail.calls g t258 t259 t260 (some 2) t261 t262 t263 w0 _ ?side1 ?side2 A6.out).mono ?_); (case side1 => exact zq4); (case side2 => exact zq6); rintro e w8 ⟨rfl, hi, hb, hk⟩; replace HK := Aside0.mk (KeepBut.trans zq3 hk (.inl rfl)); replace HB := Aside0.mk (hb); replace HI0 := Aside0.mk (hi); (try clear hb hk hi); (try clear hb2); (try simp only [errW_none, errW_some])))
  first | go_end0 | ((try simp only [Exit.inBlock, Exit.then]); refine bodyPost_ret (results_none rfl _ _ _) rfl ?_)
  exact ⟨zq8, zq4, zq6, zq3⟩

end Go.Proofs.Ytonjfggfcnpgbaa.MScanPlays
