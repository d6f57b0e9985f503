-- This text was written by a program of this session (a changed scratch copy of a tool of the kit; NOTES.md tells the changes).
import Derived.Test.YtonjfggfcnpgbaaMScanPlaysx0
import Derived.Test.YtonjfggfcnpgbaaMScanPlaysx1
import Derived.Test.YtonjfggfcnpgbaaMScanPlaysx2
import Derived.Test.YtonjfggfcnpgbaaMScanPlaysx3
import Derived.Test.YtonjfggfcnpgbaaMScanPlaysx5
namespace Go.Proofs.Ytonjfggfcnpgbaa.MScanPlays
open Go.RowKit Go.Proofs.YtonjfggfcnpgbaaW.PrintWords Go.Proofs.YtonjfggfcnpgbaaW.PrintLast Go.Proofs.YtonjfggfcnpgbaaW.PrintMore
attribute [local go_sem] max2_int min2_int max_two min_two max_three min_three max_four min_four   -- for this text's walks alone
set_option linter.unusedVariables false
set_option linter.unusedSimpArgs false

/-! ### sS_Skip: function 20 -/
def sS_Skip.f (k : Nat) (s0_0 : ByteArray) (s0_1 : Int) (s0_2 : Option Int) (a1 : Int) : Option (ByteArray × Int × Option Int) := (sS_going.f s0_0 s0_1 s0_2).bind fun bt264 => (if bt264.1 = true then (if a1 < 0 then (some (bt264.2.1, bt264.2.2.1, some 1)) else ((sS_Left.f bt264.2.1 bt264.2.2.1 bt264.2.2.2).bind fun bt268 => (if a1 > bt268.1 then (some (bt268.2.1, bt268.2.2.1, some 4)) else ((sS_take.f k bt268.2.1 bt268.2.2.1 bt268.2.2.2 a1).bind fun bt272 => (some (bt272.2.1, bt272.2.2.1, bt272.2.2.2)))))) else (some (bt264.2.1, bt264.2.2.1, bt264.2.2.2)))
set_option maxHeartbeats 8000000 in
set_option maxRecDepth 100000 in
theorem sS_Skip.calls (k : Nat) (g : Nat) (s0_0 : ByteArray) (s0_1 : Int) (s0_2 : Option Int) (a1 : Int) (r1 : ByteArray) (r2 : Int) (r3 : Option Int) (w0 w : World) (hI : IsS60 w0 w g s0_0 s0_1 s0_2) (hB : Below w0.heap.size w0 w) (h : sS_Skip.f k s0_0 s0_1 s0_2 a1 = some (r1, r2, r3)) :
  Calls Try.prog 20 #[.pointer (some ⟨g, 0, none⟩), .int .i64 a1] w fun e w' => e = .returned (.tuple #[]) ∧ IsS60 w0 w' g r1 r2 r3 ∧ Below w0.heap.size w0 w' ∧ KeepBut w w' g none := by
 have hu42 := Try.underlying42
 have hu50 := Try.underlying50
 have HI0 := Aside0.mk hI
 have HK := Aside0.mk (KeepBut.refl w g none)
 have HL := Aside0.mk hB.size
 clear hI
 have HW0 := Aside0.mk hB.size
 have HB := Aside0.mk hB
 clear hB
 have H : ((sS_going.f s0_0 s0_1 s0_2).bind fun bt264 => (if bt264.1 = true then (if a1 < 0 then (some (bt264.2.1, bt264.2.2.1, some 1)) else ((sS_Left.f bt264.2.1 bt264.2.2.1 bt264.2.2.2).bind fun bt268 => (if a1 > bt268.1 then (some (bt268.2.1, bt268.2.2.1, some 4)) else ((sS_take.f k bt268.2.1 bt268.2.2.1 bt268.2.2.2 a1).bind fun bt272 => (some (bt272.2.1, bt272.2.2.1, bt272.2.2.2)))))) else (some (bt264.2.1, bt264.2.2.1, bt264.2.2.2)))) = some (r1, r2, r3) := h
 clear h
 replace H := Option.bind_eq_some_iff.mp H
 obtain ⟨⟨t264, t265, t266, t267⟩, A30, H⟩ := H
 replace H : (if t264 = true then (if a1 < 0 then (some (t265, t266, some 1)) else ((sS_Left.f t265 t266 t267).bind fun bt268 => (if a1 > bt268.1 then (some (bt268.2.1, bt268.2.2.1, some 4)) else ((sS_take.f k bt268.2.1 bt268.2.2.1 bt268.2.2.2 a1).bind fun bt272 => (some (bt272.2.1, bt272.2.2.1, bt272.2.2.2)))))) else (some (t265, t266, t267))) = some (r1, r2, r3) := H
 have A3 := Aside0.mk A30
 clear A30
 by_cases c4 : t264 = true
 ·subst c4
  have H1 : (if a1 < 0 then (some (t265, t266, some 1)) else ((sS_Left.f t265 t266 t267).bind fun bt268 => (if a1 > bt268.1 then (some (bt268.2.1, bt268.2.2.1, some 4)) else ((sS_take.f k bt268.2.1 bt268.2.2.1 bt268.2.2.2 a1).bind fun bt272 => (some (bt272.2.1, bt272.2.2.1, bt272.2.2.2)))))) = some (r1, r2, r3) := by rw [if_pos rfl] at H; exact H
  clear H
  have H := H1
  clear H1
  by_cases c5 : a1 < 0
  ·rw [if_pos c5] at H
   have c5b0 : decide (a1 < 0) = true := decide_eq_true c5
   clear c5
   simp only [Option.some.injEq, Prod.mk.injEq] at H
   obtain ⟨rfl, rfl, rfl⟩ := H
   go_enter Try.func20, Try.ntmps20
   go_wp2_with (first | ((with_reducible refine gate_callee (f := 53) rfl ?_); refine goesL_ (some 9) rfl rfl Try.func53 (by kernel_rfl) rfl #[.pointer (some ⟨g, 0, none⟩)] rfl zq1 ?_; (with_reducible refine (sS_going.calls g s0_0 s0_1 s0_2 true t265 t266 t267 w0 _ ?side1 ?side2 A3.out).mono ?_); (case side1 => exact zq4); (case side2 => exact zq6); rintro e w6 ⟨rfl, hi, hb, hk⟩; refine ⟨_, rfl, ?_⟩; replace HK := Aside0.mk (KeepBut.trans zq3 hk (.inl rfl)); replace HB := Aside0.mk (hb); replace HI0 := Aside0.mk (hi); (try clear hb hk hi); (try clear hb2); (try simp only [errW_none, errW_some]); obtain ⟨HGz7, hgz7⟩ := HI0.out; have hcz7_0 := cellS60_0 HGz7; have hcz7_1 := cellS60_1 HGz7; have hcz7_2 := cellS60_2 HGz7; have hfz7_0 := blk_frozen HGz7 0; have hfz7_1 := blk_frozen HGz7 1; have hfz7_2 := blk_frozen HGz7 2; try simp only [errW_none, errW_some] at hcz7_2; clear HGz7 hgz7))
   first | go_end0 | ((try simp only [Exit.inBlock, Exit.then]); refine bodyPost_ret (results_none rfl _ _ _) rfl ?_)
   exact ⟨zq8, zq4, zq6, zq3⟩
  ·rw [if_neg c5] at H
   have c5b0 : decide (a1 < 0) = false := decide_eq_false c5
   clear c5
   replace H := Option.bind_eq_some_iff.mp H
   obtain ⟨⟨t268, t269, t270, t271⟩, A80, H⟩ := H
   replace H : (if a1 > t268 then (some (t269, t270, some 4)) else ((sS_take.f k t269 t270 t271 a1).bind fun bt272 => (some (bt272.2.1, bt272.2.2.1, bt272.2.2.2)))) = some (r1, r2, r3) := H
   have A8 := Aside0.mk A80
   clear A80
   by_cases c9 : a1 > t268
   ·rw [if_pos c9] at H
    have c9b0 : decide (t268 < a1) = true := decide_eq_true c9
    clear c9
    simp only [Option.some.injEq, Prod.mk.injEq] at H
    obtain ⟨rfl, rfl, rfl⟩ := H
    go_enter Try.func20, Try.ntmps20
    go_wp2_with (first | ((with_reducible refine gate_callee (f := 53) rfl ?_); refine goesL_ (some 9) rfl rfl Try.func53 (by kernel_rfl) rfl #[.pointer (some ⟨g, 0, none⟩)] rfl zq1 ?_; (with_reducible refine (sS_going.calls g s0_0 s0_1 s0_2 true t265 t266 t267 w0 _ ?side1 ?side2 A3.out).mono ?_); (case side1 => exact zq4); (case side2 => exact zq6); rintro e w10 ⟨rfl, hi, hb, hk⟩; refine ⟨_, rfl, ?_⟩; replace HK := Aside0.mk (KeepBut.trans zq3 hk (.inl rfl)); replace HB := Aside0.mk (hb); replace HI0 := Aside0.mk (hi); (try clear hb hk hi); (try clear hb2); (try simp only [errW_none, errW_some])) | ((with_reducible refine gate_callee (f := 18) rfl ?_); refine goesL_ (some 21) rfl rfl Try.func18 (by kernel_rfl) rfl #[.pointer (some ⟨g, 0, none⟩)] rfl zq1 ?_; (with_reducible refine (sS_Left.calls g t265 t266 t267 t268 t269 t270 t271 w0 _ ?side1 ?side2 A8.out).mono ?_); (case side1 => exact zq4); (case side2 => exact zq6); rintro e w11 ⟨rfl, hi, hb, hk⟩; refine ⟨_, rfl, ?_⟩; replace HK := Aside0.mk (KeepBut.trans zq3 hk (.inl rfl)); replace HB := Aside0.mk (hb); replace HI0 := Aside0.mk (hi); (try clear hb hk hi); (try clear hb2); (try simp only [errW_none, errW_some]); obtain ⟨HGz12, hgz12⟩ := HI0.out; have hcz12_0 := cellS60_0 HGz12; have hcz12_1 := cellS60_1 HGz12; have hcz12_2 := cellS60_2 HGz12; have hfz12_0 := blk_frozen HGz12 0; have hfz12_1 := blk_frozen HGz12 1; have hfz12_2 := blk_frozen HGz12 2; try simp only [errW_none, errW_some] at hcz12_2; clear HGz12 hgz12))
    first | go_end0 | ((try simp only [Exit.inBlock, Exit.then]); refine bodyPost_ret (results_none rfl _ _ _) rfl ?_)
    exact ⟨zq8, zq4, zq6, zq3⟩
   ·rw [if_neg c9] at H
    have c9b0 : decide (t268 < a1) = false := decide_eq_false c9
    clear c9
    replace H := Option.bind_eq_some_iff.mp H
    obtain ⟨⟨t272, t273, t274, t275⟩, A130, H⟩ := H
    replace H : (some (t273, t274, t275)) = some (r1, r2, r3) := H
    have A13 := Aside0.mk A130
    clear A130
    simp only [Option.some.injEq, Prod.mk.injEq] at H
    obtain ⟨rfl, rfl, rfl⟩ := H
    go_enter Try.func20, Try.ntmps20
    go_wp2_with (first | ((with_reducible refine gate_callee (f := 53) rfl ?_); refine goesL_ (some 9) rfl rfl Try.func53 (by kernel_rfl) rfl #[.pointer (some ⟨g, 0, none⟩)] rfl zq1 ?_; (with_reducible refine (sS_going.calls g s0_0 s0_1 s0_2 true t265 t266 t267 w0 _ ?side1 ?side2 A3.out).mono ?_); (case side1 => exact zq4); (case side2 => exact zq6); rintro e w14 ⟨rfl, hi, hb, hk⟩; refine ⟨_, rfl, ?_⟩; replace HK := Aside0.mk (KeepBut.trans zq3 hk (.inl rfl)); replace HB := Aside0.mk (hb); replace HI0 := Aside0.mk (hi); (try clear hb hk hi); (try clear hb2); (try simp only [errW_none, errW_some])) | ((with_reducible refine gate_callee (f := 18) rfl ?_); refine goesL_ (some 21) rfl rfl Try.func18 (by kernel_rfl) rfl #[.pointer (some ⟨g, 0, none⟩)] rfl zq1 ?_; (with_reducible refine (sS_Left.calls g t265 t266 t267 t268 t269 t270 t271 w0 _ ?side1 ?side2 A8.out).mono ?_); (case side1 => exact zq4); (case side2 => exact zq6); rintro e w15 ⟨rfl, hi, hb, hk⟩; refine ⟨_, rfl, ?_⟩; replace HK := Aside0.mk (KeepBut.trans zq3 hk (.inl rfl)); replace HB := Aside0.mk (hb); replace HI0 := Aside0.mk (hi); (try clear hb hk hi); (try clear hb2); (try simp only [errW_none, errW_some])) | ((with_reducible refine gate_callee (f := 52) rfl ?_); refine goesL_ (some 6) rfl rfl Try.func52 (by kernel_rfl) rfl #[.pointer (some ⟨g, 0, none⟩), .int .i64 a1] rfl zq1 ?_; (with_reducible refine (sS_take.calls k g t269 t270 t271 a1 t272 t273 t274 t275 w0 _ ?side1 ?side2 A13.out).mono ?_); (case side1 => exact zq4); (case side2 => exact zq6); rintro e w16 ⟨rfl, hi, hb, hk⟩; refine ⟨_, rfl, ?_⟩; replace HK := Aside0.mk (KeepBut.trans zq3 hk (.inl rfl)); replace HB := Aside0.mk (hb); replace HI0 := Aside0.mk (hi); (try clear hb hk hi); (try clear hb2); (try simp only [errW_none, errW_some])))
    first | go_end0 | ((try simp only [Exit.inBlock, Exit.then]); refine bodyPost_ret (results_none rfl _ _ _) rfl ?_)
    exact ⟨zq8, zq4, zq6, zq3⟩
 ·replace c4 := Bool.eq_false_iff.mpr c4
  subst c4
  have H1 : (some (t265, t266, t267)) = some (r1, r2, r3) := by rw [if_neg (show ¬ (false = true) by decide)] at H; exact H
  clear H
  have H := H1
  clear H1
  simp only [Option.some.injEq, Prod.mk.injEq] at H
  obtain ⟨rfl, rfl, rfl⟩ := H
  go_enter Try.func20, Try.ntmps20
  go_wp2_with (first | ((with_reducible refine gate_callee (f := 53) rfl ?_); refine goesL_ (some 9) rfl rfl Try.func53 (by kernel_rfl) rfl #[.pointer (some ⟨g, 0, none⟩)] rfl zq1 ?_; (with_reducible refine (sS_going.calls g s0_0 s0_1 s0_2 false t265 t266 t267 w0 _ ?side1 ?side2 A3.out).mono ?_); (case side1 => exact zq4); (case side2 => exact zq6); rintro e w17 ⟨rfl, hi, hb, hk⟩; refine ⟨_, rfl, ?_⟩; replace HK := Aside0.mk (KeepBut.trans zq3 hk (.inl rfl)); replace HB := Aside0.mk (hb); replace HI0 := Aside0.mk (hi); (try clear hb hk hi); (try clear hb2); (try simp only [errW_none, errW_some])))
  first | go_end0 | ((try simp only [Exit.inBlock, Exit.then]); refine bodyPost_ret (results_none rfl _ _ _) rfl ?_)
  exact ⟨zq8, zq4, zq6, zq3⟩

/-! ### sS_Word: function 26 -/
def sS_Word.l0 : Nat → List ByteArray → Int → Int → ByteArray → Int → Option Int → Option (Int × ByteArray × Int × Option Int)
 | 0, _, _, _, _, _, _ => none
 | k + 1, x7, x8, x9, x1000, x1001, x1002 => if x9 < x8 then (if 0 ≤ x9 then (if x9 < (x7.length : Int) then ((sS_Fold.f k x1000 x1001 x1002 (rdOf ByteArray.empty x7 x9)).bind fun bt277 => (if bt277.1 = true then (some (x9, bt277.2.1, bt277.2.2.1, bt277.2.2.2)) else (sS_Word.l0 k x7 x8 (wrap64 (x9 + 1)) bt277.2.1 bt277.2.2.1 bt277.2.2.2))) else (none)) else (none)) else ((sS_Fail.f x1000 x1001 x1002 (some 2)).bind fun bt281 => (some ((-1), bt281.1, bt281.2.1, bt281.2.2)))
def sS_Word.f (k : Nat) (s0_0 : ByteArray) (s0_1 : Int) (s0_2 : Option Int) (l1 : List ByteArray) : Option (Int × ByteArray × Int × Option Int) := sS_Word.l0 k l1 (l1.length : Int) 0 s0_0 s0_1 s0_2
set_option maxHeartbeats 8000000 in
set_option maxRecDepth 100000 in
theorem sS_Word.calls (k : Nat) (g : Nat) (s0_0 : ByteArray) (s0_1 : Int) (s0_2 : Option Int) (A1 : Option Addr) (c1 : Nat) (l1 : List ByteArray) (r1 : Int) (r2 : ByteArray) (r3 : Int) (r4 : Option Int) (w0 w : World) (hI : IsS60 w0 w g s0_0 s0_1 s0_2) (hB : Below w0.heap.size w0 w) (hr1 : Kd.C Kd.string w A1 l1.length l1) (hc1 : l1.length ≤ c1) (hf1 : ∀ ad, A1 = some ad → 0 < l1.length → ad.block ≠ g) (h : sS_Word.f k s0_0 s0_1 s0_2 l1 = some (r1, r2, r3, r4)) :
  Calls Try.prog 26 #[.pointer (some ⟨g, 0, none⟩), .slice A1 l1.length c1] w fun e w' => e = .returned (.int .i64 r1) ∧ IsS60 w0 w' g r2 r3 r4 ∧ Below w0.heap.size w0 w' ∧ KeepBut w w' g none := by
 have hu42 := Try.underlying42
 have hu50 := Try.underlying50
 have HR1 := Aside0.mk hr1
 have HC1 := Aside0.mk hc1
 clear hr1 hc1
 have HI0 := Aside0.mk hI
 have HK := Aside0.mk (KeepBut.refl w g none)
 have HL := Aside0.mk hB.size
 clear hI
 have HW0 := Aside0.mk hB.size
 have HB := Aside0.mk hB
 clear hB
 have H : (sS_Word.l0 k l1 (l1.length : Int) 0 s0_0 s0_1 s0_2) = some (r1, r2, r3, r4) := h
 clear h
 have H' := Aside0.mk H
 clear H
 go_enter Try.func26, Try.ntmps26
 go_wp2
 try simp only [Act.put, sl_]
 go_loopg [9] k (fun kq v9 w' => ∃ (x9_1 : Int) (x1000_1 : ByteArray) (x1001_1 : Int) (x1002_1 : Option Int), v9 = .int .i64 x9_1 ∧ Aside0 (sS_Word.l0 kq l1 (l1.length : Int) x9_1 x1000_1 x1001_1 x1002_1 = some (r1, r2, r3, r4)) ∧ Aside0 (kq ≤ k) ∧ Aside0 (IsS60 w0 w' g x1000_1 x1001_1 x1002_1) ∧ Aside0 (KeepBut w w' g none) ∧ Aside0 (Below w0.heap.size w0 w'))
 case atStart => exact ⟨(0), (s0_0), (s0_1), (s0_2), zq9, H', ⟨Nat.le_refl _⟩, ⟨zq4⟩, ⟨zq3⟩, ⟨zq6⟩⟩
 case round =>
  clear H'
  try clear c1
  try clear c2
  try clear p2
  obtain ⟨x9_1, x1000_1, x1001_1, x1002_1, rfl, HA, HK1, HI0, HK, HB⟩ := hrel
  cases gk with
  | zero => exact absurd HA.out (by simp [sS_Word.l0])
  | succ k1 =>
   have H := HA.out
   clear HA
   simp only [sS_Word.l0] at H
   by_cases c3 : x9_1 < (l1.length : Int)
   ·rw [if_pos c3] at H
    have c3b0 : decide (x9_1 < (l1.length : Int)) = true := decide_eq_true c3
    clear c3
    by_cases c4 : 0 ≤ x9_1
    ·rw [if_pos c4] at H
     have c4b0 : decide (0 ≤ x9_1) = true := decide_eq_true c4
     clear c4
     by_cases c5 : x9_1 < (l1.length : Int)
     ·rw [if_pos c5] at H
      have c5b0 : decide (x9_1 < (l1.length : Int)) = true := decide_eq_true c5
      clear c5
      replace H := Option.bind_eq_some_iff.mp H
      obtain ⟨⟨t277, t278, t279, t280⟩, A60, H⟩ := H
      replace H : (if t277 = true then (some (x9_1, t278, t279, t280)) else (sS_Word.l0 k1 l1 (l1.length : Int) (wrap64 (x9_1 + 1)) t278 t279 t280)) = some (r1, r2, r3, r4) := H
      have A6 := Aside0.mk A60
      clear A60
      by_cases c7 : t277 = true
      ·subst c7
       have H1 : (some (x9_1, t278, t279, t280)) = some (r1, r2, r3, r4) := by rw [if_pos rfl] at H; exact H
       clear H
       have H := H1
       clear H1
       simp only [Option.some.injEq, Prod.mk.injEq] at H
       obtain ⟨rfl, rfl, rfl, rfl⟩ := H
       have p276 : 0 ≤ (x9_1 : Int) := of_decide_eq_true zq10
       have q276 : x9_1 < (l1.length : Int) := of_decide_eq_true zq10
       obtain ⟨ad276, e276, hx276_0⟩ := Kd.at_string HR1.out x9_1 p276 q276
       cases e276
       replace hx276_0 := keep_cell HK.out hx276_0 (by first | (rw [add_block]; exact hf1 _ rfl (by omega)) | exact hf1 _ rfl (by omega) | exact hf1 ad276 rfl (by omega))
       replace p276 := eq_true p276
       replace q276 := eq_true q276
       go_wp2_with (first | ((with_reducible refine gate_callee (f := 24) rfl ?_); refine goesL_ (some 16) rfl rfl Try.func24 (by kernel_rfl) rfl #[.pointer (some ⟨g, 0, none⟩), .string (rdOf ByteArray.empty l1 x9_1)] rfl zq1 ?_; (with_reducible refine (sS_Fold.calls k1 g x1000_1 x1001_1 x1002_1 (rdOf ByteArray.empty l1 x9_1) true t278 t279 t280 w0 _ ?side1 ?side2 A6.out).mono ?_); (case side1 => exact zq4); (case side2 => exact zq6); rintro e w8 ⟨rfl, hi, hb, hk⟩; refine ⟨_, rfl, ?_⟩; replace HK := Aside0.mk (KeepBut.trans zq3 hk (.inl rfl)); replace HB := Aside0.mk (hb); replace HI0 := Aside0.mk (hi); (try clear hb hk hi); (try clear hb2); (try simp only [errW_none, errW_some])))
       go_ret
       exact ⟨zq8, zq4, zq6, zq3⟩
      ·replace c7 := Bool.eq_false_iff.mpr c7
       subst c7
       have H1 : (sS_Word.l0 k1 l1 (l1.length : Int) (wrap64 (x9_1 + 1)) t278 t279 t280) = some (r1, r2, r3, r4) := by rw [if_neg (show ¬ (false = true) by decide)] at H; exact H
       clear H
       have H := H1
       clear H1
       have H' := Aside0.mk H
       clear H
       have p276 : 0 ≤ (x9_1 : Int) := of_decide_eq_true zq10
       have q276 : x9_1 < (l1.length : Int) := of_decide_eq_true zq10
       obtain ⟨ad276, e276, hx276_0⟩ := Kd.at_string HR1.out x9_1 p276 q276
       cases e276
       replace hx276_0 := keep_cell HK.out hx276_0 (by first | (rw [add_block]; exact hf1 _ rfl (by omega)) | exact hf1 _ rfl (by omega) | exact hf1 ad276 rfl (by omega))
       replace p276 := eq_true p276
       replace q276 := eq_true q276
       go_wp2_with (first | ((with_reducible refine gate_callee (f := 24) rfl ?_); refine goesL_ (some 16) rfl rfl Try.func24 (by kernel_rfl) rfl #[.pointer (some ⟨g, 0, none⟩), .string (rdOf ByteArray.empty l1 x9_1)] rfl zq1 ?_; (with_reducible refine (sS_Fold.calls k1 g x1000_1 x1001_1 x1002_1 (rdOf ByteArray.empty l1 x9_1) false t278 t279 t280 w0 _ ?side1 ?side2 A6.out).mono ?_); (case side1 => exact zq4); (case side2 => exact zq6); rintro e w9 ⟨rfl, hi, hb, hk⟩; refine ⟨_, rfl, ?_⟩; replace HK := Aside0.mk (KeepBut.trans zq3 hk (.inl rfl)); replace HB := Aside0.mk (hb); replace HI0 := Aside0.mk (hi); (try clear hb hk hi); (try clear hb2); (try simp only [errW_none, errW_some])))
       go_roundg k1
       case measure => have := HK1.out; omega
       case rel => exact ⟨(wrap64 (x9_1 + 1)), (t278), (t279), (t280), zq9, H', ⟨by have := HK1.out; omega⟩, ⟨zq4⟩, ⟨zq3⟩, ⟨zq6⟩⟩
     ·rw [if_neg c5] at H
      exact absurd H (by simp)
    ·rw [if_neg c4] at H
     exact absurd H (by simp)
   ·rw [if_neg c3] at H
    have c3b0 : decide (x9_1 < (l1.length : Int)) = false := decide_eq_false c3
    clear c3
    replace H := Option.bind_eq_some_iff.mp H
    obtain ⟨⟨t281, t282, t283⟩, A100, H⟩ := H
    replace H : (some ((-1), t281, t282, t283)) = some (r1, r2, r3, r4) := H
    have A10 := Aside0.mk A100
    clear A100
    simp only [Option.some.injEq, Prod.mk.injEq] at H
    obtain ⟨rfl, rfl, rfl, rfl⟩ := H
    go_wp2_with (first | (go_at_call 21; (refine (sS_Fail.calls g x1000_1 x1001_1 x1002_1 (some 2) t281 t282 t283 w0 _ ?side1 ?side2 A10.out).mono ?_); (case side1 => exact zq4); (case side2 => exact zq6); rintro e w11 ⟨rfl, hi, hb, hk⟩; replace HK := Aside0.mk (KeepBut.trans zq3 hk (.inl rfl)); replace HB := Aside0.mk (hb); replace HI0 := Aside0.mk (hi); (try clear hb hk hi); (try clear hb2); (try simp only [errW_none, errW_some])))
    go_ret
    exact ⟨zq8, zq4, zq6, zq3⟩

/-! ### r4_Take: function 32 -/
def r4_Take.f (a0_0 : ByteArray) (a0_1 : Int) (a0_2 : Int) (a1 : Int) : Option (Bool × ByteArray × Int × Int) := (r4_Rest.f a0_0 a0_1 a0_2).bind fun t286 => (if (t286.size : Int) = 0 then (some (false, a0_0, a0_1, a0_2)) else (if 0 < (t286.size : Int) then (if (bt t286 0) = a1 then (some (true, a0_0, wrap64 (a0_1 + 1), a0_2)) else (some (false, a0_0, a0_1, a0_2))) else (none)))
set_option maxHeartbeats 8000000 in
set_option maxRecDepth 100000 in
theorem r4_Take.calls (a0_0 : ByteArray) (a0_1 : Int) (a0_2 : Int) (a1 : Int) (r1 : Bool) (r2 : ByteArray) (r3 : Int) (r4 : Int) (w : World) (h : r4_Take.f a0_0 a0_1 a0_2 a1 = some (r1, r2, r3, r4)) :
  Calls Try.prog 32 #[.agg #[.string a0_0, .int .i64 a0_1, .int .i64 a0_2], .int .u8 a1] w fun e w' => e = .returned (.tuple #[.bool r1, .agg #[.string r2, .int .i64 r3, .int .i64 r4]]) ∧ Below w.heap.size w w' := by
 have hu31 := Try.underlying31
 have HB := Aside0.mk (Below.refl w.heap.size w)
 have H : ((r4_Rest.f a0_0 a0_1 a0_2).bind fun t286 => (if (t286.size : Int) = 0 then (some (false, a0_0, a0_1, a0_2)) else (if 0 < (t286.size : Int) then (if (bt t286 0) = a1 then (some (true, a0_0, wrap64 (a0_1 + 1), a0_2)) else (some (false, a0_0, a0_1, a0_2))) else (none)))) = some (r1, r2, r3, r4) := h
 clear h
 replace H := Option.bind_eq_some_iff.mp H
 obtain ⟨t286, A30, H⟩ := H
 replace H : (if (t286.size : Int) = 0 then (some (false, a0_0, a0_1, a0_2)) else (if 0 < (t286.size : Int) then (if (bt t286 0) = a1 then (some (true, a0_0, wrap64 (a0_1 + 1), a0_2)) else (some (false, a0_0, a0_1, a0_2))) else (none))) = some (r1, r2, r3, r4) := H
 have A3 := Aside0.mk A30
 clear A30
 by_cases c4 : (t286.size : Int) = 0
 ·rw [if_pos c4] at H
  have c4b0 : ((t286.size : Int) == 0) = true := beq_iff_eq.mpr c4
  have c4b1 : ((t286.size : Int) != 0) = false := bne_eq_false_iff_eq.mpr c4
  clear c4
  simp only [Option.some.injEq, Prod.mk.injEq] at H
  obtain ⟨rfl, rfl, rfl, rfl⟩ := H
  go_enter Try.func32, Try.ntmps32
  try go_wp2_with (first | ((with_reducible refine gate_dst (N := 2) rfl ?_); refine box_event ?hg (N := 2) ?hd (cs := #[.string a0_0, .int .i64 a0_1, .int .i64 a0_2]) (t := 31) ?hr ?_; (case hd => rfl); (case hg => rfl); (case hr => exact zq16); intro gb284 hg w5 hbox hb; have n0_ := Aside0.mk (below_step zq2 hb); have n1_ := Aside0.mk (hbox); have n2_ := Aside0.mk ((by rw [hg]; exact (below_size zq2) : w.heap.size ≤ gb284)); have n3_ := Aside0.mk ((by rw [hg]; exact (below_size zq2) : w.heap.size ≤ gb284)); clear HB; have HB := n0_; have BK284 := n1_; have GW284 := n2_; have GE284 := n3_; clear n0_ n1_ n2_ n3_; clear hb hbox hg) | ((with_reducible refine gate_dst (N := 5) rfl ?_); refine box_event ?hg (N := 5) ?hd (cs := #[.string (⟨#[]⟩ : ByteArray), .int .i64 0, .int .i64 0]) (t := 31) ?hr ?_; (case hd => rfl); (case hg => rfl); (case hr => exact zq16); intro gb285 hg w6 hbox hb; have n0_ := Aside0.mk (blk_below (g := gb284) (o := .cells #[.string a0_0, .int .i64 a0_1, .int .i64 a0_2] 31 (0, 0)) (bk_ BK284.out) hb); have n1_ := Aside0.mk (below_step zq37 hb); have n2_ := Aside0.mk (hbox); have n3_ := Aside0.mk ((by rw [hg]; exact (below_size zq37) : w.heap.size ≤ gb285)); have n4_ := Aside0.mk ((by rw [hg]; exact (below_size zq37) : w.heap.size ≤ gb285)); have n5_ := Aside0.mk ((by rw [hg]; exact Nat.ne_of_lt (blk_lt (g := gb284) (o := .cells #[.string a0_0, .int .i64 a0_1, .int .i64 a0_2] 31 (0, 0)) (bk_ BK284.out)) : gb284 ≠ gb285)); have n6_ := Aside0.mk ((by rw [hg]; exact Nat.ne_of_gt (blk_lt (g := gb284) (o := .cells #[.string a0_0, .int .i64 a0_1, .int .i64 a0_2] 31 (0, 0)) (bk_ BK284.out)) : gb285 ≠ gb284)); clear BK284; clear HB; have BK284 := n0_; have HB := n1_; have BK285 := n2_; have GW285 := n3_; have GE285 := n4_; have NB284_285 := n5_; have NB285_284 := n6_; clear n0_ n1_ n2_ n3_ n4_ n5_ n6_; clear hb hbox hg; have hnb7 := NB284_285.out; have hnc7 := NB285_284.out; have hcz8_0 : w6.cell? ⟨gb284, 0, none⟩ = some (.string a0_0) := (blk_cell BK284.out 0).trans rfl; have hcz8_1 : w6.cell? ⟨gb284, 1, none⟩ = some (.int .i64 a0_1) := (blk_cell BK284.out 1).trans rfl; have hcz8_2 : w6.cell? ⟨gb284, 2, none⟩ = some (.int .i64 a0_2) := (blk_cell BK284.out 2).trans rfl; have hfz8_0 := blk_frozen BK284.out 0; have hfz8_1 := blk_frozen BK284.out 1; have hfz8_2 := blk_frozen BK284.out 2) | ((with_reducible refine gate_callee (f := 29) rfl ?_); refine goesL_ (some 8) rfl rfl Try.func29 (by kernel_rfl) rfl #[.agg #[.string a0_0, .int .i64 a0_1, .int .i64 a0_2]] rfl zq1 ?_; (with_reducible refine (r4_Rest.calls a0_0 a0_1 a0_2 t286 _ A3.out).mono ?_); rintro e w9 ⟨rfl, hb⟩; refine ⟨_, rfl, ?_⟩; replace BK284 := Aside0.mk (blk_below (g := gb284) (o := .cells #[.string a0_0, .int .i64 a0_1, .int .i64 a0_2] 31 (0, 0)) (bk_ BK284.out) hb); replace BK285 := Aside0.mk (blk_below (g := gb285) (o := .cells #[.string (⟨#[]⟩ : ByteArray), .int .i64 0, .int .i64 0] 31 (0, 0)) (bk_ BK285.out) hb); replace HB := Aside0.mk (below_step zq39 hb); (try clear hb hk hi); (try clear hb2)))
  have n0_ := Aside0.mk (blk_drew BK284.out)
  have n1_ := Aside0.mk (blk_drew BK285.out)
  have n2_ := Aside0.mk (below_drew1 HB.out)
  clear BK284
  clear BK285
  clear HB
  have BK284 := n0_
  have BK285 := n1_
  have HB := n2_
  clear n0_ n1_ n2_
  refine start_ (n := 3) (S := fun w' => w'.cell? ⟨gb284, 0, none⟩ = some (.string a0_0) ∧ w'.cell? ⟨gb284, 1, none⟩ = some (.int .i64 a0_1) ∧ w'.cell? ⟨gb284, 2, none⟩ = some (.int .i64 a0_2)) (ds := []) #[false, false, false] (by kernel_rfl) rfl rfl ⟨(blk_cell BK284.out 0).trans rfl, (blk_cell BK284.out 1).trans rfl, (blk_cell BK284.out 2).trans rfl⟩ (fun hHeld => ?_)
  generalize w9.drew = w10 at BK284 BK285 HB hHeld ⊢
  refine pure_ (i := 1) (N := some 4) (v := ?_) (a' := ?_) #[false, true, false] rfl rfl (by kernel_rfl) (fun _ _ _ h => h) (Or.inl ⟨by rfl, ?_⟩) ?_ ?_
  rotate_left
  ·intro w'
   go_simp
   with_reducible rfl
  rotate_left
  ·simp only [Act.put, sl_, i64_w, i32_w]
   rfl
  refine take_ (i := 0) (N := some 18) (v := ?_) (a' := ?_) #[true, true, false] rfl rfl (by kernel_rfl) (fun _ _ _ h => h) (Or.inl ⟨by rfl, ?_⟩) hHeld ?_ ?_
  rotate_left
  ·rintro w' ⟨s0, s1, s2⟩
   go_simp
   with_reducible rfl
  rotate_left
  ·simp only [Act.put, sl_, i64_w, i32_w]
   rfl
  refine one_ (i := 2) (N := none) #[true, true, true] rfl rfl (by kernel_rfl) (by decide) (fun K hK => ?_)
  have hs11 : w10.cell? ⟨gb285, 0, none⟩ = some (.string (⟨#[]⟩ : ByteArray)) := (blk_cell BK285.out 0).trans rfl
  have hfs11 := blk_frozen BK285.out 0
  have hns11_0 := NB284_285.out
  have hms11_0 := NB285_284.out
  have hs12 : w10.cell? ⟨gb285, 1, none⟩ = some (.int .i64 0) := (blk_cell BK285.out 1).trans rfl
  have hfs12 := blk_frozen BK285.out 1
  have hns12_0 := NB284_285.out
  have hms12_0 := NB285_284.out
  have hs13 : w10.cell? ⟨gb285, 2, none⟩ = some (.int .i64 0) := (blk_cell BK285.out 2).trans rfl
  have hfs13 := blk_frozen BK285.out 2
  have hns13_0 := NB284_285.out
  have hms13_0 := NB285_284.out
  refine skip_ (w1 := ?_) (by rfl) rfl ?_ ?_
  rotate_left
  ·go_simp
   rfl
  refine hK.out _ _ ⟨((cell_far (p := ⟨gb285, _, none⟩) NB284_285.out _).trans (((cell_far (p := ⟨gb285, _, none⟩) NB284_285.out _).trans (((cell_far (p := ⟨gb285, _, none⟩) NB284_285.out _).trans (hHeld.1)))))), ((cell_far (p := ⟨gb285, _, none⟩) NB284_285.out _).trans (((cell_far (p := ⟨gb285, _, none⟩) NB284_285.out _).trans (((cell_far (p := ⟨gb285, _, none⟩) NB284_285.out _).trans (hHeld.2.1)))))), ((cell_far (p := ⟨gb285, _, none⟩) NB284_285.out _).trans (((cell_far (p := ⟨gb285, _, none⟩) NB284_285.out _).trans (((cell_far (p := ⟨gb285, _, none⟩) NB284_285.out _).trans (hHeld.2.2))))))⟩ (fun hHeld => ?_)
  clear hK K
  refine done_ (by kernel_rfl) ?_
  try go_wp2
  refine bodyPost_ret (results_tc rfl _ _ gb285 31 #[.string a0_0, .int .i64 a0_1, .int .i64 a0_2] (0, 0) _ rfl zq60 Try.underlying31 rfl (by kernel_rfl)) rfl ?_
  exact ⟨zq8, zq39⟩
 ·rw [if_neg c4] at H
  have c4b0 : ((t286.size : Int) == 0) = false := beq_eq_false_iff_ne.mpr c4
  have c4b1 : ((t286.size : Int) != 0) = true := bne_iff_ne.mpr c4
  by_cases c14 : 0 < (t286.size : Int)
  ·rw [if_pos c14] at H
   have c14b0 : decide (0 < (t286.size : Int)) = true := decide_eq_true c14
   have c14b1 : decide (0 < t286.size) = true := decide_eq_true (by omega)
   clear c14
   by_cases c16 : (bt t286 0) = a1
   ·rw [if_pos c16] at H
    have c16b0 : ((bt t286 0) == a1) = true := beq_iff_eq.mpr c16
    have c16b1 : ((bt t286 0) != a1) = false := bne_eq_false_iff_eq.mpr c16
    clear c16
    simp only [Option.some.injEq, Prod.mk.injEq] at H
    obtain ⟨rfl, rfl, rfl, rfl⟩ := H
    go_enter Try.func32, Try.ntmps32
    try go_wp2_with (first | ((with_reducible refine gate_dst (N := 2) rfl ?_); refine box_event ?hg (N := 2) ?hd (cs := #[.string a0_0, .int .i64 a0_1, .int .i64 a0_2]) (t := 31) ?hr ?_; (case hd => rfl); (case hg => rfl); (case hr => exact zq16); intro gb284 hg w17 hbox hb; have n0_ := Aside0.mk (below_step zq2 hb); have n1_ := Aside0.mk (hbox); have n2_ := Aside0.mk ((by rw [hg]; exact (below_size zq2) : w.heap.size ≤ gb284)); have n3_ := Aside0.mk ((by rw [hg]; exact (below_size zq2) : w.heap.size ≤ gb284)); clear HB; have HB := n0_; have BK284 := n1_; have GW284 := n2_; have GE284 := n3_; clear n0_ n1_ n2_ n3_; clear hb hbox hg) | ((with_reducible refine gate_dst (N := 5) rfl ?_); refine box_event ?hg (N := 5) ?hd (cs := #[.string (⟨#[]⟩ : ByteArray), .int .i64 0, .int .i64 0]) (t := 31) ?hr ?_; (case hd => rfl); (case hg => rfl); (case hr => exact zq16); intro gb285 hg w18 hbox hb; have n0_ := Aside0.mk (blk_below (g := gb284) (o := .cells #[.string a0_0, .int .i64 a0_1, .int .i64 a0_2] 31 (0, 0)) (bk_ BK284.out) hb); have n1_ := Aside0.mk (below_step zq37 hb); have n2_ := Aside0.mk (hbox); have n3_ := Aside0.mk ((by rw [hg]; exact (below_size zq37) : w.heap.size ≤ gb285)); have n4_ := Aside0.mk ((by rw [hg]; exact (below_size zq37) : w.heap.size ≤ gb285)); have n5_ := Aside0.mk ((by rw [hg]; exact Nat.ne_of_lt (blk_lt (g := gb284) (o := .cells #[.string a0_0, .int .i64 a0_1, .int .i64 a0_2] 31 (0, 0)) (bk_ BK284.out)) : gb284 ≠ gb285)); have n6_ := Aside0.mk ((by rw [hg]; exact Nat.ne_of_gt (blk_lt (g := gb284) (o := .cells #[.string a0_0, .int .i64 a0_1, .int .i64 a0_2] 31 (0, 0)) (bk_ BK284.out)) : gb285 ≠ gb284)); clear BK284; clear HB; have BK284 := n0_; have HB := n1_; have BK285 := n2_; have GW285 := n3_; have GE285 := n4_; have NB284_285 := n5_; have NB285_284 := n6_; clear n0_ n1_ n2_ n3_ n4_ n5_ n6_; clear hb hbox hg; have hnb19 := NB284_285.out; have hnc19 := NB285_284.out; have hcz20_0 : w18.cell? ⟨gb284, 0, none⟩ = some (.string a0_0) := (blk_cell BK284.out 0).trans rfl; have hcz20_1 : w18.cell? ⟨gb284, 1, none⟩ = some (.int .i64 a0_1) := (blk_cell BK284.out 1).trans rfl; have hcz20_2 : w18.cell? ⟨gb284, 2, none⟩ = some (.int .i64 a0_2) := (blk_cell BK284.out 2).trans rfl; have hfz20_0 := blk_frozen BK284.out 0; have hfz20_1 := blk_frozen BK284.out 1; have hfz20_2 := blk_frozen BK284.out 2) | ((with_reducible refine gate_callee (f := 29) rfl ?_); refine goesL_ (some 8) rfl rfl Try.func29 (by kernel_rfl) rfl #[.agg #[.string a0_0, .int .i64 a0_1, .int .i64 a0_2]] rfl zq1 ?_; (with_reducible refine (r4_Rest.calls a0_0 a0_1 a0_2 t286 _ A3.out).mono ?_); rintro e w21 ⟨rfl, hb⟩; refine ⟨_, rfl, ?_⟩; replace BK284 := Aside0.mk (blk_below (g := gb284) (o := .cells #[.string a0_0, .int .i64 a0_1, .int .i64 a0_2] 31 (0, 0)) (bk_ BK284.out) hb); replace BK285 := Aside0.mk (blk_below (g := gb285) (o := .cells #[.string (⟨#[]⟩ : ByteArray), .int .i64 0, .int .i64 0] 31 (0, 0)) (bk_ BK285.out) hb); replace HB := Aside0.mk (below_step zq39 hb); (try clear hb hk hi); (try clear hb2); have p15 : 0 ≤ (0 : Int) := (by omega); have q15 : 0 < t286.size := (by have : (0 : Int) < (t286.size : Int) := of_decide_eq_true zq10; omega); have hx15 : ∀ h : 0 < t286.size, ((t286[0]'h).toNat : Int) = bt t286 0 := bt_at t286 0; clear p15; have qi15 : (0 < (t286.size : Int)) = True := eq_true (of_decide_eq_true zq10); replace q15 := eq_true q15; have hcz22_0 : w21.cell? ⟨gb284, 0, none⟩ = some (.string a0_0) := (blk_cell BK284.out 0).trans rfl; have hcz22_1 : w21.cell? ⟨gb284, 1, none⟩ = some (.int .i64 a0_1) := (blk_cell BK284.out 1).trans rfl; have hcz22_2 : w21.cell? ⟨gb284, 2, none⟩ = some (.int .i64 a0_2) := (blk_cell BK284.out 2).trans rfl; have hfz22_0 := blk_frozen BK284.out 0; have hfz22_1 := blk_frozen BK284.out 1; have hfz22_2 := blk_frozen BK284.out 2))
    have n0_ : Aside0 ((w21.setCell ⟨gb284, 1, none⟩ (.int .i64 (wrap64 (a0_1 + 1)))).heap[gb284]? = some (.cells #[.string a0_0, .int .i64 (wrap64 (a0_1 + 1)), .int .i64 a0_2] 31 (0, 0))) := ⟨by (with_reducible repeat (first | refine blk_drewN ?_ _ | refine blk_drew ?_ | refine blk_alloc ?_ _)); refine blk_put (cs := #[.string a0_0, .int .i64 a0_1, .int .i64 a0_2]) ?_ 1 _ rfl; (with_reducible repeat (first | refine blk_drewN ?_ _ | refine blk_drew ?_ | refine blk_alloc ?_ _)); exact BK284.out⟩
    have n1_ : Aside0 ((w21.setCell ⟨gb284, 1, none⟩ (.int .i64 (wrap64 (a0_1 + 1)))).heap[gb285]? = some (.cells #[.string (⟨#[]⟩ : ByteArray), .int .i64 0, .int .i64 0] 31 (0, 0))) := ⟨by (with_reducible repeat (first | refine blk_drewN ?_ _ | refine blk_drew ?_ | refine blk_alloc ?_ _)); refine blk_far ?_ NB285_284.out _; (with_reducible repeat (first | refine blk_drewN ?_ _ | refine blk_drew ?_ | refine blk_alloc ?_ _)); exact BK285.out⟩
    have n2_ : Aside0 (Below w.heap.size w (w21.setCell ⟨gb284, 1, none⟩ (.int .i64 (wrap64 (a0_1 + 1))))) := ⟨zq39⟩
    (try clear BK284)
    (try clear BK285)
    (try clear HB)
    generalize (w21.setCell ⟨gb284, 1, none⟩ (.int .i64 (wrap64 (a0_1 + 1)))) = w23 at n0_ n1_ n2_ ⊢
    have BK284 := n0_
    have BK285 := n1_
    have HB := n2_
    clear n0_ n1_ n2_
    have n0_ := Aside0.mk (blk_drew BK284.out)
    have n1_ := Aside0.mk (blk_drew BK285.out)
    have n2_ := Aside0.mk (below_drew1 HB.out)
    clear BK284
    clear BK285
    clear HB
    have BK284 := n0_
    have BK285 := n1_
    have HB := n2_
    clear n0_ n1_ n2_
    refine start_ (n := 3) (S := fun w' => w'.cell? ⟨gb284, 0, none⟩ = some (.string a0_0) ∧ w'.cell? ⟨gb284, 1, none⟩ = some (.int .i64 (wrap64 (a0_1 + 1))) ∧ w'.cell? ⟨gb284, 2, none⟩ = some (.int .i64 a0_2)) (ds := []) #[false, false, false] (by kernel_rfl) rfl rfl ⟨(blk_cell BK284.out 0).trans rfl, (blk_cell BK284.out 1).trans rfl, (blk_cell BK284.out 2).trans rfl⟩ (fun hHeld => ?_)
    generalize w23.drew = w24 at BK284 BK285 HB hHeld ⊢
    refine pure_ (i := 1) (N := some 4) (v := ?_) (a' := ?_) #[false, true, false] rfl rfl (by kernel_rfl) (fun _ _ _ h => h) (Or.inl ⟨by rfl, ?_⟩) ?_ ?_
    rotate_left
    ·intro w'
     go_simp
     with_reducible rfl
    rotate_left
    ·simp only [Act.put, sl_, i64_w, i32_w]
     rfl
    refine take_ (i := 0) (N := some 23) (v := ?_) (a' := ?_) #[true, true, false] rfl rfl (by kernel_rfl) (fun _ _ _ h => h) (Or.inl ⟨by rfl, ?_⟩) hHeld ?_ ?_
    rotate_left
    ·rintro w' ⟨s0, s1, s2⟩
     go_simp
     with_reducible rfl
    rotate_left
    ·simp only [Act.put, sl_, i64_w, i32_w]
     rfl
    refine one_ (i := 2) (N := none) #[true, true, true] rfl rfl (by kernel_rfl) (by decide) (fun K hK => ?_)
    have hs25 : w24.cell? ⟨gb285, 0, none⟩ = some (.string (⟨#[]⟩ : ByteArray)) := (blk_cell BK285.out 0).trans rfl
    have hfs25 := blk_frozen BK285.out 0
    have hns25_0 := NB284_285.out
    have hms25_0 := NB285_284.out
    have hs26 : w24.cell? ⟨gb285, 1, none⟩ = some (.int .i64 0) := (blk_cell BK285.out 1).trans rfl
    have hfs26 := blk_frozen BK285.out 1
    have hns26_0 := NB284_285.out
    have hms26_0 := NB285_284.out
    have hs27 : w24.cell? ⟨gb285, 2, none⟩ = some (.int .i64 0) := (blk_cell BK285.out 2).trans rfl
    have hfs27 := blk_frozen BK285.out 2
    have hns27_0 := NB284_285.out
    have hms27_0 := NB285_284.out
    refine skip_ (w1 := ?_) (by rfl) rfl ?_ ?_
    rotate_left
    ·go_simp
     rfl
    refine hK.out _ _ ⟨((cell_far (p := ⟨gb285, _, none⟩) NB284_285.out _).trans (((cell_far (p := ⟨gb285, _, none⟩) NB284_285.out _).trans (((cell_far (p := ⟨gb285, _, none⟩) NB284_285.out _).trans (hHeld.1)))))), ((cell_far (p := ⟨gb285, _, none⟩) NB284_285.out _).trans (((cell_far (p := ⟨gb285, _, none⟩) NB284_285.out _).trans (((cell_far (p := ⟨gb285, _, none⟩) NB284_285.out _).trans (hHeld.2.1)))))), ((cell_far (p := ⟨gb285, _, none⟩) NB284_285.out _).trans (((cell_far (p := ⟨gb285, _, none⟩) NB284_285.out _).trans (((cell_far (p := ⟨gb285, _, none⟩) NB284_285.out _).trans (hHeld.2.2))))))⟩ (fun hHeld => ?_)
    clear hK K
    refine done_ (by kernel_rfl) ?_
    try go_wp2
    refine bodyPost_ret (results_tc rfl _ _ gb285 31 #[.string a0_0, .int .i64 (wrap64 (a0_1 + 1)), .int .i64 a0_2] (0, 0) _ rfl (by (with_reducible repeat (first | refine blk_drewN ?_ _ | refine blk_drew ?_ | refine blk_alloc ?_ _)); refine blk_put (cs := #[.string a0_0, .int .i64 (wrap64 (a0_1 + 1)), .int .i64 0]) ?_ 2 _ rfl; (with_reducible repeat (first | refine blk_drewN ?_ _ | refine blk_drew ?_ | refine blk_alloc ?_ _)); refine blk_put (cs := #[.string a0_0, .int .i64 0, .int .i64 0]) ?_ 1 _ rfl; (with_reducible repeat (first | refine blk_drewN ?_ _ | refine blk_drew ?_ | refine blk_alloc ?_ _)); refine blk_put (cs := #[.string (⟨#[]⟩ : ByteArray), .int .i64 0, .int .i64 0]) ?_ 0 _ rfl; (with_reducible repeat (first | refine blk_drewN ?_ _ | refine blk_drew ?_ | refine blk_alloc ?_ _)); exact BK285.out) Try.underlying31 rfl (by kernel_rfl)) rfl ?_
    exact ⟨zq8, zq39⟩
   ·rw [if_neg c16] at H
    have c16b0 : ((bt t286 0) == a1) = false := beq_eq_false_iff_ne.mpr c16
    have c16b1 : ((bt t286 0) != a1) = true := bne_iff_ne.mpr c16
    simp only [Option.some.injEq, Prod.mk.injEq] at H
    obtain ⟨rfl, rfl, rfl, rfl⟩ := H
    go_enter Try.func32, Try.ntmps32
    try go_wp2_with (first | ((with_reducible refine gate_dst (N := 2) rfl ?_); refine box_event ?hg (N := 2) ?hd (cs := #[.string a0_0, .int .i64 a0_1, .int .i64 a0_2]) (t := 31) ?hr ?_; (case hd => rfl); (case hg => rfl); (case hr => exact zq16); intro gb284 hg w28 hbox hb; have n0_ := Aside0.mk (below_step zq2 hb); have n1_ := Aside0.mk (hbox); have n2_ := Aside0.mk ((by rw [hg]; exact (below_size zq2) : w.heap.size ≤ gb284)); have n3_ := Aside0.mk ((by rw [hg]; exact (below_size zq2) : w.heap.size ≤ gb284)); clear HB; have HB := n0_; have BK284 := n1_; have GW284 := n2_; have GE284 := n3_; clear n0_ n1_ n2_ n3_; clear hb hbox hg) | ((with_reducible refine gate_dst (N := 5) rfl ?_); refine box_event ?hg (N := 5) ?hd (cs := #[.string (⟨#[]⟩ : ByteArray), .int .i64 0, .int .i64 0]) (t := 31) ?hr ?_; (case hd => rfl); (case hg => rfl); (case hr => exact zq16); intro gb285 hg w29 hbox hb; have n0_ := Aside0.mk (blk_below (g := gb284) (o := .cells #[.string a0_0, .int .i64 a0_1, .int .i64 a0_2] 31 (0, 0)) (bk_ BK284.out) hb); have n1_ := Aside0.mk (below_step zq37 hb); have n2_ := Aside0.mk (hbox); have n3_ := Aside0.mk ((by rw [hg]; exact (below_size zq37) : w.heap.size ≤ gb285)); have n4_ := Aside0.mk ((by rw [hg]; exact (below_size zq37) : w.heap.size ≤ gb285)); have n5_ := Aside0.mk ((by rw [hg]; exact Nat.ne_of_lt (blk_lt (g := gb284) (o := .cells #[.string a0_0, .int .i64 a0_1, .int .i64 a0_2] 31 (0, 0)) (bk_ BK284.out)) : gb284 ≠ gb285)); have n6_ := Aside0.mk ((by rw [hg]; exact Nat.ne_of_gt (blk_lt (g := gb284) (o := .cells #[.string a0_0, .int .i64 a0_1, .int .i64 a0_2] 31 (0, 0)) (bk_ BK284.out)) : gb285 ≠ gb284)); clear BK284; clear HB; have BK284 := n0_; have HB := n1_; have BK285 := n2_; have GW285 := n3_; have GE285 := n4_; have NB284_285 := n5_; have NB285_284 := n6_; clear n0_ n1_ n2_ n3_ n4_ n5_ n6_; clear hb hbox hg; have hnb30 := NB284_285.out; have hnc30 := NB285_284.out; have hcz31_0 : w29.cell? ⟨gb284, 0, none⟩ = some (.string a0_0) := (blk_cell BK284.out 0).trans rfl; have hcz31_1 : w29.cell? ⟨gb284, 1, none⟩ = some (.int .i64 a0_1) := (blk_cell BK284.out 1).trans rfl; have hcz31_2 : w29.cell? ⟨gb284, 2, none⟩ = some (.int .i64 a0_2) := (blk_cell BK284.out 2).trans rfl; have hfz31_0 := blk_frozen BK284.out 0; have hfz31_1 := blk_frozen BK284.out 1; have hfz31_2 := blk_frozen BK284.out 2) | ((with_reducible refine gate_callee (f := 29) rfl ?_); refine goesL_ (some 8) rfl rfl Try.func29 (by kernel_rfl) rfl #[.agg #[.string a0_0, .int .i64 a0_1, .int .i64 a0_2]] rfl zq1 ?_; (with_reducible refine (r4_Rest.calls a0_0 a0_1 a0_2 t286 _ A3.out).mono ?_); rintro e w32 ⟨rfl, hb⟩; refine ⟨_, rfl, ?_⟩; replace BK284 := Aside0.mk (blk_below (g := gb284) (o := .cells #[.string a0_0, .int .i64 a0_1, .int .i64 a0_2] 31 (0, 0)) (bk_ BK284.out) hb); replace BK285 := Aside0.mk (blk_below (g := gb285) (o := .cells #[.string (⟨#[]⟩ : ByteArray), .int .i64 0, .int .i64 0] 31 (0, 0)) (bk_ BK285.out) hb); replace HB := Aside0.mk (below_step zq39 hb); (try clear hb hk hi); (try clear hb2); have p15 : 0 ≤ (0 : Int) := (by omega); have q15 : 0 < t286.size := (by have : (0 : Int) < (t286.size : Int) := of_decide_eq_true zq10; omega); have hx15 : ∀ h : 0 < t286.size, ((t286[0]'h).toNat : Int) = bt t286 0 := bt_at t286 0; clear p15; have qi15 : (0 < (t286.size : Int)) = True := eq_true (of_decide_eq_true zq10); replace q15 := eq_true q15))
    have n0_ := Aside0.mk (blk_drew BK284.out)
    have n1_ := Aside0.mk (blk_drew BK285.out)
    have n2_ := Aside0.mk (below_drew1 HB.out)
    clear BK284
    clear BK285
    clear HB
    have BK284 := n0_
    have BK285 := n1_
    have HB := n2_
    clear n0_ n1_ n2_
    refine start_ (n := 3) (S := fun w' => w'.cell? ⟨gb284, 0, none⟩ = some (.string a0_0) ∧ w'.cell? ⟨gb284, 1, none⟩ = some (.int .i64 a0_1) ∧ w'.cell? ⟨gb284, 2, none⟩ = some (.int .i64 a0_2)) (ds := []) #[false, false, false] (by kernel_rfl) rfl rfl ⟨(blk_cell BK284.out 0).trans rfl, (blk_cell BK284.out 1).trans rfl, (blk_cell BK284.out 2).trans rfl⟩ (fun hHeld => ?_)
    generalize w32.drew = w33 at BK284 BK285 HB hHeld ⊢
    refine pure_ (i := 1) (N := some 4) (v := ?_) (a' := ?_) #[false, true, false] rfl rfl (by kernel_rfl) (fun _ _ _ h => h) (Or.inl ⟨by rfl, ?_⟩) ?_ ?_
    rotate_left
    ·intro w'
     go_simp
     with_reducible rfl
    rotate_left
    ·simp only [Act.put, sl_, i64_w, i32_w]
     rfl
    refine take_ (i := 0) (N := some 18) (v := ?_) (a' := ?_) #[true, true, false] rfl rfl (by kernel_rfl) (fun _ _ _ h => h) (Or.inl ⟨by rfl, ?_⟩) hHeld ?_ ?_
    rotate_left
    ·rintro w' ⟨s0, s1, s2⟩
     go_simp
     with_reducible rfl
    rotate_left
    ·simp only [Act.put, sl_, i64_w, i32_w]
     rfl
    refine one_ (i := 2) (N := none) #[true, true, true] rfl rfl (by kernel_rfl) (by decide) (fun K hK => ?_)
    have hs34 : w33.cell? ⟨gb285, 0, none⟩ = some (.string (⟨#[]⟩ : ByteArray)) := (blk_cell BK285.out 0).trans rfl
    have hfs34 := blk_frozen BK285.out 0
    have hns34_0 := NB284_285.out
    have hms34_0 := NB285_284.out
    have hs35 : w33.cell? ⟨gb285, 1, none⟩ = some (.int .i64 0) := (blk_cell BK285.out 1).trans rfl
    have hfs35 := blk_frozen BK285.out 1
    have hns35_0 := NB284_285.out
    have hms35_0 := NB285_284.out
    have hs36 : w33.cell? ⟨gb285, 2, none⟩ = some (.int .i64 0) := (blk_cell BK285.out 2).trans rfl
    have hfs36 := blk_frozen BK285.out 2
    have hns36_0 := NB284_285.out
    have hms36_0 := NB285_284.out
    refine skip_ (w1 := ?_) (by rfl) rfl ?_ ?_
    rotate_left
    ·go_simp
     rfl
    refine hK.out _ _ ⟨((cell_far (p := ⟨gb285, _, none⟩) NB284_285.out _).trans (((cell_far (p := ⟨gb285, _, none⟩) NB284_285.out _).trans (((cell_far (p := ⟨gb285, _, none⟩) NB284_285.out _).trans (hHeld.1)))))), ((cell_far (p := ⟨gb285, _, none⟩) NB284_285.out _).trans (((cell_far (p := ⟨gb285, _, none⟩) NB284_285.out _).trans (((cell_far (p := ⟨gb285, _, none⟩) NB284_285.out _).trans (hHeld.2.1)))))), ((cell_far (p := ⟨gb285, _, none⟩) NB284_285.out _).trans (((cell_far (p := ⟨gb285, _, none⟩) NB284_285.out _).trans (((cell_far (p := ⟨gb285, _, none⟩) NB284_285.out _).trans (hHeld.2.2))))))⟩ (fun hHeld => ?_)
    clear hK K
    refine done_ (by kernel_rfl) ?_
    try go_wp2
    refine bodyPost_ret (results_tc rfl _ _ gb285 31 #[.string a0_0, .int .i64 a0_1, .int .i64 a0_2] (0, 0) _ rfl zq60 Try.underlying31 rfl (by kernel_rfl)) rfl ?_
    exact ⟨zq8, zq39⟩
  ·rw [if_neg c14] at H
   exact absurd H (by simp)

/-! ### r4_alike: function 56 -/
def r4_alike.f (a0 : Int) (a1 : Int) : Option (Bool) := if a0 = a1 then (some true) else (if a0 ≥ 65 then (if a0 ≤ 90 then (if a1 = ((a0 + 32) % 256) then (some true) else (if a1 ≥ 65 then (if a1 ≤ 90 then (some (a0 == ((a1 + 32) % 256))) else (some false)) else (some false))) else (if a1 ≥ 65 then (if a1 ≤ 90 then (some (a0 == ((a1 + 32) % 256))) else (some false)) else (some false))) else (if a1 ≥ 65 then (if a1 ≤ 90 then (some (a0 == ((a1 + 32) % 256))) else (some false)) else (some false)))
set_option maxHeartbeats 8000000 in
set_option maxRecDepth 100000 in
theorem r4_alike.calls (a0 : Int) (a1 : Int) (r : Bool) (w : World) (h : r4_alike.f a0 a1 = some r) :
  Calls Try.prog 56 #[.int .u8 a0, .int .u8 a1] w fun e w' => e = .returned (.bool r) ∧ Drawn0 w w' := by
 have H : (if a0 = a1 then (some true) else (if a0 ≥ 65 then (if a0 ≤ 90 then (if a1 = ((a0 + 32) % 256) then (some true) else (if a1 ≥ 65 then (if a1 ≤ 90 then (some (a0 == ((a1 + 32) % 256))) else (some false)) else (some false))) else (if a1 ≥ 65 then (if a1 ≤ 90 then (some (a0 == ((a1 + 32) % 256))) else (some false)) else (some false))) else (if a1 ≥ 65 then (if a1 ≤ 90 then (some (a0 == ((a1 + 32) % 256))) else (some false)) else (some false)))) = some r := h
 clear h
 by_cases c3 : a0 = a1
 ·rw [if_pos c3] at H
  have c3b0 : (a0 == a1) = true := beq_iff_eq.mpr c3
  have c3b1 : (a0 != a1) = false := bne_eq_false_iff_eq.mpr c3
  clear c3
  obtain rfl := Option.some.inj H
  go_enter Try.func56, Try.ntmps56
  go_wp2
  go_ret
  exact ⟨zq9, zq22⟩
 ·rw [if_neg c3] at H
  have c3b0 : (a0 == a1) = false := beq_eq_false_iff_ne.mpr c3
  have c3b1 : (a0 != a1) = true := bne_iff_ne.mpr c3
  by_cases c4 : a0 ≥ 65
  ·rw [if_pos c4] at H
   have c4b0 : decide (65 ≤ a0) = true := decide_eq_true c4
   clear c4
   by_cases c5 : a0 ≤ 90
   ·rw [if_pos c5] at H
    have c5b0 : decide (a0 ≤ 90) = true := decide_eq_true c5
    clear c5
    by_cases c6 : a1 = ((a0 + 32) % 256)
    ·rw [if_pos c6] at H
     have c6b0 : (a1 == ((a0 + 32) % 256)) = true := beq_iff_eq.mpr c6
     have c6b1 : (a1 != ((a0 + 32) % 256)) = false := bne_eq_false_iff_eq.mpr c6
     clear c6
     obtain rfl := Option.some.inj H
     go_enter Try.func56, Try.ntmps56
     go_wp2
     go_ret
     exact ⟨zq9, zq22⟩
    ·rw [if_neg c6] at H
     have c6b0 : (a1 == ((a0 + 32) % 256)) = false := beq_eq_false_iff_ne.mpr c6
     have c6b1 : (a1 != ((a0 + 32) % 256)) = true := bne_iff_ne.mpr c6
     by_cases c7 : a1 ≥ 65
     ·rw [if_pos c7] at H
      have c7b0 : decide (65 ≤ a1) = true := decide_eq_true c7
      clear c7
      by_cases c8 : a1 ≤ 90
      ·rw [if_pos c8] at H
       have c8b0 : decide (a1 ≤ 90) = true := decide_eq_true c8
       clear c8
       obtain rfl := Option.some.inj H
       go_enter Try.func56, Try.ntmps56
       go_wp2
       go_ret
       exact ⟨zq9, zq22⟩
      ·rw [if_neg c8] at H
       have c8b0 : decide (a1 ≤ 90) = false := decide_eq_false c8
       clear c8
       obtain rfl := Option.some.inj H
       go_enter Try.func56, Try.ntmps56
       go_wp2
       go_ret
       exact ⟨zq9, zq22⟩
     ·rw [if_neg c7] at H
      have c7b0 : decide (65 ≤ a1) = false := decide_eq_false c7
      clear c7
      obtain rfl := Option.some.inj H
      go_enter Try.func56, Try.ntmps56
      go_wp2
      go_ret
      exact ⟨zq9, zq22⟩
   ·rw [if_neg c5] at H
    have c5b0 : decide (a0 ≤ 90) = false := decide_eq_false c5
    clear c5
    by_cases c9 : a1 ≥ 65
    ·rw [if_pos c9] at H
     have c9b0 : decide (65 ≤ a1) = true := decide_eq_true c9
     clear c9
     by_cases c10 : a1 ≤ 90
     ·rw [if_pos c10] at H
      have c10b0 : decide (a1 ≤ 90) = true := decide_eq_true c10
      clear c10
      obtain rfl := Option.some.inj H
      go_enter Try.func56, Try.ntmps56
      go_wp2
      go_ret
      exact ⟨zq9, zq22⟩
     ·rw [if_neg c10] at H
      have c10b0 : decide (a1 ≤ 90) = false := decide_eq_false c10
      clear c10
      obtain rfl := Option.some.inj H
      go_enter Try.func56, Try.ntmps56
      go_wp2
      go_ret
      exact ⟨zq9, zq22⟩
    ·rw [if_neg c9] at H
     have c9b0 : decide (65 ≤ a1) = false := decide_eq_false c9
     clear c9
     obtain rfl := Option.some.inj H
     go_enter Try.func56, Try.ntmps56
     go_wp2
     go_ret
     exact ⟨zq9, zq22⟩
  ·rw [if_neg c4] at H
   have c4b0 : decide (65 ≤ a0) = false := decide_eq_false c4
   clear c4
   by_cases c11 : a1 ≥ 65
   ·rw [if_pos c11] at H
    have c11b0 : decide (65 ≤ a1) = true := decide_eq_true c11
    clear c11
    by_cases c12 : a1 ≤ 90
    ·rw [if_pos c12] at H
     have c12b0 : decide (a1 ≤ 90) = true := decide_eq_true c12
     clear c12
     obtain rfl := Option.some.inj H
     go_enter Try.func56, Try.ntmps56
     go_wp2
     go_ret
     exact ⟨zq9, zq22⟩
    ·rw [if_neg c12] at H
     have c12b0 : decide (a1 ≤ 90) = false := decide_eq_false c12
     clear c12
     obtain rfl := Option.some.inj H
     go_enter Try.func56, Try.ntmps56
     go_wp2
     go_ret
     exact ⟨zq9, zq22⟩
   ·rw [if_neg c11] at H
    have c11b0 : decide (65 ≤ a1) = false := decide_eq_false c11
    clear c11
    obtain rfl := Option.some.inj H
    go_enter Try.func56, Try.ntmps56
    go_wp2
    go_ret
    exact ⟨zq9, zq22⟩

end Go.Proofs.Ytonjfggfcnpgbaa.MScanPlays
