-- This text was written by a program of this session (a changed scratch copy of a tool of the kit; NOTES.md tells the changes).
import Derived.Test.YtonjfggfcnpgbaaMScanPlaysx0
import Derived.Test.YtonjfggfcnpgbaaMScanPlaysx2
import Derived.Test.YtonjfggfcnpgbaaMScanPlaysx3
import Derived.Test.YtonjfggfcnpgbaaMScanPlaysx15
namespace Go.Proofs.Ytonjfggfcnpgbaa.MScanPlays
open Go.RowKit Go.Proofs.YtonjfggfcnpgbaaW.PrintWords Go.Proofs.YtonjfggfcnpgbaaW.PrintLast Go.Proofs.YtonjfggfcnpgbaaW.PrintMore
attribute [local go_sem] max2_int min2_int max_two min_two max_three min_three max_four min_four   -- for this text's walks alone
set_option linter.unusedVariables false
set_option linter.unusedSimpArgs false

/-! ### sB_Figures: function 44 -/
def sB_Figures.f (k : Nat) (s0_0 : ByteArray) (s0_1 : Int) (s0_2 : Option Int) (a1 : Int) (a2 : Int) : Option (Int × ByteArray × Int × Option Int) := (sB_going.f s0_0 s0_1 s0_2).bind fun bt584 => (if bt584.1 = true then ((sB_rest.f bt584.2.1 bt584.2.2.1 bt584.2.2.2).bind fun bt588 => ((figures_Take.f k bt588.1 a1 a2).bind fun bt592 => (if bt592.2.2.isNone = true then ((sB_take.f k bt588.2.1 bt588.2.2.1 bt588.2.2.2 bt592.2.1).bind fun bt596 => (some (bt592.1, bt596.2.1, bt596.2.2.1, bt596.2.2.2))) else (some (0, bt588.2.1, bt588.2.2.1, some (bt592.2.2.getD 0)))))) else (some (0, bt584.2.1, bt584.2.2.1, bt584.2.2.2)))
set_option maxHeartbeats 8000000 in
set_option maxRecDepth 100000 in
theorem sB_Figures.calls (k : Nat) (g : Nat) (s0_0 : ByteArray) (s0_1 : Int) (s0_2 : Option Int) (a1 : Int) (a2 : Int) (r1 : Int) (r2 : ByteArray) (r3 : Int) (r4 : Option Int) (w0 w : World) (hI : IsS61 w0 w g s0_0 s0_1 s0_2) (hB : Below w0.heap.size w0 w) (h : sB_Figures.f k s0_0 s0_1 s0_2 a1 a2 = some (r1, r2, r3, r4)) :
  Calls Try.prog 44 #[.pointer (some ⟨g, 0, none⟩), .int .i64 a1, .int .i64 a2] w fun e w' => e = .returned (.int .i64 r1) ∧ IsS61 w0 w' g r2 r3 r4 ∧ Below w0.heap.size w0 w' ∧ KeepBut w w' g none := by
 have hu42 := Try.underlying42
 have hu50 := Try.underlying50
 have HI0 := Aside0.mk hI
 have HK := Aside0.mk (KeepBut.refl w g none)
 have HL := Aside0.mk hB.size
 clear hI
 have HW0 := Aside0.mk hB.size
 have HB := Aside0.mk hB
 clear hB
 have H : ((sB_going.f s0_0 s0_1 s0_2).bind fun bt584 => (if bt584.1 = true then ((sB_rest.f bt584.2.1 bt584.2.2.1 bt584.2.2.2).bind fun bt588 => ((figures_Take.f k bt588.1 a1 a2).bind fun bt592 => (if bt592.2.2.isNone = true then ((sB_take.f k bt588.2.1 bt588.2.2.1 bt588.2.2.2 bt592.2.1).bind fun bt596 => (some (bt592.1, bt596.2.1, bt596.2.2.1, bt596.2.2.2))) else (some (0, bt588.2.1, bt588.2.2.1, some (bt592.2.2.getD 0)))))) else (some (0, bt584.2.1, bt584.2.2.1, bt584.2.2.2)))) = some (r1, r2, r3, r4) := h
 clear h
 replace H := Option.bind_eq_some_iff.mp H
 obtain ⟨⟨t584, t585, t586, t587⟩, A40, H⟩ := H
 replace H : (if t584 = true then ((sB_rest.f t585 t586 t587).bind fun bt588 => ((figures_Take.f k bt588.1 a1 a2).bind fun bt592 => (if bt592.2.2.isNone = true then ((sB_take.f k bt588.2.1 bt588.2.2.1 bt588.2.2.2 bt592.2.1).bind fun bt596 => (some (bt592.1, bt596.2.1, bt596.2.2.1, bt596.2.2.2))) else (some (0, bt588.2.1, bt588.2.2.1, some (bt592.2.2.getD 0)))))) else (some (0, t585, t586, t587))) = some (r1, r2, r3, r4) := H
 have A4 := Aside0.mk A40
 clear A40
 by_cases c5 : t584 = true
 ·subst c5
  have H1 : ((sB_rest.f t585 t586 t587).bind fun bt588 => ((figures_Take.f k bt588.1 a1 a2).bind fun bt592 => (if bt592.2.2.isNone = true then ((sB_take.f k bt588.2.1 bt588.2.2.1 bt588.2.2.2 bt592.2.1).bind fun bt596 => (some (bt592.1, bt596.2.1, bt596.2.2.1, bt596.2.2.2))) else (some (0, bt588.2.1, bt588.2.2.1, some (bt592.2.2.getD 0)))))) = some (r1, r2, r3, r4) := by rw [if_pos rfl] at H; exact H
  clear H
  have H := H1
  clear H1
  replace H := Option.bind_eq_some_iff.mp H
  obtain ⟨⟨t588, t589, t590, t591⟩, A60, H⟩ := H
  replace H : ((figures_Take.f k t588 a1 a2).bind fun bt592 => (if bt592.2.2.isNone = true then ((sB_take.f k t589 t590 t591 bt592.2.1).bind fun bt596 => (some (bt592.1, bt596.2.1, bt596.2.2.1, bt596.2.2.2))) else (some (0, t589, t590, some (bt592.2.2.getD 0))))) = some (r1, r2, r3, r4) := H
  have A6 := Aside0.mk A60
  clear A60
  replace H := Option.bind_eq_some_iff.mp H
  obtain ⟨⟨t592, t593, t594⟩, A70, H⟩ := H
  replace H : (if t594.isNone = true then ((sB_take.f k t589 t590 t591 t593).bind fun bt596 => (some (t592, bt596.2.1, bt596.2.2.1, bt596.2.2.2))) else (some (0, t589, t590, some (t594.getD 0)))) = some (r1, r2, r3, r4) := H
  have A7 := Aside0.mk A70
  clear A70
  rcases t594 with _ | q595
  ·have H1 : ((sB_take.f k t589 t590 t591 t593).bind fun bt596 => (some (t592, bt596.2.1, bt596.2.2.1, bt596.2.2.2))) = some (r1, r2, r3, r4) := by rw [if_pos (show (none : Option Int).isNone = true by rfl)] at H; exact H
   clear H
   have H := H1
   clear H1
   try simp only [errW_none, errW_some]
   replace H := Option.bind_eq_some_iff.mp H
   obtain ⟨⟨t596, t597, t598, t599⟩, A80, H⟩ := H
   replace H : (some (t592, t597, t598, t599)) = some (r1, r2, r3, r4) := H
   have A8 := Aside0.mk A80
   clear A80
   simp only [Option.some.injEq, Prod.mk.injEq] at H
   obtain ⟨rfl, rfl, rfl, rfl⟩ := H
   go_enter Try.func44, Try.ntmps44
   go_wp2_with (first | ((with_reducible refine gate_callee (f := 61) rfl ?_); refine goesL_ (some 11) rfl rfl Try.func61 (by kernel_rfl) rfl #[.pointer (some ⟨g, 0, none⟩)] rfl zq1 ?_; (with_reducible refine (sB_going.calls g s0_0 s0_1 s0_2 true t585 t586 t587 w0 _ ?side1 ?side2 A4.out).mono ?_); (case side1 => exact zq5); (case side2 => exact zq7); rintro e w9 ⟨rfl, hi, hb, hk⟩; refine ⟨_, rfl, ?_⟩; replace HK := Aside0.mk (KeepBut.trans zq3 hk (.inl rfl)); replace HB := Aside0.mk (hb); replace HI0 := Aside0.mk (hi); (try clear hb hk hi); (try clear hb2); (try simp only [errW_none, errW_some])) | ((with_reducible refine gate_callee (f := 60) rfl ?_); refine goesL_ (some 15) rfl rfl Try.func60 (by kernel_rfl) rfl #[.pointer (some ⟨g, 0, none⟩)] rfl zq1 ?_; (with_reducible refine (sB_rest.calls g t585 t586 t587 t588 t589 t590 t591 w0 _ ?side1 ?side2 A6.out).mono ?_); (case side1 => exact zq5); (case side2 => exact zq7); rintro e w10 ⟨rfl, hi, hb, hk⟩; refine ⟨_, rfl, ?_⟩; replace HK := Aside0.mk (KeepBut.trans zq3 hk (.inl rfl)); replace HB := Aside0.mk (hb); replace HI0 := Aside0.mk (hi); (try clear hb hk hi); (try clear hb2); (try simp only [errW_none, errW_some])) | ((with_reducible refine gate_callee (f := 55) rfl ?_); refine goesL_ (some 18) rfl rfl Try.func55 (by kernel_rfl) rfl #[.string t588, .int .i64 a1, .int .i64 a2] rfl zq1 ?_; (with_reducible refine (figures_Take.calls k t588 a1 a2 t592 t593 none _ A7.out).mono ?_); rintro e w11 ⟨rfl, hb⟩; refine ⟨_, rfl, ?_⟩; replace HI0 := Aside0.mk (IsS61.below zq5 hb); replace HK := Aside0.mk (KeepBut.trans zq3 (KeepBut.of_below hb g none) (.inl rfl)); replace HB := Aside0.mk (below_step zq7 hb); (try clear hb hk hi); (try clear hb2); (try simp only [errW_none, errW_some])) | ((with_reducible refine gate_callee (f := 59) rfl ?_); refine goesL_ (some 30) rfl rfl Try.func59 (by kernel_rfl) rfl #[.pointer (some ⟨g, 0, none⟩), .int .i64 t593] rfl zq1 ?_; (with_reducible refine (sB_take.calls k g t589 t590 t591 t593 t596 t597 t598 t599 w0 _ ?side1 ?side2 A8.out).mono ?_); (case side1 => exact zq5); (case side2 => exact zq7); rintro e w12 ⟨rfl, hi, hb, hk⟩; refine ⟨_, rfl, ?_⟩; replace HK := Aside0.mk (KeepBut.trans zq3 hk (.inl rfl)); replace HB := Aside0.mk (hb); replace HI0 := Aside0.mk (hi); (try clear hb hk hi); (try clear hb2); (try simp only [errW_none, errW_some])))
   go_ret
   exact ⟨zq8, zq5, zq7, zq3⟩
  ·have H1 : (some (0, t589, t590, some q595)) = some (r1, r2, r3, r4) := by rw [if_neg (show ¬ (some q595).isNone = true by simp)] at H; exact H
   clear H
   have H := H1
   clear H1
   try simp only [errW_none, errW_some]
   simp only [Option.some.injEq, Prod.mk.injEq] at H
   obtain ⟨rfl, rfl, rfl, rfl⟩ := H
   go_enter Try.func44, Try.ntmps44
   go_wp2_with (first | ((with_reducible refine gate_callee (f := 61) rfl ?_); refine goesL_ (some 11) rfl rfl Try.func61 (by kernel_rfl) rfl #[.pointer (some ⟨g, 0, none⟩)] rfl zq1 ?_; (with_reducible refine (sB_going.calls g s0_0 s0_1 s0_2 true t585 t586 t587 w0 _ ?side1 ?side2 A4.out).mono ?_); (case side1 => exact zq5); (case side2 => exact zq7); rintro e w13 ⟨rfl, hi, hb, hk⟩; refine ⟨_, rfl, ?_⟩; replace HK := Aside0.mk (KeepBut.trans zq3 hk (.inl rfl)); replace HB := Aside0.mk (hb); replace HI0 := Aside0.mk (hi); (try clear hb hk hi); (try clear hb2); (try simp only [errW_none, errW_some])) | ((with_reducible refine gate_callee (f := 60) rfl ?_); refine goesL_ (some 15) rfl rfl Try.func60 (by kernel_rfl) rfl #[.pointer (some ⟨g, 0, none⟩)] rfl zq1 ?_; (with_reducible refine (sB_rest.calls g t585 t586 t587 t588 t589 t590 t591 w0 _ ?side1 ?side2 A6.out).mono ?_); (case side1 => exact zq5); (case side2 => exact zq7); rintro e w14 ⟨rfl, hi, hb, hk⟩; refine ⟨_, rfl, ?_⟩; replace HK := Aside0.mk (KeepBut.trans zq3 hk (.inl rfl)); replace HB := Aside0.mk (hb); replace HI0 := Aside0.mk (hi); (try clear hb hk hi); (try clear hb2); (try simp only [errW_none, errW_some])) | ((with_reducible refine gate_callee (f := 55) rfl ?_); refine goesL_ (some 18) rfl rfl Try.func55 (by kernel_rfl) rfl #[.string t588, .int .i64 a1, .int .i64 a2] rfl zq1 ?_; (with_reducible refine (figures_Take.calls k t588 a1 a2 t592 t593 (some q595) _ A7.out).mono ?_); rintro e w15 ⟨rfl, hb⟩; refine ⟨_, rfl, ?_⟩; replace HI0 := Aside0.mk (IsS61.below zq5 hb); replace HK := Aside0.mk (KeepBut.trans zq3 (KeepBut.of_below hb g none) (.inl rfl)); replace HB := Aside0.mk (below_step zq7 hb); (try clear hb hk hi); (try clear hb2); (try simp only [errW_none, errW_some]); obtain ⟨HGz16, hgz16⟩ := HI0.out; have hcz16_0 := cellS61_0 HGz16; have hcz16_1 := cellS61_1 HGz16; have hcz16_2 := cellS61_2 HGz16; have hfz16_0 := blk_frozen HGz16 0; have hfz16_1 := blk_frozen HGz16 1; have hfz16_2 := blk_frozen HGz16 2; try simp only [errW_none, errW_some] at hcz16_2; clear HGz16 hgz16))
   go_ret
   exact ⟨zq8, zq5, zq7, zq3⟩
 ·replace c5 := Bool.eq_false_iff.mpr c5
  subst c5
  have H1 : (some (0, t585, t586, t587)) = some (r1, r2, r3, r4) := by rw [if_neg (show ¬ (false = true) by decide)] at H; exact H
  clear H
  have H := H1
  clear H1
  simp only [Option.some.injEq, Prod.mk.injEq] at H
  obtain ⟨rfl, rfl, rfl, rfl⟩ := H
  go_enter Try.func44, Try.ntmps44
  go_wp2_with (first | ((with_reducible refine gate_callee (f := 61) rfl ?_); refine goesL_ (some 11) rfl rfl Try.func61 (by kernel_rfl) rfl #[.pointer (some ⟨g, 0, none⟩)] rfl zq1 ?_; (with_reducible refine (sB_going.calls g s0_0 s0_1 s0_2 false t585 t586 t587 w0 _ ?side1 ?side2 A4.out).mono ?_); (case side1 => exact zq5); (case side2 => exact zq7); rintro e w17 ⟨rfl, hi, hb, hk⟩; refine ⟨_, rfl, ?_⟩; replace HK := Aside0.mk (KeepBut.trans zq3 hk (.inl rfl)); replace HB := Aside0.mk (hb); replace HI0 := Aside0.mk (hi); (try clear hb hk hi); (try clear hb2); (try simp only [errW_none, errW_some])))
  go_ret
  exact ⟨zq8, zq5, zq7, zq3⟩

/-! ### sB_Fail: function 48 -/
def sB_Fail.f (s0_0 : ByteArray) (s0_1 : Int) (s0_2 : Option Int) (a1 : Option Int) : Option (ByteArray × Int × Option Int) := (sB_going.f s0_0 s0_1 s0_2).bind fun bt600 => (if bt600.1 = true then (if a1.isNone = true then (some (bt600.2.1, bt600.2.2.1, none)) else (some (bt600.2.1, bt600.2.2.1, some (a1.getD 0)))) else (some (bt600.2.1, bt600.2.2.1, bt600.2.2.2)))
set_option maxHeartbeats 8000000 in
set_option maxRecDepth 100000 in
theorem sB_Fail.calls (g : Nat) (s0_0 : ByteArray) (s0_1 : Int) (s0_2 : Option Int) (a1 : Option Int) (r1 : ByteArray) (r2 : Int) (r3 : Option Int) (w0 w : World) (hI : IsS61 w0 w g s0_0 s0_1 s0_2) (hB : Below w0.heap.size w0 w) (h : sB_Fail.f s0_0 s0_1 s0_2 a1 = some (r1, r2, r3)) :
  Calls Try.prog 48 #[.pointer (some ⟨g, 0, none⟩), errW a1] w fun e w' => e = .returned (.tuple #[]) ∧ IsS61 w0 w' g r1 r2 r3 ∧ Below w0.heap.size w0 w' ∧ KeepBut w w' g none := by
 have HI0 := Aside0.mk hI
 have HK := Aside0.mk (KeepBut.refl w g none)
 have HL := Aside0.mk hB.size
 clear hI
 have HW0 := Aside0.mk hB.size
 have HB := Aside0.mk hB
 clear hB
 have H : ((sB_going.f s0_0 s0_1 s0_2).bind fun bt600 => (if bt600.1 = true then (if a1.isNone = true then (some (bt600.2.1, bt600.2.2.1, none)) else (some (bt600.2.1, bt600.2.2.1, some (a1.getD 0)))) else (some (bt600.2.1, bt600.2.2.1, bt600.2.2.2)))) = some (r1, r2, r3) := h
 clear h
 replace H := Option.bind_eq_some_iff.mp H
 obtain ⟨⟨t600, t601, t602, t603⟩, A30, H⟩ := H
 replace H : (if t600 = true then (if a1.isNone = true then (some (t601, t602, none)) else (some (t601, t602, some (a1.getD 0)))) else (some (t601, t602, t603))) = some (r1, r2, r3) := H
 have A3 := Aside0.mk A30
 clear A30
 by_cases c4 : t600 = true
 ·subst c4
  have H1 : (if a1.isNone = true then (some (t601, t602, none)) else (some (t601, t602, some (a1.getD 0)))) = some (r1, r2, r3) := by rw [if_pos rfl] at H; exact H
  clear H
  have H := H1
  clear H1
  rcases a1 with _ | q604
  ·have H1 : (some (t601, t602, none)) = some (r1, r2, r3) := by rw [if_pos (show (none : Option Int).isNone = true by rfl)] at H; exact H
   clear H
   have H := H1
   clear H1
   simp only [errW_none, errW_some]
   simp only [Option.some.injEq, Prod.mk.injEq] at H
   obtain ⟨rfl, rfl, rfl⟩ := H
   go_enter Try.func48, Try.ntmps48
   go_wp2_with (first | ((with_reducible refine gate_callee (f := 61) rfl ?_); refine goesL_ (some 5) rfl rfl Try.func61 (by kernel_rfl) rfl #[.pointer (some ⟨g, 0, none⟩)] rfl zq1 ?_; (with_reducible refine (sB_going.calls g s0_0 s0_1 s0_2 true t601 t602 t603 w0 _ ?side1 ?side2 A3.out).mono ?_); (case side1 => exact zq5); (case side2 => exact zq7); rintro e w5 ⟨rfl, hi, hb, hk⟩; refine ⟨_, rfl, ?_⟩; replace HK := Aside0.mk (KeepBut.trans zq3 hk (.inl rfl)); replace HB := Aside0.mk (hb); replace HI0 := Aside0.mk (hi); (try clear hb hk hi); (try clear hb2); (try simp only [errW_none, errW_some]); obtain ⟨HGz6, hgz6⟩ := HI0.out; have hcz6_0 := cellS61_0 HGz6; have hcz6_1 := cellS61_1 HGz6; have hcz6_2 := cellS61_2 HGz6; have hfz6_0 := blk_frozen HGz6 0; have hfz6_1 := blk_frozen HGz6 1; have hfz6_2 := blk_frozen HGz6 2; try simp only [errW_none, errW_some] at hcz6_2; clear HGz6 hgz6))
   first | go_end0 | ((try simp only [Exit.inBlock, Exit.then]); refine bodyPost_ret (results_none rfl _ _ _) rfl ?_)
   exact ⟨zq8, zq5, zq7, zq3⟩
  ·have H1 : (some (t601, t602, some q604)) = some (r1, r2, r3) := by rw [if_neg (show ¬ (some q604).isNone = true by simp)] at H; exact H
   clear H
   have H := H1
   clear H1
   simp only [errW_none, errW_some]
   simp only [Option.some.injEq, Prod.mk.injEq] at H
   obtain ⟨rfl, rfl, rfl⟩ := H
   go_enter Try.func48, Try.ntmps48
   go_wp2_with (first | ((with_reducible refine gate_callee (f := 61) rfl ?_); refine goesL_ (some 5) rfl rfl Try.func61 (by kernel_rfl) rfl #[.pointer (some ⟨g, 0, none⟩)] rfl zq1 ?_; (with_reducible refine (sB_going.calls g s0_0 s0_1 s0_2 true t601 t602 t603 w0 _ ?side1 ?side2 A3.out).mono ?_); (case side1 => exact zq5); (case side2 => exact zq7); rintro e w7 ⟨rfl, hi, hb, hk⟩; refine ⟨_, rfl, ?_⟩; replace HK := Aside0.mk (KeepBut.trans zq3 hk (.inl rfl)); replace HB := Aside0.mk (hb); replace HI0 := Aside0.mk (hi); (try clear hb hk hi); (try clear hb2); (try simp only [errW_none, errW_some]); obtain ⟨HGz8, hgz8⟩ := HI0.out; have hcz8_0 := cellS61_0 HGz8; have hcz8_1 := cellS61_1 HGz8; have hcz8_2 := cellS61_2 HGz8; have hfz8_0 := blk_frozen HGz8 0; have hfz8_1 := blk_frozen HGz8 1; have hfz8_2 := blk_frozen HGz8 2; try simp only [errW_none, errW_some] at hcz8_2; clear HGz8 hgz8))
   first | go_end0 | ((try simp only [Exit.inBlock, Exit.then]); refine bodyPost_ret (results_none rfl _ _ _) rfl ?_)
   exact ⟨zq8, zq5, zq7, zq3⟩
 ·replace c4 := Bool.eq_false_iff.mpr c4
  subst c4
  have H1 : (some (t601, t602, t603)) = some (r1, r2, r3) := by rw [if_neg (show ¬ (false = true) by decide)] at H; exact H
  clear H
  have H := H1
  clear H1
  simp only [Option.some.injEq, Prod.mk.injEq] at H
  obtain ⟨rfl, rfl, rfl⟩ := H
  go_enter Try.func48, Try.ntmps48
  go_wp2_with (first | ((with_reducible refine gate_callee (f := 61) rfl ?_); refine goesL_ (some 5) rfl rfl Try.func61 (by kernel_rfl) rfl #[.pointer (some ⟨g, 0, none⟩)] rfl zq1 ?_; (with_reducible refine (sB_going.calls g s0_0 s0_1 s0_2 false t601 t602 t603 w0 _ ?side1 ?side2 A3.out).mono ?_); (case side1 => exact zq5); (case side2 => exact zq7); rintro e w9 ⟨rfl, hi, hb, hk⟩; refine ⟨_, rfl, ?_⟩; replace HK := Aside0.mk (KeepBut.trans zq3 hk (.inl rfl)); replace HB := Aside0.mk (hb); replace HI0 := Aside0.mk (hi); (try clear hb hk hi); (try clear hb2); (try simp only [errW_none, errW_some])))
  first | go_end0 | ((try simp only [Exit.inBlock, Exit.then]); refine bodyPost_ret (results_none rfl _ _ _) rfl ?_)
  exact ⟨zq8, zq5, zq7, zq3⟩

/-! ### sB_Must: function 45 -/
def sB_Must.f (k : Nat) (s0_0 : ByteArray) (s0_1 : Int) (s0_2 : Option Int) (a1 : ByteArray) : Option (ByteArray × Int × Option Int) := (sB_Fold.f k s0_0 s0_1 s0_2 a1).bind fun bt605 => (if bt605.1 = true then (some (bt605.2.1, bt605.2.2.1, bt605.2.2.2)) else ((sB_Fail.f bt605.2.1 bt605.2.2.1 bt605.2.2.2 (some 2)).bind fun bt609 => (some (bt609.1, bt609.2.1, bt609.2.2))))
set_option maxHeartbeats 8000000 in
set_option maxRecDepth 100000 in
theorem sB_Must.calls (k : Nat) (g : Nat) (s0_0 : ByteArray) (s0_1 : Int) (s0_2 : Option Int) (a1 : ByteArray) (r1 : ByteArray) (r2 : Int) (r3 : Option Int) (w0 w : World) (hI : IsS61 w0 w g s0_0 s0_1 s0_2) (hB : Below w0.heap.size w0 w) (h : sB_Must.f k s0_0 s0_1 s0_2 a1 = some (r1, r2, r3)) :
  Calls Try.prog 45 #[.pointer (some ⟨g, 0, none⟩), .string a1] w fun e w' => e = .returned (.tuple #[]) ∧ IsS61 w0 w' g r1 r2 r3 ∧ Below w0.heap.size w0 w' ∧ KeepBut w w' g none := by
 have hu42 := Try.underlying42
 have hu50 := Try.underlying50
 have HI0 := Aside0.mk hI
 have HK := Aside0.mk (KeepBut.refl w g none)
 have HL := Aside0.mk hB.size
 clear hI
 have HW0 := Aside0.mk hB.size
 have HB := Aside0.mk hB
 clear hB
 have H : ((sB_Fold.f k s0_0 s0_1 s0_2 a1).bind fun bt605 => (if bt605.1 = true then (some (bt605.2.1, bt605.2.2.1, bt605.2.2.2)) else ((sB_Fail.f bt605.2.1 bt605.2.2.1 bt605.2.2.2 (some 2)).bind fun bt609 => (some (bt609.1, bt609.2.1, bt609.2.2))))) = some (r1, r2, r3) := h
 clear h
 replace H := Option.bind_eq_some_iff.mp H
 obtain ⟨⟨t605, t606, t607, t608⟩, A30, H⟩ := H
 replace H : (if t605 = true then (some (t606, t607, t608)) else ((sB_Fail.f t606 t607 t608 (some 2)).bind fun bt609 => (some (bt609.1, bt609.2.1, bt609.2.2)))) = some (r1, r2, r3) := H
 have A3 := Aside0.mk A30
 clear A30
 by_cases c4 : t605 = true
 ·subst c4
  have H1 : (some (t606, t607, t608)) = some (r1, r2, r3) := by rw [if_pos rfl] at H; exact H
  clear H
  have H := H1
  clear H1
  simp only [Option.some.injEq, Prod.mk.injEq] at H
  obtain ⟨rfl, rfl, rfl⟩ := H
  go_enter Try.func45, Try.ntmps45
  go_wp2_with (first | ((with_reducible refine gate_callee (f := 41) rfl ?_); refine goesL_ (some 6) rfl rfl Try.func41 (by kernel_rfl) rfl #[.pointer (some ⟨g, 0, none⟩), .string a1] rfl zq1 ?_; (with_reducible refine (sB_Fold.calls k g s0_0 s0_1 s0_2 a1 true t606 t607 t608 w0 _ ?side1 ?side2 A3.out).mono ?_); (case side1 => exact zq5); (case side2 => exact zq7); rintro e w5 ⟨rfl, hi, hb, hk⟩; refine ⟨_, rfl, ?_⟩; replace HK := Aside0.mk (KeepBut.trans zq3 hk (.inl rfl)); replace HB := Aside0.mk (hb); replace HI0 := Aside0.mk (hi); (try clear hb hk hi); (try clear hb2); (try simp only [errW_none, errW_some])))
  first | go_end0 | ((try simp only [Exit.inBlock, Exit.then]); refine bodyPost_ret (results_none rfl _ _ _) rfl ?_)
  exact ⟨zq8, zq5, zq7, zq3⟩
 ·replace c4 := Bool.eq_false_iff.mpr c4
  subst c4
  have H1 : ((sB_Fail.f t606 t607 t608 (some 2)).bind fun bt609 => (some (bt609.1, bt609.2.1, bt609.2.2))) = some (r1, r2, r3) := by rw [if_neg (show ¬ (false = true) by decide)] at H; exact H
  clear H
  have H := H1
  clear H1
  replace H := Option.bind_eq_some_iff.mp H
  obtain ⟨⟨t609, t610, t611⟩, A60, H⟩ := H
  replace H : (some (t609, t610, t611)) = some (r1, r2, r3) := H
  have A6 := Aside0.mk A60
  clear A60
  simp only [Option.some.injEq, Prod.mk.injEq] at H
  obtain ⟨rfl, rfl, rfl⟩ := H
  go_enter Try.func45, Try.ntmps45
  go_wp2_with (first | ((with_reducible refine gate_callee (f := 41) rfl ?_); refine goesL_ (some 6) rfl rfl Try.func41 (by kernel_rfl) rfl #[.pointer (some ⟨g, 0, none⟩), .string a1] rfl zq1 ?_; (with_reducible refine (sB_Fold.calls k g s0_0 s0_1 s0_2 a1 false t606 t607 t608 w0 _ ?side1 ?side2 A3.out).mono ?_); (case side1 => exact zq5); (case side2 => exact zq7); rintro e w7 ⟨rfl, hi, hb, hk⟩; refine ⟨_, rfl, ?_⟩; replace HK := Aside0.mk (KeepBut.trans zq3 hk (.inl rfl)); replace HB := Aside0.mk (hb); replace HI0 := Aside0.mk (hi); (try clear hb hk hi); (try clear hb2); (try simp only [errW_none, errW_some])) | (go_at_call 48; (refine (sB_Fail.calls g t606 t607 t608 (some 2) t609 t610 t611 w0 _ ?side1 ?side2 A6.out).mono ?_); (case side1 => exact zq5); (case side2 => exact zq7); rintro e w8 ⟨rfl, hi, hb, hk⟩; replace HK := Aside0.mk (KeepBut.trans zq3 hk (.inl rfl)); replace HB := Aside0.mk (hb); replace HI0 := Aside0.mk (hi); (try clear hb hk hi); (try clear hb2); (try simp only [errW_none, errW_some])))
  first | go_end0 | ((try simp only [Exit.inBlock, Exit.then]); refine bodyPost_ret (results_none rfl _ _ _) rfl ?_)
  exact ⟨zq8, zq5, zq7, zq3⟩

/-! ### sB_Word: function 46 -/
def sB_Word.l0 : Nat → List ByteArray → Int → Int → ByteArray → Int → Option Int → Option (Int × ByteArray × Int × Option Int)
 | 0, _, _, _, _, _, _ => none
 | k + 1, x7, x8, x9, x1000, x1001, x1002 => if x9 < x8 then (if 0 ≤ x9 then (if x9 < (x7.length : Int) then ((sB_Fold.f k x1000 x1001 x1002 (rdOf ByteArray.empty x7 x9)).bind fun bt613 => (if bt613.1 = true then (some (x9, bt613.2.1, bt613.2.2.1, bt613.2.2.2)) else (sB_Word.l0 k x7 x8 (wrap64 (x9 + 1)) bt613.2.1 bt613.2.2.1 bt613.2.2.2))) else (none)) else (none)) else ((sB_Fail.f x1000 x1001 x1002 (some 2)).bind fun bt617 => (some ((-1), bt617.1, bt617.2.1, bt617.2.2)))
def sB_Word.f (k : Nat) (s0_0 : ByteArray) (s0_1 : Int) (s0_2 : Option Int) (l1 : List ByteArray) : Option (Int × ByteArray × Int × Option Int) := sB_Word.l0 k l1 (l1.length : Int) 0 s0_0 s0_1 s0_2
set_option maxHeartbeats 8000000 in
set_option maxRecDepth 100000 in
theorem sB_Word.calls (k : Nat) (g : Nat) (s0_0 : ByteArray) (s0_1 : Int) (s0_2 : Option Int) (A1 : Option Addr) (c1 : Nat) (l1 : List ByteArray) (r1 : Int) (r2 : ByteArray) (r3 : Int) (r4 : Option Int) (w0 w : World) (hI : IsS61 w0 w g s0_0 s0_1 s0_2) (hB : Below w0.heap.size w0 w) (hr1 : Kd.C Kd.string w A1 l1.length l1) (hc1 : l1.length ≤ c1) (hf1 : ∀ ad, A1 = some ad → 0 < l1.length → ad.block ≠ g) (h : sB_Word.f k s0_0 s0_1 s0_2 l1 = some (r1, r2, r3, r4)) :
  Calls Try.prog 46 #[.pointer (some ⟨g, 0, none⟩), .slice A1 l1.length c1] w fun e w' => e = .returned (.int .i64 r1) ∧ IsS61 w0 w' g r2 r3 r4 ∧ Below w0.heap.size w0 w' ∧ KeepBut w w' g none := by
 have hu42 := Try.underlying42
 have hu50 := Try.underlying50
 have HR1 := Aside0.mk hr1
 have HC1 := Aside0.mk hc1
 clear hr1 hc1
 have HI0 := Aside0.mk hI
 have HK := Aside0.mk (KeepBut.refl w g none)
 have HL := Aside0.mk hB.size
 clear hI
 have HW0 := Aside0.mk hB.size
 have HB := Aside0.mk hB
 clear hB
 have H : (sB_Word.l0 k l1 (l1.length : Int) 0 s0_0 s0_1 s0_2) = some (r1, r2, r3, r4) := h
 clear h
 have H' := Aside0.mk H
 clear H
 go_enter Try.func46, Try.ntmps46
 go_wp2
 try simp only [Act.put, sl_]
 go_loopg [9] k (fun kq v9 w' => ∃ (x9_1 : Int) (x1000_1 : ByteArray) (x1001_1 : Int) (x1002_1 : Option Int), v9 = .int .i64 x9_1 ∧ Aside0 (sB_Word.l0 kq l1 (l1.length : Int) x9_1 x1000_1 x1001_1 x1002_1 = some (r1, r2, r3, r4)) ∧ Aside0 (kq ≤ k) ∧ Aside0 (IsS61 w0 w' g x1000_1 x1001_1 x1002_1) ∧ Aside0 (KeepBut w w' g none) ∧ Aside0 (Below w0.heap.size w0 w'))
 case atStart => exact ⟨(0), (s0_0), (s0_1), (s0_2), zq9, H', ⟨Nat.le_refl _⟩, ⟨zq5⟩, ⟨zq3⟩, ⟨zq7⟩⟩
 case round =>
  clear H'
  try clear c1
  try clear p2
  obtain ⟨x9_1, x1000_1, x1001_1, x1002_1, rfl, HA, HK1, HI0, HK, HB⟩ := hrel
  cases gk with
  | zero => exact absurd HA.out (by simp [sB_Word.l0])
  | succ k1 =>
   have H := HA.out
   clear HA
   simp only [sB_Word.l0] at H
   by_cases c3 : x9_1 < (l1.length : Int)
   ·rw [if_pos c3] at H
    have c3b0 : decide (x9_1 < (l1.length : Int)) = true := decide_eq_true c3
    clear c3
    by_cases c4 : 0 ≤ x9_1
    ·rw [if_pos c4] at H
     have c4b0 : decide (0 ≤ x9_1) = true := decide_eq_true c4
     clear c4
     by_cases c5 : x9_1 < (l1.length : Int)
     ·rw [if_pos c5] at H
      have c5b0 : decide (x9_1 < (l1.length : Int)) = true := decide_eq_true c5
      clear c5
      replace H := Option.bind_eq_some_iff.mp H
      obtain ⟨⟨t613, t614, t615, t616⟩, A60, H⟩ := H
      replace H : (if t613 = true then (some (x9_1, t614, t615, t616)) else (sB_Word.l0 k1 l1 (l1.length : Int) (wrap64 (x9_1 + 1)) t614 t615 t616)) = some (r1, r2, r3, r4) := H
      have A6 := Aside0.mk A60
      clear A60
      by_cases c7 : t613 = true
      ·subst c7
       have H1 : (some (x9_1, t614, t615, t616)) = some (r1, r2, r3, r4) := by rw [if_pos rfl] at H; exact H
       clear H
       have H := H1
       clear H1
       simp only [Option.some.injEq, Prod.mk.injEq] at H
       obtain ⟨rfl, rfl, rfl, rfl⟩ := H
       have p612 : 0 ≤ (x9_1 : Int) := of_decide_eq_true zq10
       have q612 : x9_1 < (l1.length : Int) := of_decide_eq_true zq10
       obtain ⟨ad612, e612, hx612_0⟩ := Kd.at_string HR1.out x9_1 p612 q612
       cases e612
       replace hx612_0 := keep_cell HK.out hx612_0 (by first | (rw [add_block]; exact hf1 _ rfl (by omega)) | exact hf1 _ rfl (by omega) | exact hf1 ad612 rfl (by omega))
       replace p612 := eq_true p612
       replace q612 := eq_true q612
       go_wp2_with (first | ((with_reducible refine gate_callee (f := 41) rfl ?_); refine goesL_ (some 16) rfl rfl Try.func41 (by kernel_rfl) rfl #[.pointer (some ⟨g, 0, none⟩), .string (rdOf ByteArray.empty l1 x9_1)] rfl zq1 ?_; (with_reducible refine (sB_Fold.calls k1 g x1000_1 x1001_1 x1002_1 (rdOf ByteArray.empty l1 x9_1) true t614 t615 t616 w0 _ ?side1 ?side2 A6.out).mono ?_); (case side1 => exact zq5); (case side2 => exact zq7); rintro e w8 ⟨rfl, hi, hb, hk⟩; refine ⟨_, rfl, ?_⟩; replace HK := Aside0.mk (KeepBut.trans zq3 hk (.inl rfl)); replace HB := Aside0.mk (hb); replace HI0 := Aside0.mk (hi); (try clear hb hk hi); (try clear hb2); (try simp only [errW_none, errW_some])))
       go_ret
       exact ⟨zq8, zq5, zq7, zq3⟩
      ·replace c7 := Bool.eq_false_iff.mpr c7
       subst c7
       have H1 : (sB_Word.l0 k1 l1 (l1.length : Int) (wrap64 (x9_1 + 1)) t614 t615 t616) = some (r1, r2, r3, r4) := by rw [if_neg (show ¬ (false = true) by decide)] at H; exact H
       clear H
       have H := H1
       clear H1
       have H' := Aside0.mk H
       clear H
       have p612 : 0 ≤ (x9_1 : Int) := of_decide_eq_true zq10
       have q612 : x9_1 < (l1.length : Int) := of_decide_eq_true zq10
       obtain ⟨ad612, e612, hx612_0⟩ := Kd.at_string HR1.out x9_1 p612 q612
       cases e612
       replace hx612_0 := keep_cell HK.out hx612_0 (by first | (rw [add_block]; exact hf1 _ rfl (by omega)) | exact hf1 _ rfl (by omega) | exact hf1 ad612 rfl (by omega))
       replace p612 := eq_true p612
       replace q612 := eq_true q612
       go_wp2_with (first | ((with_reducible refine gate_callee (f := 41) rfl ?_); refine goesL_ (some 16) rfl rfl Try.func41 (by kernel_rfl) rfl #[.pointer (some ⟨g, 0, none⟩), .string (rdOf ByteArray.empty l1 x9_1)] rfl zq1 ?_; (with_reducible refine (sB_Fold.calls k1 g x1000_1 x1001_1 x1002_1 (rdOf ByteArray.empty l1 x9_1) false t614 t615 t616 w0 _ ?side1 ?side2 A6.out).mono ?_); (case side1 => exact zq5); (case side2 => exact zq7); rintro e w9 ⟨rfl, hi, hb, hk⟩; refine ⟨_, rfl, ?_⟩; replace HK := Aside0.mk (KeepBut.trans zq3 hk (.inl rfl)); replace HB := Aside0.mk (hb); replace HI0 := Aside0.mk (hi); (try clear hb hk hi); (try clear hb2); (try simp only [errW_none, errW_some])))
       go_roundg k1
       case measure => have := HK1.out; omega
       case rel => exact ⟨(wrap64 (x9_1 + 1)), (t614), (t615), (t616), zq9, H', ⟨by have := HK1.out; omega⟩, ⟨zq5⟩, ⟨zq3⟩, ⟨zq7⟩⟩
     ·rw [if_neg c5] at H
      exact absurd H (by simp)
    ·rw [if_neg c4] at H
     exact absurd H (by simp)
   ·rw [if_neg c3] at H
    have c3b0 : decide (x9_1 < (l1.length : Int)) = false := decide_eq_false c3
    clear c3
    replace H := Option.bind_eq_some_iff.mp H
    obtain ⟨⟨t617, t618, t619⟩, A100, H⟩ := H
    replace H : (some ((-1), t617, t618, t619)) = some (r1, r2, r3, r4) := H
    have A10 := Aside0.mk A100
    clear A100
    simp only [Option.some.injEq, Prod.mk.injEq] at H
    obtain ⟨rfl, rfl, rfl, rfl⟩ := H
    go_wp2_with (first | (go_at_call 48; (refine (sB_Fail.calls g x1000_1 x1001_1 x1002_1 (some 2) t617 t618 t619 w0 _ ?side1 ?side2 A10.out).mono ?_); (case side1 => exact zq5); (case side2 => exact zq7); rintro e w11 ⟨rfl, hi, hb, hk⟩; replace HK := Aside0.mk (KeepBut.trans zq3 hk (.inl rfl)); replace HB := Aside0.mk (hb); replace HI0 := Aside0.mk (hi); (try clear hb hk hi); (try clear hb2); (try simp only [errW_none, errW_some])))
    go_ret
    exact ⟨zq8, zq5, zq7, zq3⟩

/-! ### sB_Left: function 62 -/
def sB_Left.f (s0_0 : ByteArray) (s0_1 : Int) (s0_2 : Option Int) : Option (Int × ByteArray × Int × Option Int) := (sB_rest.f s0_0 s0_1 s0_2).bind fun bt620 => (some ((bt620.1.size : Int), bt620.2.1, bt620.2.2.1, bt620.2.2.2))
set_option maxHeartbeats 8000000 in
set_option maxRecDepth 100000 in
theorem sB_Left.calls (g : Nat) (s0_0 : ByteArray) (s0_1 : Int) (s0_2 : Option Int) (r1 : Int) (r2 : ByteArray) (r3 : Int) (r4 : Option Int) (w0 w : World) (hI : IsS61 w0 w g s0_0 s0_1 s0_2) (hB : Below w0.heap.size w0 w) (h : sB_Left.f s0_0 s0_1 s0_2 = some (r1, r2, r3, r4)) :
  Calls Try.prog 62 #[.pointer (some ⟨g, 0, none⟩)] w fun e w' => e = .returned (.int .i64 r1) ∧ IsS61 w0 w' g r2 r3 r4 ∧ Below w0.heap.size w0 w' ∧ KeepBut w w' g none := by
 have HI0 := Aside0.mk hI
 have HK := Aside0.mk (KeepBut.refl w g none)
 have HL := Aside0.mk hB.size
 clear hI
 have HW0 := Aside0.mk hB.size
 have HB := Aside0.mk hB
 clear hB
 have H : ((sB_rest.f s0_0 s0_1 s0_2).bind fun bt620 => (some ((bt620.1.size : Int), bt620.2.1, bt620.2.2.1, bt620.2.2.2))) = some (r1, r2, r3, r4) := h
 clear h
 replace H := Option.bind_eq_some_iff.mp H
 obtain ⟨⟨t620, t621, t622, t623⟩, A20, H⟩ := H
 replace H : (some ((t620.size : Int), t621, t622, t623)) = some (r1, r2, r3, r4) := H
 have A2 := Aside0.mk A20
 clear A20
 simp only [Option.some.injEq, Prod.mk.injEq] at H
 obtain ⟨rfl, rfl, rfl, rfl⟩ := H
 go_enter Try.func62, Try.ntmps62
 go_wp2_with (first | ((with_reducible refine gate_callee (f := 60) rfl ?_); refine goesL_ (some 4) rfl rfl Try.func60 (by kernel_rfl) rfl #[.pointer (some ⟨g, 0, none⟩)] rfl zq1 ?_; (with_reducible refine (sB_rest.calls g s0_0 s0_1 s0_2 t620 t621 t622 t623 w0 _ ?side1 ?side2 A2.out).mono ?_); (case side1 => exact zq5); (case side2 => exact zq7); rintro e w3 ⟨rfl, hi, hb, hk⟩; refine ⟨_, rfl, ?_⟩; replace HK := Aside0.mk (KeepBut.trans zq3 hk (.inl rfl)); replace HB := Aside0.mk (hb); replace HI0 := Aside0.mk (hi); (try clear hb hk hi); (try clear hb2); (try simp only [errW_none, errW_some])))
 go_ret
 exact ⟨zq8, zq5, zq7, zq3⟩

/-! ### sB_Skip: function 47 -/
def sB_Skip.f (k : Nat) (s0_0 : ByteArray) (s0_1 : Int) (s0_2 : Option Int) (a1 : Int) : Option (ByteArray × Int × Option Int) := (sB_going.f s0_0 s0_1 s0_2).bind fun bt624 => (if bt624.1 = true then (if a1 < 0 then (some (bt624.2.1, bt624.2.2.1, some 1)) else ((sB_Left.f bt624.2.1 bt624.2.2.1 bt624.2.2.2).bind fun bt628 => (if a1 > bt628.1 then (some (bt628.2.1, bt628.2.2.1, some 4)) else ((sB_take.f k bt628.2.1 bt628.2.2.1 bt628.2.2.2 a1).bind fun bt632 => (some (bt632.2.1, bt632.2.2.1, bt632.2.2.2)))))) else (some (bt624.2.1, bt624.2.2.1, bt624.2.2.2)))
set_option maxHeartbeats 8000000 in
set_option maxRecDepth 100000 in
theorem sB_Skip.calls (k : Nat) (g : Nat) (s0_0 : ByteArray) (s0_1 : Int) (s0_2 : Option Int) (a1 : Int) (r1 : ByteArray) (r2 : Int) (r3 : Option Int) (w0 w : World) (hI : IsS61 w0 w g s0_0 s0_1 s0_2) (hB : Below w0.heap.size w0 w) (h : sB_Skip.f k s0_0 s0_1 s0_2 a1 = some (r1, r2, r3)) :
  Calls Try.prog 47 #[.pointer (some ⟨g, 0, none⟩), .int .i64 a1] w fun e w' => e = .returned (.tuple #[]) ∧ IsS61 w0 w' g r1 r2 r3 ∧ Below w0.heap.size w0 w' ∧ KeepBut w w' g none := by
 have hu42 := Try.underlying42
 have hu50 := Try.underlying50
 have HI0 := Aside0.mk hI
 have HK := Aside0.mk (KeepBut.refl w g none)
 have HL := Aside0.mk hB.size
 clear hI
 have HW0 := Aside0.mk hB.size
 have HB := Aside0.mk hB
 clear hB
 have H : ((sB_going.f s0_0 s0_1 s0_2).bind fun bt624 => (if bt624.1 = true then (if a1 < 0 then (some (bt624.2.1, bt624.2.2.1, some 1)) else ((sB_Left.f bt624.2.1 bt624.2.2.1 bt624.2.2.2).bind fun bt628 => (if a1 > bt628.1 then (some (bt628.2.1, bt628.2.2.1, some 4)) else ((sB_take.f k bt628.2.1 bt628.2.2.1 bt628.2.2.2 a1).bind fun bt632 => (some (bt632.2.1, bt632.2.2.1, bt632.2.2.2)))))) else (some (bt624.2.1, bt624.2.2.1, bt624.2.2.2)))) = some (r1, r2, r3) := h
 clear h
 replace H := Option.bind_eq_some_iff.mp H
 obtain ⟨⟨t624, t625, t626, t627⟩, A30, H⟩ := H
 replace H : (if t624 = true then (if a1 < 0 then (some (t625, t626, some 1)) else ((sB_Left.f t625 t626 t627).bind fun bt628 => (if a1 > bt628.1 then (some (bt628.2.1, bt628.2.2.1, some 4)) else ((sB_take.f k bt628.2.1 bt628.2.2.1 bt628.2.2.2 a1).bind fun bt632 => (some (bt632.2.1, bt632.2.2.1, bt632.2.2.2)))))) else (some (t625, t626, t627))) = some (r1, r2, r3) := H
 have A3 := Aside0.mk A30
 clear A30
 by_cases c4 : t624 = true
 ·subst c4
  have H1 : (if a1 < 0 then (some (t625, t626, some 1)) else ((sB_Left.f t625 t626 t627).bind fun bt628 => (if a1 > bt628.1 then (some (bt628.2.1, bt628.2.2.1, some 4)) else ((sB_take.f k bt628.2.1 bt628.2.2.1 bt628.2.2.2 a1).bind fun bt632 => (some (bt632.2.1, bt632.2.2.1, bt632.2.2.2)))))) = some (r1, r2, r3) := by rw [if_pos rfl] at H; exact H
  clear H
  have H := H1
  clear H1
  by_cases c5 : a1 < 0
  ·rw [if_pos c5] at H
   have c5b0 : decide (a1 < 0) = true := decide_eq_true c5
   clear c5
   simp only [Option.some.injEq, Prod.mk.injEq] at H
   obtain ⟨rfl, rfl, rfl⟩ := H
   go_enter Try.func47, Try.ntmps47
   go_wp2_with (first | ((with_reducible refine gate_callee (f := 61) rfl ?_); refine goesL_ (some 9) rfl rfl Try.func61 (by kernel_rfl) rfl #[.pointer (some ⟨g, 0, none⟩)] rfl zq1 ?_; (with_reducible refine (sB_going.calls g s0_0 s0_1 s0_2 true t625 t626 t627 w0 _ ?side1 ?side2 A3.out).mono ?_); (case side1 => exact zq5); (case side2 => exact zq7); rintro e w6 ⟨rfl, hi, hb, hk⟩; refine ⟨_, rfl, ?_⟩; replace HK := Aside0.mk (KeepBut.trans zq3 hk (.inl rfl)); replace HB := Aside0.mk (hb); replace HI0 := Aside0.mk (hi); (try clear hb hk hi); (try clear hb2); (try simp only [errW_none, errW_some]); obtain ⟨HGz7, hgz7⟩ := HI0.out; have hcz7_0 := cellS61_0 HGz7; have hcz7_1 := cellS61_1 HGz7; have hcz7_2 := cellS61_2 HGz7; have hfz7_0 := blk_frozen HGz7 0; have hfz7_1 := blk_frozen HGz7 1; have hfz7_2 := blk_frozen HGz7 2; try simp only [errW_none, errW_some] at hcz7_2; clear HGz7 hgz7))
   first | go_end0 | ((try simp only [Exit.inBlock, Exit.then]); refine bodyPost_ret (results_none rfl _ _ _) rfl ?_)
   exact ⟨zq8, zq5, zq7, zq3⟩
  ·rw [if_neg c5] at H
   have c5b0 : decide (a1 < 0) = false := decide_eq_false c5
   clear c5
   replace H := Option.bind_eq_some_iff.mp H
   obtain ⟨⟨t628, t629, t630, t631⟩, A80, H⟩ := H
   replace H : (if a1 > t628 then (some (t629, t630, some 4)) else ((sB_take.f k t629 t630 t631 a1).bind fun bt632 => (some (bt632.2.1, bt632.2.2.1, bt632.2.2.2)))) = some (r1, r2, r3) := H
   have A8 := Aside0.mk A80
   clear A80
   by_cases c9 : a1 > t628
   ·rw [if_pos c9] at H
    have c9b0 : decide (t628 < a1) = true := decide_eq_true c9
    clear c9
    simp only [Option.some.injEq, Prod.mk.injEq] at H
    obtain ⟨rfl, rfl, rfl⟩ := H
    go_enter Try.func47, Try.ntmps47
    go_wp2_with (first | ((with_reducible refine gate_callee (f := 61) rfl ?_); refine goesL_ (some 9) rfl rfl Try.func61 (by kernel_rfl) rfl #[.pointer (some ⟨g, 0, none⟩)] rfl zq1 ?_; (with_reducible refine (sB_going.calls g s0_0 s0_1 s0_2 true t625 t626 t627 w0 _ ?side1 ?side2 A3.out).mono ?_); (case side1 => exact zq5); (case side2 => exact zq7); rintro e w10 ⟨rfl, hi, hb, hk⟩; refine ⟨_, rfl, ?_⟩; replace HK := Aside0.mk (KeepBut.trans zq3 hk (.inl rfl)); replace HB := Aside0.mk (hb); replace HI0 := Aside0.mk (hi); (try clear hb hk hi); (try clear hb2); (try simp only [errW_none, errW_some])) | ((with_reducible refine gate_callee (f := 62) rfl ?_); refine goesL_ (some 21) rfl rfl Try.func62 (by kernel_rfl) rfl #[.pointer (some ⟨g, 0, none⟩)] rfl zq1 ?_; (with_reducible refine (sB_Left.calls g t625 t626 t627 t628 t629 t630 t631 w0 _ ?side1 ?side2 A8.out).mono ?_); (case side1 => exact zq5); (case side2 => exact zq7); rintro e w11 ⟨rfl, hi, hb, hk⟩; refine ⟨_, rfl, ?_⟩; replace HK := Aside0.mk (KeepBut.trans zq3 hk (.inl rfl)); replace HB := Aside0.mk (hb); replace HI0 := Aside0.mk (hi); (try clear hb hk hi); (try clear hb2); (try simp only [errW_none, errW_some]); obtain ⟨HGz12, hgz12⟩ := HI0.out; have hcz12_0 := cellS61_0 HGz12; have hcz12_1 := cellS61_1 HGz12; have hcz12_2 := cellS61_2 HGz12; have hfz12_0 := blk_frozen HGz12 0; have hfz12_1 := blk_frozen HGz12 1; have hfz12_2 := blk_frozen HGz12 2; try simp only [errW_none, errW_some] at hcz12_2; clear HGz12 hgz12))
    first | go_end0 | ((try simp only [Exit.inBlock, Exit.then]); refine bodyPost_ret (results_none rfl _ _ _) rfl ?_)
    exact ⟨zq8, zq5, zq7, zq3⟩
   ·rw [if_neg c9] at H
    have c9b0 : decide (t628 < a1) = false := decide_eq_false c9
    clear c9
    replace H := Option.bind_eq_some_iff.mp H
    obtain ⟨⟨t632, t633, t634, t635⟩, A130, H⟩ := H
    replace H : (some (t633, t634, t635)) = some (r1, r2, r3) := H
    have A13 := Aside0.mk A130
    clear A130
    simp only [Option.some.injEq, Prod.mk.injEq] at H
    obtain ⟨rfl, rfl, rfl⟩ := H
    go_enter Try.func47, Try.ntmps47
    go_wp2_with (first | ((with_reducible refine gate_callee (f := 61) rfl ?_); refine goesL_ (some 9) rfl rfl Try.func61 (by kernel_rfl) rfl #[.pointer (some ⟨g, 0, none⟩)] rfl zq1 ?_; (with_reducible refine (sB_going.calls g s0_0 s0_1 s0_2 true t625 t626 t627 w0 _ ?side1 ?side2 A3.out).mono ?_); (case side1 => exact zq5); (case side2 => exact zq7); rintro e w14 ⟨rfl, hi, hb, hk⟩; refine ⟨_, rfl, ?_⟩; replace HK := Aside0.mk (KeepBut.trans zq3 hk (.inl rfl)); replace HB := Aside0.mk (hb); replace HI0 := Aside0.mk (hi); (try clear hb hk hi); (try clear hb2); (try simp only [errW_none, errW_some])) | ((with_reducible refine gate_callee (f := 62) rfl ?_); refine goesL_ (some 21) rfl rfl Try.func62 (by kernel_rfl) rfl #[.pointer (some ⟨g, 0, none⟩)] rfl zq1 ?_; (with_reducible refine (sB_Left.calls g t625 t626 t627 t628 t629 t630 t631 w0 _ ?side1 ?side2 A8.out).mono ?_); (case side1 => exact zq5); (case side2 => exact zq7); rintro e w15 ⟨rfl, hi, hb, hk⟩; refine ⟨_, rfl, ?_⟩; replace HK := Aside0.mk (KeepBut.trans zq3 hk (.inl rfl)); replace HB := Aside0.mk (hb); replace HI0 := Aside0.mk (hi); (try clear hb hk hi); (try clear hb2); (try simp only [errW_none, errW_some])) | ((with_reducible refine gate_callee (f := 59) rfl ?_); refine goesL_ (some 6) rfl rfl Try.func59 (by kernel_rfl) rfl #[.pointer (some ⟨g, 0, none⟩), .int .i64 a1] rfl zq1 ?_; (with_reducible refine (sB_take.calls k g t629 t630 t631 a1 t632 t633 t634 t635 w0 _ ?side1 ?side2 A13.out).mono ?_); (case side1 => exact zq5); (case side2 => exact zq7); rintro e w16 ⟨rfl, hi, hb, hk⟩; refine ⟨_, rfl, ?_⟩; replace HK := Aside0.mk (KeepBut.trans zq3 hk (.inl rfl)); replace HB := Aside0.mk (hb); replace HI0 := Aside0.mk (hi); (try clear hb hk hi); (try clear hb2); (try simp only [errW_none, errW_some])))
    first | go_end0 | ((try simp only [Exit.inBlock, Exit.then]); refine bodyPost_ret (results_none rfl _ _ _) rfl ?_)
    exact ⟨zq8, zq5, zq7, zq3⟩
 ·replace c4 := Bool.eq_false_iff.mpr c4
  subst c4
  have H1 : (some (t625, t626, t627)) = some (r1, r2, r3) := by rw [if_neg (show ¬ (false = true) by decide)] at H; exact H
  clear H
  have H := H1
  clear H1
  simp only [Option.some.injEq, Prod.mk.injEq] at H
  obtain ⟨rfl, rfl, rfl⟩ := H
  go_enter Try.func47, Try.ntmps47
  go_wp2_with (first | ((with_reducible refine gate_callee (f := 61) rfl ?_); refine goesL_ (some 9) rfl rfl Try.func61 (by kernel_rfl) rfl #[.pointer (some ⟨g, 0, none⟩)] rfl zq1 ?_; (with_reducible refine (sB_going.calls g s0_0 s0_1 s0_2 false t625 t626 t627 w0 _ ?side1 ?side2 A3.out).mono ?_); (case side1 => exact zq5); (case side2 => exact zq7); rintro e w17 ⟨rfl, hi, hb, hk⟩; refine ⟨_, rfl, ?_⟩; replace HK := Aside0.mk (KeepBut.trans zq3 hk (.inl rfl)); replace HB := Aside0.mk (hb); replace HI0 := Aside0.mk (hi); (try clear hb hk hi); (try clear hb2); (try simp only [errW_none, errW_some])))
  first | go_end0 | ((try simp only [Exit.inBlock, Exit.then]); refine bodyPost_ret (results_none rfl _ _ _) rfl ?_)
  exact ⟨zq8, zq5, zq7, zq3⟩

/-! ### sB_At: function 63 -/
def sB_At.f (s0_0 : ByteArray) (s0_1 : Int) (s0_2 : Option Int) : Option (Int × ByteArray × Int × Option Int) := some (s0_1, s0_0, s0_1, s0_2)
set_option maxHeartbeats 8000000 in
set_option maxRecDepth 100000 in
theorem sB_At.calls (g : Nat) (s0_0 : ByteArray) (s0_1 : Int) (s0_2 : Option Int) (r1 : Int) (r2 : ByteArray) (r3 : Int) (r4 : Option Int) (w0 w : World) (hI : IsS61 w0 w g s0_0 s0_1 s0_2) (hB : Below w0.heap.size w0 w) (h : sB_At.f s0_0 s0_1 s0_2 = some (r1, r2, r3, r4)) :
  Calls Try.prog 63 #[.pointer (some ⟨g, 0, none⟩)] w fun e w' => e = .returned (.int .i64 r1) ∧ IsS61 w0 w' g r2 r3 r4 ∧ Below w0.heap.size w0 w' ∧ KeepBut w w' g none := by
 have HI0 := Aside0.mk hI
 have HK := Aside0.mk (KeepBut.refl w g none)
 have HL := Aside0.mk hB.size
 clear hI
 have HW0 := Aside0.mk hB.size
 have HB := Aside0.mk hB
 clear hB
 have H : (some (s0_1, s0_0, s0_1, s0_2)) = some (r1, r2, r3, r4) := h
 clear h
 simp only [Option.some.injEq, Prod.mk.injEq] at H
 obtain ⟨rfl, rfl, rfl, rfl⟩ := H
 obtain ⟨HGz2, hgz2⟩ := HI0.out
 have hcz2_0 := cellS61_0 HGz2
 have hcz2_1 := cellS61_1 HGz2
 have hcz2_2 := cellS61_2 HGz2
 have hfz2_0 := blk_frozen HGz2 0
 have hfz2_1 := blk_frozen HGz2 1
 have hfz2_2 := blk_frozen HGz2 2
 try simp only [errW_none, errW_some] at hcz2_2
 clear HGz2 hgz2
 go_enter Try.func63, Try.ntmps63
 go_wp2
 go_ret
 exact ⟨zq8, zq5, zq7, zq3⟩

/-! ### sB_Err: function 64 -/
def sB_Err.f (s0_0 : ByteArray) (s0_1 : Int) (s0_2 : Option Int) : Option (Option Int × ByteArray × Int × Option Int) := some (s0_2, s0_0, s0_1, s0_2)
set_option maxHeartbeats 8000000 in
set_option maxRecDepth 100000 in
theorem sB_Err.calls (g : Nat) (s0_0 : ByteArray) (s0_1 : Int) (s0_2 : Option Int) (r1 : Option Int) (r2 : ByteArray) (r3 : Int) (r4 : Option Int) (w0 w : World) (hI : IsS61 w0 w g s0_0 s0_1 s0_2) (hB : Below w0.heap.size w0 w) (h : sB_Err.f s0_0 s0_1 s0_2 = some (r1, r2, r3, r4)) :
  Calls Try.prog 64 #[.pointer (some ⟨g, 0, none⟩)] w fun e w' => e = .returned (errW r1) ∧ IsS61 w0 w' g r2 r3 r4 ∧ Below w0.heap.size w0 w' ∧ KeepBut w w' g none := by
 have hu42 := Try.underlying42
 have hu50 := Try.underlying50
 have HI0 := Aside0.mk hI
 have HK := Aside0.mk (KeepBut.refl w g none)
 have HL := Aside0.mk hB.size
 clear hI
 have HW0 := Aside0.mk hB.size
 have HB := Aside0.mk hB
 clear hB
 have H : (some (s0_2, s0_0, s0_1, s0_2)) = some (r1, r2, r3, r4) := h
 clear h
 simp only [Option.some.injEq, Prod.mk.injEq] at H
 obtain ⟨rfl, rfl, rfl, rfl⟩ := H
 obtain ⟨HGz2, hgz2⟩ := HI0.out
 have hcz2_0 := cellS61_0 HGz2
 have hcz2_1 := cellS61_1 HGz2
 have hcz2_2 := cellS61_2 HGz2
 have hfz2_0 := blk_frozen HGz2 0
 have hfz2_1 := blk_frozen HGz2 1
 have hfz2_2 := blk_frozen HGz2 2
 try simp only [errW_none, errW_some] at hcz2_2
 clear HGz2 hgz2
 go_enter Try.func64, Try.ntmps64
 go_wp2
 go_ret
 exact ⟨zq8, zq5, zq7, zq3⟩

/-! ### sB_End: function 65 -/
def sB_End.f (s0_0 : ByteArray) (s0_1 : Int) (s0_2 : Option Int) : Option (Option Int × ByteArray × Int × Option Int) := (sB_Err.f s0_0 s0_1 s0_2).bind fun bt636 => (if bt636.1.isNone = true then ((sB_Left.f bt636.2.1 bt636.2.2.1 bt636.2.2.2).bind fun bt641 => (if bt641.1 > 0 then (some (some 2, bt641.2.1, bt641.2.2.1, bt641.2.2.2)) else (some (none, bt641.2.1, bt641.2.2.1, bt641.2.2.2)))) else (some (some (bt636.1.getD 0), bt636.2.1, bt636.2.2.1, bt636.2.2.2)))
set_option maxHeartbeats 8000000 in
set_option maxRecDepth 100000 in
theorem sB_End.calls (g : Nat) (s0_0 : ByteArray) (s0_1 : Int) (s0_2 : Option Int) (r1 : Option Int) (r2 : ByteArray) (r3 : Int) (r4 : Option Int) (w0 w : World) (hI : IsS61 w0 w g s0_0 s0_1 s0_2) (hB : Below w0.heap.size w0 w) (h : sB_End.f s0_0 s0_1 s0_2 = some (r1, r2, r3, r4)) :
  Calls Try.prog 65 #[.pointer (some ⟨g, 0, none⟩)] w fun e w' => e = .returned (errW r1) ∧ IsS61 w0 w' g r2 r3 r4 ∧ Below w0.heap.size w0 w' ∧ KeepBut w w' g none := by
 have hu42 := Try.underlying42
 have hu50 := Try.underlying50
 have HI0 := Aside0.mk hI
 have HK := Aside0.mk (KeepBut.refl w g none)
 have HL := Aside0.mk hB.size
 clear hI
 have HW0 := Aside0.mk hB.size
 have HB := Aside0.mk hB
 clear hB
 have H : ((sB_Err.f s0_0 s0_1 s0_2).bind fun bt636 => (if bt636.1.isNone = true then ((sB_Left.f bt636.2.1 bt636.2.2.1 bt636.2.2.2).bind fun bt641 => (if bt641.1 > 0 then (some (some 2, bt641.2.1, bt641.2.2.1, bt641.2.2.2)) else (some (none, bt641.2.1, bt641.2.2.1, bt641.2.2.2)))) else (some (some (bt636.1.getD 0), bt636.2.1, bt636.2.2.1, bt636.2.2.2)))) = some (r1, r2, r3, r4) := h
 clear h
 replace H := Option.bind_eq_some_iff.mp H
 obtain ⟨⟨t636, t637, t638, t639⟩, A20, H⟩ := H
 replace H : (if t636.isNone = true then ((sB_Left.f t637 t638 t639).bind fun bt641 => (if bt641.1 > 0 then (some (some 2, bt641.2.1, bt641.2.2.1, bt641.2.2.2)) else (some (none, bt641.2.1, bt641.2.2.1, bt641.2.2.2)))) else (some (some (t636.getD 0), t637, t638, t639))) = some (r1, r2, r3, r4) := H
 have A2 := Aside0.mk A20
 clear A20
 rcases t636 with _ | q640
 ·have H1 : ((sB_Left.f t637 t638 t639).bind fun bt641 => (if bt641.1 > 0 then (some (some 2, bt641.2.1, bt641.2.2.1, bt641.2.2.2)) else (some (none, bt641.2.1, bt641.2.2.1, bt641.2.2.2)))) = some (r1, r2, r3, r4) := by rw [if_pos (show (none : Option Int).isNone = true by rfl)] at H; exact H
  clear H
  have H := H1
  clear H1
  try simp only [errW_none, errW_some]
  replace H := Option.bind_eq_some_iff.mp H
  obtain ⟨⟨t641, t642, t643, t644⟩, A30, H⟩ := H
  replace H : (if t641 > 0 then (some (some 2, t642, t643, t644)) else (some (none, t642, t643, t644))) = some (r1, r2, r3, r4) := H
  have A3 := Aside0.mk A30
  clear A30
  by_cases c4 : t641 > 0
  ·rw [if_pos c4] at H
   have c4b0 : decide (0 < t641) = true := decide_eq_true c4
   clear c4
   simp only [Option.some.injEq, Prod.mk.injEq] at H
   obtain ⟨rfl, rfl, rfl, rfl⟩ := H
   go_enter Try.func65, Try.ntmps65
   go_wp2_with (first | ((with_reducible refine gate_callee (f := 64) rfl ?_); refine goesL_ (some 5) rfl rfl Try.func64 (by kernel_rfl) rfl #[.pointer (some ⟨g, 0, none⟩)] rfl zq1 ?_; (with_reducible refine (sB_Err.calls g s0_0 s0_1 s0_2 none t637 t638 t639 w0 _ ?side1 ?side2 A2.out).mono ?_); (case side1 => exact zq5); (case side2 => exact zq7); rintro e w5 ⟨rfl, hi, hb, hk⟩; refine ⟨_, rfl, ?_⟩; replace HK := Aside0.mk (KeepBut.trans zq3 hk (.inl rfl)); replace HB := Aside0.mk (hb); replace HI0 := Aside0.mk (hi); (try clear hb hk hi); (try clear hb2); (try simp only [errW_none, errW_some])) | ((with_reducible refine gate_callee (f := 62) rfl ?_); refine goesL_ (some 10) rfl rfl Try.func62 (by kernel_rfl) rfl #[.pointer (some ⟨g, 0, none⟩)] rfl zq1 ?_; (with_reducible refine (sB_Left.calls g t637 t638 t639 t641 t642 t643 t644 w0 _ ?side1 ?side2 A3.out).mono ?_); (case side1 => exact zq5); (case side2 => exact zq7); rintro e w6 ⟨rfl, hi, hb, hk⟩; refine ⟨_, rfl, ?_⟩; replace HK := Aside0.mk (KeepBut.trans zq3 hk (.inl rfl)); replace HB := Aside0.mk (hb); replace HI0 := Aside0.mk (hi); (try clear hb hk hi); (try clear hb2); (try simp only [errW_none, errW_some])))
   go_ret
   exact ⟨zq8, zq5, zq7, zq3⟩
  ·rw [if_neg c4] at H
   have c4b0 : decide (0 < t641) = false := decide_eq_false c4
   clear c4
   simp only [Option.some.injEq, Prod.mk.injEq] at H
   obtain ⟨rfl, rfl, rfl, rfl⟩ := H
   go_enter Try.func65, Try.ntmps65
   go_wp2_with (first | ((with_reducible refine gate_callee (f := 64) rfl ?_); refine goesL_ (some 5) rfl rfl Try.func64 (by kernel_rfl) rfl #[.pointer (some ⟨g, 0, none⟩)] rfl zq1 ?_; (with_reducible refine (sB_Err.calls g s0_0 s0_1 s0_2 none t637 t638 t639 w0 _ ?side1 ?side2 A2.out).mono ?_); (case side1 => exact zq5); (case side2 => exact zq7); rintro e w7 ⟨rfl, hi, hb, hk⟩; refine ⟨_, rfl, ?_⟩; replace HK := Aside0.mk (KeepBut.trans zq3 hk (.inl rfl)); replace HB := Aside0.mk (hb); replace HI0 := Aside0.mk (hi); (try clear hb hk hi); (try clear hb2); (try simp only [errW_none, errW_some])) | ((with_reducible refine gate_callee (f := 62) rfl ?_); refine goesL_ (some 10) rfl rfl Try.func62 (by kernel_rfl) rfl #[.pointer (some ⟨g, 0, none⟩)] rfl zq1 ?_; (with_reducible refine (sB_Left.calls g t637 t638 t639 t641 t642 t643 t644 w0 _ ?side1 ?side2 A3.out).mono ?_); (case side1 => exact zq5); (case side2 => exact zq7); rintro e w8 ⟨rfl, hi, hb, hk⟩; refine ⟨_, rfl, ?_⟩; replace HK := Aside0.mk (KeepBut.trans zq3 hk (.inl rfl)); replace HB := Aside0.mk (hb); replace HI0 := Aside0.mk (hi); (try clear hb hk hi); (try clear hb2); (try simp only [errW_none, errW_some])))
   go_ret
   exact ⟨zq8, zq5, zq7, zq3⟩
 ·have H1 : (some (some q640, t637, t638, t639)) = some (r1, r2, r3, r4) := by rw [if_neg (show ¬ (some q640).isNone = true by simp)] at H; exact H
  clear H
  have H := H1
  clear H1
  try simp only [errW_none, errW_some]
  simp only [Option.some.injEq, Prod.mk.injEq] at H
  obtain ⟨rfl, rfl, rfl, rfl⟩ := H
  go_enter Try.func65, Try.ntmps65
  go_wp2_with (first | ((with_reducible refine gate_callee (f := 64) rfl ?_); refine goesL_ (some 5) rfl rfl Try.func64 (by kernel_rfl) rfl #[.pointer (some ⟨g, 0, none⟩)] rfl zq1 ?_; (with_reducible refine (sB_Err.calls g s0_0 s0_1 s0_2 (some q640) t637 t638 t639 w0 _ ?side1 ?side2 A2.out).mono ?_); (case side1 => exact zq5); (case side2 => exact zq7); rintro e w9 ⟨rfl, hi, hb, hk⟩; refine ⟨_, rfl, ?_⟩; replace HK := Aside0.mk (KeepBut.trans zq3 hk (.inl rfl)); replace HB := Aside0.mk (hb); replace HI0 := Aside0.mk (hi); (try clear hb hk hi); (try clear hb2); (try simp only [errW_none, errW_some])))
  go_ret
  exact ⟨zq8, zq5, zq7, zq3⟩

end Go.Proofs.Ytonjfggfcnpgbaa.MScanPlays
