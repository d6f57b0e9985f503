-- This text was written by a program of this session (a changed scratch copy of a tool of the kit; NOTES.md tells the changes).
import Derived.Test.YtonjfggfcnpgbaaMScanPlaysx0
import Derived.Test.YtonjfggfcnpgbaaMScanPlaysx3
namespace Go.Proofs.Ytonjfggfcnpgbaa.MScanPlays
open Go.RowKit Go.Proofs.YtonjfggfcnpgbaaW.PrintWords Go.Proofs.YtonjfggfcnpgbaaW.PrintLast Go.Proofs.YtonjfggfcnpgbaaW.PrintMore
attribute [local go_sem] max2_int min2_int max_two min_two max_three min_three max_four min_four   -- for this text's walks alone
set_option linter.unusedVariables false
set_option linter.unusedSimpArgs false

/-! ### r4_Run: function 34 -/
mutual
def r4_Run.l0 : Nat → ByteArray → ByteArray → ByteArray → Int → Int → Option (ByteArray × ByteArray × Int × Int)
 | 0, _, _, _, _, _ => none
 | k + 1, x1, x6, x292000, x292001, x292002 => (r4_Rest.f x292000 x292001 x292002).bind fun t293 => (if (t293.size : Int) > 0 then ((r4_Rest.f x292000 x292001 x292002).bind fun t294 => (if 0 < (t294.size : Int) then (r4_Run.l1 k x1 x6 (bt t294 0) false 0 x292000 x292001 x292002) else (none))) else (some (x6, x292000, x292001, x292002)))
def r4_Run.l1 : Nat → ByteArray → ByteArray → Int → Bool → Int → ByteArray → Int → Int → Option (ByteArray × ByteArray × Int × Int)
 | 0, _, _, _, _, _, _, _, _ => none
 | k + 1, x1, x6, x7, x8, x9, x292000, x292001, x292002 => if x9 < (x1.size : Int) then (if x8 = true then (r4_Run.l1 k x1 x6 x7 true (wrap64 (x9 + 1)) x292000 x292001 x292002) else (if 0 ≤ x9 then (r4_Run.l1 k x1 x6 x7 ((bt x1 x9) == x7) (wrap64 (x9 + 1)) x292000 x292001 x292002) else (none))) else (if x8 = true then ((some (([x7] : List Int) : List Int)).bind fun y295 => (if x6.size + (strOfNums y295).size ≤ 9223372036854775807 then (r4_Run.l0 k x1 (x6 ++ (strOfNums y295)) x292000 (wrap64 (x292001 + 1)) x292002) else (none))) else (some (x6, x292000, x292001, x292002)))
end
def r4_Run.f (k : Nat) (a0_0 : ByteArray) (a0_1 : Int) (a0_2 : Int) (a1 : ByteArray) : Option (ByteArray × ByteArray × Int × Int) := r4_Run.l0 k a1 (⟨#[]⟩ : ByteArray) a0_0 a0_1 a0_2
set_option maxHeartbeats 8000000 in
set_option maxRecDepth 100000 in
theorem r4_Run.calls (k : Nat) (a0_0 : ByteArray) (a0_1 : Int) (a0_2 : Int) (a1 : ByteArray) (r1 : ByteArray) (r2 : ByteArray) (r3 : Int) (r4 : Int) (w : World) (h : r4_Run.f k a0_0 a0_1 a0_2 a1 = some (r1, r2, r3, r4)) :
  Calls Try.prog 34 #[.agg #[.string a0_0, .int .i64 a0_1, .int .i64 a0_2], .string a1] w fun e w' => e = .returned (.tuple #[.string r1, .agg #[.string r2, .int .i64 r3, .int .i64 r4]]) ∧ Below w.heap.size w w' := by
 have hu31 := Try.underlying31
 have HB := Aside0.mk (Below.refl w.heap.size w)
 have H : (r4_Run.l0 k a1 (⟨#[]⟩ : ByteArray) a0_0 a0_1 a0_2) = some (r1, r2, r3, r4) := h
 clear h
 have H' := Aside0.mk H
 clear H
 go_enter Try.func34, Try.ntmps34
 go_wp2_with (first | ((with_reducible refine gate_dst (N := 2) rfl ?_); refine box_event ?hg (N := 2) ?hd (cs := #[.string a0_0, .int .i64 a0_1, .int .i64 a0_2]) (t := 31) ?hr ?_; (case hd => rfl); (case hg => rfl); (case hr => exact zq16); intro gb291 hg w3 hbox hb; have n0_ := Aside0.mk (below_step zq2 hb); have n1_ := Aside0.mk (hbox); have n2_ := Aside0.mk ((by rw [hg]; exact (below_size zq2) : w.heap.size ≤ gb291)); have n3_ := Aside0.mk ((by rw [hg]; exact (below_size zq2) : w.heap.size ≤ gb291)); clear HB; have HB := n0_; have BK291 := n1_; have GW291 := n2_; have GE291 := n3_; clear n0_ n1_ n2_ n3_; clear hb hbox hg) | ((with_reducible refine gate_dst (N := 5) rfl ?_); refine box_event ?hg (N := 5) ?hd (cs := #[.string (⟨#[]⟩ : ByteArray), .int .i64 0, .int .i64 0]) (t := 31) ?hr ?_; (case hd => rfl); (case hg => rfl); (case hr => exact zq16); intro gb292 hg w4 hbox hb; have n0_ := Aside0.mk (blk_below (g := gb291) (o := .cells #[.string a0_0, .int .i64 a0_1, .int .i64 a0_2] 31 (0, 0)) (bk_ BK291.out) hb); have n1_ := Aside0.mk (below_step zq84 hb); have n2_ := Aside0.mk (hbox); have n3_ := Aside0.mk ((by rw [hg]; exact (below_size zq84) : w.heap.size ≤ gb292)); have n4_ := Aside0.mk ((by rw [hg]; exact (below_size zq84) : w.heap.size ≤ gb292)); have n5_ := Aside0.mk ((by rw [hg]; exact Nat.ne_of_lt (blk_lt (g := gb291) (o := .cells #[.string a0_0, .int .i64 a0_1, .int .i64 a0_2] 31 (0, 0)) (bk_ BK291.out)) : gb291 ≠ gb292)); have n6_ := Aside0.mk ((by rw [hg]; exact Nat.ne_of_gt (blk_lt (g := gb291) (o := .cells #[.string a0_0, .int .i64 a0_1, .int .i64 a0_2] 31 (0, 0)) (bk_ BK291.out)) : gb292 ≠ gb291)); clear BK291; clear HB; have BK291 := n0_; have HB := n1_; have BK292 := n2_; have GW292 := n3_; have GE292 := n4_; have NB291_292 := n5_; have NB292_291 := n6_; clear n0_ n1_ n2_ n3_ n4_ n5_ n6_; clear hb hbox hg))
 try simp only [Act.put, sl_]
 go_loopg [6] k (fun kq v6 w' => ∃ (x6_1 : ByteArray) (x292001_1 : Int) (x293000_1 : ByteArray) (x293001_1 : Int) (x293002_1 : Int), v6 = .string x6_1 ∧ Aside0 (r4_Run.l0 kq a1 x6_1 a0_0 x292001_1 a0_2 = some (r1, r2, r3, r4)) ∧ Aside0 (kq ≤ k) ∧ Aside0 (w'.heap[gb291]? = some (.cells #[.string a0_0, .int .i64 x292001_1, .int .i64 a0_2] 31 (0, 0))) ∧ Aside0 (w'.heap[gb292]? = some (.cells #[.string x293000_1, .int .i64 x293001_1, .int .i64 x293002_1] 31 (0, 0))) ∧ Aside0 (Below w.heap.size w w'))
 case atStart => exact ⟨((⟨#[]⟩ : ByteArray)), (a0_1), ((⟨#[]⟩ : ByteArray)), (0), (0), zq9, H', ⟨Nat.le_refl _⟩, ⟨zq78⟩, ⟨zq79⟩, ⟨zq21⟩⟩
 case round =>
  clear H'
  try clear p2
  try clear c3
  obtain ⟨x6_1, x292001_1, x293000_1, x293001_1, x293002_1, rfl, HA, HK1, BK291, BK292, HB⟩ := hrel
  cases gk with
  | zero => exact absurd HA.out (by simp [r4_Run.l0])
  | succ k1 =>
   have H := HA.out
   clear HA
   simp only [r4_Run.l0] at H
   replace H := Option.bind_eq_some_iff.mp H
   obtain ⟨t293, A50, H⟩ := H
   replace H : (if (t293.size : Int) > 0 then ((r4_Rest.f a0_0 x292001_1 a0_2).bind fun t294 => (if 0 < (t294.size : Int) then (r4_Run.l1 k1 a1 x6_1 (bt t294 0) false 0 a0_0 x292001_1 a0_2) else (none))) else (some (x6_1, a0_0, x292001_1, a0_2))) = some (r1, r2, r3, r4) := H
   have A5 := Aside0.mk A50
   clear A50
   by_cases c6 : (t293.size : Int) > 0
   ·rw [if_pos c6] at H
    have c6b0 : decide (0 < (t293.size : Int)) = true := decide_eq_true c6
    have c6b1 : decide (0 < t293.size) = true := decide_eq_true (by omega)
    clear c6
    replace H := Option.bind_eq_some_iff.mp H
    obtain ⟨t294, A70, H⟩ := H
    replace H : (if 0 < (t294.size : Int) then (r4_Run.l1 k1 a1 x6_1 (bt t294 0) false 0 a0_0 x292001_1 a0_2) else (none)) = some (r1, r2, r3, r4) := H
    have A7 := Aside0.mk A70
    clear A70
    by_cases c8 : 0 < (t294.size : Int)
    ·rw [if_pos c8] at H
     have c8b0 : decide (0 < (t294.size : Int)) = true := decide_eq_true c8
     have c8b1 : decide (0 < t294.size) = true := decide_eq_true (by omega)
     clear c8
     have H' := Aside0.mk H
     clear H
     have hnb10 := NB291_292.out
     have hnc10 := NB292_291.out
     have hcz11_0 : wr.cell? ⟨gb291, 0, none⟩ = some (.string a0_0) := (blk_cell BK291.out 0).trans rfl
     have hcz11_1 : wr.cell? ⟨gb291, 1, none⟩ = some (.int .i64 x292001_1) := (blk_cell BK291.out 1).trans rfl
     have hcz11_2 : wr.cell? ⟨gb291, 2, none⟩ = some (.int .i64 a0_2) := (blk_cell BK291.out 2).trans rfl
     have hfz11_0 := blk_frozen BK291.out 0
     have hfz11_1 := blk_frozen BK291.out 1
     have hfz11_2 := blk_frozen BK291.out 2
     go_wp2_with (first | ((with_reducible refine gate_callee (f := 29) rfl ?_); refine goesL_ (some 11) rfl rfl Try.func29 (by kernel_rfl) rfl #[.agg #[.string a0_0, .int .i64 x292001_1, .int .i64 a0_2]] rfl zq1 ?_; (with_reducible refine (r4_Rest.calls a0_0 x292001_1 a0_2 t293 _ A5.out).mono ?_); rintro e w12 ⟨rfl, hb⟩; refine ⟨_, rfl, ?_⟩; replace BK291 := Aside0.mk (blk_below (g := gb291) (o := .cells #[.string a0_0, .int .i64 x292001_1, .int .i64 a0_2] 31 (0, 0)) (bk_ BK291.out) hb); replace BK292 := Aside0.mk (blk_below (g := gb292) (o := .cells #[.string x293000_1, .int .i64 x293001_1, .int .i64 x293002_1] 31 (0, 0)) (bk_ BK292.out) hb); replace HB := Aside0.mk (below_step zq21 hb); (try clear hb hk hi); (try clear hb2); have hcz13_0 : w12.cell? ⟨gb291, 0, none⟩ = some (.string a0_0) := (blk_cell BK291.out 0).trans rfl; have hcz13_1 : w12.cell? ⟨gb291, 1, none⟩ = some (.int .i64 x292001_1) := (blk_cell BK291.out 1).trans rfl; have hcz13_2 : w12.cell? ⟨gb291, 2, none⟩ = some (.int .i64 a0_2) := (blk_cell BK291.out 2).trans rfl; have hfz13_0 := blk_frozen BK291.out 0; have hfz13_1 := blk_frozen BK291.out 1; have hfz13_2 := blk_frozen BK291.out 2) | ((with_reducible refine gate_callee (f := 29) rfl ?_); refine goesL_ (some 15) rfl rfl Try.func29 (by kernel_rfl) rfl #[.agg #[.string a0_0, .int .i64 x292001_1, .int .i64 a0_2]] rfl zq1 ?_; (with_reducible refine (r4_Rest.calls a0_0 x292001_1 a0_2 t294 _ A7.out).mono ?_); rintro e w14 ⟨rfl, hb⟩; refine ⟨_, rfl, ?_⟩; replace BK291 := Aside0.mk (blk_below (g := gb291) (o := .cells #[.string a0_0, .int .i64 x292001_1, .int .i64 a0_2] 31 (0, 0)) (bk_ BK291.out) hb); replace BK292 := Aside0.mk (blk_below (g := gb292) (o := .cells #[.string x293000_1, .int .i64 x293001_1, .int .i64 x293002_1] 31 (0, 0)) (bk_ BK292.out) hb); replace HB := Aside0.mk (below_step zq21 hb); (try clear hb hk hi); (try clear hb2); have p9 : 0 ≤ (0 : Int) := (by omega); have q9 : 0 < t294.size := (by have : (0 : Int) < (t294.size : Int) := of_decide_eq_true zq10; omega); have hx9 : ∀ h : 0 < t294.size, ((t294[0]'h).toNat : Int) = bt t294 0 := bt_at t294 0; clear p9; have qi9 : (0 < (t294.size : Int)) = True := eq_true (of_decide_eq_true zq10); replace q9 := eq_true q9))
     try simp only [Act.put, sl_]
     go_loopg [8, 9] k1 (fun kq v8 v9 w' => ∃ (x8_2 : Bool) (x9_2 : Int), v8 = .bool x8_2 ∧ v9 = .int .i64 x9_2 ∧ Aside0 (r4_Run.l1 kq a1 x6_1 (bt t294 0) x8_2 x9_2 a0_0 x292001_1 a0_2 = some (r1, r2, r3, r4)) ∧ Aside0 (kq ≤ k1) ∧ Aside0 (w'.heap[gb291]? = some (.cells #[.string a0_0, .int .i64 x292001_1, .int .i64 a0_2] 31 (0, 0))) ∧ Aside0 (w'.heap[gb292]? = some (.cells #[.string x293000_1, .int .i64 x293001_1, .int .i64 x293002_1] 31 (0, 0))) ∧ Aside0 (Below w.heap.size w w'))
     case atStart => exact ⟨(false), (0), zq9, zq9, H', ⟨Nat.le_refl _⟩, ⟨zq78⟩, ⟨zq79⟩, ⟨zq21⟩⟩
     case round =>
      clear H'
      try clear c1
      try clear c2
      try clear p2
      try clear c3
      try clear c6
      try clear c6b0
      try clear c6b1
      try clear p6
      try clear c8
      try clear c8b0
      try clear c8b1
      try clear p9
      try clear q9
      try clear hx9
      try clear qi9
      try clear c10
      try clear hcz11_0
      try clear hcz11_1
      try clear hcz11_2
      try clear hcz13_0
      try clear hcz13_1
      try clear hcz13_2
      try clear hfz11_0
      try clear hfz11_1
      try clear hfz11_2
      try clear hfz13_0
      try clear hfz13_1
      try clear hfz13_2
      try clear p2
      try clear p9
      try clear q9
      obtain ⟨x8_2, x9_2, rfl, rfl, HA, HK2, BK291, BK292, HB⟩ := hrel
      cases gk with
      | zero => exact absurd HA.out (by simp [r4_Run.l1])
      | succ k2 =>
       have H := HA.out
       clear HA
       simp only [r4_Run.l1] at H
       by_cases c15 : x9_2 < (a1.size : Int)
       ·rw [if_pos c15] at H
        have c15b0 : decide (x9_2 < (a1.size : Int)) = true := decide_eq_true c15
        clear c15
        by_cases c16 : x8_2 = true
        ·subst c16
         have H1 : (r4_Run.l1 k2 a1 x6_1 (bt t294 0) true (wrap64 (x9_2 + 1)) a0_0 x292001_1 a0_2) = some (r1, r2, r3, r4) := by rw [if_pos rfl] at H; exact H
         clear H
         have H := H1
         clear H1
         have H' := Aside0.mk H
         clear H
         go_wp2
         go_roundg k2
         case measure => have := HK1.out; have := HK2.out; omega
         case rel => exact ⟨(true), (wrap64 (x9_2 + 1)), zq9, zq9, H', ⟨by have := HK1.out; have := HK2.out; omega⟩, ⟨zq78⟩, ⟨zq79⟩, ⟨zq21⟩⟩
        ·replace c16 := Bool.eq_false_iff.mpr c16
         subst c16
         have H1 : (if 0 ≤ x9_2 then (r4_Run.l1 k2 a1 x6_1 (bt t294 0) ((bt a1 x9_2) == (bt t294 0)) (wrap64 (x9_2 + 1)) a0_0 x292001_1 a0_2) else (none)) = some (r1, r2, r3, r4) := by rw [if_neg (show ¬ (false = true) by decide)] at H; exact H
         clear H
         have H := H1
         clear H1
         by_cases c17 : 0 ≤ x9_2
         ·rw [if_pos c17] at H
          have c17b0 : decide (0 ≤ x9_2) = true := decide_eq_true c17
          clear c17
          have H' := Aside0.mk H
          clear H
          have p18 : 0 ≤ (x9_2 : Int) := of_decide_eq_true zq10
          have q18 : x9_2 < (a1.size : Int) := of_decide_eq_true zq10
          have hx18 := bt_at a1 x9_2
          replace p18 := eq_true p18
          replace q18 := eq_true q18
          go_wp2
          go_roundg k2
          case measure => have := HK1.out; have := HK2.out; omega
          case rel => exact ⟨(((bt a1 x9_2) == (bt t294 0))), (wrap64 (x9_2 + 1)), zq9, zq9, H', ⟨by have := HK1.out; have := HK2.out; omega⟩, ⟨zq78⟩, ⟨zq79⟩, ⟨zq21⟩⟩
         ·rw [if_neg c17] at H
          exact absurd H (by simp)
       ·rw [if_neg c15] at H
        have c15b0 : decide (x9_2 < (a1.size : Int)) = false := decide_eq_false c15
        clear c15
        by_cases c19 : x8_2 = true
        ·subst c19
         have H1 : ((some (([(bt t294 0)] : List Int) : List Int)).bind fun y295 => (if x6_1.size + (strOfNums y295).size ≤ 9223372036854775807 then (r4_Run.l0 k2 a1 (x6_1 ++ (strOfNums y295)) a0_0 (wrap64 (x292001_1 + 1)) a0_2) else (none))) = some (r1, r2, r3, r4) := by rw [if_pos rfl] at H; exact H
         clear H
         have H := H1
         clear H1
         obtain ⟨y295, hy295⟩ : ∃ y_ : List Int, y_ = (([(bt t294 0)] : List Int)) := ⟨_, rfl⟩
         replace H : (if x6_1.size + (strOfNums y295).size ≤ 9223372036854775807 then (r4_Run.l0 k2 a1 (x6_1 ++ (strOfNums y295)) a0_0 (wrap64 (x292001_1 + 1)) a0_2) else (none)) = some (r1, r2, r3, r4) := by first | (rw [hy295]; with_reducible exact H) | (have H2_ := (Option.bind_some _ _).symm.trans H; rw [hy295]; with_reducible exact H2_) | (have H2_ := (Option.bind_some _ _).symm.trans H; with_reducible exact H2_) | with_reducible exact H | (rw [hy295]; exact H) | exact H
         have Ny295 := Aside0.mk hy295
         clear hy295
         by_cases c20 : x6_1.size + (strOfNums y295).size ≤ 9223372036854775807
         ·rw [if_pos c20] at H
          have c20b0 := eq_true c20
          have c20b1 : decide (x6_1.size + (strOfNums y295).size ≤ 9223372036854775807) = true := decide_eq_true c20
          try have c20b2 : (9223372036854775807 < x6_1.size + (strOfNums y295).size) = False := eq_false (Nat.not_lt.2 c20)
          have H' := Aside0.mk H
          clear H
          go_wp2_with (first | ((with_reducible refine gate_dst (N := 37) rfl ?_); refine Kd.R_lit (Kd.int .u8) _ 5 ?hg (N := 37) ?hd (xs := ([(bt t294 0)] : List Int)) (inner := [.int .u8 (bt t294 0)]) (ok := fun _ => True) (okp := fun _ => True) ?hr ?hp (fun _ hk => hk) trivial (Below.refl _ _) (Nat.le_refl _) (by simp) ?_; (case hd => rfl); (case hg => rfl); (case hr => exact zq16); (case hp => exact (Reps.one (show Kd.M (Kd.int .u8) _ _ _ (bt t294 0) [.int .u8 (bt t294 0)] from rfl) (Reps.none _ _))); intro v296 w21 ho22 hb hg_ hnew_; clear hg_ hnew_; (first | rw [← Ny295.out] at ho22 | (simp only [Int.reduceToNat] at ho22; rw [← Ny295.out] at ho22)); have n0_ := Aside0.mk (Kd.R_lower ho22 (below_size zq21)); have n1_ := Aside0.mk (blk_below (g := gb291) (o := .cells #[.string a0_0, .int .i64 x292001_1, .int .i64 a0_2] 31 (0, 0)) (bk_ BK291.out) hb); have n2_ := Aside0.mk (blk_below (g := gb292) (o := .cells #[.string x293000_1, .int .i64 x293001_1, .int .i64 x293002_1] 31 (0, 0)) (bk_ BK292.out) hb); have n3_ := Aside0.mk (below_step zq21 hb); clear BK291; clear BK292; clear HB; have HO297 := n0_; have BK291 := n1_; have BK292 := n2_; have HB := n3_; clear n0_ n1_ n2_ n3_; clear hb ho22; have hcv23 := own_string (P := Try.prog) Try.underlying25 Try.underlying5 Try.underlying9 (Kd.own_of_R HO297.out); have hnb24 := NB291_292.out; have hnc24 := NB292_291.out; have hcz25_0 : w21.cell? ⟨gb291, 0, none⟩ = some (.string a0_0) := (blk_cell BK291.out 0).trans rfl; have hcz25_1 : w21.cell? ⟨gb291, 1, none⟩ = some (.int .i64 x292001_1) := (blk_cell BK291.out 1).trans rfl; have hcz25_2 : w21.cell? ⟨gb291, 2, none⟩ = some (.int .i64 a0_2) := (blk_cell BK291.out 2).trans rfl; have hfz25_0 := blk_frozen BK291.out 0; have hfz25_1 := blk_frozen BK291.out 1; have hfz25_2 := blk_frozen BK291.out 2))
          go_roundg k2
          case measure => have := HK1.out; have := HK2.out; omega
          case rel => exact ⟨(x6_1 ++ (strOfNums y295)), (wrap64 (x292001_1 + 1)), (x293000_1), (x293001_1), (x293002_1), zq9, H', ⟨by have := HK1.out; have := HK2.out; omega⟩, ⟨by (with_reducible repeat (first | refine blk_drewN ?_ _ | refine blk_drew ?_ | refine blk_alloc ?_ _)); refine blk_put (cs := #[.string a0_0, .int .i64 x292001_1, .int .i64 a0_2]) ?_ 1 _ rfl; (with_reducible repeat (first | refine blk_drewN ?_ _ | refine blk_drew ?_ | refine blk_alloc ?_ _)); exact BK291.out⟩, ⟨by (with_reducible repeat (first | refine blk_drewN ?_ _ | refine blk_drew ?_ | refine blk_alloc ?_ _)); refine blk_far ?_ NB292_291.out _; (with_reducible repeat (first | refine blk_drewN ?_ _ | refine blk_drew ?_ | refine blk_alloc ?_ _)); exact BK292.out⟩, ⟨zq21⟩⟩
         ·rw [if_neg c20] at H
          exact absurd H (by simp)
        ·replace c19 := Bool.eq_false_iff.mpr c19
         subst c19
         have H1 : (some (x6_1, a0_0, x292001_1, a0_2)) = some (r1, r2, r3, r4) := by rw [if_neg (show ¬ (false = true) by decide)] at H; exact H
         clear H
         have H := H1
         clear H1
         simp only [Option.some.injEq, Prod.mk.injEq] at H
         obtain ⟨rfl, rfl, rfl, rfl⟩ := H
         try go_wp2
         have n0_ := Aside0.mk (blk_drew BK291.out)
         have n1_ := Aside0.mk (blk_drew BK292.out)
         have n2_ := Aside0.mk (below_drew1 HB.out)
         clear BK291
         clear BK292
         clear HB
         have BK291 := n0_
         have BK292 := n1_
         have HB := n2_
         clear n0_ n1_ n2_
         refine start_ (n := 4) (S := fun w' => w'.cell? ⟨gb291, 0, none⟩ = some (.string a0_0) ∧ w'.cell? ⟨gb291, 1, none⟩ = some (.int .i64 x292001_1) ∧ w'.cell? ⟨gb291, 2, none⟩ = some (.int .i64 a0_2)) (ds := []) #[false, false, false, false] (by kernel_rfl) rfl rfl ⟨(blk_cell BK291.out 0).trans rfl, (blk_cell BK291.out 1).trans rfl, (blk_cell BK291.out 2).trans rfl⟩ (fun hHeld => ?_)
         generalize wr.drew = w26 at BK291 BK292 HB hHeld ⊢
         refine pure_ (i := 0) (N := some 33) (v := ?_) (a' := ?_) #[true, false, false, false] rfl rfl (by kernel_rfl) (fun _ _ _ h => h) (Or.inl ⟨by rfl, ?_⟩) ?_ ?_
         rotate_left
         ·intro w'
          go_simp
          with_reducible rfl
         rotate_left
         ·simp only [Act.put, sl_, i64_w, i32_w]
          rfl
         refine pure_ (i := 2) (N := some 4) (v := ?_) (a' := ?_) #[true, false, true, false] rfl rfl (by kernel_rfl) (fun _ _ _ h => h) (Or.inl ⟨by rfl, ?_⟩) ?_ ?_
         rotate_left
         ·intro w'
          go_simp
          with_reducible rfl
         rotate_left
         ·simp only [Act.put, sl_, i64_w, i32_w]
          rfl
         refine take_ (i := 1) (N := some 34) (v := ?_) (a' := ?_) #[true, true, true, false] rfl rfl (by kernel_rfl) (fun _ _ _ h => h) (Or.inl ⟨by rfl, ?_⟩) hHeld ?_ ?_
         rotate_left
         ·rintro w' ⟨s0, s1, s2⟩
          go_simp
          with_reducible rfl
         rotate_left
         ·simp only [Act.put, sl_, i64_w, i32_w]
          rfl
         refine one_ (i := 3) (N := none) #[true, true, true, true] rfl rfl (by kernel_rfl) (by decide) (fun K hK => ?_)
         have hs27 : w26.cell? ⟨gb292, 0, none⟩ = some (.string x293000_1) := (blk_cell BK292.out 0).trans rfl
         have hfs27 := blk_frozen BK292.out 0
         have hns27_0 := NB291_292.out
         have hms27_0 := NB292_291.out
         have hs28 : w26.cell? ⟨gb292, 1, none⟩ = some (.int .i64 x293001_1) := (blk_cell BK292.out 1).trans rfl
         have hfs28 := blk_frozen BK292.out 1
         have hns28_0 := NB291_292.out
         have hms28_0 := NB292_291.out
         have hs29 : w26.cell? ⟨gb292, 2, none⟩ = some (.int .i64 x293002_1) := (blk_cell BK292.out 2).trans rfl
         have hfs29 := blk_frozen BK292.out 2
         have hns29_0 := NB291_292.out
         have hms29_0 := NB292_291.out
         refine skip_ (w1 := ?_) (by rfl) rfl ?_ ?_
         rotate_left
         ·go_simp
          rfl
         refine hK.out _ _ ⟨((cell_far (p := ⟨gb292, _, none⟩) NB291_292.out _).trans (((cell_far (p := ⟨gb292, _, none⟩) NB291_292.out _).trans (((cell_far (p := ⟨gb292, _, none⟩) NB291_292.out _).trans (hHeld.1)))))), ((cell_far (p := ⟨gb292, _, none⟩) NB291_292.out _).trans (((cell_far (p := ⟨gb292, _, none⟩) NB291_292.out _).trans (((cell_far (p := ⟨gb292, _, none⟩) NB291_292.out _).trans (hHeld.2.1)))))), ((cell_far (p := ⟨gb292, _, none⟩) NB291_292.out _).trans (((cell_far (p := ⟨gb292, _, none⟩) NB291_292.out _).trans (((cell_far (p := ⟨gb292, _, none⟩) NB291_292.out _).trans (hHeld.2.2))))))⟩ (fun hHeld => ?_)
         clear hK K
         refine done_ (by kernel_rfl) ?_
         try go_wp2
         refine bodyPost_ret (results_tc rfl _ _ gb292 31 #[.string a0_0, .int .i64 x292001_1, .int .i64 a0_2] (0, 0) _ rfl zq56 Try.underlying31 rfl (by kernel_rfl)) rfl ?_
         exact ⟨zq8, zq21⟩
    ·rw [if_neg c8] at H
     exact absurd H (by simp)
   ·rw [if_neg c6] at H
    have c6b0 : decide (0 < (t293.size : Int)) = false := decide_eq_false c6
    have c6b1 : decide (0 < t293.size) = false := decide_eq_false (by omega)
    clear c6
    simp only [Option.some.injEq, Prod.mk.injEq] at H
    obtain ⟨rfl, rfl, rfl, rfl⟩ := H
    have hnb30 := NB291_292.out
    have hnc30 := NB292_291.out
    have hcz31_0 : wr.cell? ⟨gb291, 0, none⟩ = some (.string a0_0) := (blk_cell BK291.out 0).trans rfl
    have hcz31_1 : wr.cell? ⟨gb291, 1, none⟩ = some (.int .i64 x292001_1) := (blk_cell BK291.out 1).trans rfl
    have hcz31_2 : wr.cell? ⟨gb291, 2, none⟩ = some (.int .i64 a0_2) := (blk_cell BK291.out 2).trans rfl
    have hfz31_0 := blk_frozen BK291.out 0
    have hfz31_1 := blk_frozen BK291.out 1
    have hfz31_2 := blk_frozen BK291.out 2
    try go_wp2_with (first | ((with_reducible refine gate_callee (f := 29) rfl ?_); refine goesL_ (some 11) rfl rfl Try.func29 (by kernel_rfl) rfl #[.agg #[.string a0_0, .int .i64 x292001_1, .int .i64 a0_2]] rfl zq1 ?_; (with_reducible refine (r4_Rest.calls a0_0 x292001_1 a0_2 t293 _ A5.out).mono ?_); rintro e w32 ⟨rfl, hb⟩; refine ⟨_, rfl, ?_⟩; replace BK291 := Aside0.mk (blk_below (g := gb291) (o := .cells #[.string a0_0, .int .i64 x292001_1, .int .i64 a0_2] 31 (0, 0)) (bk_ BK291.out) hb); replace BK292 := Aside0.mk (blk_below (g := gb292) (o := .cells #[.string x293000_1, .int .i64 x293001_1, .int .i64 x293002_1] 31 (0, 0)) (bk_ BK292.out) hb); replace HB := Aside0.mk (below_step zq21 hb); (try clear hb hk hi); (try clear hb2)))
    have n0_ := Aside0.mk (blk_drew BK291.out)
    have n1_ := Aside0.mk (blk_drew BK292.out)
    have n2_ := Aside0.mk (below_drew1 HB.out)
    clear BK291
    clear BK292
    clear HB
    have BK291 := n0_
    have BK292 := n1_
    have HB := n2_
    clear n0_ n1_ n2_
    refine start_ (n := 4) (S := fun w' => w'.cell? ⟨gb291, 0, none⟩ = some (.string a0_0) ∧ w'.cell? ⟨gb291, 1, none⟩ = some (.int .i64 x292001_1) ∧ w'.cell? ⟨gb291, 2, none⟩ = some (.int .i64 a0_2)) (ds := []) #[false, false, false, false] (by kernel_rfl) rfl rfl ⟨(blk_cell BK291.out 0).trans rfl, (blk_cell BK291.out 1).trans rfl, (blk_cell BK291.out 2).trans rfl⟩ (fun hHeld => ?_)
    generalize w32.drew = w33 at BK291 BK292 HB hHeld ⊢
    refine pure_ (i := 0) (N := some 44) (v := ?_) (a' := ?_) #[true, false, false, false] rfl rfl (by kernel_rfl) (fun _ _ _ h => h) (Or.inl ⟨by rfl, ?_⟩) ?_ ?_
    rotate_left
    ·intro w'
     go_simp
     with_reducible rfl
    rotate_left
    ·simp only [Act.put, sl_, i64_w, i32_w]
     rfl
    refine pure_ (i := 2) (N := some 4) (v := ?_) (a' := ?_) #[true, false, true, false] rfl rfl (by kernel_rfl) (fun _ _ _ h => h) (Or.inl ⟨by rfl, ?_⟩) ?_ ?_
    rotate_left
    ·intro w'
     go_simp
     with_reducible rfl
    rotate_left
    ·simp only [Act.put, sl_, i64_w, i32_w]
     rfl
    refine take_ (i := 1) (N := some 45) (v := ?_) (a' := ?_) #[true, true, true, false] rfl rfl (by kernel_rfl) (fun _ _ _ h => h) (Or.inl ⟨by rfl, ?_⟩) hHeld ?_ ?_
    rotate_left
    ·rintro w' ⟨s0, s1, s2⟩
     go_simp
     with_reducible rfl
    rotate_left
    ·simp only [Act.put, sl_, i64_w, i32_w]
     rfl
    refine one_ (i := 3) (N := none) #[true, true, true, true] rfl rfl (by kernel_rfl) (by decide) (fun K hK => ?_)
    have hs34 : w33.cell? ⟨gb292, 0, none⟩ = some (.string x293000_1) := (blk_cell BK292.out 0).trans rfl
    have hfs34 := blk_frozen BK292.out 0
    have hns34_0 := NB291_292.out
    have hms34_0 := NB292_291.out
    have hs35 : w33.cell? ⟨gb292, 1, none⟩ = some (.int .i64 x293001_1) := (blk_cell BK292.out 1).trans rfl
    have hfs35 := blk_frozen BK292.out 1
    have hns35_0 := NB291_292.out
    have hms35_0 := NB292_291.out
    have hs36 : w33.cell? ⟨gb292, 2, none⟩ = some (.int .i64 x293002_1) := (blk_cell BK292.out 2).trans rfl
    have hfs36 := blk_frozen BK292.out 2
    have hns36_0 := NB291_292.out
    have hms36_0 := NB292_291.out
    refine skip_ (w1 := ?_) (by rfl) rfl ?_ ?_
    rotate_left
    ·go_simp
     rfl
    refine hK.out _ _ ⟨((cell_far (p := ⟨gb292, _, none⟩) NB291_292.out _).trans (((cell_far (p := ⟨gb292, _, none⟩) NB291_292.out _).trans (((cell_far (p := ⟨gb292, _, none⟩) NB291_292.out _).trans (hHeld.1)))))), ((cell_far (p := ⟨gb292, _, none⟩) NB291_292.out _).trans (((cell_far (p := ⟨gb292, _, none⟩) NB291_292.out _).trans (((cell_far (p := ⟨gb292, _, none⟩) NB291_292.out _).trans (hHeld.2.1)))))), ((cell_far (p := ⟨gb292, _, none⟩) NB291_292.out _).trans (((cell_far (p := ⟨gb292, _, none⟩) NB291_292.out _).trans (((cell_far (p := ⟨gb292, _, none⟩) NB291_292.out _).trans (hHeld.2.2))))))⟩ (fun hHeld => ?_)
    clear hK K
    refine done_ (by kernel_rfl) ?_
    try go_wp2
    refine bodyPost_ret (results_tc rfl _ _ gb292 31 #[.string a0_0, .int .i64 x292001_1, .int .i64 a0_2] (0, 0) _ rfl zq56 Try.underlying31 rfl (by kernel_rfl)) rfl ?_
    exact ⟨zq8, zq21⟩

/-! ### r4_Until: function 35 -/
def r4_Until.l0 : Nat → Int → ByteArray → ByteArray → Int → Int → Option (ByteArray × ByteArray × Int × Int)
 | 0, _, _, _, _, _ => none
 | k + 1, x1, x6, x299000, x299001, x299002 => (r4_Rest.f x299000 x299001 x299002).bind fun t300 => (if (t300.size : Int) > 0 then ((r4_Rest.f x299000 x299001 x299002).bind fun t301 => (if 0 < (t301.size : Int) then (if (bt t301 0) = x1 then (some (x6, x299000, x299001, x299002)) else ((r4_Rest.f x299000 x299001 x299002).bind fun t302 => (if 0 ≤ 1 then (if 1 ≤ (t302.size : Int) then (if x6.size + (t302.extract 0 1).size ≤ 9223372036854775807 then (r4_Until.l0 k x1 (x6 ++ (t302.extract 0 1)) x299000 (wrap64 (x299001 + 1)) x299002) else (none)) else (none)) else (none)))) else (none))) else (some (x6, x299000, x299001, x299002)))
def r4_Until.f (k : Nat) (a0_0 : ByteArray) (a0_1 : Int) (a0_2 : Int) (a1 : Int) : Option (ByteArray × ByteArray × Int × Int) := r4_Until.l0 k a1 (⟨#[]⟩ : ByteArray) a0_0 a0_1 a0_2
set_option maxHeartbeats 8000000 in
set_option maxRecDepth 100000 in
theorem r4_Until.calls (k : Nat) (a0_0 : ByteArray) (a0_1 : Int) (a0_2 : Int) (a1 : Int) (r1 : ByteArray) (r2 : ByteArray) (r3 : Int) (r4 : Int) (w : World) (h : r4_Until.f k a0_0 a0_1 a0_2 a1 = some (r1, r2, r3, r4)) :
  Calls Try.prog 35 #[.agg #[.string a0_0, .int .i64 a0_1, .int .i64 a0_2], .int .u8 a1] w fun e w' => e = .returned (.tuple #[.string r1, .agg #[.string r2, .int .i64 r3, .int .i64 r4]]) ∧ Below w.heap.size w w' := by
 have hu31 := Try.underlying31
 have HB := Aside0.mk (Below.refl w.heap.size w)
 have H : (r4_Until.l0 k a1 (⟨#[]⟩ : ByteArray) a0_0 a0_1 a0_2) = some (r1, r2, r3, r4) := h
 clear h
 have H' := Aside0.mk H
 clear H
 go_enter Try.func35, Try.ntmps35
 go_wp2_with (first | ((with_reducible refine gate_dst (N := 2) rfl ?_); refine box_event ?hg (N := 2) ?hd (cs := #[.string a0_0, .int .i64 a0_1, .int .i64 a0_2]) (t := 31) ?hr ?_; (case hd => rfl); (case hg => rfl); (case hr => exact zq16); intro gb298 hg w3 hbox hb; have n0_ := Aside0.mk (below_step zq2 hb); have n1_ := Aside0.mk (hbox); have n2_ := Aside0.mk ((by rw [hg]; exact (below_size zq2) : w.heap.size ≤ gb298)); have n3_ := Aside0.mk ((by rw [hg]; exact (below_size zq2) : w.heap.size ≤ gb298)); clear HB; have HB := n0_; have BK298 := n1_; have GW298 := n2_; have GE298 := n3_; clear n0_ n1_ n2_ n3_; clear hb hbox hg) | ((with_reducible refine gate_dst (N := 5) rfl ?_); refine box_event ?hg (N := 5) ?hd (cs := #[.string (⟨#[]⟩ : ByteArray), .int .i64 0, .int .i64 0]) (t := 31) ?hr ?_; (case hd => rfl); (case hg => rfl); (case hr => exact zq16); intro gb299 hg w4 hbox hb; have n0_ := Aside0.mk (blk_below (g := gb298) (o := .cells #[.string a0_0, .int .i64 a0_1, .int .i64 a0_2] 31 (0, 0)) (bk_ BK298.out) hb); have n1_ := Aside0.mk (below_step zq85 hb); have n2_ := Aside0.mk (hbox); have n3_ := Aside0.mk ((by rw [hg]; exact (below_size zq85) : w.heap.size ≤ gb299)); have n4_ := Aside0.mk ((by rw [hg]; exact (below_size zq85) : w.heap.size ≤ gb299)); have n5_ := Aside0.mk ((by rw [hg]; exact Nat.ne_of_lt (blk_lt (g := gb298) (o := .cells #[.string a0_0, .int .i64 a0_1, .int .i64 a0_2] 31 (0, 0)) (bk_ BK298.out)) : gb298 ≠ gb299)); have n6_ := Aside0.mk ((by rw [hg]; exact Nat.ne_of_gt (blk_lt (g := gb298) (o := .cells #[.string a0_0, .int .i64 a0_1, .int .i64 a0_2] 31 (0, 0)) (bk_ BK298.out)) : gb299 ≠ gb298)); clear BK298; clear HB; have BK298 := n0_; have HB := n1_; have BK299 := n2_; have GW299 := n3_; have GE299 := n4_; have NB298_299 := n5_; have NB299_298 := n6_; clear n0_ n1_ n2_ n3_ n4_ n5_ n6_; clear hb hbox hg))
 try simp only [Act.put, sl_]
 go_loopg [6] k (fun kq v6 w' => ∃ (x6_1 : ByteArray) (x299001_1 : Int), v6 = .string x6_1 ∧ Aside0 (r4_Until.l0 kq a1 x6_1 a0_0 x299001_1 a0_2 = some (r1, r2, r3, r4)) ∧ Aside0 (kq ≤ k) ∧ Aside0 (w'.heap[gb298]? = some (.cells #[.string a0_0, .int .i64 x299001_1, .int .i64 a0_2] 31 (0, 0))) ∧ Aside0 (w'.heap[gb299]? = some (.cells #[.string (⟨#[]⟩ : ByteArray), .int .i64 0, .int .i64 0] 31 (0, 0))) ∧ Aside0 (Below w.heap.size w w'))
 case atStart => exact ⟨((⟨#[]⟩ : ByteArray)), (a0_1), zq9, H', ⟨Nat.le_refl _⟩, ⟨by (with_reducible repeat (first | refine blk_drewN ?_ _ | refine blk_drew ?_ | refine blk_alloc ?_ _)); exact BK298.out⟩, ⟨by (with_reducible repeat (first | refine blk_drewN ?_ _ | refine blk_drew ?_ | refine blk_alloc ?_ _)); exact BK299.out⟩, ⟨zq29⟩⟩
 case round =>
  clear H'
  try clear p2
  try clear c3
  obtain ⟨x6_1, x299001_1, rfl, HA, HK1, BK298, BK299, HB⟩ := hrel
  cases gk with
  | zero => exact absurd HA.out (by simp [r4_Until.l0])
  | succ k1 =>
   have H := HA.out
   clear HA
   simp only [r4_Until.l0] at H
   replace H := Option.bind_eq_some_iff.mp H
   obtain ⟨t300, A50, H⟩ := H
   replace H : (if (t300.size : Int) > 0 then ((r4_Rest.f a0_0 x299001_1 a0_2).bind fun t301 => (if 0 < (t301.size : Int) then (if (bt t301 0) = a1 then (some (x6_1, a0_0, x299001_1, a0_2)) else ((r4_Rest.f a0_0 x299001_1 a0_2).bind fun t302 => (if 0 ≤ 1 then (if 1 ≤ (t302.size : Int) then (if x6_1.size + (t302.extract 0 1).size ≤ 9223372036854775807 then (r4_Until.l0 k1 a1 (x6_1 ++ (t302.extract 0 1)) a0_0 (wrap64 (x299001_1 + 1)) a0_2) else (none)) else (none)) else (none)))) else (none))) else (some (x6_1, a0_0, x299001_1, a0_2))) = some (r1, r2, r3, r4) := H
   have A5 := Aside0.mk A50
   clear A50
   by_cases c6 : (t300.size : Int) > 0
   ·rw [if_pos c6] at H
    have c6b0 : decide (0 < (t300.size : Int)) = true := decide_eq_true c6
    have c6b1 : decide (0 < t300.size) = true := decide_eq_true (by omega)
    clear c6
    replace H := Option.bind_eq_some_iff.mp H
    obtain ⟨t301, A70, H⟩ := H
    replace H : (if 0 < (t301.size : Int) then (if (bt t301 0) = a1 then (some (x6_1, a0_0, x299001_1, a0_2)) else ((r4_Rest.f a0_0 x299001_1 a0_2).bind fun t302 => (if 0 ≤ 1 then (if 1 ≤ (t302.size : Int) then (if x6_1.size + (t302.extract 0 1).size ≤ 9223372036854775807 then (r4_Until.l0 k1 a1 (x6_1 ++ (t302.extract 0 1)) a0_0 (wrap64 (x299001_1 + 1)) a0_2) else (none)) else (none)) else (none)))) else (none)) = some (r1, r2, r3, r4) := H
    have A7 := Aside0.mk A70
    clear A70
    by_cases c8 : 0 < (t301.size : Int)
    ·rw [if_pos c8] at H
     have c8b0 : decide (0 < (t301.size : Int)) = true := decide_eq_true c8
     have c8b1 : decide (0 < t301.size) = true := decide_eq_true (by omega)
     clear c8
     by_cases c10 : (bt t301 0) = a1
     ·rw [if_pos c10] at H
      have c10b0 : ((bt t301 0) == a1) = true := beq_iff_eq.mpr c10
      have c10b1 : ((bt t301 0) != a1) = false := bne_eq_false_iff_eq.mpr c10
      clear c10
      simp only [Option.some.injEq, Prod.mk.injEq] at H
      obtain ⟨rfl, rfl, rfl, rfl⟩ := H
      have hnb11 := NB298_299.out
      have hnc11 := NB299_298.out
      have hcz12_0 : wr.cell? ⟨gb298, 0, none⟩ = some (.string a0_0) := (blk_cell BK298.out 0).trans rfl
      have hcz12_1 : wr.cell? ⟨gb298, 1, none⟩ = some (.int .i64 x299001_1) := (blk_cell BK298.out 1).trans rfl
      have hcz12_2 : wr.cell? ⟨gb298, 2, none⟩ = some (.int .i64 a0_2) := (blk_cell BK298.out 2).trans rfl
      have hfz12_0 := blk_frozen BK298.out 0
      have hfz12_1 := blk_frozen BK298.out 1
      have hfz12_2 := blk_frozen BK298.out 2
      try go_wp2_with (first | ((with_reducible refine gate_callee (f := 29) rfl ?_); refine goesL_ (some 8) rfl rfl Try.func29 (by kernel_rfl) rfl #[.agg #[.string a0_0, .int .i64 x299001_1, .int .i64 a0_2]] rfl zq1 ?_; (with_reducible refine (r4_Rest.calls a0_0 x299001_1 a0_2 t300 _ A5.out).mono ?_); rintro e w13 ⟨rfl, hb⟩; refine ⟨_, rfl, ?_⟩; replace BK298 := Aside0.mk (blk_below (g := gb298) (o := .cells #[.string a0_0, .int .i64 x299001_1, .int .i64 a0_2] 31 (0, 0)) (bk_ BK298.out) hb); replace BK299 := Aside0.mk (blk_below (g := gb299) (o := .cells #[.string (⟨#[]⟩ : ByteArray), .int .i64 0, .int .i64 0] 31 (0, 0)) (bk_ BK299.out) hb); replace HB := Aside0.mk (below_step zq29 hb); (try clear hb hk hi); (try clear hb2); have hcz14_0 : w13.cell? ⟨gb298, 0, none⟩ = some (.string a0_0) := (blk_cell BK298.out 0).trans rfl; have hcz14_1 : w13.cell? ⟨gb298, 1, none⟩ = some (.int .i64 x299001_1) := (blk_cell BK298.out 1).trans rfl; have hcz14_2 : w13.cell? ⟨gb298, 2, none⟩ = some (.int .i64 a0_2) := (blk_cell BK298.out 2).trans rfl; have hfz14_0 := blk_frozen BK298.out 0; have hfz14_1 := blk_frozen BK298.out 1; have hfz14_2 := blk_frozen BK298.out 2) | (go_at_call 29; (with_reducible refine (r4_Rest.calls a0_0 x299001_1 a0_2 t301 _ A7.out).mono ?_); rintro e w15 ⟨rfl, hb⟩; replace BK298 := Aside0.mk (blk_below (g := gb298) (o := .cells #[.string a0_0, .int .i64 x299001_1, .int .i64 a0_2] 31 (0, 0)) (bk_ BK298.out) hb); replace BK299 := Aside0.mk (blk_below (g := gb299) (o := .cells #[.string (⟨#[]⟩ : ByteArray), .int .i64 0, .int .i64 0] 31 (0, 0)) (bk_ BK299.out) hb); replace HB := Aside0.mk (below_step zq29 hb); (try clear hb hk hi); (try clear hb2); have p9 : 0 ≤ (0 : Int) := (by omega); have q9 : 0 < t301.size := (by have : (0 : Int) < (t301.size : Int) := of_decide_eq_true zq10; omega); have hx9 : ∀ h : 0 < t301.size, ((t301[0]'h).toNat : Int) = bt t301 0 := bt_at t301 0; clear p9; have qi9 : (0 < (t301.size : Int)) = True := eq_true (of_decide_eq_true zq10); replace q9 := eq_true q9))
      have n0_ := Aside0.mk (blk_drew BK298.out)
      have n1_ := Aside0.mk (blk_drew BK299.out)
      have n2_ := Aside0.mk (below_drew1 HB.out)
      clear BK298
      clear BK299
      clear HB
      have BK298 := n0_
      have BK299 := n1_
      have HB := n2_
      clear n0_ n1_ n2_
      refine start_ (n := 4) (S := fun w' => w'.cell? ⟨gb298, 0, none⟩ = some (.string a0_0) ∧ w'.cell? ⟨gb298, 1, none⟩ = some (.int .i64 x299001_1) ∧ w'.cell? ⟨gb298, 2, none⟩ = some (.int .i64 a0_2)) (ds := []) #[false, false, false, false] (by kernel_rfl) rfl rfl ⟨(blk_cell BK298.out 0).trans rfl, (blk_cell BK298.out 1).trans rfl, (blk_cell BK298.out 2).trans rfl⟩ (fun hHeld => ?_)
      generalize w15.drew = w16 at BK298 BK299 HB hHeld ⊢
      refine pure_ (i := 0) (N := some 27) (v := ?_) (a' := ?_) #[true, false, false, false] rfl rfl (by kernel_rfl) (fun _ _ _ h => h) (Or.inl ⟨by rfl, ?_⟩) ?_ ?_
      rotate_left
      ·intro w'
       go_simp
       with_reducible rfl
      rotate_left
      ·simp only [Act.put, sl_, i64_w, i32_w]
       rfl
      refine pure_ (i := 2) (N := some 4) (v := ?_) (a' := ?_) #[true, false, true, false] rfl rfl (by kernel_rfl) (fun _ _ _ h => h) (Or.inl ⟨by rfl, ?_⟩) ?_ ?_
      rotate_left
      ·intro w'
       go_simp
       with_reducible rfl
      rotate_left
      ·simp only [Act.put, sl_, i64_w, i32_w]
       rfl
      refine take_ (i := 1) (N := some 28) (v := ?_) (a' := ?_) #[true, true, true, false] rfl rfl (by kernel_rfl) (fun _ _ _ h => h) (Or.inl ⟨by rfl, ?_⟩) hHeld ?_ ?_
      rotate_left
      ·rintro w' ⟨s0, s1, s2⟩
       go_simp
       with_reducible rfl
      rotate_left
      ·simp only [Act.put, sl_, i64_w, i32_w]
       rfl
      refine one_ (i := 3) (N := none) #[true, true, true, true] rfl rfl (by kernel_rfl) (by decide) (fun K hK => ?_)
      have hs17 : w16.cell? ⟨gb299, 0, none⟩ = some (.string (⟨#[]⟩ : ByteArray)) := (blk_cell BK299.out 0).trans rfl
      have hfs17 := blk_frozen BK299.out 0
      have hns17_0 := NB298_299.out
      have hms17_0 := NB299_298.out
      have hs18 : w16.cell? ⟨gb299, 1, none⟩ = some (.int .i64 0) := (blk_cell BK299.out 1).trans rfl
      have hfs18 := blk_frozen BK299.out 1
      have hns18_0 := NB298_299.out
      have hms18_0 := NB299_298.out
      have hs19 : w16.cell? ⟨gb299, 2, none⟩ = some (.int .i64 0) := (blk_cell BK299.out 2).trans rfl
      have hfs19 := blk_frozen BK299.out 2
      have hns19_0 := NB298_299.out
      have hms19_0 := NB299_298.out
      refine skip_ (w1 := ?_) (by rfl) rfl ?_ ?_
      rotate_left
      ·go_simp
       rfl
      refine hK.out _ _ ⟨((cell_far (p := ⟨gb299, _, none⟩) NB298_299.out _).trans (((cell_far (p := ⟨gb299, _, none⟩) NB298_299.out _).trans (((cell_far (p := ⟨gb299, _, none⟩) NB298_299.out _).trans (hHeld.1)))))), ((cell_far (p := ⟨gb299, _, none⟩) NB298_299.out _).trans (((cell_far (p := ⟨gb299, _, none⟩) NB298_299.out _).trans (((cell_far (p := ⟨gb299, _, none⟩) NB298_299.out _).trans (hHeld.2.1)))))), ((cell_far (p := ⟨gb299, _, none⟩) NB298_299.out _).trans (((cell_far (p := ⟨gb299, _, none⟩) NB298_299.out _).trans (((cell_far (p := ⟨gb299, _, none⟩) NB298_299.out _).trans (hHeld.2.2))))))⟩ (fun hHeld => ?_)
      clear hK K
      refine done_ (by kernel_rfl) ?_
      try go_wp2
      refine bodyPost_ret (results_tc rfl _ _ gb299 31 #[.string a0_0, .int .i64 x299001_1, .int .i64 a0_2] (0, 0) _ rfl zq58 Try.underlying31 rfl (by kernel_rfl)) rfl ?_
      exact ⟨zq8, zq29⟩
     ·rw [if_neg c10] at H
      have c10b0 : ((bt t301 0) == a1) = false := beq_eq_false_iff_ne.mpr c10
      have c10b1 : ((bt t301 0) != a1) = true := bne_iff_ne.mpr c10
      replace H := Option.bind_eq_some_iff.mp H
      obtain ⟨t302, A200, H⟩ := H
      replace H : (if 0 ≤ 1 then (if 1 ≤ (t302.size : Int) then (if x6_1.size + (t302.extract 0 1).size ≤ 9223372036854775807 then (r4_Until.l0 k1 a1 (x6_1 ++ (t302.extract 0 1)) a0_0 (wrap64 (x299001_1 + 1)) a0_2) else (none)) else (none)) else (none)) = some (r1, r2, r3, r4) := H
      have A20 := Aside0.mk A200
      clear A200
      by_cases c21 : 0 ≤ 1
      ·rw [if_pos c21] at H
       have c21b0 := eq_true c21
       have c21b1 : decide (0 ≤ 1) = true := decide_eq_true c21
       clear c21
       by_cases c22 : 1 ≤ (t302.size : Int)
       ·rw [if_pos c22] at H
        have c22b0 := eq_true c22
        have c22b1 : decide (1 ≤ (t302.size : Int)) = true := decide_eq_true c22
        clear c22
        by_cases c23 : x6_1.size + (t302.extract 0 1).size ≤ 9223372036854775807
        ·rw [if_pos c23] at H
         have c23b0 := eq_true c23
         have c23b1 : decide (x6_1.size + (t302.extract 0 1).size ≤ 9223372036854775807) = true := decide_eq_true c23
         try have c23b2 : (9223372036854775807 < x6_1.size + (t302.extract 0 1).size) = False := eq_false (Nat.not_lt.2 c23)
         have H' := Aside0.mk H
         clear H
         have hnb24 := NB298_299.out
         have hnc24 := NB299_298.out
         have hcz25_0 : wr.cell? ⟨gb298, 0, none⟩ = some (.string a0_0) := (blk_cell BK298.out 0).trans rfl
         have hcz25_1 : wr.cell? ⟨gb298, 1, none⟩ = some (.int .i64 x299001_1) := (blk_cell BK298.out 1).trans rfl
         have hcz25_2 : wr.cell? ⟨gb298, 2, none⟩ = some (.int .i64 a0_2) := (blk_cell BK298.out 2).trans rfl
         have hfz25_0 := blk_frozen BK298.out 0
         have hfz25_1 := blk_frozen BK298.out 1
         have hfz25_2 := blk_frozen BK298.out 2
         go_wp2_with (first | ((with_reducible refine gate_callee (f := 29) rfl ?_); refine goesL_ (some 8) rfl rfl Try.func29 (by kernel_rfl) rfl #[.agg #[.string a0_0, .int .i64 x299001_1, .int .i64 a0_2]] rfl zq1 ?_; (with_reducible refine (r4_Rest.calls a0_0 x299001_1 a0_2 t300 _ A5.out).mono ?_); rintro e w26 ⟨rfl, hb⟩; refine ⟨_, rfl, ?_⟩; replace BK298 := Aside0.mk (blk_below (g := gb298) (o := .cells #[.string a0_0, .int .i64 x299001_1, .int .i64 a0_2] 31 (0, 0)) (bk_ BK298.out) hb); replace BK299 := Aside0.mk (blk_below (g := gb299) (o := .cells #[.string (⟨#[]⟩ : ByteArray), .int .i64 0, .int .i64 0] 31 (0, 0)) (bk_ BK299.out) hb); replace HB := Aside0.mk (below_step zq29 hb); (try clear hb hk hi); (try clear hb2); have hcz27_0 : w26.cell? ⟨gb298, 0, none⟩ = some (.string a0_0) := (blk_cell BK298.out 0).trans rfl; have hcz27_1 : w26.cell? ⟨gb298, 1, none⟩ = some (.int .i64 x299001_1) := (blk_cell BK298.out 1).trans rfl; have hcz27_2 : w26.cell? ⟨gb298, 2, none⟩ = some (.int .i64 a0_2) := (blk_cell BK298.out 2).trans rfl; have hfz27_0 := blk_frozen BK298.out 0; have hfz27_1 := blk_frozen BK298.out 1; have hfz27_2 := blk_frozen BK298.out 2) | (go_at_call 29; (with_reducible refine (r4_Rest.calls a0_0 x299001_1 a0_2 t301 _ A7.out).mono ?_); rintro e w28 ⟨rfl, hb⟩; replace BK298 := Aside0.mk (blk_below (g := gb298) (o := .cells #[.string a0_0, .int .i64 x299001_1, .int .i64 a0_2] 31 (0, 0)) (bk_ BK298.out) hb); replace BK299 := Aside0.mk (blk_below (g := gb299) (o := .cells #[.string (⟨#[]⟩ : ByteArray), .int .i64 0, .int .i64 0] 31 (0, 0)) (bk_ BK299.out) hb); replace HB := Aside0.mk (below_step zq29 hb); (try clear hb hk hi); (try clear hb2); have p9 : 0 ≤ (0 : Int) := (by omega); have q9 : 0 < t301.size := (by have : (0 : Int) < (t301.size : Int) := of_decide_eq_true zq10; omega); have hx9 : ∀ h : 0 < t301.size, ((t301[0]'h).toNat : Int) = bt t301 0 := bt_at t301 0; clear p9; have qi9 : (0 < (t301.size : Int)) = True := eq_true (of_decide_eq_true zq10); replace q9 := eq_true q9; have hcz29_0 : w28.cell? ⟨gb298, 0, none⟩ = some (.string a0_0) := (blk_cell BK298.out 0).trans rfl; have hcz29_1 : w28.cell? ⟨gb298, 1, none⟩ = some (.int .i64 x299001_1) := (blk_cell BK298.out 1).trans rfl; have hcz29_2 : w28.cell? ⟨gb298, 2, none⟩ = some (.int .i64 a0_2) := (blk_cell BK298.out 2).trans rfl; have hfz29_0 := blk_frozen BK298.out 0; have hfz29_1 := blk_frozen BK298.out 1; have hfz29_2 := blk_frozen BK298.out 2) | ((with_reducible refine gate_callee (f := 29) rfl ?_); refine goesL_ (some 20) rfl rfl Try.func29 (by kernel_rfl) rfl #[.agg #[.string a0_0, .int .i64 x299001_1, .int .i64 a0_2]] rfl zq1 ?_; (with_reducible refine (r4_Rest.calls a0_0 x299001_1 a0_2 t302 _ A20.out).mono ?_); rintro e w30 ⟨rfl, hb⟩; refine ⟨_, rfl, ?_⟩; replace BK298 := Aside0.mk (blk_below (g := gb298) (o := .cells #[.string a0_0, .int .i64 x299001_1, .int .i64 a0_2] 31 (0, 0)) (bk_ BK298.out) hb); replace BK299 := Aside0.mk (blk_below (g := gb299) (o := .cells #[.string (⟨#[]⟩ : ByteArray), .int .i64 0, .int .i64 0] 31 (0, 0)) (bk_ BK299.out) hb); replace HB := Aside0.mk (below_step zq29 hb); (try clear hb hk hi); (try clear hb2); have hcz31_0 : w30.cell? ⟨gb298, 0, none⟩ = some (.string a0_0) := (blk_cell BK298.out 0).trans rfl; have hcz31_1 : w30.cell? ⟨gb298, 1, none⟩ = some (.int .i64 x299001_1) := (blk_cell BK298.out 1).trans rfl; have hcz31_2 : w30.cell? ⟨gb298, 2, none⟩ = some (.int .i64 a0_2) := (blk_cell BK298.out 2).trans rfl; have hfz31_0 := blk_frozen BK298.out 0; have hfz31_1 := blk_frozen BK298.out 1; have hfz31_2 := blk_frozen BK298.out 2))
         go_roundg k1
         case measure => have := HK1.out; omega
         case rel => exact ⟨(x6_1 ++ (t302.extract 0 1)), (wrap64 (x299001_1 + 1)), zq9, H', ⟨by have := HK1.out; omega⟩, ⟨by (with_reducible repeat (first | refine blk_drewN ?_ _ | refine blk_drew ?_ | refine blk_alloc ?_ _)); refine blk_put (cs := #[.string a0_0, .int .i64 x299001_1, .int .i64 a0_2]) ?_ 1 _ rfl; (with_reducible repeat (first | refine blk_drewN ?_ _ | refine blk_drew ?_ | refine blk_alloc ?_ _)); exact BK298.out⟩, ⟨by (with_reducible repeat (first | refine blk_drewN ?_ _ | refine blk_drew ?_ | refine blk_alloc ?_ _)); refine blk_far ?_ NB299_298.out _; (with_reducible repeat (first | refine blk_drewN ?_ _ | refine blk_drew ?_ | refine blk_alloc ?_ _)); exact BK299.out⟩, ⟨zq29⟩⟩
        ·rw [if_neg c23] at H
         exact absurd H (by simp)
       ·rw [if_neg c22] at H
        exact absurd H (by simp)
      ·rw [if_neg c21] at H
       exact absurd H (by simp)
    ·rw [if_neg c8] at H
     exact absurd H (by simp)
   ·rw [if_neg c6] at H
    have c6b0 : decide (0 < (t300.size : Int)) = false := decide_eq_false c6
    have c6b1 : decide (0 < t300.size) = false := decide_eq_false (by omega)
    clear c6
    simp only [Option.some.injEq, Prod.mk.injEq] at H
    obtain ⟨rfl, rfl, rfl, rfl⟩ := H
    have hnb32 := NB298_299.out
    have hnc32 := NB299_298.out
    have hcz33_0 : wr.cell? ⟨gb298, 0, none⟩ = some (.string a0_0) := (blk_cell BK298.out 0).trans rfl
    have hcz33_1 : wr.cell? ⟨gb298, 1, none⟩ = some (.int .i64 x299001_1) := (blk_cell BK298.out 1).trans rfl
    have hcz33_2 : wr.cell? ⟨gb298, 2, none⟩ = some (.int .i64 a0_2) := (blk_cell BK298.out 2).trans rfl
    have hfz33_0 := blk_frozen BK298.out 0
    have hfz33_1 := blk_frozen BK298.out 1
    have hfz33_2 := blk_frozen BK298.out 2
    try go_wp2_with (first | ((with_reducible refine gate_callee (f := 29) rfl ?_); refine goesL_ (some 8) rfl rfl Try.func29 (by kernel_rfl) rfl #[.agg #[.string a0_0, .int .i64 x299001_1, .int .i64 a0_2]] rfl zq1 ?_; (with_reducible refine (r4_Rest.calls a0_0 x299001_1 a0_2 t300 _ A5.out).mono ?_); rintro e w34 ⟨rfl, hb⟩; refine ⟨_, rfl, ?_⟩; replace BK298 := Aside0.mk (blk_below (g := gb298) (o := .cells #[.string a0_0, .int .i64 x299001_1, .int .i64 a0_2] 31 (0, 0)) (bk_ BK298.out) hb); replace BK299 := Aside0.mk (blk_below (g := gb299) (o := .cells #[.string (⟨#[]⟩ : ByteArray), .int .i64 0, .int .i64 0] 31 (0, 0)) (bk_ BK299.out) hb); replace HB := Aside0.mk (below_step zq29 hb); (try clear hb hk hi); (try clear hb2)))
    have n0_ := Aside0.mk (blk_drew BK298.out)
    have n1_ := Aside0.mk (blk_drew BK299.out)
    have n2_ := Aside0.mk (below_drew1 HB.out)
    clear BK298
    clear BK299
    clear HB
    have BK298 := n0_
    have BK299 := n1_
    have HB := n2_
    clear n0_ n1_ n2_
    refine start_ (n := 4) (S := fun w' => w'.cell? ⟨gb298, 0, none⟩ = some (.string a0_0) ∧ w'.cell? ⟨gb298, 1, none⟩ = some (.int .i64 x299001_1) ∧ w'.cell? ⟨gb298, 2, none⟩ = some (.int .i64 a0_2)) (ds := []) #[false, false, false, false] (by kernel_rfl) rfl rfl ⟨(blk_cell BK298.out 0).trans rfl, (blk_cell BK298.out 1).trans rfl, (blk_cell BK298.out 2).trans rfl⟩ (fun hHeld => ?_)
    generalize w34.drew = w35 at BK298 BK299 HB hHeld ⊢
    refine pure_ (i := 0) (N := some 27) (v := ?_) (a' := ?_) #[true, false, false, false] rfl rfl (by kernel_rfl) (fun _ _ _ h => h) (Or.inl ⟨by rfl, ?_⟩) ?_ ?_
    rotate_left
    ·intro w'
     go_simp
     with_reducible rfl
    rotate_left
    ·simp only [Act.put, sl_, i64_w, i32_w]
     rfl
    refine pure_ (i := 2) (N := some 4) (v := ?_) (a' := ?_) #[true, false, true, false] rfl rfl (by kernel_rfl) (fun _ _ _ h => h) (Or.inl ⟨by rfl, ?_⟩) ?_ ?_
    rotate_left
    ·intro w'
     go_simp
     with_reducible rfl
    rotate_left
    ·simp only [Act.put, sl_, i64_w, i32_w]
     rfl
    refine take_ (i := 1) (N := some 28) (v := ?_) (a' := ?_) #[true, true, true, false] rfl rfl (by kernel_rfl) (fun _ _ _ h => h) (Or.inl ⟨by rfl, ?_⟩) hHeld ?_ ?_
    rotate_left
    ·rintro w' ⟨s0, s1, s2⟩
     go_simp
     with_reducible rfl
    rotate_left
    ·simp only [Act.put, sl_, i64_w, i32_w]
     rfl
    refine one_ (i := 3) (N := none) #[true, true, true, true] rfl rfl (by kernel_rfl) (by decide) (fun K hK => ?_)
    have hs36 : w35.cell? ⟨gb299, 0, none⟩ = some (.string (⟨#[]⟩ : ByteArray)) := (blk_cell BK299.out 0).trans rfl
    have hfs36 := blk_frozen BK299.out 0
    have hns36_0 := NB298_299.out
    have hms36_0 := NB299_298.out
    have hs37 : w35.cell? ⟨gb299, 1, none⟩ = some (.int .i64 0) := (blk_cell BK299.out 1).trans rfl
    have hfs37 := blk_frozen BK299.out 1
    have hns37_0 := NB298_299.out
    have hms37_0 := NB299_298.out
    have hs38 : w35.cell? ⟨gb299, 2, none⟩ = some (.int .i64 0) := (blk_cell BK299.out 2).trans rfl
    have hfs38 := blk_frozen BK299.out 2
    have hns38_0 := NB298_299.out
    have hms38_0 := NB299_298.out
    refine skip_ (w1 := ?_) (by rfl) rfl ?_ ?_
    rotate_left
    ·go_simp
     rfl
    refine hK.out _ _ ⟨((cell_far (p := ⟨gb299, _, none⟩) NB298_299.out _).trans (((cell_far (p := ⟨gb299, _, none⟩) NB298_299.out _).trans (((cell_far (p := ⟨gb299, _, none⟩) NB298_299.out _).trans (hHeld.1)))))), ((cell_far (p := ⟨gb299, _, none⟩) NB298_299.out _).trans (((cell_far (p := ⟨gb299, _, none⟩) NB298_299.out _).trans (((cell_far (p := ⟨gb299, _, none⟩) NB298_299.out _).trans (hHeld.2.1)))))), ((cell_far (p := ⟨gb299, _, none⟩) NB298_299.out _).trans (((cell_far (p := ⟨gb299, _, none⟩) NB298_299.out _).trans (((cell_far (p := ⟨gb299, _, none⟩) NB298_299.out _).trans (hHeld.2.2))))))⟩ (fun hHeld => ?_)
    clear hK K
    refine done_ (by kernel_rfl) ?_
    try go_wp2
    refine bodyPost_ret (results_tc rfl _ _ gb299 31 #[.string a0_0, .int .i64 x299001_1, .int .i64 a0_2] (0, 0) _ rfl zq58 Try.underlying31 rfl (by kernel_rfl)) rfl ?_
    exact ⟨zq8, zq29⟩

/-! ### r2_Is: function 77 -/
def r2_Is.l0 : Nat → Int → Int → Option (Bool)
 | 0, _, _ => none
 | k + 1, x0, x3 => if x3 ≤ 57 then (if x0 = x3 then (some true) else (r2_Is.l0 k x0 ((x3 + 1) % 256))) else (some false)
def r2_Is.f (k : Nat) (a0 : Int) : Option (Bool) := r2_Is.l0 k a0 48
set_option maxHeartbeats 8000000 in
set_option maxRecDepth 100000 in
theorem r2_Is.calls (k : Nat) (a0 : Int) (r : Bool) (w : World) (h : r2_Is.f k a0 = some r) :
  Calls Try.prog 77 #[.int .u8 a0] w fun e w' => e = .returned (.bool r) ∧ Drawn0 w w' := by
 have H : (r2_Is.l0 k a0 48) = some r := h
 clear h
 have H' := Aside0.mk H
 clear H
 go_enter Try.func77, Try.ntmps77
 go_wp2
 try simp only [Act.put, sl_]
 go_loopg [3] k (fun kq v3 w' => ∃ (x3_1 : Int), v3 = .int .u8 x3_1 ∧ Aside0 (r2_Is.l0 kq a0 x3_1 = some r) ∧ Aside0 (kq ≤ k) ∧ Drawn0 w w')
 case atStart => exact ⟨(48), zq9, H', ⟨Nat.le_refl _⟩, zq22⟩
 case round =>
  clear H'
  obtain ⟨x3_1, rfl, HA, HK1, ⟨m1, rfl⟩⟩ := hrel
  cases gk with
  | zero => exact absurd HA.out (by simp [r2_Is.l0])
  | succ k1 =>
   have H := HA.out
   clear HA
   simp only [r2_Is.l0] at H
   by_cases c2 : x3_1 ≤ 57
   ·rw [if_pos c2] at H
    have c2b0 : decide (x3_1 ≤ 57) = true := decide_eq_true c2
    clear c2
    by_cases c3 : a0 = x3_1
    ·rw [if_pos c3] at H
     have c3b0 : (a0 == x3_1) = true := beq_iff_eq.mpr c3
     have c3b1 : (a0 != x3_1) = false := bne_eq_false_iff_eq.mpr c3
     clear c3
     obtain rfl := Option.some.inj H
     go_wp2
     go_ret
     exact ⟨zq9, zq22⟩
    ·rw [if_neg c3] at H
     have c3b0 : (a0 == x3_1) = false := beq_eq_false_iff_ne.mpr c3
     have c3b1 : (a0 != x3_1) = true := bne_iff_ne.mpr c3
     have H' := Aside0.mk H
     clear H
     go_wp2
     go_roundg k1
     case measure => have := HK1.out; omega
     case rel => exact ⟨((x3_1 + 1) % 256), zq9, H', ⟨by have := HK1.out; omega⟩, zq22⟩
   ·rw [if_neg c2] at H
    have c2b0 : decide (x3_1 ≤ 57) = false := decide_eq_false c2
    clear c2
    obtain rfl := Option.some.inj H
    go_wp2
    go_ret
    exact ⟨zq9, zq22⟩

/-! ### r2_Many: function 70 -/
def r2_Many.l0 : Nat → ByteArray → Int → Option (Int)
 | 0, _, _ => none
 | k + 1, x0, x3 => if x3 < (x0.size : Int) then (if 0 ≤ x3 then ((r2_Is.f k (bt x0 x3)).bind fun t303 => (if t303 = true then (r2_Many.l0 k x0 (wrap64 (x3 + 1))) else (some x3))) else (none)) else (some (x0.size : Int))
def r2_Many.f (k : Nat) (a0 : ByteArray) : Option (Int) := r2_Many.l0 k a0 0
set_option maxHeartbeats 8000000 in
set_option maxRecDepth 100000 in
theorem r2_Many.calls (k : Nat) (a0 : ByteArray) (r : Int) (w : World) (h : r2_Many.f k a0 = some r) :
  Calls Try.prog 70 #[.string a0] w fun e w' => e = .returned (.int .i64 r) ∧ Drawn0 w w' := by
 have H : (r2_Many.l0 k a0 0) = some r := h
 clear h
 have H' := Aside0.mk H
 clear H
 go_enter Try.func70, Try.ntmps70
 go_wp2
 try simp only [Act.put, sl_]
 go_loopg [3] k (fun kq v3 w' => ∃ (x3_1 : Int), v3 = .int .i64 x3_1 ∧ Aside0 (r2_Many.l0 kq a0 x3_1 = some r) ∧ Aside0 (kq ≤ k) ∧ Drawn0 w w')
 case atStart => exact ⟨(0), zq9, H', ⟨Nat.le_refl _⟩, zq22⟩
 case round =>
  clear H'
  obtain ⟨x3_1, rfl, HA, HK1, ⟨m1, rfl⟩⟩ := hrel
  cases gk with
  | zero => exact absurd HA.out (by simp [r2_Many.l0])
  | succ k1 =>
   have H := HA.out
   clear HA
   simp only [r2_Many.l0] at H
   by_cases c2 : x3_1 < (a0.size : Int)
   ·rw [if_pos c2] at H
    have c2b0 : decide (x3_1 < (a0.size : Int)) = true := decide_eq_true c2
    clear c2
    by_cases c3 : 0 ≤ x3_1
    ·rw [if_pos c3] at H
     have c3b0 : decide (0 ≤ x3_1) = true := decide_eq_true c3
     clear c3
     replace H := Option.bind_eq_some_iff.mp H
     obtain ⟨t303, A50, H⟩ := H
     replace H : (if t303 = true then (r2_Many.l0 k1 a0 (wrap64 (x3_1 + 1))) else (some x3_1)) = some r := H
     have A5 := Aside0.mk A50
     clear A50
     by_cases c6 : t303 = true
     ·subst c6
      have H1 : (r2_Many.l0 k1 a0 (wrap64 (x3_1 + 1))) = some r := by rw [if_pos rfl] at H; exact H
      clear H
      have H := H1
      clear H1
      have H' := Aside0.mk H
      clear H
      have p4 : 0 ≤ (x3_1 : Int) := of_decide_eq_true zq10
      have q4 : x3_1 < (a0.size : Int) := of_decide_eq_true zq10
      have hx4 := bt_at a0 x3_1
      replace p4 := eq_true p4
      replace q4 := eq_true q4
      go_wp2_with (first | ((with_reducible refine gate_callee (f := 77) rfl ?_); refine goesL_ (some 13) rfl rfl Try.func77 (by kernel_rfl) rfl #[.int .u8 (bt a0 x3_1)] rfl zq1 ?_; (with_reducible refine (r2_Is.calls k1 (bt a0 x3_1) true _ A5.out).mono ?_); rintro e w' ⟨rfl, ⟨nd, rfl⟩⟩; refine ⟨_, rfl, ?_⟩))
      go_roundg k1
      case measure => have := HK1.out; omega
      case rel => exact ⟨(wrap64 (x3_1 + 1)), zq9, H', ⟨by have := HK1.out; omega⟩, zq22⟩
     ·replace c6 := Bool.eq_false_iff.mpr c6
      subst c6
      have H1 : (some x3_1) = some r := by rw [if_neg (show ¬ (false = true) by decide)] at H; exact H
      clear H
      have H := H1
      clear H1
      obtain rfl := Option.some.inj H
      have p4 : 0 ≤ (x3_1 : Int) := of_decide_eq_true zq10
      have q4 : x3_1 < (a0.size : Int) := of_decide_eq_true zq10
      have hx4 := bt_at a0 x3_1
      replace p4 := eq_true p4
      replace q4 := eq_true q4
      go_wp2_with (first | ((with_reducible refine gate_callee (f := 77) rfl ?_); refine goesL_ (some 13) rfl rfl Try.func77 (by kernel_rfl) rfl #[.int .u8 (bt a0 x3_1)] rfl zq1 ?_; (with_reducible refine (r2_Is.calls k1 (bt a0 x3_1) false _ A5.out).mono ?_); rintro e w' ⟨rfl, ⟨nd, rfl⟩⟩; refine ⟨_, rfl, ?_⟩))
      go_ret
      exact ⟨zq9, zq22⟩
    ·rw [if_neg c3] at H
     exact absurd H (by simp)
   ·rw [if_neg c2] at H
    have c2b0 : decide (x3_1 < (a0.size : Int)) = false := decide_eq_false c2
    clear c2
    obtain rfl := Option.some.inj H
    go_wp2
    go_ret
    exact ⟨zq9, zq22⟩

end Go.Proofs.Ytonjfggfcnpgbaa.MScanPlays
