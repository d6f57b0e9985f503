-- This text was written by a program of this session (a changed scratch copy of a tool of the kit; NOTES.md tells the changes).
import Derived.Test.YtonjfggfcnpgbaaMScanPlaysx0
namespace Go.Proofs.Ytonjfggfcnpgbaa.MScanPlays
open Go.RowKit Go.Proofs.YtonjfggfcnpgbaaW.PrintWords Go.Proofs.YtonjfggfcnpgbaaW.PrintLast Go.Proofs.YtonjfggfcnpgbaaW.PrintMore
attribute [local go_sem] max2_int min2_int max_two min_two max_three min_three max_four min_four   -- for this text's walks alone
set_option linter.unusedVariables false
set_option linter.unusedSimpArgs false

/-! ### horologelaw04_long: function 7 -/
mutual
def horologelaw04_long.l0 : Nat → ByteArray → List (S35) → List (S35) → Int → Int → Option (Bool)
 | 0, _, _, _, _, _ => none
 | k + 1, x0, x1, x9, x10, x11 => if x11 < x10 then (if 0 ≤ x11 then (if x11 < (x9.length : Int) then (if (((rd_T35 x9 x11).f2).size : Int) > 60 then (horologelaw04_long.j1 k x0 x1 x9 x10 x11 true ((rd_T35 x9 x11).f0) ((rd_T35 x9 x11).f1) ((rd_T35 x9 x11).f2) ((rd_T35 x9 x11).f3) ((rd_T35 x9 x11).f4) ((rd_T35 x9 x11).f5)) else (horologelaw04_long.j1 k x0 x1 x9 x10 x11 (decide ((((rd_T35 x9 x11).f3).length : Int) > 12)) ((rd_T35 x9 x11).f0) ((rd_T35 x9 x11).f1) ((rd_T35 x9 x11).f2) ((rd_T35 x9 x11).f3) ((rd_T35 x9 x11).f4) ((rd_T35 x9 x11).f5))) else (none)) else (none)) else (if (x0.size : Int) > 300 then (some true) else (some (decide ((x1.length : Int) > 60))))
def horologelaw04_long.j1 : Nat → ByteArray → List (S35) → List (S35) → Int → Int → Bool → Int → Int → ByteArray → List ByteArray → Int → Int → Option (Bool)
 | 0, _, _, _, _, _, _, _, _, _, _, _, _ => none
 | k + 1, x0, x1, x9, x10, x11, x24, x187000, x187001, x187002, x187003, x187004, x187005 => if x24 = true then (some true) else (horologelaw04_long.l1 k x0 x1 x9 x10 x11 x187003 (x187003.length : Int) 0)
def horologelaw04_long.l1 : Nat → ByteArray → List (S35) → List (S35) → Int → Int → List ByteArray → Int → Int → Option (Bool)
 | 0, _, _, _, _, _, _, _, _ => none
 | k + 1, x0, x1, x9, x10, x11, x26, x27, x28 => if x28 < x27 then (if 0 ≤ x28 then (if x28 < (x26.length : Int) then (if ((rdOf ByteArray.empty x26 x28).size : Int) > 60 then (some true) else (horologelaw04_long.l1 k x0 x1 x9 x10 x11 x26 x27 (wrap64 (x28 + 1)))) else (none)) else (none)) else (horologelaw04_long.l0 k x0 x1 x9 x10 (wrap64 (x11 + 1)))
end
def horologelaw04_long.f (k : Nat) (a0 : ByteArray) (l1 : List (S35)) : Option (Bool) := horologelaw04_long.l0 k a0 l1 l1 (l1.length : Int) 0
set_option maxHeartbeats 8000000 in
set_option maxRecDepth 100000 in
theorem horologelaw04_long.calls (k : Nat) (a0 : ByteArray) (A1 : Option Addr) (c1 : Nat) (l1 : List (S35)) (r : Bool) (w : World) (hr1 : Kd.C k35 w A1 l1.length l1) (hc1 : l1.length ≤ c1) (h : horologelaw04_long.f k a0 l1 = some r) :
  Calls Try.prog 7 #[.string a0, .slice A1 l1.length c1] w fun e w' => e = .returned (.bool r) ∧ Below w.heap.size w w' := by
 have hu35 := Try.underlying35
 have HR1 := Aside0.mk hr1
 have HC1 := Aside0.mk hc1
 clear hr1 hc1
 have HB := Aside0.mk (Below.refl w.heap.size w)
 have H : (horologelaw04_long.l0 k a0 l1 l1 (l1.length : Int) 0) = some r := h
 clear h
 have H' := Aside0.mk H
 clear H
 go_enter Try.func7, Try.ntmps7
 go_wp2
 try simp only [Act.put, sl_]
 go_loopg [11] k (fun kq v11 w' => ∃ (x11_1 : Int), v11 = .int .i64 x11_1 ∧ Aside0 (horologelaw04_long.l0 kq a0 l1 l1 (l1.length : Int) x11_1 = some r) ∧ Aside0 (kq ≤ k) ∧ Aside0 (Below w.heap.size w w'))
 case atStart => exact ⟨(0), zq9, H', ⟨Nat.le_refl _⟩, ⟨zq2⟩⟩
 case round =>
  clear H'
  try clear c1
  try clear p2
  obtain ⟨x11_1, rfl, HA, HK1, HB⟩ := hrel
  cases gk with
  | zero => exact absurd HA.out (by simp [horologelaw04_long.l0])
  | succ k1 =>
   have H := HA.out
   clear HA
   simp only [horologelaw04_long.l0] at H
   by_cases c3 : x11_1 < (l1.length : Int)
   ·rw [if_pos c3] at H
    have c3b0 : decide (x11_1 < (l1.length : Int)) = true := decide_eq_true c3
    clear c3
    by_cases c4 : 0 ≤ x11_1
    ·rw [if_pos c4] at H
     have c4b0 : decide (0 ≤ x11_1) = true := decide_eq_true c4
     clear c4
     by_cases c5 : x11_1 < (l1.length : Int)
     ·rw [if_pos c5] at H
      have c5b0 : decide (x11_1 < (l1.length : Int)) = true := decide_eq_true c5
      clear c5
      have HC6 := Aside0.mk H
      clear H
      have p185 : 0 ≤ (x11_1 : Int) := of_decide_eq_true zq10
      have q185 : x11_1 < (l1.length : Int) := of_decide_eq_true zq10
      obtain ⟨ad185, A185_3, c185_3, e185, hx185_0, hx185_1, hx185_2, hx185_3, hx185_4, hx185_5, hl185_3, hi185_3⟩ := at_T35 HR1.out x11_1 p185 q185
      cases e185
      replace hx185_0 := (HB.out.cell (World.block_lt_of_cell? w _ hx185_0)).trans hx185_0
      replace hx185_1 := (HB.out.cell (World.block_lt_of_cell? w _ hx185_1)).trans hx185_1
      replace hx185_2 := (HB.out.cell (World.block_lt_of_cell? w _ hx185_2)).trans hx185_2
      replace hx185_3 := (HB.out.cell (World.block_lt_of_cell? w _ hx185_3)).trans hx185_3
      replace hx185_4 := (HB.out.cell (World.block_lt_of_cell? w _ hx185_4)).trans hx185_4
      replace hx185_5 := (HB.out.cell (World.block_lt_of_cell? w _ hx185_5)).trans hx185_5
      have HR185_3 := Aside0.mk hi185_3
      have HC185_3 := Aside0.mk hl185_3
      clear hi185_3 hl185_3
      replace p185 := eq_true p185
      replace q185 := eq_true q185
      go_upto_region 4 with (first | ((with_reducible refine gate_dst (N := 6) rfl ?_); (try (refine gate_guard (by rfl) ?_; dsimp only)); refine box_event ?hg (N := 6) ?hd (cs := #[.int .i64 0, .int .u8 0, .string (⟨#[]⟩ : ByteArray), .slice none 0 0, .int .i64 0, .int .i64 0]) (t := 35) ?hr ?_; (case hd => rfl); (case hg => rfl); (case hr => exact zq16); intro gb186 hg w7 hbox hb; have n0_ := Aside0.mk (below_step zq2 hb); have n1_ := Aside0.mk (hbox); have n2_ := Aside0.mk ((by rw [hg]; exact (below_size zq2) : w.heap.size ≤ gb186)); have n3_ := Aside0.mk ((by rw [hg]; exact (below_size zq2) : w.heap.size ≤ gb186)); clear HB; have HB := n0_; have BK186 := n1_; have GW186 := n2_; have GE186 := n3_; clear n0_ n1_ n2_ n3_; clear hb hbox hg; have hcz8_0 : w7.cell? ⟨gb186, 0, none⟩ = some (.int .i64 0) := (blk_cell BK186.out 0).trans rfl; have hcz8_1 : w7.cell? ⟨gb186, 1, none⟩ = some (.int .u8 0) := (blk_cell BK186.out 1).trans rfl; have hcz8_2 : w7.cell? ⟨gb186, 2, none⟩ = some (.string (⟨#[]⟩ : ByteArray)) := (blk_cell BK186.out 2).trans rfl; have hcz8_3 : w7.cell? ⟨gb186, 3, none⟩ = some (.slice none 0 0) := (blk_cell BK186.out 3).trans rfl; have hcz8_4 : w7.cell? ⟨gb186, 4, none⟩ = some (.int .i64 0) := (blk_cell BK186.out 4).trans rfl; have hcz8_5 : w7.cell? ⟨gb186, 5, none⟩ = some (.int .i64 0) := (blk_cell BK186.out 5).trans rfl; have hfz8_0 := blk_frozen BK186.out 0; have hfz8_1 := blk_frozen BK186.out 1; have hfz8_2 := blk_frozen BK186.out 2; have hfz8_3 := blk_frozen BK186.out 3; have hfz8_4 := blk_frozen BK186.out 4; have hfz8_5 := blk_frozen BK186.out 5))
      (try simp only [Act.put, sl_])
      go_cut [24] (fun v24 wc => ∃ (kq : Nat) (x24_5 : Bool), v24 = .bool x24_5 ∧ Aside0 (horologelaw04_long.j1 kq a0 l1 l1 (l1.length : Int) x11_1 x24_5 ((rd_T35 l1 x11_1).f0) ((rd_T35 l1 x11_1).f1) ((rd_T35 l1 x11_1).f2) ((rd_T35 l1 x11_1).f3) ((rd_T35 l1 x11_1).f4) ((rd_T35 l1 x11_1).f5) = some r) ∧ Aside0 (kq ≤ k1) ∧ Aside0 (wc.heap[gb186]? = some (.cells #[.int .i64 ((rd_T35 l1 x11_1).f0), .int .u8 ((rd_T35 l1 x11_1).f1), .string ((rd_T35 l1 x11_1).f2), (.slice A185_3 ((rd_T35 l1 x11_1).f3).length c185_3), .int .i64 ((rd_T35 l1 x11_1).f4), .int .i64 ((rd_T35 l1 x11_1).f5)] 35 (0, 0))) ∧ Aside0 (Below w.heap.size w wc))
      case first =>
       have H := HC6.out
       clear HC6
       by_cases c9 : (((rd_T35 l1 x11_1).f2).size : Int) > 60
       ·rw [if_pos c9] at H
        have c9b0 : decide (60 < (((rd_T35 l1 x11_1).f2).size : Int)) = true := decide_eq_true c9
        have c9b1 : decide (60 < ((rd_T35 l1 x11_1).f2).size) = true := decide_eq_true (by omega)
        clear c9
        (first | rw [c9b0] | (simp only [i64_w, i32_w]; rw [c9b0]) | skip)
        have H' := Aside0.mk H
        clear H
        have hcz10_0 : w7.cell? ⟨gb186, 0, none⟩ = some (.int .i64 0) := (blk_cell BK186.out 0).trans rfl
        have hcz10_1 : w7.cell? ⟨gb186, 1, none⟩ = some (.int .u8 0) := (blk_cell BK186.out 1).trans rfl
        have hcz10_2 : w7.cell? ⟨gb186, 2, none⟩ = some (.string (⟨#[]⟩ : ByteArray)) := (blk_cell BK186.out 2).trans rfl
        have hcz10_3 : w7.cell? ⟨gb186, 3, none⟩ = some (.slice none 0 0) := (blk_cell BK186.out 3).trans rfl
        have hcz10_4 : w7.cell? ⟨gb186, 4, none⟩ = some (.int .i64 0) := (blk_cell BK186.out 4).trans rfl
        have hcz10_5 : w7.cell? ⟨gb186, 5, none⟩ = some (.int .i64 0) := (blk_cell BK186.out 5).trans rfl
        have hfz10_0 := blk_frozen BK186.out 0
        have hfz10_1 := blk_frozen BK186.out 1
        have hfz10_2 := blk_frozen BK186.out 2
        have hfz10_3 := blk_frozen BK186.out 3
        have hfz10_4 := blk_frozen BK186.out 4
        have hfz10_5 := blk_frozen BK186.out 5
        go_wp2
        go_meet
        case rel => exact ⟨_, (true), zq9, H', ⟨zq76⟩, ⟨zq25⟩, ⟨zq44⟩⟩
       ·rw [if_neg c9] at H
        have c9b0 : decide (60 < (((rd_T35 l1 x11_1).f2).size : Int)) = false := decide_eq_false c9
        have c9b1 : decide (60 < ((rd_T35 l1 x11_1).f2).size) = false := decide_eq_false (by omega)
        clear c9
        (first | rw [c9b0] | (simp only [i64_w, i32_w]; rw [c9b0]) | skip)
        have H' := Aside0.mk H
        clear H
        have hcz11_0 : w7.cell? ⟨gb186, 0, none⟩ = some (.int .i64 0) := (blk_cell BK186.out 0).trans rfl
        have hcz11_1 : w7.cell? ⟨gb186, 1, none⟩ = some (.int .u8 0) := (blk_cell BK186.out 1).trans rfl
        have hcz11_2 : w7.cell? ⟨gb186, 2, none⟩ = some (.string (⟨#[]⟩ : ByteArray)) := (blk_cell BK186.out 2).trans rfl
        have hcz11_3 : w7.cell? ⟨gb186, 3, none⟩ = some (.slice none 0 0) := (blk_cell BK186.out 3).trans rfl
        have hcz11_4 : w7.cell? ⟨gb186, 4, none⟩ = some (.int .i64 0) := (blk_cell BK186.out 4).trans rfl
        have hcz11_5 : w7.cell? ⟨gb186, 5, none⟩ = some (.int .i64 0) := (blk_cell BK186.out 5).trans rfl
        have hfz11_0 := blk_frozen BK186.out 0
        have hfz11_1 := blk_frozen BK186.out 1
        have hfz11_2 := blk_frozen BK186.out 2
        have hfz11_3 := blk_frozen BK186.out 3
        have hfz11_4 := blk_frozen BK186.out 4
        have hfz11_5 := blk_frozen BK186.out 5
        go_wp2
        go_meet
        case rel => exact ⟨_, (decide ((((rd_T35 l1 x11_1).f3).length : Int) > 12)), zq9, H', ⟨zq76⟩, ⟨zq25⟩, ⟨zq44⟩⟩
      case rest =>
       clear HC6
       try clear c1
       try clear p1
       try clear q1
       try clear hx1
       try clear p2
       try clear c3
       try clear c3b0
       try clear c4
       try clear c4b0
       try clear c5
       try clear c5b0
       try clear c7
       try clear c9
       try clear c9b0
       try clear c9b1
       try clear hcz10_0
       try clear hcz10_1
       try clear hcz10_2
       try clear hcz10_3
       try clear hcz10_4
       try clear hcz10_5
       try clear hcz11_0
       try clear hcz11_1
       try clear hcz11_2
       try clear hcz11_3
       try clear hcz11_4
       try clear hcz11_5
       try clear hcz8_0
       try clear hcz8_1
       try clear hcz8_2
       try clear hcz8_3
       try clear hcz8_4
       try clear hcz8_5
       try clear hfz10_0
       try clear hfz10_1
       try clear hfz10_2
       try clear hfz10_3
       try clear hfz10_4
       try clear hfz10_5
       try clear hfz11_0
       try clear hfz11_1
       try clear hfz11_2
       try clear hfz11_3
       try clear hfz11_4
       try clear hfz11_5
       try clear hfz8_0
       try clear hfz8_1
       try clear hfz8_2
       try clear hfz8_3
       try clear hfz8_4
       try clear hfz8_5
       try clear hx185_0
       try clear hx185_1
       try clear hx185_2
       try clear hx185_3
       try clear hx185_4
       try clear hx185_5
       try clear p185
       try clear p2
       try clear q185
       obtain ⟨kq, x24_5, rfl, HA, HJ5, BK186, HB⟩ := hcut
       cases kq with
       | zero => exact absurd HA.out (by simp [horologelaw04_long.j1])
       | succ kj5 =>
        have H := HA.out
        clear HA
        simp only [horologelaw04_long.j1] at H
        by_cases c12 : x24_5 = true
        ·subst c12
         have H1 : (some true) = some r := by rw [if_pos rfl] at H; exact H
         clear H
         have H := H1
         clear H1
         obtain rfl := Option.some.inj H
         go_wp2
         go_ret
         exact ⟨zq8, zq44⟩
        ·replace c12 := Bool.eq_false_iff.mpr c12
         subst c12
         have H1 : (horologelaw04_long.l1 kj5 a0 l1 l1 (l1.length : Int) x11_1 ((rd_T35 l1 x11_1).f3) (((rd_T35 l1 x11_1).f3).length : Int) 0) = some r := by rw [if_neg (show ¬ (false = true) by decide)] at H; exact H
         clear H
         have H := H1
         clear H1
         have H' := Aside0.mk H
         clear H
         have hcz13_0 : wc.cell? ⟨gb186, 0, none⟩ = some (.int .i64 ((rd_T35 l1 x11_1).f0)) := (blk_cell BK186.out 0).trans rfl
         have hcz13_1 : wc.cell? ⟨gb186, 1, none⟩ = some (.int .u8 ((rd_T35 l1 x11_1).f1)) := (blk_cell BK186.out 1).trans rfl
         have hcz13_2 : wc.cell? ⟨gb186, 2, none⟩ = some (.string ((rd_T35 l1 x11_1).f2)) := (blk_cell BK186.out 2).trans rfl
         have hcz13_3 : wc.cell? ⟨gb186, 3, none⟩ = some (.slice A185_3 ((rd_T35 l1 x11_1).f3).length c185_3) := (blk_cell BK186.out 3).trans rfl
         have hcz13_4 : wc.cell? ⟨gb186, 4, none⟩ = some (.int .i64 ((rd_T35 l1 x11_1).f4)) := (blk_cell BK186.out 4).trans rfl
         have hcz13_5 : wc.cell? ⟨gb186, 5, none⟩ = some (.int .i64 ((rd_T35 l1 x11_1).f5)) := (blk_cell BK186.out 5).trans rfl
         have hfz13_0 := blk_frozen BK186.out 0
         have hfz13_1 := blk_frozen BK186.out 1
         have hfz13_2 := blk_frozen BK186.out 2
         have hfz13_3 := blk_frozen BK186.out 3
         have hfz13_4 := blk_frozen BK186.out 4
         have hfz13_5 := blk_frozen BK186.out 5
         go_wp2
         try simp only [Act.put, sl_]
         go_loopg [28] kj5 (fun kq v28 w' => ∃ (x28_3 : Int), v28 = .int .i64 x28_3 ∧ Aside0 (horologelaw04_long.l1 kq a0 l1 l1 (l1.length : Int) x11_1 ((rd_T35 l1 x11_1).f3) (((rd_T35 l1 x11_1).f3).length : Int) x28_3 = some r) ∧ Aside0 (kq ≤ kj5) ∧ Aside0 (w'.heap[gb186]? = some (.cells #[.int .i64 ((rd_T35 l1 x11_1).f0), .int .u8 ((rd_T35 l1 x11_1).f1), .string ((rd_T35 l1 x11_1).f2), (.slice A185_3 ((rd_T35 l1 x11_1).f3).length c185_3), .int .i64 ((rd_T35 l1 x11_1).f4), .int .i64 ((rd_T35 l1 x11_1).f5)] 35 (0, 0))) ∧ Aside0 (Below w.heap.size w w'))
         case atStart => exact ⟨(0), zq9, H', ⟨Nat.le_refl _⟩, ⟨by (with_reducible repeat (first | refine blk_drewN ?_ _ | refine blk_drew ?_ | refine blk_alloc ?_ _)); exact BK186.out⟩, ⟨zq44⟩⟩
         case round =>
          clear H'
          try clear c1
          try clear p1
          try clear q1
          try clear hx1
          try clear p2
          try clear c3
          try clear c3b0
          try clear c4
          try clear c4b0
          try clear c5
          try clear c5b0
          try clear c7
          try clear c9
          try clear c9b0
          try clear c9b1
          try clear c12
          try clear hcz10_0
          try clear hcz10_1
          try clear hcz10_2
          try clear hcz10_3
          try clear hcz10_4
          try clear hcz10_5
          try clear hcz11_0
          try clear hcz11_1
          try clear hcz11_2
          try clear hcz11_3
          try clear hcz11_4
          try clear hcz11_5
          try clear hcz13_0
          try clear hcz13_1
          try clear hcz13_2
          try clear hcz13_3
          try clear hcz13_4
          try clear hcz13_5
          try clear hcz8_0
          try clear hcz8_1
          try clear hcz8_2
          try clear hcz8_3
          try clear hcz8_4
          try clear hcz8_5
          try clear hfz10_0
          try clear hfz10_1
          try clear hfz10_2
          try clear hfz10_3
          try clear hfz10_4
          try clear hfz10_5
          try clear hfz11_0
          try clear hfz11_1
          try clear hfz11_2
          try clear hfz11_3
          try clear hfz11_4
          try clear hfz11_5
          try clear hfz13_0
          try clear hfz13_1
          try clear hfz13_2
          try clear hfz13_3
          try clear hfz13_4
          try clear hfz13_5
          try clear hfz8_0
          try clear hfz8_1
          try clear hfz8_2
          try clear hfz8_3
          try clear hfz8_4
          try clear hfz8_5
          try clear hx185_0
          try clear hx185_1
          try clear hx185_2
          try clear hx185_3
          try clear hx185_4
          try clear hx185_5
          try clear p1
          try clear p185
          try clear p2
          try clear q1
          try clear q185
          obtain ⟨x28_3, rfl, HA, HK3, BK186, HB⟩ := hrel
          cases gk with
          | zero => exact absurd HA.out (by simp [horologelaw04_long.l1])
          | succ k3 =>
           have H := HA.out
           clear HA
           simp only [horologelaw04_long.l1] at H
           by_cases c14 : x28_3 < (((rd_T35 l1 x11_1).f3).length : Int)
           ·rw [if_pos c14] at H
            have c14b0 : decide (x28_3 < (((rd_T35 l1 x11_1).f3).length : Int)) = true := decide_eq_true c14
            clear c14
            by_cases c15 : 0 ≤ x28_3
            ·rw [if_pos c15] at H
             have c15b0 : decide (0 ≤ x28_3) = true := decide_eq_true c15
             clear c15
             by_cases c16 : x28_3 < (((rd_T35 l1 x11_1).f3).length : Int)
             ·rw [if_pos c16] at H
              have c16b0 : decide (x28_3 < (((rd_T35 l1 x11_1).f3).length : Int)) = true := decide_eq_true c16
              clear c16
              by_cases c17 : ((rdOf ByteArray.empty ((rd_T35 l1 x11_1).f3) x28_3).size : Int) > 60
              ·rw [if_pos c17] at H
               have c17b0 : decide (60 < ((rdOf ByteArray.empty ((rd_T35 l1 x11_1).f3) x28_3).size : Int)) = true := decide_eq_true c17
               have c17b1 : decide (60 < (rdOf ByteArray.empty ((rd_T35 l1 x11_1).f3) x28_3).size) = true := decide_eq_true (by omega)
               clear c17
               obtain rfl := Option.some.inj H
               have p187 : 0 ≤ (x28_3 : Int) := of_decide_eq_true zq10
               have q187 : x28_3 < (((rd_T35 l1 x11_1).f3).length : Int) := of_decide_eq_true zq10
               obtain ⟨ad187, e187, hx187_0⟩ := Kd.at_string HR185_3.out x28_3 p187 q187
               cases e187
               replace hx187_0 := (HB.out.cell (World.block_lt_of_cell? w _ hx187_0)).trans hx187_0
               replace p187 := eq_true p187
               replace q187 := eq_true q187
               go_wp2
               go_ret
               exact ⟨zq8, zq44⟩
              ·rw [if_neg c17] at H
               have c17b0 : decide (60 < ((rdOf ByteArray.empty ((rd_T35 l1 x11_1).f3) x28_3).size : Int)) = false := decide_eq_false c17
               have c17b1 : decide (60 < (rdOf ByteArray.empty ((rd_T35 l1 x11_1).f3) x28_3).size) = false := decide_eq_false (by omega)
               clear c17
               have H' := Aside0.mk H
               clear H
               have p187 : 0 ≤ (x28_3 : Int) := of_decide_eq_true zq10
               have q187 : x28_3 < (((rd_T35 l1 x11_1).f3).length : Int) := of_decide_eq_true zq10
               obtain ⟨ad187, e187, hx187_0⟩ := Kd.at_string HR185_3.out x28_3 p187 q187
               cases e187
               replace hx187_0 := (HB.out.cell (World.block_lt_of_cell? w _ hx187_0)).trans hx187_0
               replace p187 := eq_true p187
               replace q187 := eq_true q187
               go_wp2
               go_roundg k3
               case measure => have := HK1.out; have := HJ5.out; have := HK3.out; omega
               case rel => exact ⟨(wrap64 (x28_3 + 1)), zq9, H', ⟨by have := HK1.out; have := HJ5.out; have := HK3.out; omega⟩, ⟨by (with_reducible repeat (first | refine blk_drewN ?_ _ | refine blk_drew ?_ | refine blk_alloc ?_ _)); exact BK186.out⟩, ⟨zq44⟩⟩
             ·rw [if_neg c16] at H
              exact absurd H (by simp)
            ·rw [if_neg c15] at H
             exact absurd H (by simp)
           ·rw [if_neg c14] at H
            have c14b0 : decide (x28_3 < (((rd_T35 l1 x11_1).f3).length : Int)) = false := decide_eq_false c14
            clear c14
            have H' := Aside0.mk H
            clear H
            go_wp2
            go_roundg k3
            case measure => have := HK1.out; have := HJ5.out; have := HK3.out; omega
            case rel => exact ⟨(wrap64 (x11_1 + 1)), zq9, H', ⟨by have := HK1.out; have := HJ5.out; have := HK3.out; omega⟩, ⟨zq44⟩⟩
     ·rw [if_neg c5] at H
      exact absurd H (by simp)
    ·rw [if_neg c4] at H
     exact absurd H (by simp)
   ·rw [if_neg c3] at H
    have c3b0 : decide (x11_1 < (l1.length : Int)) = false := decide_eq_false c3
    clear c3
    by_cases c18 : (a0.size : Int) > 300
    ·rw [if_pos c18] at H
     have c18b0 : decide (300 < (a0.size : Int)) = true := decide_eq_true c18
     have c18b1 : decide (300 < a0.size) = true := decide_eq_true (by omega)
     clear c18
     obtain rfl := Option.some.inj H
     go_wp2
     go_ret
     exact ⟨zq8, zq2⟩
    ·rw [if_neg c18] at H
     have c18b0 : decide (300 < (a0.size : Int)) = false := decide_eq_false c18
     have c18b1 : decide (300 < a0.size) = false := decide_eq_false (by omega)
     clear c18
     obtain rfl := Option.some.inj H
     go_wp2
     go_ret
     exact ⟨zq8, zq2⟩

/-- A state of type 61 at block g of W; what its slices lead to came in by w0. -/
def IsS61 (w0 W : World) (g : Nat) (f0 : ByteArray) (f1 : Int) (f2 : Option Int) : Prop := W.heap[g]? = some (.cells #[.string f0, .int .i64 f1, errW f2] 61 (0, 0)) ∧ w0.heap.size ≤ g
theorem IsS61.grown {w0 W : World} {g : Nat} {f0 : ByteArray} {f1 : Int} {f2 : Option Int} {W1 : World} {row : Option Nat} (h : IsS61 w0 W g f0 f1 f2) (hw : W.grownBy W1 row) (hne : some g ≠ row) : IsS61 w0 W1 g f0 f1 f2 := by
 obtain ⟨hb, hg⟩ := h
 exact ⟨blk_grown hb hw hne, hg⟩
theorem IsS61.below {w0 W : World} {g : Nat} {f0 : ByteArray} {f1 : Int} {f2 : Option Int} {W1 : World} (h : IsS61 w0 W g f0 f1 f2) (hw : Below W.heap.size W W1) : IsS61 w0 W1 g f0 f1 f2 := h.grown (grown_of_below hw none) (by simp)
theorem IsS61.alloc {w0 W : World} {g : Nat} {f0 : ByteArray} {f1 : Int} {f2 : Option Int} (h : IsS61 w0 W g f0 f1 f2) (o : Obj) : IsS61 w0 (W.alloc o) g f0 f1 f2 := h.below (below_alloc (Below.refl _ _) o)
theorem IsS61.drewN {w0 W : World} {g : Nat} {f0 : ByteArray} {f1 : Int} {f2 : Option Int} (h : IsS61 w0 W g f0 f1 f2) (m : Nat) : IsS61 w0 (W.drewN m) g f0 f1 f2 := h
theorem IsS61.drew {w0 W : World} {g : Nat} {f0 : ByteArray} {f1 : Int} {f2 : Option Int} (h : IsS61 w0 W g f0 f1 f2) : IsS61 w0 W.drew g f0 f1 f2 := h
theorem IsS61.ge {w0 W : World} {g : Nat} {f0 : ByteArray} {f1 : Int} {f2 : Option Int} (h : IsS61 w0 W g f0 f1 f2) : w0.heap.size ≤ g := by
 obtain ⟨hb, hg⟩ := h
 exact hg
theorem cellS61_0 {W : World} {g : Nat} {f0 : ByteArray} {f1 : Int} {f2 : Option Int} (h : W.heap[g]? = some (.cells #[.string f0, .int .i64 f1, errW f2] 61 (0, 0))) : W.cell? ⟨g, 0, none⟩ = some (.string f0) := (blk_cell h 0).trans rfl
theorem IsS61.set_0 {w0 W : World} {g : Nat} {f0 : ByteArray} {f1 : Int} {f2 : Option Int} (h : IsS61 w0 W g f0 f1 f2) (x : ByteArray) : IsS61 w0 (W.setCell ⟨g, 0, none⟩ (.string x)) g x f1 f2 := by
 obtain ⟨hb, hg⟩ := h
 exact ⟨by simpa using blk_set hb 0 (.string x), hg⟩
theorem cellS61_1 {W : World} {g : Nat} {f0 : ByteArray} {f1 : Int} {f2 : Option Int} (h : W.heap[g]? = some (.cells #[.string f0, .int .i64 f1, errW f2] 61 (0, 0))) : W.cell? ⟨g, 1, none⟩ = some (.int .i64 f1) := (blk_cell h 1).trans rfl
theorem IsS61.set_1 {w0 W : World} {g : Nat} {f0 : ByteArray} {f1 : Int} {f2 : Option Int} (h : IsS61 w0 W g f0 f1 f2) (x : Int) : IsS61 w0 (W.setCell ⟨g, 1, none⟩ (.int .i64 x)) g f0 x f2 := by
 obtain ⟨hb, hg⟩ := h
 exact ⟨by simpa using blk_set hb 1 (.int .i64 x), hg⟩
theorem cellS61_2 {W : World} {g : Nat} {f0 : ByteArray} {f1 : Int} {f2 : Option Int} (h : W.heap[g]? = some (.cells #[.string f0, .int .i64 f1, errW f2] 61 (0, 0))) : W.cell? ⟨g, 2, none⟩ = some (errW f2) := (blk_cell h 2).trans rfl
theorem IsS61.set_2 {w0 W : World} {g : Nat} {f0 : ByteArray} {f1 : Int} {f2 : Option Int} (h : IsS61 w0 W g f0 f1 f2) (x : Option Int) : IsS61 w0 (W.setCell ⟨g, 2, none⟩ (errW x)) g f0 f1 x := by
 obtain ⟨hb, hg⟩ := h
 exact ⟨by simpa using blk_set hb 2 (errW x), hg⟩
theorem IsS61.setn_2 {w0 W : World} {g : Nat} {f0 : ByteArray} {f1 : Int} {f2 : Option Int} (h : IsS61 w0 W g f0 f1 f2) : IsS61 w0 (W.setCell ⟨g, 2, none⟩ (.nilIface)) g f0 f1 none := IsS61.set_2 h none
theorem IsS61.sets_2 {w0 W : World} {g : Nat} {f0 : ByteArray} {f1 : Int} {f2 : Option Int} (h : IsS61 w0 W g f0 f1 f2) (x : Int) : IsS61 w0 (W.setCell ⟨g, 2, none⟩ (.iface 50 (.int .i64 x))) g f0 f1 (some x) := IsS61.set_2 h (some x)
/-! ### scan_New_byte: function 9 -/
def scan_New_byte.f (l0 : List Int) : Option (ByteArray × Int × Option Int) := some (strOfNums l0, 0, none)
set_option maxHeartbeats 8000000 in
set_option maxRecDepth 100000 in
theorem scan_New_byte.calls (A0 : Option Addr) (c0 : Nat) (l0 : List Int) (r1 : ByteArray) (r2 : Int) (r3 : Option Int) (w0 w : World) (hB : Below w0.heap.size w0 w) (hr0 : Kd.C (Kd.int .u8) w0 A0 l0.length l0) (hc0 : l0.length ≤ c0) (h : scan_New_byte.f l0 = some (r1, r2, r3)) :
  Calls Try.prog 9 #[.slice A0 l0.length c0] w fun e w' => ∃ g_ : Nat, e = .returned (.pointer (some ⟨g_, 0, none⟩)) ∧ IsS61 w0 w' g_ r1 r2 r3 ∧ Below w0.heap.size w0 w' ∧ Below w.heap.size w w' := by
 have hu61 := Try.underlying61
 have HR0 := Aside0.mk hr0
 have HC0 := Aside0.mk hc0
 clear hr0 hc0
 have HBW := Aside0.mk (Below.refl w.heap.size w)
 have HW0 := Aside0.mk hB.size
 have HB := Aside0.mk hB
 clear hB
 have H : (some (strOfNums l0, 0, none)) = some (r1, r2, r3) := h
 clear h
 simp only [Option.some.injEq, Prod.mk.injEq] at H
 obtain ⟨rfl, rfl, rfl⟩ := H
 have hcv2 := Kd.C_string (P := Try.prog) (A := A0) (c := c0) Try.underlying25 Try.underlying5 Try.underlying9 HR0.out
 have hcv2 := Kd.C_string (P := Try.prog) (A := A0) (c := c0) Try.underlying25 Try.underlying5 Try.underlying9 (Kd.C_below HR0.out HB.out)
 go_enter Try.func9, Try.ntmps9
 go_wp2_with (first | ((with_reducible refine gate_dst (N := 6) rfl ?_); refine box_event ?hg (N := 6) ?hd (cs := #[.string (strOfNums l0), .int .i64 0, errW none]) (t := 61) ?hr ?_; (case hd => rfl); (case hg => rfl); (case hr => exact zq16); intro gb188 hg w3 hbox hb; have n0_ := Aside0.mk (below_step HBW.out hb); have n1_ := Aside0.mk (below_step zq2 hb); have n2_ := Aside0.mk (hbox); have n3_ := Aside0.mk ((by rw [hg]; exact (below_size zq74) : w.heap.size ≤ gb188)); have n4_ := Aside0.mk ((Nat.le_trans HW0.out (by rw [hg]; exact (below_size zq74) : w.heap.size ≤ gb188) : w0.heap.size ≤ gb188)); clear HBW; clear HB; have HBW := n0_; have HB := n1_; have BK188 := n2_; have GW188 := n3_; have GE188 := n4_; clear n0_ n1_ n2_ n3_ n4_; clear hb hbox hg))
 go_ret
 exact ⟨_, rfl, (show IsS61 w0 _ gb188 (strOfNums l0) 0 none from ⟨by (with_reducible repeat (first | refine blk_drewN ?_ _ | refine blk_drew ?_ | refine blk_alloc ?_ _)); exact BK188.out, GE188.out⟩), by repeat (first | (with_reducible first | exact HB.out | apply below_alloc | apply pw_below_drewN | apply below_drew1 | refine below_set ?_ GE188.out) | exact HB.out), by repeat (first | (with_reducible first | exact HBW.out | apply below_alloc | apply pw_below_drewN | apply below_drew1 | refine below_set ?_ GW188.out) | exact HBW.out)⟩

/-! ### r4_Rest: function 29 -/
def r4_Rest.f (a0_0 : ByteArray) (a0_1 : Int) (a0_2 : Int) : Option (ByteArray) := if a0_2 = 0 then (if 0 ≤ a0_1 then (if a0_1 ≤ (a0_0.size : Int) then (some (a0_0.extract (a0_1 : Int).toNat a0_0.size)) else (none)) else (none)) else (some (⟨#[]⟩ : ByteArray))
set_option maxHeartbeats 8000000 in
set_option maxRecDepth 100000 in
theorem r4_Rest.calls (a0_0 : ByteArray) (a0_1 : Int) (a0_2 : Int) (r : ByteArray) (w : World) (h : r4_Rest.f a0_0 a0_1 a0_2 = some r) :
  Calls Try.prog 29 #[.agg #[.string a0_0, .int .i64 a0_1, .int .i64 a0_2]] w fun e w' => e = .returned (.string r) ∧ Below w.heap.size w w' := by
 have hu31 := Try.underlying31
 have HB := Aside0.mk (Below.refl w.heap.size w)
 have H : (if a0_2 = 0 then (if 0 ≤ a0_1 then (if a0_1 ≤ (a0_0.size : Int) then (some (a0_0.extract (a0_1 : Int).toNat a0_0.size)) else (none)) else (none)) else (some (⟨#[]⟩ : ByteArray))) = some r := h
 clear h
 by_cases c2 : a0_2 = 0
 ·rw [if_pos c2] at H
  have c2b0 : (a0_2 == 0) = true := beq_iff_eq.mpr c2
  have c2b1 : (a0_2 != 0) = false := bne_eq_false_iff_eq.mpr c2
  clear c2
  by_cases c3 : 0 ≤ a0_1
  ·rw [if_pos c3] at H
   have c3b0 := eq_true c3
   have c3b1 : decide (0 ≤ a0_1) = true := decide_eq_true c3
   clear c3
   by_cases c4 : a0_1 ≤ (a0_0.size : Int)
   ·rw [if_pos c4] at H
    have c4b0 := eq_true c4
    have c4b1 : decide (a0_1 ≤ (a0_0.size : Int)) = true := decide_eq_true c4
    clear c4
    obtain rfl := Option.some.inj H
    go_enter Try.func29, Try.ntmps29
    go_wp2_with (first | ((with_reducible refine gate_dst (N := 1) rfl ?_); refine box_event ?hg (N := 1) ?hd (cs := #[.string a0_0, .int .i64 a0_1, .int .i64 a0_2]) (t := 31) ?hr ?_; (case hd => rfl); (case hg => rfl); (case hr => exact zq16); intro gb189 hg w5 hbox hb; have n0_ := Aside0.mk (below_step zq2 hb); have n1_ := Aside0.mk (hbox); have n2_ := Aside0.mk ((by rw [hg]; exact (below_size zq2) : w.heap.size ≤ gb189)); have n3_ := Aside0.mk ((by rw [hg]; exact (below_size zq2) : w.heap.size ≤ gb189)); clear HB; have HB := n0_; have BK189 := n1_; have GW189 := n2_; have GE189 := n3_; clear n0_ n1_ n2_ n3_; clear hb hbox hg; have hcz6_0 : w5.cell? ⟨gb189, 0, none⟩ = some (.string a0_0) := (blk_cell BK189.out 0).trans rfl; have hcz6_1 : w5.cell? ⟨gb189, 1, none⟩ = some (.int .i64 a0_1) := (blk_cell BK189.out 1).trans rfl; have hcz6_2 : w5.cell? ⟨gb189, 2, none⟩ = some (.int .i64 a0_2) := (blk_cell BK189.out 2).trans rfl; have hfz6_0 := blk_frozen BK189.out 0; have hfz6_1 := blk_frozen BK189.out 1; have hfz6_2 := blk_frozen BK189.out 2))
    go_ret
    exact ⟨zq8, by repeat (first | (with_reducible first | exact HB.out | apply below_alloc | apply pw_below_drewN | apply below_drew1 | refine below_set ?_ GE189.out) | exact HB.out)⟩
   ·rw [if_neg c4] at H
    exact absurd H (by simp)
  ·rw [if_neg c3] at H
   exact absurd H (by simp)
 ·rw [if_neg c2] at H
  have c2b0 : (a0_2 == 0) = false := beq_eq_false_iff_ne.mpr c2
  have c2b1 : (a0_2 != 0) = true := bne_iff_ne.mpr c2
  obtain rfl := Option.some.inj H
  go_enter Try.func29, Try.ntmps29
  go_wp2_with (first | ((with_reducible refine gate_dst (N := 1) rfl ?_); refine box_event ?hg (N := 1) ?hd (cs := #[.string a0_0, .int .i64 a0_1, .int .i64 a0_2]) (t := 31) ?hr ?_; (case hd => rfl); (case hg => rfl); (case hr => exact zq16); intro gb189 hg w7 hbox hb; have n0_ := Aside0.mk (below_step zq2 hb); have n1_ := Aside0.mk (hbox); have n2_ := Aside0.mk ((by rw [hg]; exact (below_size zq2) : w.heap.size ≤ gb189)); have n3_ := Aside0.mk ((by rw [hg]; exact (below_size zq2) : w.heap.size ≤ gb189)); clear HB; have HB := n0_; have BK189 := n1_; have GW189 := n2_; have GE189 := n3_; clear n0_ n1_ n2_ n3_; clear hb hbox hg; have hcz8_0 : w7.cell? ⟨gb189, 0, none⟩ = some (.string a0_0) := (blk_cell BK189.out 0).trans rfl; have hcz8_1 : w7.cell? ⟨gb189, 1, none⟩ = some (.int .i64 a0_1) := (blk_cell BK189.out 1).trans rfl; have hcz8_2 : w7.cell? ⟨gb189, 2, none⟩ = some (.int .i64 a0_2) := (blk_cell BK189.out 2).trans rfl; have hfz8_0 := blk_frozen BK189.out 0; have hfz8_1 := blk_frozen BK189.out 1; have hfz8_2 := blk_frozen BK189.out 2))
  go_ret
  exact ⟨zq8, by repeat (first | (with_reducible first | exact HB.out | apply below_alloc | apply pw_below_drewN | apply below_drew1 | refine below_set ?_ GE189.out) | exact HB.out)⟩

/-! ### horologenum_Num: function 30 -/
def horologenum_Num.f (a0 : Option Int) : Option (Int) := if a0.isNone = true then (some 0) else (if (a0.getD 0) = 0 then (some (-1)) else (some (a0.getD 0)))
set_option maxHeartbeats 8000000 in
set_option maxRecDepth 100000 in
theorem horologenum_Num.calls (a0 : Option Int) (r : Int) (w : World) (h : horologenum_Num.f a0 = some r) :
  Calls Try.prog 30 #[errW a0] w fun e w' => e = .returned (.int .i64 r) ∧ Drawn0 w w' := by
 have hu42 := Try.underlying42
 have hu50 := Try.underlying50
 have hta : ∀ (v : Value) (W : World), (Instr.typeAssert (.iface 50 v) 42 50 true).run Try.prog W = .ok (.tuple #[v, .bool true]) W := fun v W => by rfl
 have H : (if a0.isNone = true then (some 0) else (if (a0.getD 0) = 0 then (some (-1)) else (some (a0.getD 0)))) = some r := h
 clear h
 rcases a0 with _ | q190
 ·have H1 : (some 0) = some r := by rw [if_pos (show (none : Option Int).isNone = true by rfl)] at H; exact H
  clear H
  have H := H1
  clear H1
  simp only [errW_none, errW_some]
  obtain rfl := Option.some.inj H
  go_enter Try.func30, Try.ntmps30
  go_wp2
  go_ret
  exact ⟨zq9, zq22⟩
 ·have H1 : (if q190 = 0 then (some (-1)) else (some q190)) = some r := by rw [if_neg (show ¬ (some q190).isNone = true by simp)] at H; exact H
  clear H
  have H := H1
  clear H1
  simp only [errW_none, errW_some]
  by_cases c2 : q190 = 0
  ·rw [if_pos c2] at H
   have c2b0 : (q190 == 0) = true := beq_iff_eq.mpr c2
   have c2b1 : (q190 != 0) = false := bne_eq_false_iff_eq.mpr c2
   clear c2
   obtain rfl := Option.some.inj H
   go_enter Try.func30, Try.ntmps30
   go_wp2
   go_ret
   exact ⟨zq9, zq22⟩
  ·rw [if_neg c2] at H
   have c2b0 : (q190 == 0) = false := beq_eq_false_iff_ne.mpr c2
   have c2b1 : (q190 != 0) = true := bne_iff_ne.mpr c2
   obtain rfl := Option.some.inj H
   go_enter Try.func30, Try.ntmps30
   go_wp2
   go_ret
   exact ⟨zq9, zq22⟩

/-! ### r4_End: function 31 -/
def r4_End.f (a0_0 : ByteArray) (a0_1 : Int) (a0_2 : Int) : Option (Int) := if a0_2 = 0 then (if a0_1 < (a0_0.size : Int) then (some 2) else (some a0_2)) else (some a0_2)
set_option maxHeartbeats 8000000 in
set_option maxRecDepth 100000 in
theorem r4_End.calls (a0_0 : ByteArray) (a0_1 : Int) (a0_2 : Int) (r : Int) (w : World) (h : r4_End.f a0_0 a0_1 a0_2 = some r) :
  Calls Try.prog 31 #[.agg #[.string a0_0, .int .i64 a0_1, .int .i64 a0_2]] w fun e w' => e = .returned (.int .i64 r) ∧ Below w.heap.size w w' := by
 have hu31 := Try.underlying31
 have HB := Aside0.mk (Below.refl w.heap.size w)
 have H : (if a0_2 = 0 then (if a0_1 < (a0_0.size : Int) then (some 2) else (some a0_2)) else (some a0_2)) = some r := h
 clear h
 by_cases c2 : a0_2 = 0
 ·rw [if_pos c2] at H
  have c2b0 : (a0_2 == 0) = true := beq_iff_eq.mpr c2
  have c2b1 : (a0_2 != 0) = false := bne_eq_false_iff_eq.mpr c2
  clear c2
  by_cases c3 : a0_1 < (a0_0.size : Int)
  ·rw [if_pos c3] at H
   have c3b0 : decide (a0_1 < (a0_0.size : Int)) = true := decide_eq_true c3
   clear c3
   obtain rfl := Option.some.inj H
   go_enter Try.func31, Try.ntmps31
   go_wp2_with (first | ((with_reducible refine gate_dst (N := 1) rfl ?_); (try (refine gate_guard (by rfl) ?_; dsimp only)); refine box_event ?hg (N := 1) ?hd (cs := #[.string a0_0, .int .i64 a0_1, .int .i64 a0_2]) (t := 31) ?hr ?_; (case hd => rfl); (case hg => rfl); (case hr => exact zq16); intro gb191 hg w4 hbox hb; have n0_ := Aside0.mk (below_step zq2 hb); have n1_ := Aside0.mk (hbox); have n2_ := Aside0.mk ((by rw [hg]; exact (below_size zq2) : w.heap.size ≤ gb191)); have n3_ := Aside0.mk ((by rw [hg]; exact (below_size zq2) : w.heap.size ≤ gb191)); clear HB; have HB := n0_; have BK191 := n1_; have GW191 := n2_; have GE191 := n3_; clear n0_ n1_ n2_ n3_; clear hb hbox hg; have hcz5_0 : w4.cell? ⟨gb191, 0, none⟩ = some (.string a0_0) := (blk_cell BK191.out 0).trans rfl; have hcz5_1 : w4.cell? ⟨gb191, 1, none⟩ = some (.int .i64 a0_1) := (blk_cell BK191.out 1).trans rfl; have hcz5_2 : w4.cell? ⟨gb191, 2, none⟩ = some (.int .i64 a0_2) := (blk_cell BK191.out 2).trans rfl; have hfz5_0 := blk_frozen BK191.out 0; have hfz5_1 := blk_frozen BK191.out 1; have hfz5_2 := blk_frozen BK191.out 2))
   go_ret
   exact ⟨zq8, zq83⟩
  ·rw [if_neg c3] at H
   have c3b0 : decide (a0_1 < (a0_0.size : Int)) = false := decide_eq_false c3
   clear c3
   obtain rfl := Option.some.inj H
   go_enter Try.func31, Try.ntmps31
   go_wp2_with (first | ((with_reducible refine gate_dst (N := 1) rfl ?_); (try (refine gate_guard (by rfl) ?_; dsimp only)); refine box_event ?hg (N := 1) ?hd (cs := #[.string a0_0, .int .i64 a0_1, .int .i64 a0_2]) (t := 31) ?hr ?_; (case hd => rfl); (case hg => rfl); (case hr => exact zq16); intro gb191 hg w6 hbox hb; have n0_ := Aside0.mk (below_step zq2 hb); have n1_ := Aside0.mk (hbox); have n2_ := Aside0.mk ((by rw [hg]; exact (below_size zq2) : w.heap.size ≤ gb191)); have n3_ := Aside0.mk ((by rw [hg]; exact (below_size zq2) : w.heap.size ≤ gb191)); clear HB; have HB := n0_; have BK191 := n1_; have GW191 := n2_; have GE191 := n3_; clear n0_ n1_ n2_ n3_; clear hb hbox hg; have hcz7_0 : w6.cell? ⟨gb191, 0, none⟩ = some (.string a0_0) := (blk_cell BK191.out 0).trans rfl; have hcz7_1 : w6.cell? ⟨gb191, 1, none⟩ = some (.int .i64 a0_1) := (blk_cell BK191.out 1).trans rfl; have hcz7_2 : w6.cell? ⟨gb191, 2, none⟩ = some (.int .i64 a0_2) := (blk_cell BK191.out 2).trans rfl; have hfz7_0 := blk_frozen BK191.out 0; have hfz7_1 := blk_frozen BK191.out 1; have hfz7_2 := blk_frozen BK191.out 2))
   go_ret
   exact ⟨zq8, zq83⟩
 ·rw [if_neg c2] at H
  have c2b0 : (a0_2 == 0) = false := beq_eq_false_iff_ne.mpr c2
  have c2b1 : (a0_2 != 0) = true := bne_iff_ne.mpr c2
  obtain rfl := Option.some.inj H
  go_enter Try.func31, Try.ntmps31
  go_wp2_with (first | ((with_reducible refine gate_dst (N := 1) rfl ?_); (try (refine gate_guard (by rfl) ?_; dsimp only)); refine box_event ?hg (N := 1) ?hd (cs := #[.string a0_0, .int .i64 a0_1, .int .i64 a0_2]) (t := 31) ?hr ?_; (case hd => rfl); (case hg => rfl); (case hr => exact zq16); intro gb191 hg w8 hbox hb; have n0_ := Aside0.mk (below_step zq2 hb); have n1_ := Aside0.mk (hbox); have n2_ := Aside0.mk ((by rw [hg]; exact (below_size zq2) : w.heap.size ≤ gb191)); have n3_ := Aside0.mk ((by rw [hg]; exact (below_size zq2) : w.heap.size ≤ gb191)); clear HB; have HB := n0_; have BK191 := n1_; have GW191 := n2_; have GE191 := n3_; clear n0_ n1_ n2_ n3_; clear hb hbox hg; have hcz9_0 : w8.cell? ⟨gb191, 0, none⟩ = some (.string a0_0) := (blk_cell BK191.out 0).trans rfl; have hcz9_1 : w8.cell? ⟨gb191, 1, none⟩ = some (.int .i64 a0_1) := (blk_cell BK191.out 1).trans rfl; have hcz9_2 : w8.cell? ⟨gb191, 2, none⟩ = some (.int .i64 a0_2) := (blk_cell BK191.out 2).trans rfl; have hfz9_0 := blk_frozen BK191.out 0; have hfz9_1 := blk_frozen BK191.out 1; have hfz9_2 := blk_frozen BK191.out 2))
  go_ret
  exact ⟨zq8, zq83⟩

end Go.Proofs.Ytonjfggfcnpgbaa.MScanPlays
