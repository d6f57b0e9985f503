-- This text was written by a program of this session (a changed scratch copy of a tool of the kit; NOTES.md tells the changes).
import Derived.Test.YtonjfggfcnpgbaaMScanPlaysx0
import Derived.Test.YtonjfggfcnpgbaaMScanPlaysx9
import Derived.Test.YtonjfggfcnpgbaaMScanPlaysx10
namespace Go.Proofs.Ytonjfggfcnpgbaa.MScanPlays
open Go.RowKit Go.Proofs.YtonjfggfcnpgbaaW.PrintWords Go.Proofs.YtonjfggfcnpgbaaW.PrintLast Go.Proofs.YtonjfggfcnpgbaaW.PrintMore
attribute [local go_sem] max2_int min2_int max_two min_two max_three min_three max_four min_four   -- for this text's walks alone
set_option linter.unusedVariables false
set_option linter.unusedSimpArgs false

/-! ### r1_times: function 86 -/
mutual
def r1_times.l0 : Nat → List Int → List Int → List Int → Int → Option (List Int)
 | 0, _, _, _, _ => none
 | k + 1, x0, x1, x5, x6 => if x6 < (x1.length : Int) then (if 0 ≤ x6 then (if (x6 : Int).toNat ≤ 35184372088832 then (r1_times.l1 k x0 x1 x5 x6 (List.replicate (x6 : Int).toNat 0) 0 0) else (none)) else (none)) else ((r1_cut.f k x5).bind fun t383 => (some t383))
def r1_times.l1 : Nat → List Int → List Int → List Int → Int → List Int → Int → Int → Option (List Int)
 | 0, _, _, _, _, _, _, _ => none
 | k + 1, x0, x1, x5, x6, x7, x8, x9 => if x9 < (x0.length : Int) then ((r1_digit.f x0 x9).bind fun t370 => (if 0 ≤ x6 then (if x6 < (x1.length : Int) then (if x7.length < 17592186044416 then (r1_times.l1 k x0 x1 x5 x6 (x7 ++ [Int.tmod (IntKind.u64.wrap ((IntKind.u64.wrap (t370 * (rd x1 x6))) + x8)) 65536]) (IntKind.u64.wrap (Int.tdiv (IntKind.u64.wrap ((IntKind.u64.wrap (t370 * (rd x1 x6))) + x8)) 65536)) (wrap64 (x9 + 1))) else (none)) else (none)) else (none))) else (if x8 > 0 then ((r1_digit.f x0 x9).bind fun t375 => (if 0 ≤ x6 then (if x6 < (x1.length : Int) then (if x7.length < 17592186044416 then (r1_times.l1 k x0 x1 x5 x6 (x7 ++ [Int.tmod (IntKind.u64.wrap ((IntKind.u64.wrap (t375 * (rd x1 x6))) + x8)) 65536]) (IntKind.u64.wrap (Int.tdiv (IntKind.u64.wrap ((IntKind.u64.wrap (t375 * (rd x1 x6))) + x8)) 65536)) (wrap64 (x9 + 1))) else (none)) else (none)) else (none))) else ((r1_plus.f k x5 x7).bind fun t380 => (r1_times.l0 k x0 x1 t380 (wrap64 (x6 + 1)))))
end
def r1_times.f (k : Nat) (l0 : List Int) (l1 : List Int) : Option (List Int) := r1_times.l0 k l0 l1 ([] : List Int) 0
set_option maxHeartbeats 8000000 in
set_option maxRecDepth 100000 in
theorem r1_times.calls (k : Nat) (A0 : Option Addr) (c0 : Nat) (l0 : List Int) (A1 : Option Addr) (c1 : Nat) (l1 : List Int) (r : List Int) (w : World) (hr0 : Kd.C (Kd.int .u64) w A0 l0.length l0) (hc0 : l0.length ≤ c0) (hr1 : Kd.C (Kd.int .u64) w A1 l1.length l1) (hc1 : l1.length ≤ c1) (h : r1_times.f k l0 l1 = some r) :
  Calls Try.prog 86 #[.slice A0 l0.length c0, .slice A1 l1.length c1] w fun e w' => ∃ v0_ : Value, e = .returned (v0_) ∧ Kd.V (Kd.int .u64) 88 w' w.heap.size (fun k_ => (w.heap.size ≤ k_)) v0_ r ∧ Below w.heap.size w w' := by
 have HR0 := Aside0.mk hr0
 have HC0 := Aside0.mk hc0
 clear hr0 hc0
 have HR1 := Aside0.mk hr1
 have HC1 := Aside0.mk hc1
 clear hr1 hc1
 have HB := Aside0.mk (Below.refl w.heap.size w)
 have H : (r1_times.l0 k l0 l1 ([] : List Int) 0) = some r := h
 clear h
 have H' := Aside0.mk H
 clear H
 go_enter Try.func86, Try.ntmps86
 go_wp2
 repeat (go_quiet (fail); try go_wp2)
 try simp only [Act.put, sl_]
 go_loopg [5, 6] k (fun kq v5 v6 w' => ∃ (x5_1 : List Int) (x6_1 : Int), v6 = .int .i64 x6_1 ∧ Aside0 (r1_times.l0 kq l0 l1 x5_1 x6_1 = some r) ∧ Aside0 (kq ≤ k) ∧ Aside0 (Kd.R (Kd.int .u64) 88 w' w.heap.size (fun k_ => (w.heap.size ≤ k_)) v5 x5_1) ∧ Aside0 (Below w.heap.size w w'))
 case atStart => exact ⟨(([] : List Int)), (0), zq9, H', ⟨Nat.le_refl _⟩, ⟨zq72⟩, ⟨zq2⟩⟩
 case round =>
  clear H'
  try clear c1
  try clear p2
  obtain ⟨x5_1, x6_1, rfl, HA, HK1, HO_5, HB⟩ := hrel
  cases gk with
  | zero => exact absurd HA.out (by simp [r1_times.l0])
  | succ k1 =>
   have H := HA.out
   clear HA
   simp only [r1_times.l0] at H
   by_cases c3 : x6_1 < (l1.length : Int)
   ·rw [if_pos c3] at H
    have c3b0 : decide (x6_1 < (l1.length : Int)) = true := decide_eq_true c3
    clear c3
    by_cases c4 : 0 ≤ x6_1
    ·rw [if_pos c4] at H
     have c4b0 := eq_true c4
     have c4b1 : decide (0 ≤ x6_1) = true := decide_eq_true c4
     clear c4
     by_cases c5 : (x6_1 : Int).toNat ≤ 35184372088832
     ·rw [if_pos c5] at H
      have c5b0 := eq_true c5
      have c5b1 : decide ((x6_1 : Int).toNat ≤ 35184372088832) = true := decide_eq_true c5
      clear c5
      obtain ⟨y367, hy367⟩ : ∃ y_ : List Int, y_ = (List.replicate (x6_1 : Int).toNat 0) := ⟨_, rfl⟩
      replace H : (r1_times.l1 k1 l0 l1 x5_1 x6_1 y367 0 0) = some r := by first | (rw [hy367]; with_reducible exact H) | (have H2_ := (Option.bind_some _ _).symm.trans H; rw [hy367]; with_reducible exact H2_) | (have H2_ := (Option.bind_some _ _).symm.trans H; with_reducible exact H2_) | with_reducible exact H | (rw [hy367]; exact H) | exact H
      have Ny367 := Aside0.mk hy367
      clear hy367
      have H' := Aside0.mk H
      clear H
      go_wp2_with (first | ((with_reducible refine gate_dst (N := 18) rfl ?_); refine Kd.R_make (Kd.int .u64) _ 88 rfl (N := 18) rfl 94 _ _ rfl x6_1 rfl rfl Try.underlying94 (.int .u64 0) 8 info88 rfl (by decide) (by omega) 0 (ok := fun _ => True) (okp := fun _ => True) rfl (fun _ hk => hk) trivial (of_decide_eq_true zq10) (Nat.le_trans (Nat.mul_le_mul_right _ (of_decide_eq_true zq10 : x6_1.toNat ≤ 35184372088832)) (by omega)) (Below.refl _ _) (Nat.le_refl _) ?_; intro v368 w6 ho7 hb hg_ hnew_; clear hg_ hnew_; (first | rw [← Ny367.out] at ho7 | (simp only [Int.reduceToNat] at ho7; rw [← Ny367.out] at ho7)); have n0_ := Aside0.mk (Kd.R_elder' zq12 (Kd.R_base ho7) hb); have n1_ := Aside0.mk (Kd.R_lower (Kd.R_new' (Kd.R_newM (M := fun k_ => (w.heap.size ≤ k_)) ho7 (below_size zq2) (fun k_ h_ => h_)) (Kd.R_lt zq12)) (below_size zq2)); have n2_ := Aside0.mk (below_step zq2 hb); clear HO_5; clear HB; have HO_5 := n0_; have HO369 := n1_; have HB := n2_; clear n0_ n1_ n2_; clear hb ho7))
      repeat (go_quiet (first | ((with_reducible refine gate_dst (N := 18) rfl ?_); refine Kd.R_make (Kd.int .u64) _ 88 rfl (N := 18) rfl 94 _ _ rfl x6_1 rfl rfl Try.underlying94 (.int .u64 0) 8 info88 rfl (by decide) (by omega) 0 (ok := fun _ => True) (okp := fun _ => True) rfl (fun _ hk => hk) trivial (of_decide_eq_true zq10) (Nat.le_trans (Nat.mul_le_mul_right _ (of_decide_eq_true zq10 : x6_1.toNat ≤ 35184372088832)) (by omega)) (Below.refl _ _) (Nat.le_refl _) ?_; intro v368 w6 ho7 hb hg_ hnew_; clear hg_ hnew_; (first | rw [← Ny367.out] at ho7 | (simp only [Int.reduceToNat] at ho7; rw [← Ny367.out] at ho7)); have n0_ := Aside0.mk (Kd.R_elder' zq12 (Kd.R_base ho7) hb); have n1_ := Aside0.mk (Kd.R_lower (Kd.R_new' (Kd.R_newM (M := fun k_ => (w.heap.size ≤ k_)) ho7 (below_size zq2) (fun k_ h_ => h_)) (Kd.R_lt zq12)) (below_size zq2)); have n2_ := Aside0.mk (below_step zq2 hb); clear HO_5; clear HB; have HO_5 := n0_; have HO369 := n1_; have HB := n2_; clear n0_ n1_ n2_; clear hb ho7)); try go_wp2_with (first | ((with_reducible refine gate_dst (N := 18) rfl ?_); refine Kd.R_make (Kd.int .u64) _ 88 rfl (N := 18) rfl 94 _ _ rfl x6_1 rfl rfl Try.underlying94 (.int .u64 0) 8 info88 rfl (by decide) (by omega) 0 (ok := fun _ => True) (okp := fun _ => True) rfl (fun _ hk => hk) trivial (of_decide_eq_true zq10) (Nat.le_trans (Nat.mul_le_mul_right _ (of_decide_eq_true zq10 : x6_1.toNat ≤ 35184372088832)) (by omega)) (Below.refl _ _) (Nat.le_refl _) ?_; intro v368 w6 ho7 hb hg_ hnew_; clear hg_ hnew_; (first | rw [← Ny367.out] at ho7 | (simp only [Int.reduceToNat] at ho7; rw [← Ny367.out] at ho7)); have n0_ := Aside0.mk (Kd.R_elder' zq12 (Kd.R_base ho7) hb); have n1_ := Aside0.mk (Kd.R_lower (Kd.R_new' (Kd.R_newM (M := fun k_ => (w.heap.size ≤ k_)) ho7 (below_size zq2) (fun k_ h_ => h_)) (Kd.R_lt zq12)) (below_size zq2)); have n2_ := Aside0.mk (below_step zq2 hb); clear HO_5; clear HB; have HO_5 := n0_; have HO369 := n1_; have HB := n2_; clear n0_ n1_ n2_; clear hb ho7)))
      try simp only [Act.put, sl_]
      go_loopg [7, 8, 9] k1 (fun kq v7 v8 v9 w' => ∃ (x7_2 : List Int) (x8_2 : Int) (x9_2 : Int), v8 = .int .u64 x8_2 ∧ v9 = .int .i64 x9_2 ∧ Aside0 (r1_times.l1 kq l0 l1 x5_1 x6_1 x7_2 x8_2 x9_2 = some r) ∧ Aside0 (kq ≤ k1) ∧ Aside0 (Kd.R (Kd.int .u64) 88 w' w.heap.size (fun k_ => (w.heap.size ≤ k_) ∧ some k_ ≠ (v7 : Value).ownBlock) u5 x5_1) ∧ Aside0 (Kd.R (Kd.int .u64) 88 w' w.heap.size (fun k_ => (w.heap.size ≤ k_) ∧ some k_ ≠ (u5 : Value).ownBlock) v7 x7_2) ∧ Aside0 (Below w.heap.size w w'))
      case atStart => exact ⟨(y367), (0), (0), zq9, zq9, H', ⟨Nat.le_refl _⟩, ⟨zq12⟩, ⟨by (with_reducible repeat (first | apply Kd.R_alloc | apply Kd.R_drewN | apply Kd.R_drew)); exact Kd.R_mono HO369.out (fun _ hk => ⟨hk.1.1, hk.2⟩)⟩, ⟨zq2⟩⟩
      case round =>
       clear H'
       try clear c1
       try clear p2
       try clear c3
       try clear c3b0
       try clear c4
       try clear c4b0
       try clear c4b1
       try clear c5
       try clear c5b0
       try clear c5b1
       try clear p2
       obtain ⟨x7_2, x8_2, x9_2, rfl, rfl, HA, HK2, HO_5, HO_7, HB⟩ := hrel
       cases gk with
       | zero => exact absurd HA.out (by simp [r1_times.l1])
       | succ k2 =>
        have H := HA.out
        clear HA
        simp only [r1_times.l1] at H
        by_cases c8 : x9_2 < (l0.length : Int)
        ·rw [if_pos c8] at H
         have c8b0 : decide (x9_2 < (l0.length : Int)) = true := decide_eq_true c8
         clear c8
         replace H := Option.bind_eq_some_iff.mp H
         obtain ⟨t370, A90, H⟩ := H
         replace H : (if 0 ≤ x6_1 then (if x6_1 < (l1.length : Int) then (if x7_2.length < 17592186044416 then (r1_times.l1 k2 l0 l1 x5_1 x6_1 (x7_2 ++ [Int.tmod (IntKind.u64.wrap ((IntKind.u64.wrap (t370 * (rd l1 x6_1))) + x8_2)) 65536]) (IntKind.u64.wrap (Int.tdiv (IntKind.u64.wrap ((IntKind.u64.wrap (t370 * (rd l1 x6_1))) + x8_2)) 65536)) (wrap64 (x9_2 + 1))) else (none)) else (none)) else (none)) = some r := H
         have A9 := Aside0.mk A90
         clear A90
         by_cases c10 : 0 ≤ x6_1
         ·rw [if_pos c10] at H
          have c10b0 : decide (0 ≤ x6_1) = true := decide_eq_true c10
          clear c10
          by_cases c11 : x6_1 < (l1.length : Int)
          ·rw [if_pos c11] at H
           have c11b0 : decide (x6_1 < (l1.length : Int)) = true := decide_eq_true c11
           clear c11
           by_cases c12 : x7_2.length < 17592186044416
           ·rw [if_pos c12] at H
            have LMc12 := Aside0.mk c12
            clear c12
            obtain ⟨y372, hy372⟩ : ∃ y_ : List Int, y_ = (x7_2 ++ [Int.tmod (IntKind.u64.wrap ((IntKind.u64.wrap (t370 * (rd l1 x6_1))) + x8_2)) 65536]) := ⟨_, rfl⟩
            replace H : (r1_times.l1 k2 l0 l1 x5_1 x6_1 y372 (IntKind.u64.wrap (Int.tdiv (IntKind.u64.wrap ((IntKind.u64.wrap (t370 * (rd l1 x6_1))) + x8_2)) 65536)) (wrap64 (x9_2 + 1))) = some r := by first | (rw [hy372]; with_reducible exact H) | (have H2_ := (Option.bind_some _ _).symm.trans H; rw [hy372]; with_reducible exact H2_) | (have H2_ := (Option.bind_some _ _).symm.trans H; with_reducible exact H2_) | with_reducible exact H | (rw [hy372]; exact H) | exact H
            have Ny372 := Aside0.mk hy372
            clear hy372
            have H' := Aside0.mk H
            clear H
            go_wp2_with (first | (go_at_call 87; (with_reducible refine (r1_digit.calls _ _ l0 x9_2 t370 _ ?side1 ?side2 A9.out).mono ?_); (case side1 => exact zq35); (case side2 => exact HC0.out); rintro e w' ⟨rfl, ⟨nd, rfl⟩⟩; (try first | exact ⟨rfl, _, World.drewN_drewN _ _ _⟩ | exact ⟨rfl, _, Eq.trans (World.drewN_drewN _ _ _) (congrArg (World.drewN _) (Nat.add_assoc _ _ _))⟩); have p371 : 0 ≤ (x6_1 : Int) := of_decide_eq_true zq10; have q371 : x6_1 < (l1.length : Int) := of_decide_eq_true zq10; obtain ⟨ad371, e371, hx371_0⟩ := Kd.at_int HR1.out x6_1 p371 q371; cases e371; replace hx371_0 := (HB.out.cell (World.block_lt_of_cell? w _ hx371_0)).trans hx371_0; replace p371 := eq_true p371; replace q371 := eq_true q371) | ((with_reducible refine gate_builtin (b := .append) (xs := #[.tmp 39, .tmp 42]) rfl ?_); at_builtin; refine Kd.R_append (Kd.int .u64) (w0 := w) w.heap.size rfl (.tmp 39) (.tmp 42) 94 88 (.int .u64 0) 8 rfl Try.underlying94 info88 rfl (by decide) (by omega) u7 x7_2 (Int.tmod (IntKind.u64.wrap ((IntKind.u64.wrap (t370 * (rd l1 x6_1))) + x8_2)) 65536) [.int .u64 (Int.tmod (IntKind.u64.wrap ((IntKind.u64.wrap (t370 * (rd l1 x6_1))) + x8_2)) 65536)] (fun k_ => (w.heap.size ≤ k_) ∧ some k_ ≠ (u5 : Value).ownBlock) (fun _ => False) rfl rfl ?aP (fun _ hk => hk.elim) ?aF ?aO ?aB ?aS ?aL ?_; (case aP => exact rfl); (case aB => exact zq2); (case aF => exact zq70); (case aO => exact zq41); (case aS => exact (below_size zq2)); (case aL => have := LMc12.out; omega); intro v373 w13 ho hb hg hat; rw [← Ny372.out] at ho; have n0_ := Aside0.mk (Kd.R_after (ok := (fun k_ => (w.heap.size ≤ k_))) zq12 hg hat); have n1_ := Aside0.mk (hb); have n2_ := Aside0.mk (ho); clear HO_5; clear HB; clear HO_7; have HO_5 := n0_; have HB := n1_; have HO374 := n2_; clear n0_ n1_ n2_; clear ho hb hg hat))
            repeat (go_quiet (first | (go_at_call 87; (with_reducible refine (r1_digit.calls _ _ l0 x9_2 t370 _ ?side1 ?side2 A9.out).mono ?_); (case side1 => exact zq35); (case side2 => exact HC0.out); rintro e w' ⟨rfl, ⟨nd, rfl⟩⟩; (try first | exact ⟨rfl, _, World.drewN_drewN _ _ _⟩ | exact ⟨rfl, _, Eq.trans (World.drewN_drewN _ _ _) (congrArg (World.drewN _) (Nat.add_assoc _ _ _))⟩); have p371 : 0 ≤ (x6_1 : Int) := of_decide_eq_true zq10; have q371 : x6_1 < (l1.length : Int) := of_decide_eq_true zq10; obtain ⟨ad371, e371, hx371_0⟩ := Kd.at_int HR1.out x6_1 p371 q371; cases e371; replace hx371_0 := (HB.out.cell (World.block_lt_of_cell? w _ hx371_0)).trans hx371_0; replace p371 := eq_true p371; replace q371 := eq_true q371) | ((with_reducible refine gate_builtin (b := .append) (xs := #[.tmp 39, .tmp 42]) rfl ?_); at_builtin; refine Kd.R_append (Kd.int .u64) (w0 := w) w.heap.size rfl (.tmp 39) (.tmp 42) 94 88 (.int .u64 0) 8 rfl Try.underlying94 info88 rfl (by decide) (by omega) u7 x7_2 (Int.tmod (IntKind.u64.wrap ((IntKind.u64.wrap (t370 * (rd l1 x6_1))) + x8_2)) 65536) [.int .u64 (Int.tmod (IntKind.u64.wrap ((IntKind.u64.wrap (t370 * (rd l1 x6_1))) + x8_2)) 65536)] (fun k_ => (w.heap.size ≤ k_) ∧ some k_ ≠ (u5 : Value).ownBlock) (fun _ => False) rfl rfl ?aP (fun _ hk => hk.elim) ?aF ?aO ?aB ?aS ?aL ?_; (case aP => exact rfl); (case aB => exact zq2); (case aF => exact zq70); (case aO => exact zq41); (case aS => exact (below_size zq2)); (case aL => have := LMc12.out; omega); intro v373 w13 ho hb hg hat; rw [← Ny372.out] at ho; have n0_ := Aside0.mk (Kd.R_after (ok := (fun k_ => (w.heap.size ≤ k_))) zq12 hg hat); have n1_ := Aside0.mk (hb); have n2_ := Aside0.mk (ho); clear HO_5; clear HB; clear HO_7; have HO_5 := n0_; have HB := n1_; have HO374 := n2_; clear n0_ n1_ n2_; clear ho hb hg hat)); try go_wp2_with (first | (go_at_call 87; (with_reducible refine (r1_digit.calls _ _ l0 x9_2 t370 _ ?side1 ?side2 A9.out).mono ?_); (case side1 => exact zq35); (case side2 => exact HC0.out); rintro e w' ⟨rfl, ⟨nd, rfl⟩⟩; (try first | exact ⟨rfl, _, World.drewN_drewN _ _ _⟩ | exact ⟨rfl, _, Eq.trans (World.drewN_drewN _ _ _) (congrArg (World.drewN _) (Nat.add_assoc _ _ _))⟩); have p371 : 0 ≤ (x6_1 : Int) := of_decide_eq_true zq10; have q371 : x6_1 < (l1.length : Int) := of_decide_eq_true zq10; obtain ⟨ad371, e371, hx371_0⟩ := Kd.at_int HR1.out x6_1 p371 q371; cases e371; replace hx371_0 := (HB.out.cell (World.block_lt_of_cell? w _ hx371_0)).trans hx371_0; replace p371 := eq_true p371; replace q371 := eq_true q371) | ((with_reducible refine gate_builtin (b := .append) (xs := #[.tmp 39, .tmp 42]) rfl ?_); at_builtin; refine Kd.R_append (Kd.int .u64) (w0 := w) w.heap.size rfl (.tmp 39) (.tmp 42) 94 88 (.int .u64 0) 8 rfl Try.underlying94 info88 rfl (by decide) (by omega) u7 x7_2 (Int.tmod (IntKind.u64.wrap ((IntKind.u64.wrap (t370 * (rd l1 x6_1))) + x8_2)) 65536) [.int .u64 (Int.tmod (IntKind.u64.wrap ((IntKind.u64.wrap (t370 * (rd l1 x6_1))) + x8_2)) 65536)] (fun k_ => (w.heap.size ≤ k_) ∧ some k_ ≠ (u5 : Value).ownBlock) (fun _ => False) rfl rfl ?aP (fun _ hk => hk.elim) ?aF ?aO ?aB ?aS ?aL ?_; (case aP => exact rfl); (case aB => exact zq2); (case aF => exact zq70); (case aO => exact zq41); (case aS => exact (below_size zq2)); (case aL => have := LMc12.out; omega); intro v373 w13 ho hb hg hat; rw [← Ny372.out] at ho; have n0_ := Aside0.mk (Kd.R_after (ok := (fun k_ => (w.heap.size ≤ k_))) zq12 hg hat); have n1_ := Aside0.mk (hb); have n2_ := Aside0.mk (ho); clear HO_5; clear HB; clear HO_7; have HO_5 := n0_; have HB := n1_; have HO374 := n2_; clear n0_ n1_ n2_; clear ho hb hg hat)))
            go_roundg k2
            case measure => have := HK1.out; have := HK2.out; omega
            case rel => exact ⟨(y372), (IntKind.u64.wrap (Int.tdiv (IntKind.u64.wrap ((IntKind.u64.wrap (t370 * (rd l1 x6_1))) + x8_2)) 65536)), (wrap64 (x9_2 + 1)), zq9, zq9, H', ⟨by have := HK1.out; have := HK2.out; omega⟩, ⟨zq12⟩, ⟨by (with_reducible repeat (first | apply Kd.R_alloc | apply Kd.R_drewN | apply Kd.R_drew)); exact HO374.out⟩, ⟨zq2⟩⟩
           ·rw [if_neg c12] at H
            exact absurd H (by simp)
          ·rw [if_neg c11] at H
           exact absurd H (by simp)
         ·rw [if_neg c10] at H
          exact absurd H (by simp)
        ·rw [if_neg c8] at H
         have c8b0 : decide (x9_2 < (l0.length : Int)) = false := decide_eq_false c8
         clear c8
         by_cases c14 : x8_2 > 0
         ·rw [if_pos c14] at H
          have c14b0 : decide (0 < x8_2) = true := decide_eq_true c14
          clear c14
          replace H := Option.bind_eq_some_iff.mp H
          obtain ⟨t375, A150, H⟩ := H
          replace H : (if 0 ≤ x6_1 then (if x6_1 < (l1.length : Int) then (if x7_2.length < 17592186044416 then (r1_times.l1 k2 l0 l1 x5_1 x6_1 (x7_2 ++ [Int.tmod (IntKind.u64.wrap ((IntKind.u64.wrap (t375 * (rd l1 x6_1))) + x8_2)) 65536]) (IntKind.u64.wrap (Int.tdiv (IntKind.u64.wrap ((IntKind.u64.wrap (t375 * (rd l1 x6_1))) + x8_2)) 65536)) (wrap64 (x9_2 + 1))) else (none)) else (none)) else (none)) = some r := H
          have A15 := Aside0.mk A150
          clear A150
          by_cases c16 : 0 ≤ x6_1
          ·rw [if_pos c16] at H
           have c16b0 : decide (0 ≤ x6_1) = true := decide_eq_true c16
           clear c16
           by_cases c17 : x6_1 < (l1.length : Int)
           ·rw [if_pos c17] at H
            have c17b0 : decide (x6_1 < (l1.length : Int)) = true := decide_eq_true c17
            clear c17
            by_cases c18 : x7_2.length < 17592186044416
            ·rw [if_pos c18] at H
             have LMc18 := Aside0.mk c18
             clear c18
             obtain ⟨y377, hy377⟩ : ∃ y_ : List Int, y_ = (x7_2 ++ [Int.tmod (IntKind.u64.wrap ((IntKind.u64.wrap (t375 * (rd l1 x6_1))) + x8_2)) 65536]) := ⟨_, rfl⟩
             replace H : (r1_times.l1 k2 l0 l1 x5_1 x6_1 y377 (IntKind.u64.wrap (Int.tdiv (IntKind.u64.wrap ((IntKind.u64.wrap (t375 * (rd l1 x6_1))) + x8_2)) 65536)) (wrap64 (x9_2 + 1))) = some r := by first | (rw [hy377]; with_reducible exact H) | (have H2_ := (Option.bind_some _ _).symm.trans H; rw [hy377]; with_reducible exact H2_) | (have H2_ := (Option.bind_some _ _).symm.trans H; with_reducible exact H2_) | with_reducible exact H | (rw [hy377]; exact H) | exact H
             have Ny377 := Aside0.mk hy377
             clear hy377
             have H' := Aside0.mk H
             clear H
             go_wp2_with (first | (go_at_call 87; (with_reducible refine (r1_digit.calls _ _ l0 x9_2 t375 _ ?side1 ?side2 A15.out).mono ?_); (case side1 => exact zq35); (case side2 => exact HC0.out); rintro e w' ⟨rfl, ⟨nd, rfl⟩⟩; (try first | exact ⟨rfl, _, World.drewN_drewN _ _ _⟩ | exact ⟨rfl, _, Eq.trans (World.drewN_drewN _ _ _) (congrArg (World.drewN _) (Nat.add_assoc _ _ _))⟩); have p376 : 0 ≤ (x6_1 : Int) := of_decide_eq_true zq10; have q376 : x6_1 < (l1.length : Int) := of_decide_eq_true zq10; obtain ⟨ad376, e376, hx376_0⟩ := Kd.at_int HR1.out x6_1 p376 q376; cases e376; replace hx376_0 := (HB.out.cell (World.block_lt_of_cell? w _ hx376_0)).trans hx376_0; replace p376 := eq_true p376; replace q376 := eq_true q376) | ((with_reducible refine gate_builtin (b := .append) (xs := #[.tmp 39, .tmp 42]) rfl ?_); at_builtin; refine Kd.R_append (Kd.int .u64) (w0 := w) w.heap.size rfl (.tmp 39) (.tmp 42) 94 88 (.int .u64 0) 8 rfl Try.underlying94 info88 rfl (by decide) (by omega) u7 x7_2 (Int.tmod (IntKind.u64.wrap ((IntKind.u64.wrap (t375 * (rd l1 x6_1))) + x8_2)) 65536) [.int .u64 (Int.tmod (IntKind.u64.wrap ((IntKind.u64.wrap (t375 * (rd l1 x6_1))) + x8_2)) 65536)] (fun k_ => (w.heap.size ≤ k_) ∧ some k_ ≠ (u5 : Value).ownBlock) (fun _ => False) rfl rfl ?aP (fun _ hk => hk.elim) ?aF ?aO ?aB ?aS ?aL ?_; (case aP => exact rfl); (case aB => exact zq2); (case aF => exact zq70); (case aO => exact zq41); (case aS => exact (below_size zq2)); (case aL => have := LMc18.out; omega); intro v378 w19 ho hb hg hat; rw [← Ny377.out] at ho; have n0_ := Aside0.mk (Kd.R_after (ok := (fun k_ => (w.heap.size ≤ k_))) zq12 hg hat); have n1_ := Aside0.mk (hb); have n2_ := Aside0.mk (ho); clear HO_5; clear HB; clear HO_7; have HO_5 := n0_; have HB := n1_; have HO379 := n2_; clear n0_ n1_ n2_; clear ho hb hg hat))
             repeat (go_quiet (first | (go_at_call 87; (with_reducible refine (r1_digit.calls _ _ l0 x9_2 t375 _ ?side1 ?side2 A15.out).mono ?_); (case side1 => exact zq35); (case side2 => exact HC0.out); rintro e w' ⟨rfl, ⟨nd, rfl⟩⟩; (try first | exact ⟨rfl, _, World.drewN_drewN _ _ _⟩ | exact ⟨rfl, _, Eq.trans (World.drewN_drewN _ _ _) (congrArg (World.drewN _) (Nat.add_assoc _ _ _))⟩); have p376 : 0 ≤ (x6_1 : Int) := of_decide_eq_true zq10; have q376 : x6_1 < (l1.length : Int) := of_decide_eq_true zq10; obtain ⟨ad376, e376, hx376_0⟩ := Kd.at_int HR1.out x6_1 p376 q376; cases e376; replace hx376_0 := (HB.out.cell (World.block_lt_of_cell? w _ hx376_0)).trans hx376_0; replace p376 := eq_true p376; replace q376 := eq_true q376) | ((with_reducible refine gate_builtin (b := .append) (xs := #[.tmp 39, .tmp 42]) rfl ?_); at_builtin; refine Kd.R_append (Kd.int .u64) (w0 := w) w.heap.size rfl (.tmp 39) (.tmp 42) 94 88 (.int .u64 0) 8 rfl Try.underlying94 info88 rfl (by decide) (by omega) u7 x7_2 (Int.tmod (IntKind.u64.wrap ((IntKind.u64.wrap (t375 * (rd l1 x6_1))) + x8_2)) 65536) [.int .u64 (Int.tmod (IntKind.u64.wrap ((IntKind.u64.wrap (t375 * (rd l1 x6_1))) + x8_2)) 65536)] (fun k_ => (w.heap.size ≤ k_) ∧ some k_ ≠ (u5 : Value).ownBlock) (fun _ => False) rfl rfl ?aP (fun _ hk => hk.elim) ?aF ?aO ?aB ?aS ?aL ?_; (case aP => exact rfl); (case aB => exact zq2); (case aF => exact zq70); (case aO => exact zq41); (case aS => exact (below_size zq2)); (case aL => have := LMc18.out; omega); intro v378 w19 ho hb hg hat; rw [← Ny377.out] at ho; have n0_ := Aside0.mk (Kd.R_after (ok := (fun k_ => (w.heap.size ≤ k_))) zq12 hg hat); have n1_ := Aside0.mk (hb); have n2_ := Aside0.mk (ho); clear HO_5; clear HB; clear HO_7; have HO_5 := n0_; have HB := n1_; have HO379 := n2_; clear n0_ n1_ n2_; clear ho hb hg hat)); try go_wp2_with (first | (go_at_call 87; (with_reducible refine (r1_digit.calls _ _ l0 x9_2 t375 _ ?side1 ?side2 A15.out).mono ?_); (case side1 => exact zq35); (case side2 => exact HC0.out); rintro e w' ⟨rfl, ⟨nd, rfl⟩⟩; (try first | exact ⟨rfl, _, World.drewN_drewN _ _ _⟩ | exact ⟨rfl, _, Eq.trans (World.drewN_drewN _ _ _) (congrArg (World.drewN _) (Nat.add_assoc _ _ _))⟩); have p376 : 0 ≤ (x6_1 : Int) := of_decide_eq_true zq10; have q376 : x6_1 < (l1.length : Int) := of_decide_eq_true zq10; obtain ⟨ad376, e376, hx376_0⟩ := Kd.at_int HR1.out x6_1 p376 q376; cases e376; replace hx376_0 := (HB.out.cell (World.block_lt_of_cell? w _ hx376_0)).trans hx376_0; replace p376 := eq_true p376; replace q376 := eq_true q376) | ((with_reducible refine gate_builtin (b := .append) (xs := #[.tmp 39, .tmp 42]) rfl ?_); at_builtin; refine Kd.R_append (Kd.int .u64) (w0 := w) w.heap.size rfl (.tmp 39) (.tmp 42) 94 88 (.int .u64 0) 8 rfl Try.underlying94 info88 rfl (by decide) (by omega) u7 x7_2 (Int.tmod (IntKind.u64.wrap ((IntKind.u64.wrap (t375 * (rd l1 x6_1))) + x8_2)) 65536) [.int .u64 (Int.tmod (IntKind.u64.wrap ((IntKind.u64.wrap (t375 * (rd l1 x6_1))) + x8_2)) 65536)] (fun k_ => (w.heap.size ≤ k_) ∧ some k_ ≠ (u5 : Value).ownBlock) (fun _ => False) rfl rfl ?aP (fun _ hk => hk.elim) ?aF ?aO ?aB ?aS ?aL ?_; (case aP => exact rfl); (case aB => exact zq2); (case aF => exact zq70); (case aO => exact zq41); (case aS => exact (below_size zq2)); (case aL => have := LMc18.out; omega); intro v378 w19 ho hb hg hat; rw [← Ny377.out] at ho; have n0_ := Aside0.mk (Kd.R_after (ok := (fun k_ => (w.heap.size ≤ k_))) zq12 hg hat); have n1_ := Aside0.mk (hb); have n2_ := Aside0.mk (ho); clear HO_5; clear HB; clear HO_7; have HO_5 := n0_; have HB := n1_; have HO379 := n2_; clear n0_ n1_ n2_; clear ho hb hg hat)))
             go_roundg k2
             case measure => have := HK1.out; have := HK2.out; omega
             case rel => exact ⟨(y377), (IntKind.u64.wrap (Int.tdiv (IntKind.u64.wrap ((IntKind.u64.wrap (t375 * (rd l1 x6_1))) + x8_2)) 65536)), (wrap64 (x9_2 + 1)), zq9, zq9, H', ⟨by have := HK1.out; have := HK2.out; omega⟩, ⟨zq12⟩, ⟨by (with_reducible repeat (first | apply Kd.R_alloc | apply Kd.R_drewN | apply Kd.R_drew)); exact HO379.out⟩, ⟨zq2⟩⟩
            ·rw [if_neg c18] at H
             exact absurd H (by simp)
           ·rw [if_neg c17] at H
            exact absurd H (by simp)
          ·rw [if_neg c16] at H
           exact absurd H (by simp)
         ·rw [if_neg c14] at H
          have c14b0 : decide (0 < x8_2) = false := decide_eq_false c14
          clear c14
          replace H := Option.bind_eq_some_iff.mp H
          obtain ⟨t380, A200, H⟩ := H
          replace H : (r1_times.l0 k2 l0 l1 t380 (wrap64 (x6_1 + 1))) = some r := H
          have A20 := Aside0.mk A200
          clear A200
          have H' := Aside0.mk H
          clear H
          obtain ⟨Ao21, co21, eo21⟩ := Kd.R_slice HO_5.out
          subst eo21
          obtain ⟨Ao22, co22, eo22⟩ := Kd.R_slice HO_7.out
          subst eo22
          go_wp2_with (first | (go_at_call 84; (with_reducible refine (r1_plus.calls k2 _ _ x5_1 _ _ x7_2 t380 _ ?side1 ?side2 ?side3 ?side4 A20.out).mono ?_); (case side1 => exact zq80); (case side2 => exact (Kd.R_reads' HO_5.out).2.1); (case side3 => exact zq81); (case side4 => exact (Kd.R_reads' HO_7.out).2.1); rintro e w23 ⟨v381, rfl, ho0, hb⟩; have n0_ := Aside0.mk (Kd.R_elder' zq12 (Kd.R_base ho0) hb); have n1_ := Aside0.mk (Kd.R_elder' zq41 (Kd.R_base ho0) hb); have n2_ := Aside0.mk (Kd.R_lower (Kd.R_new' (Kd.R_new' (Kd.R_newM (M := fun k_ => (w.heap.size ≤ k_)) ho0 (below_size zq2) (fun k_ h_ => h_)) (Kd.R_lt zq12)) (Kd.R_lt zq41)) (below_size zq2)); have n3_ := Aside0.mk (below_step zq2 hb); clear HO_5; clear HO_7; clear HB; have HO_5 := n0_; have HO_7 := n1_; have HO382 := n2_; have HB := n3_; clear n0_ n1_ n2_ n3_; (try clear hb hk hi); (try clear hb2); (try clear ho0)))
          repeat (go_quiet (first | (go_at_call 84; (with_reducible refine (r1_plus.calls k2 _ _ x5_1 _ _ x7_2 t380 _ ?side1 ?side2 ?side3 ?side4 A20.out).mono ?_); (case side1 => exact zq80); (case side2 => exact (Kd.R_reads' HO_5.out).2.1); (case side3 => exact zq81); (case side4 => exact (Kd.R_reads' HO_7.out).2.1); rintro e w23 ⟨v381, rfl, ho0, hb⟩; have n0_ := Aside0.mk (Kd.R_elder' zq12 (Kd.R_base ho0) hb); have n1_ := Aside0.mk (Kd.R_elder' zq41 (Kd.R_base ho0) hb); have n2_ := Aside0.mk (Kd.R_lower (Kd.R_new' (Kd.R_new' (Kd.R_newM (M := fun k_ => (w.heap.size ≤ k_)) ho0 (below_size zq2) (fun k_ h_ => h_)) (Kd.R_lt zq12)) (Kd.R_lt zq41)) (below_size zq2)); have n3_ := Aside0.mk (below_step zq2 hb); clear HO_5; clear HO_7; clear HB; have HO_5 := n0_; have HO_7 := n1_; have HO382 := n2_; have HB := n3_; clear n0_ n1_ n2_ n3_; (try clear hb hk hi); (try clear hb2); (try clear ho0))); try go_wp2_with (first | (go_at_call 84; (with_reducible refine (r1_plus.calls k2 _ _ x5_1 _ _ x7_2 t380 _ ?side1 ?side2 ?side3 ?side4 A20.out).mono ?_); (case side1 => exact zq80); (case side2 => exact (Kd.R_reads' HO_5.out).2.1); (case side3 => exact zq81); (case side4 => exact (Kd.R_reads' HO_7.out).2.1); rintro e w23 ⟨v381, rfl, ho0, hb⟩; have n0_ := Aside0.mk (Kd.R_elder' zq12 (Kd.R_base ho0) hb); have n1_ := Aside0.mk (Kd.R_elder' zq41 (Kd.R_base ho0) hb); have n2_ := Aside0.mk (Kd.R_lower (Kd.R_new' (Kd.R_new' (Kd.R_newM (M := fun k_ => (w.heap.size ≤ k_)) ho0 (below_size zq2) (fun k_ h_ => h_)) (Kd.R_lt zq12)) (Kd.R_lt zq41)) (below_size zq2)); have n3_ := Aside0.mk (below_step zq2 hb); clear HO_5; clear HO_7; clear HB; have HO_5 := n0_; have HO_7 := n1_; have HO382 := n2_; have HB := n3_; clear n0_ n1_ n2_ n3_; (try clear hb hk hi); (try clear hb2); (try clear ho0))))
          go_roundg k2
          case measure => have := HK1.out; have := HK2.out; omega
          case rel => exact ⟨(t380), (wrap64 (x6_1 + 1)), zq9, H', ⟨by have := HK1.out; have := HK2.out; omega⟩, ⟨by (with_reducible repeat (first | apply Kd.R_alloc | apply Kd.R_drewN | apply Kd.R_drew)); exact Kd.R_mono HO382.out (fun _ hk => hk.1.1.1)⟩, ⟨zq2⟩⟩
     ·rw [if_neg c5] at H
      exact absurd H (by simp)
    ·rw [if_neg c4] at H
     exact absurd H (by simp)
   ·rw [if_neg c3] at H
    have c3b0 : decide (x6_1 < (l1.length : Int)) = false := decide_eq_false c3
    clear c3
    replace H := Option.bind_eq_some_iff.mp H
    obtain ⟨t383, A240, H⟩ := H
    replace H : (some t383) = some r := H
    have A24 := Aside0.mk A240
    clear A240
    obtain rfl := Option.some.inj H
    obtain ⟨Ao25, co25, eo25⟩ := Kd.R_slice HO_5.out
    subst eo25
    go_wp2_with (first | (go_at_call 88; (with_reducible refine (r1_cut.calls k1 (fun k_ => some k_ = (.slice Ao25 x5_1.length co25 : Value).ownBlock) _ _ x5_1 t383 _ ?side1 A24.out).mono ?_); (case side1 => exact Kd.R_V (Kd.R_tight rfl (HO_5.out))); rintro e w26 ⟨v384, rfl, ho0, hb⟩; have n0_ := Aside0.mk (Kd.R_below zq12 hb); have n1_ := Aside0.mk (Kd.V_lower (Kd.V_mono (ok' := fun k_ => (w.heap.size ≤ k_)) ho0 (fun k_ hk_ => Or.elim hk_ (fun hs_ => ((HO_5.out).1 k_ hs_.symm)) (fun hn_ => (Nat.le_trans (below_size zq2) hn_)))) (below_size zq2)); have n2_ := Aside0.mk (below_step zq2 hb); clear HO_5; clear HB; have HO_5 := n0_; have HO385 := n1_; have HB := n2_; clear n0_ n1_ n2_; (try clear hb hk hi); (try clear hb2); (try clear ho0)))
    repeat (go_quiet (first | (go_at_call 88; (with_reducible refine (r1_cut.calls k1 (fun k_ => some k_ = (.slice Ao25 x5_1.length co25 : Value).ownBlock) _ _ x5_1 t383 _ ?side1 A24.out).mono ?_); (case side1 => exact Kd.R_V (Kd.R_tight rfl (HO_5.out))); rintro e w26 ⟨v384, rfl, ho0, hb⟩; have n0_ := Aside0.mk (Kd.R_below zq12 hb); have n1_ := Aside0.mk (Kd.V_lower (Kd.V_mono (ok' := fun k_ => (w.heap.size ≤ k_)) ho0 (fun k_ hk_ => Or.elim hk_ (fun hs_ => ((HO_5.out).1 k_ hs_.symm)) (fun hn_ => (Nat.le_trans (below_size zq2) hn_)))) (below_size zq2)); have n2_ := Aside0.mk (below_step zq2 hb); clear HO_5; clear HB; have HO_5 := n0_; have HO385 := n1_; have HB := n2_; clear n0_ n1_ n2_; (try clear hb hk hi); (try clear hb2); (try clear ho0))); try go_wp2_with (first | (go_at_call 88; (with_reducible refine (r1_cut.calls k1 (fun k_ => some k_ = (.slice Ao25 x5_1.length co25 : Value).ownBlock) _ _ x5_1 t383 _ ?side1 A24.out).mono ?_); (case side1 => exact Kd.R_V (Kd.R_tight rfl (HO_5.out))); rintro e w26 ⟨v384, rfl, ho0, hb⟩; have n0_ := Aside0.mk (Kd.R_below zq12 hb); have n1_ := Aside0.mk (Kd.V_lower (Kd.V_mono (ok' := fun k_ => (w.heap.size ≤ k_)) ho0 (fun k_ hk_ => Or.elim hk_ (fun hs_ => ((HO_5.out).1 k_ hs_.symm)) (fun hn_ => (Nat.le_trans (below_size zq2) hn_)))) (below_size zq2)); have n2_ := Aside0.mk (below_step zq2 hb); clear HO_5; clear HB; have HO_5 := n0_; have HO385 := n1_; have HB := n2_; clear n0_ n1_ n2_; (try clear hb hk hi); (try clear hb2); (try clear ho0))))
    go_ret
    exact ⟨_, zq8, by (with_reducible repeat (first | apply Kd.V_alloc | apply Kd.V_drewN | apply Kd.V_drew)); exact HO385.out, zq2⟩

/-! ### r1_Times: function 81 -/
def r1_Times.f (k : Nat) (a0_0 : Bool) (l0_1 : List Int) (a1_0 : Bool) (l1_1 : List Int) : Option (Bool × List Int) := (r1_times.f k l0_1 l1_1).bind fun t389 => (if (a0_0 != a1_0) = true then (some (decide (0 < t389.length), t389)) else (some (false, t389)))
set_option maxHeartbeats 8000000 in
set_option maxRecDepth 100000 in
theorem r1_Times.calls (k : Nat) (a0_0 : Bool) (A0_1 : Option Addr) (c0_1 : Nat) (l0_1 : List Int) (a1_0 : Bool) (A1_1 : Option Addr) (c1_1 : Nat) (l1_1 : List Int) (r1 : Bool) (r2 : List Int) (w : World) (hr0_1 : Kd.C (Kd.int .u64) w A0_1 l0_1.length l0_1) (hc0_1 : l0_1.length ≤ c0_1) (hr1_1 : Kd.C (Kd.int .u64) w A1_1 l1_1.length l1_1) (hc1_1 : l1_1.length ≤ c1_1) (h : r1_Times.f k a0_0 l0_1 a1_0 l1_1 = some (r1, r2)) :
  Calls Try.prog 81 #[.agg #[.bool a0_0, .slice A0_1 l0_1.length c0_1], .agg #[.bool a1_0, .slice A1_1 l1_1.length c1_1]] w fun e w' => ∃ v1_ : Value, e = .returned (.agg #[.bool r1, v1_]) ∧ Kd.V (Kd.int .u64) 88 w' w.heap.size (fun k_ => (w.heap.size ≤ k_)) v1_ r2 ∧ Below w.heap.size w w' := by
 have hu96 := Try.underlying96
 have HR0_1 := Aside0.mk hr0_1
 have HC0_1 := Aside0.mk hc0_1
 clear hr0_1 hc0_1
 have HR1_1 := Aside0.mk hr1_1
 have HC1_1 := Aside0.mk hc1_1
 clear hr1_1 hc1_1
 have HB := Aside0.mk (Below.refl w.heap.size w)
 have H : ((r1_times.f k l0_1 l1_1).bind fun t389 => (if (a0_0 != a1_0) = true then (some (decide (0 < t389.length), t389)) else (some (false, t389)))) = some (r1, r2) := h
 clear h
 replace H := Option.bind_eq_some_iff.mp H
 obtain ⟨t389, A30, H⟩ := H
 replace H : (if (a0_0 != a1_0) = true then (some (decide (0 < t389.length), t389)) else (some (false, t389))) = some (r1, r2) := H
 have A3 := Aside0.mk A30
 clear A30
 by_cases c4 : (a0_0 != a1_0) = true
 ·rw [if_pos c4] at H
  have c4b0 : (a0_0 != a1_0) = true := c4
  (try (have c4b1 : decide (a0_0 = a1_0) = false := by simpa using c4))
  (try (have c4b2 : (a0_0 == a1_0) = false := by simpa using c4))
  (try (have c4b3 : ¬ (a0_0 = a1_0) := by simpa using c4))
  clear c4
  simp only [Option.some.injEq, Prod.mk.injEq] at H
  obtain ⟨rfl, rfl⟩ := H
  go_enter Try.func81, Try.ntmps81
  go_wp2_with (first | ((with_reducible refine gate_dst (N := 2) rfl ?_); (try (refine gate_guard (by rfl) ?_; dsimp only)); refine box_event ?hg (N := 2) ?hd (cs := #[.bool a0_0, .slice A0_1 l0_1.length c0_1]) (t := 96) ?hr ?_; (case hd => rfl); (case hg => rfl); (case hr => exact zq16); intro gb386 hg w5 hbox hb; have n0_ := Aside0.mk (below_step zq2 hb); have n1_ := Aside0.mk (hbox); have n2_ := Aside0.mk ((by rw [hg]; exact (below_size zq2) : w.heap.size ≤ gb386)); have n3_ := Aside0.mk ((by rw [hg]; exact (below_size zq2) : w.heap.size ≤ gb386)); clear HB; have HB := n0_; have BK386 := n1_; have GW386 := n2_; have GE386 := n3_; clear n0_ n1_ n2_ n3_; clear hb hbox hg) | ((with_reducible refine gate_dst (N := 3) rfl ?_); (try (refine gate_guard (by rfl) ?_; dsimp only)); refine box_event ?hg (N := 3) ?hd (cs := #[.bool a1_0, .slice A1_1 l1_1.length c1_1]) (t := 96) ?hr ?_; (case hd => rfl); (case hg => rfl); (case hr => exact zq16); intro gb387 hg w6 hbox hb; have n0_ := Aside0.mk (blk_below (g := gb386) (o := .cells #[.bool a0_0, .slice A0_1 l0_1.length c0_1] 96 (0, 0)) (bk_ BK386.out) hb); have n1_ := Aside0.mk (below_step zq46 hb); have n2_ := Aside0.mk (hbox); have n3_ := Aside0.mk ((by rw [hg]; exact (below_size zq46) : w.heap.size ≤ gb387)); have n4_ := Aside0.mk ((by rw [hg]; exact (below_size zq46) : w.heap.size ≤ gb387)); have n5_ := Aside0.mk ((by rw [hg]; exact Nat.ne_of_lt (blk_lt (g := gb386) (o := .cells #[.bool a0_0, .slice A0_1 l0_1.length c0_1] 96 (0, 0)) (bk_ BK386.out)) : gb386 ≠ gb387)); have n6_ := Aside0.mk ((by rw [hg]; exact Nat.ne_of_gt (blk_lt (g := gb386) (o := .cells #[.bool a0_0, .slice A0_1 l0_1.length c0_1] 96 (0, 0)) (bk_ BK386.out)) : gb387 ≠ gb386)); clear BK386; clear HB; have BK386 := n0_; have HB := n1_; have BK387 := n2_; have GW387 := n3_; have GE387 := n4_; have NB386_387 := n5_; have NB387_386 := n6_; clear n0_ n1_ n2_ n3_ n4_ n5_ n6_; clear hb hbox hg) | ((with_reducible refine gate_dst (N := 4) rfl ?_); (try (refine gate_guard (by rfl) ?_; dsimp only)); refine box_event ?hg (N := 4) ?hd (cs := #[.bool false, .slice none 0 0]) (t := 96) ?hr ?_; (case hd => rfl); (case hg => rfl); (case hr => exact zq16); intro gb388 hg w7 hbox hb; have n0_ := Aside0.mk (blk_below (g := gb386) (o := .cells #[.bool a0_0, .slice A0_1 l0_1.length c0_1] 96 (0, 0)) (bk_ BK386.out) hb); have n1_ := Aside0.mk (blk_below (g := gb387) (o := .cells #[.bool a1_0, .slice A1_1 l1_1.length c1_1] 96 (0, 0)) (bk_ BK387.out) hb); have n2_ := Aside0.mk (below_step zq43 hb); have n3_ := Aside0.mk (hbox); have n4_ := Aside0.mk ((by rw [hg]; exact (below_size zq43) : w.heap.size ≤ gb388)); have n5_ := Aside0.mk ((by rw [hg]; exact (below_size zq43) : w.heap.size ≤ gb388)); have n6_ := Aside0.mk ((by rw [hg]; exact Nat.ne_of_lt (blk_lt (g := gb386) (o := .cells #[.bool a0_0, .slice A0_1 l0_1.length c0_1] 96 (0, 0)) (bk_ BK386.out)) : gb386 ≠ gb388)); have n7_ := Aside0.mk ((by rw [hg]; exact Nat.ne_of_gt (blk_lt (g := gb386) (o := .cells #[.bool a0_0, .slice A0_1 l0_1.length c0_1] 96 (0, 0)) (bk_ BK386.out)) : gb388 ≠ gb386)); have n8_ := Aside0.mk ((by rw [hg]; exact Nat.ne_of_lt (blk_lt (g := gb387) (o := .cells #[.bool a1_0, .slice A1_1 l1_1.length c1_1] 96 (0, 0)) (bk_ BK387.out)) : gb387 ≠ gb388)); have n9_ := Aside0.mk ((by rw [hg]; exact Nat.ne_of_gt (blk_lt (g := gb387) (o := .cells #[.bool a1_0, .slice A1_1 l1_1.length c1_1] 96 (0, 0)) (bk_ BK387.out)) : gb388 ≠ gb387)); clear BK386; clear BK387; clear HB; have BK386 := n0_; have BK387 := n1_; have HB := n2_; have BK388 := n3_; have GW388 := n4_; have GE388 := n5_; have NB386_388 := n6_; have NB388_386 := n7_; have NB387_388 := n8_; have NB388_387 := n9_; clear n0_ n1_ n2_ n3_ n4_ n5_ n6_ n7_ n8_ n9_; clear hb hbox hg; have hnb8 := NB386_387.out; have hnc8 := NB387_386.out; have hnb9 := NB386_388.out; have hnc9 := NB388_386.out; have hcz10_0 : w7.cell? ⟨gb386, 0, none⟩ = some (.bool a0_0) := (blk_cell BK386.out 0).trans rfl; have hcz10_1 : w7.cell? ⟨gb386, 1, none⟩ = some (.slice A0_1 l0_1.length c0_1) := (blk_cell BK386.out 1).trans rfl; have hfz10_0 := blk_frozen BK386.out 0; have hfz10_1 := blk_frozen BK386.out 1; have hnb11 := NB387_388.out; have hnc11 := NB388_387.out; have hcz12_0 : w7.cell? ⟨gb387, 0, none⟩ = some (.bool a1_0) := (blk_cell BK387.out 0).trans rfl; have hcz12_1 : w7.cell? ⟨gb387, 1, none⟩ = some (.slice A1_1 l1_1.length c1_1) := (blk_cell BK387.out 1).trans rfl; have hfz12_0 := blk_frozen BK387.out 0; have hfz12_1 := blk_frozen BK387.out 1) | ((with_reducible refine gate_callee (f := 86) rfl ?_); refine goesL_ (some 10) rfl rfl Try.func86 (by kernel_rfl) rfl #[.slice A0_1 l0_1.length c0_1, .slice A1_1 l1_1.length c1_1] rfl zq1 ?_; (with_reducible refine (r1_times.calls k _ _ l0_1 _ _ l1_1 t389 _ ?side1 ?side2 ?side3 ?side4 A3.out).mono ?_); (case side1 => exact zq24); (case side2 => exact HC0_1.out); (case side3 => exact zq30); (case side4 => exact HC1_1.out); rintro e w13 ⟨v390, rfl, ho0, hb⟩; refine ⟨_, rfl, ?_⟩; have n0_ := Aside0.mk (Kd.V_lower (Kd.V_mono (ok' := fun k_ => (w.heap.size ≤ k_) ∧ k_ ≠ gb386 ∧ k_ ≠ gb387 ∧ k_ ≠ gb388) ho0 (fun k_ hk_ => ⟨(Nat.le_trans (below_size zq33) hk_), (Kd.freshB (g := gb386) (o := .cells #[.bool a0_0, .slice A0_1 l0_1.length c0_1] 96 (0, 0)) (bk_ BK386.out) k_ hk_), (Kd.freshB (g := gb387) (o := .cells #[.bool a1_0, .slice A1_1 l1_1.length c1_1] 96 (0, 0)) (bk_ BK387.out) k_ hk_), (Kd.freshB (g := gb388) (o := .cells #[.bool false, .slice none 0 0] 96 (0, 0)) (bk_ BK388.out) k_ hk_)⟩)) (below_size zq33)); have n1_ := Aside0.mk (blk_below (g := gb386) (o := .cells #[.bool a0_0, .slice A0_1 l0_1.length c0_1] 96 (0, 0)) (bk_ BK386.out) hb); have n2_ := Aside0.mk (blk_below (g := gb387) (o := .cells #[.bool a1_0, .slice A1_1 l1_1.length c1_1] 96 (0, 0)) (bk_ BK387.out) hb); have n3_ := Aside0.mk (blk_below (g := gb388) (o := .cells #[.bool false, .slice none 0 0] 96 (0, 0)) (bk_ BK388.out) hb); have n4_ := Aside0.mk (below_step zq33 hb); clear BK386; clear BK387; clear BK388; clear HB; have HO391 := n0_; have BK386 := n1_; have BK387 := n2_; have BK388 := n3_; have HB := n4_; clear n0_ n1_ n2_ n3_ n4_; (try clear hb hk hi); (try clear hb2); (try clear ho0); have hcz14_0 : w13.cell? ⟨gb386, 0, none⟩ = some (.bool a0_0) := (blk_cell BK386.out 0).trans rfl; have hcz14_1 : w13.cell? ⟨gb386, 1, none⟩ = some (.slice A0_1 l0_1.length c0_1) := (blk_cell BK386.out 1).trans rfl; have hfz14_0 := blk_frozen BK386.out 0; have hfz14_1 := blk_frozen BK386.out 1; have hcz15_0 : w13.cell? ⟨gb387, 0, none⟩ = some (.bool a1_0) := (blk_cell BK387.out 0).trans rfl; have hcz15_1 : w13.cell? ⟨gb387, 1, none⟩ = some (.slice A1_1 l1_1.length c1_1) := (blk_cell BK387.out 1).trans rfl; have hfz15_0 := blk_frozen BK387.out 0; have hfz15_1 := blk_frozen BK387.out 1; obtain ⟨Ao16, co16, eo16⟩ := Kd.V_slice HO391.out; subst eo16; have hcz17_0 : w13.cell? ⟨gb388, 0, none⟩ = some (.bool false) := (blk_cell BK388.out 0).trans rfl; have hcz17_1 : w13.cell? ⟨gb388, 1, none⟩ = some (.slice none 0 0) := (blk_cell BK388.out 1).trans rfl; have hfz17_0 := blk_frozen BK388.out 0; have hfz17_1 := blk_frozen BK388.out 1))
  refine bodyPost_ret (results_cell_row rfl _ _ gb388 96 #[.bool (decide (0 < t389.length)), .slice Ao16 t389.length co16] (0, 0) _ rfl (by (with_reducible repeat (first | refine blk_drewN ?_ _ | refine blk_drew ?_ | refine blk_alloc ?_ _)); refine blk_put (cs := #[.bool (decide (0 < t389.length)), .slice none 0 0]) ?_ 1 _ rfl; (with_reducible repeat (first | refine blk_drewN ?_ _ | refine blk_drew ?_ | refine blk_alloc ?_ _)); refine blk_put (cs := #[.bool false, .slice none 0 0]) ?_ 0 _ rfl; (with_reducible repeat (first | refine blk_drewN ?_ _ | refine blk_drew ?_ | refine blk_alloc ?_ _)); exact BK388.out) Try.underlying96 rfl (by kernel_rfl)) rfl ?_
  exact ⟨_, zq8, by (with_reducible repeat (first | apply Kd.V_alloc | apply Kd.V_drewN | apply Kd.V_drew)); exact Kd.V_mono (Kd.V_far (p := ⟨gb388, 1, none⟩) (Kd.V_far (p := ⟨gb388, 0, none⟩) (Kd.V_mono HO391.out (fun k_ hk => (⟨hk, hk.2.2.2⟩ : _ ∧ k_ ≠ gb388))) (fun _ hk => hk.2) (.bool (decide (0 < t389.length)))) (fun _ hk => hk.2) (.slice Ao16 t389.length co16)) (fun _ hk => hk.1.1), zq33⟩
 ·rw [if_neg c4] at H
  have c4b0 : (a0_0 != a1_0) = false := by simpa using c4
  (try (have c4b1 : decide (a0_0 = a1_0) = true := by simpa using c4))
  (try (have c4b2 : (a0_0 == a1_0) = true := by simpa using c4))
  clear c4
  simp only [Option.some.injEq, Prod.mk.injEq] at H
  obtain ⟨rfl, rfl⟩ := H
  go_enter Try.func81, Try.ntmps81
  go_wp2_with (first | ((with_reducible refine gate_dst (N := 2) rfl ?_); (try (refine gate_guard (by rfl) ?_; dsimp only)); refine box_event ?hg (N := 2) ?hd (cs := #[.bool a0_0, .slice A0_1 l0_1.length c0_1]) (t := 96) ?hr ?_; (case hd => rfl); (case hg => rfl); (case hr => exact zq16); intro gb386 hg w18 hbox hb; have n0_ := Aside0.mk (below_step zq2 hb); have n1_ := Aside0.mk (hbox); have n2_ := Aside0.mk ((by rw [hg]; exact (below_size zq2) : w.heap.size ≤ gb386)); have n3_ := Aside0.mk ((by rw [hg]; exact (below_size zq2) : w.heap.size ≤ gb386)); clear HB; have HB := n0_; have BK386 := n1_; have GW386 := n2_; have GE386 := n3_; clear n0_ n1_ n2_ n3_; clear hb hbox hg) | ((with_reducible refine gate_dst (N := 3) rfl ?_); (try (refine gate_guard (by rfl) ?_; dsimp only)); refine box_event ?hg (N := 3) ?hd (cs := #[.bool a1_0, .slice A1_1 l1_1.length c1_1]) (t := 96) ?hr ?_; (case hd => rfl); (case hg => rfl); (case hr => exact zq16); intro gb387 hg w19 hbox hb; have n0_ := Aside0.mk (blk_below (g := gb386) (o := .cells #[.bool a0_0, .slice A0_1 l0_1.length c0_1] 96 (0, 0)) (bk_ BK386.out) hb); have n1_ := Aside0.mk (below_step zq46 hb); have n2_ := Aside0.mk (hbox); have n3_ := Aside0.mk ((by rw [hg]; exact (below_size zq46) : w.heap.size ≤ gb387)); have n4_ := Aside0.mk ((by rw [hg]; exact (below_size zq46) : w.heap.size ≤ gb387)); have n5_ := Aside0.mk ((by rw [hg]; exact Nat.ne_of_lt (blk_lt (g := gb386) (o := .cells #[.bool a0_0, .slice A0_1 l0_1.length c0_1] 96 (0, 0)) (bk_ BK386.out)) : gb386 ≠ gb387)); have n6_ := Aside0.mk ((by rw [hg]; exact Nat.ne_of_gt (blk_lt (g := gb386) (o := .cells #[.bool a0_0, .slice A0_1 l0_1.length c0_1] 96 (0, 0)) (bk_ BK386.out)) : gb387 ≠ gb386)); clear BK386; clear HB; have BK386 := n0_; have HB := n1_; have BK387 := n2_; have GW387 := n3_; have GE387 := n4_; have NB386_387 := n5_; have NB387_386 := n6_; clear n0_ n1_ n2_ n3_ n4_ n5_ n6_; clear hb hbox hg) | ((with_reducible refine gate_dst (N := 4) rfl ?_); (try (refine gate_guard (by rfl) ?_; dsimp only)); refine box_event ?hg (N := 4) ?hd (cs := #[.bool false, .slice none 0 0]) (t := 96) ?hr ?_; (case hd => rfl); (case hg => rfl); (case hr => exact zq16); intro gb388 hg w20 hbox hb; have n0_ := Aside0.mk (blk_below (g := gb386) (o := .cells #[.bool a0_0, .slice A0_1 l0_1.length c0_1] 96 (0, 0)) (bk_ BK386.out) hb); have n1_ := Aside0.mk (blk_below (g := gb387) (o := .cells #[.bool a1_0, .slice A1_1 l1_1.length c1_1] 96 (0, 0)) (bk_ BK387.out) hb); have n2_ := Aside0.mk (below_step zq43 hb); have n3_ := Aside0.mk (hbox); have n4_ := Aside0.mk ((by rw [hg]; exact (below_size zq43) : w.heap.size ≤ gb388)); have n5_ := Aside0.mk ((by rw [hg]; exact (below_size zq43) : w.heap.size ≤ gb388)); have n6_ := Aside0.mk ((by rw [hg]; exact Nat.ne_of_lt (blk_lt (g := gb386) (o := .cells #[.bool a0_0, .slice A0_1 l0_1.length c0_1] 96 (0, 0)) (bk_ BK386.out)) : gb386 ≠ gb388)); have n7_ := Aside0.mk ((by rw [hg]; exact Nat.ne_of_gt (blk_lt (g := gb386) (o := .cells #[.bool a0_0, .slice A0_1 l0_1.length c0_1] 96 (0, 0)) (bk_ BK386.out)) : gb388 ≠ gb386)); have n8_ := Aside0.mk ((by rw [hg]; exact Nat.ne_of_lt (blk_lt (g := gb387) (o := .cells #[.bool a1_0, .slice A1_1 l1_1.length c1_1] 96 (0, 0)) (bk_ BK387.out)) : gb387 ≠ gb388)); have n9_ := Aside0.mk ((by rw [hg]; exact Nat.ne_of_gt (blk_lt (g := gb387) (o := .cells #[.bool a1_0, .slice A1_1 l1_1.length c1_1] 96 (0, 0)) (bk_ BK387.out)) : gb388 ≠ gb387)); clear BK386; clear BK387; clear HB; have BK386 := n0_; have BK387 := n1_; have HB := n2_; have BK388 := n3_; have GW388 := n4_; have GE388 := n5_; have NB386_388 := n6_; have NB388_386 := n7_; have NB387_388 := n8_; have NB388_387 := n9_; clear n0_ n1_ n2_ n3_ n4_ n5_ n6_ n7_ n8_ n9_; clear hb hbox hg; have hnb21 := NB386_387.out; have hnc21 := NB387_386.out; have hnb22 := NB386_388.out; have hnc22 := NB388_386.out; have hcz23_0 : w20.cell? ⟨gb386, 0, none⟩ = some (.bool a0_0) := (blk_cell BK386.out 0).trans rfl; have hcz23_1 : w20.cell? ⟨gb386, 1, none⟩ = some (.slice A0_1 l0_1.length c0_1) := (blk_cell BK386.out 1).trans rfl; have hfz23_0 := blk_frozen BK386.out 0; have hfz23_1 := blk_frozen BK386.out 1; have hnb24 := NB387_388.out; have hnc24 := NB388_387.out; have hcz25_0 : w20.cell? ⟨gb387, 0, none⟩ = some (.bool a1_0) := (blk_cell BK387.out 0).trans rfl; have hcz25_1 : w20.cell? ⟨gb387, 1, none⟩ = some (.slice A1_1 l1_1.length c1_1) := (blk_cell BK387.out 1).trans rfl; have hfz25_0 := blk_frozen BK387.out 0; have hfz25_1 := blk_frozen BK387.out 1) | ((with_reducible refine gate_callee (f := 86) rfl ?_); refine goesL_ (some 10) rfl rfl Try.func86 (by kernel_rfl) rfl #[.slice A0_1 l0_1.length c0_1, .slice A1_1 l1_1.length c1_1] rfl zq1 ?_; (with_reducible refine (r1_times.calls k _ _ l0_1 _ _ l1_1 t389 _ ?side1 ?side2 ?side3 ?side4 A3.out).mono ?_); (case side1 => exact zq24); (case side2 => exact HC0_1.out); (case side3 => exact zq30); (case side4 => exact HC1_1.out); rintro e w26 ⟨v390, rfl, ho0, hb⟩; refine ⟨_, rfl, ?_⟩; have n0_ := Aside0.mk (Kd.V_lower (Kd.V_mono (ok' := fun k_ => (w.heap.size ≤ k_) ∧ k_ ≠ gb386 ∧ k_ ≠ gb387 ∧ k_ ≠ gb388) ho0 (fun k_ hk_ => ⟨(Nat.le_trans (below_size zq33) hk_), (Kd.freshB (g := gb386) (o := .cells #[.bool a0_0, .slice A0_1 l0_1.length c0_1] 96 (0, 0)) (bk_ BK386.out) k_ hk_), (Kd.freshB (g := gb387) (o := .cells #[.bool a1_0, .slice A1_1 l1_1.length c1_1] 96 (0, 0)) (bk_ BK387.out) k_ hk_), (Kd.freshB (g := gb388) (o := .cells #[.bool false, .slice none 0 0] 96 (0, 0)) (bk_ BK388.out) k_ hk_)⟩)) (below_size zq33)); have n1_ := Aside0.mk (blk_below (g := gb386) (o := .cells #[.bool a0_0, .slice A0_1 l0_1.length c0_1] 96 (0, 0)) (bk_ BK386.out) hb); have n2_ := Aside0.mk (blk_below (g := gb387) (o := .cells #[.bool a1_0, .slice A1_1 l1_1.length c1_1] 96 (0, 0)) (bk_ BK387.out) hb); have n3_ := Aside0.mk (blk_below (g := gb388) (o := .cells #[.bool false, .slice none 0 0] 96 (0, 0)) (bk_ BK388.out) hb); have n4_ := Aside0.mk (below_step zq33 hb); clear BK386; clear BK387; clear BK388; clear HB; have HO391 := n0_; have BK386 := n1_; have BK387 := n2_; have BK388 := n3_; have HB := n4_; clear n0_ n1_ n2_ n3_ n4_; (try clear hb hk hi); (try clear hb2); (try clear ho0); have hcz27_0 : w26.cell? ⟨gb386, 0, none⟩ = some (.bool a0_0) := (blk_cell BK386.out 0).trans rfl; have hcz27_1 : w26.cell? ⟨gb386, 1, none⟩ = some (.slice A0_1 l0_1.length c0_1) := (blk_cell BK386.out 1).trans rfl; have hfz27_0 := blk_frozen BK386.out 0; have hfz27_1 := blk_frozen BK386.out 1; have hcz28_0 : w26.cell? ⟨gb387, 0, none⟩ = some (.bool a1_0) := (blk_cell BK387.out 0).trans rfl; have hcz28_1 : w26.cell? ⟨gb387, 1, none⟩ = some (.slice A1_1 l1_1.length c1_1) := (blk_cell BK387.out 1).trans rfl; have hfz28_0 := blk_frozen BK387.out 0; have hfz28_1 := blk_frozen BK387.out 1; obtain ⟨Ao29, co29, eo29⟩ := Kd.V_slice HO391.out; subst eo29; have hcz30_0 : w26.cell? ⟨gb388, 0, none⟩ = some (.bool false) := (blk_cell BK388.out 0).trans rfl; have hcz30_1 : w26.cell? ⟨gb388, 1, none⟩ = some (.slice none 0 0) := (blk_cell BK388.out 1).trans rfl; have hfz30_0 := blk_frozen BK388.out 0; have hfz30_1 := blk_frozen BK388.out 1))
  refine bodyPost_ret (results_cell_row rfl _ _ gb388 96 #[.bool false, .slice Ao29 t389.length co29] (0, 0) _ rfl (by (with_reducible repeat (first | refine blk_drewN ?_ _ | refine blk_drew ?_ | refine blk_alloc ?_ _)); refine blk_put (cs := #[.bool false, .slice none 0 0]) ?_ 1 _ rfl; (with_reducible repeat (first | refine blk_drewN ?_ _ | refine blk_drew ?_ | refine blk_alloc ?_ _)); refine blk_put (cs := #[.bool false, .slice none 0 0]) ?_ 0 _ rfl; (with_reducible repeat (first | refine blk_drewN ?_ _ | refine blk_drew ?_ | refine blk_alloc ?_ _)); exact BK388.out) Try.underlying96 rfl (by kernel_rfl)) rfl ?_
  exact ⟨_, zq8, by (with_reducible repeat (first | apply Kd.V_alloc | apply Kd.V_drewN | apply Kd.V_drew)); exact Kd.V_mono (Kd.V_far (p := ⟨gb388, 1, none⟩) (Kd.V_far (p := ⟨gb388, 0, none⟩) (Kd.V_mono HO391.out (fun k_ hk => (⟨hk, hk.2.2.2⟩ : _ ∧ k_ ≠ gb388))) (fun _ hk => hk.2) (.bool false)) (fun _ hk => hk.2) (.slice Ao29 t389.length co29)) (fun _ hk => hk.1.1), zq33⟩

/-! ### r2_Big: function 72 -/
def r2_Big.l0 : Nat → ByteArray → Int → Bool → List Int → Option (Bool × List Int)
 | 0, _, _, _, _ => none
 | k + 1, x0, x4, x398000, x398001 => if x4 < (x0.size : Int) then ((r1_Of.f k 10).bind fun bt398 => ((r1_Times.f k x398000 x398001 bt398.1 bt398.2).bind fun bt402 => (if 0 ≤ x4 then ((r1_Of.f k (((bt x0 x4) - 48) % 256)).bind fun bt406 => ((r1_Plus.f k bt402.1 bt402.2 bt406.1 bt406.2).bind fun bt410 => (r2_Big.l0 k x0 (wrap64 (x4 + 1)) bt410.1 bt410.2))) else (none)))) else (some (x398000, x398001))
def r2_Big.f (k : Nat) (a0 : ByteArray) : Option (Bool × List Int) := (r1_Of.f k 0).bind fun bt393 => (r2_Big.l0 k a0 0 bt393.1 bt393.2)
def r2_Big.T5 : Bool × List (List Nat × List Nat) := (true, [([], []), ([], []), ([0, 1, 1], [0, 1]), ([], []), ([], []), ([3, 4], [3, 4]), ([5], [5]), ([6], [6]), ([7, 2], [7]), ([2, 8, 8], [2, 8]), ([9, 9, 0, 1, 2, 3, 4, 5, 6, 7, 8, 9], [9])])
def r2_Big.B5 : List Nat := [0, 0, 3, 0, 0, 24, 56, 120, 255, 511, 1023]
theorem r2_Big.tab5 : rtab .any (opsOf Try.f72 5) = r2_Big.T5 := by kernel_rfl
theorem r2_Big.bits5 : waitsOk r2_Big.T5.2 r2_Big.B5 = true := by kernel_rfl
set_option maxHeartbeats 8000000 in
set_option maxRecDepth 100000 in
theorem r2_Big.calls (k : Nat) (a0 : ByteArray) (r1 : Bool) (r2 : List Int) (w : World) (h : r2_Big.f k a0 = some (r1, r2)) :
  Calls Try.prog 72 #[.string a0] w fun e w' => ∃ v1_ : Value, e = .returned (.agg #[.bool r1, v1_]) ∧ Kd.V (Kd.int .u64) 88 w' w.heap.size (fun k_ => (w.heap.size ≤ k_)) v1_ r2 ∧ Below w.heap.size w w' := by
 have hu96 := Try.underlying96
 have HB := Aside0.mk (Below.refl w.heap.size w)
 have H : ((r1_Of.f k 0).bind fun bt393 => (r2_Big.l0 k a0 0 bt393.1 bt393.2)) = some (r1, r2) := h
 clear h
 replace H := Option.bind_eq_some_iff.mp H
 obtain ⟨⟨t393, t394⟩, A20, H⟩ := H
 replace H : (r2_Big.l0 k a0 0 t393 t394) = some (r1, r2) := H
 have A2 := Aside0.mk A20
 clear A20
 have H' := Aside0.mk H
 clear H
 go_enter Try.func72, Try.ntmps72
 go_wp2_with (first | ((with_reducible refine gate_dst (N := 2) rfl ?_); refine box_event ?hg (N := 2) ?hd (cs := #[.bool false, .slice none 0 0]) (t := 96) ?hr ?_; (case hd => rfl); (case hg => rfl); (case hr => exact zq16); intro gb392 hg w3 hbox hb; have n0_ := Aside0.mk (below_step zq2 hb); have n1_ := Aside0.mk (hbox); have n2_ := Aside0.mk ((by rw [hg]; exact (below_size zq2) : w.heap.size ≤ gb392)); have n3_ := Aside0.mk ((by rw [hg]; exact (below_size zq2) : w.heap.size ≤ gb392)); clear HB; have HB := n0_; have BK392 := n1_; have GW392 := n2_; have GE392 := n3_; clear n0_ n1_ n2_ n3_; clear hb hbox hg) | ((with_reducible refine gate_callee (f := 78) rfl ?_); refine goesL_ (some 5) rfl rfl Try.func78 (by kernel_rfl) rfl #[.int .i64 0] rfl zq1 ?_; (with_reducible refine (r1_Of.calls k 0 t393 t394 _ A2.out).mono ?_); rintro e w4 ⟨v395, rfl, ho0, hb⟩; refine ⟨_, rfl, ?_⟩; have n0_ := Aside0.mk (Kd.R_lower (Kd.R_newM (M := fun k_ => (w.heap.size ≤ k_)) ho0 (below_size zq47) (fun k_ h_ => h_)) (below_size zq47)); have n1_ := Aside0.mk (blk_below (g := gb392) (o := .cells #[.bool false, .slice none 0 0] 96 (0, 0)) (bk_ BK392.out) hb); have n2_ := Aside0.mk (below_step zq47 hb); clear BK392; clear HB; have HO396 := n0_; have BK392 := n1_; have HB := n2_; clear n0_ n1_ n2_; (try clear hb hk hi); (try clear hb2); (try clear ho0)) | ((with_reducible refine gate_dst (N := 3) rfl ?_); refine box_event ?hg (N := 3) ?hd (cs := #[.bool false, .slice none 0 0]) (t := 96) ?hr ?_; (case hd => rfl); (case hg => rfl); (case hr => exact zq16); intro gb397 hg w5 hbox hb; have n0_ := Aside0.mk (Kd.R_below (by (with_reducible repeat (first | apply Kd.R_alloc | apply Kd.R_drewN | apply Kd.R_drew)); exact HO396.out) hb); have n1_ := Aside0.mk (blk_below (g := gb392) (o := .cells #[.bool false, .slice none 0 0] 96 (0, 0)) (bk_ BK392.out) hb); have n2_ := Aside0.mk (below_step zq47 hb); have n3_ := Aside0.mk (hbox); have n4_ := Aside0.mk ((by rw [hg]; exact (below_size zq47) : w.heap.size ≤ gb397)); have n5_ := Aside0.mk ((by rw [hg]; exact (below_size zq47) : w.heap.size ≤ gb397)); have n6_ := Aside0.mk ((by rw [hg]; exact Nat.ne_of_lt (blk_lt (g := gb392) (o := .cells #[.bool false, .slice none 0 0] 96 (0, 0)) (bk_ BK392.out)) : gb392 ≠ gb397)); have n7_ := Aside0.mk ((by rw [hg]; exact Nat.ne_of_gt (blk_lt (g := gb392) (o := .cells #[.bool false, .slice none 0 0] 96 (0, 0)) (bk_ BK392.out)) : gb397 ≠ gb392)); clear HO396; clear BK392; clear HB; have HO396 := n0_; have BK392 := n1_; have HB := n2_; have BK397 := n3_; have GW397 := n4_; have GE397 := n5_; have NB392_397 := n6_; have NB397_392 := n7_; clear n0_ n1_ n2_ n3_ n4_ n5_ n6_ n7_; clear hb hbox hg; have hnb6 := NB397_392.out; have hnc6 := NB392_397.out; have hcz7_0 : w5.cell? ⟨gb397, 0, none⟩ = some (.bool false) := (blk_cell BK397.out 0).trans rfl; have hcz7_1 : w5.cell? ⟨gb397, 1, none⟩ = some (.slice none 0 0) := (blk_cell BK397.out 1).trans rfl; have hfz7_0 := blk_frozen BK397.out 0; have hfz7_1 := blk_frozen BK397.out 1; obtain ⟨Ao8, co8, eo8⟩ := Kd.R_slice HO396.out; subst eo8))
 try simp only [Act.put, sl_]
 go_loopg [4] k (fun kq v4 w' => ∃ (x4_1 : Int) (x398000_1 : Bool) (x398001_1 : List Int) (u398001 : Value), v4 = .int .i64 x4_1 ∧ Aside0 (r2_Big.l0 kq a0 x4_1 x398000_1 x398001_1 = some (r1, r2)) ∧ Aside0 (kq ≤ k) ∧ Aside0 (Kd.V (Kd.int .u64) 88 w' w.heap.size (fun k_ => (w.heap.size ≤ k_) ∧ k_ ≠ gb392 ∧ k_ ≠ gb397) u398001 x398001_1) ∧ Aside0 (w'.heap[gb392]? = some (.cells #[.bool false, (.slice none 0 0)] 96 (0, 0))) ∧ Aside0 (w'.heap[gb397]? = some (.cells #[.bool x398000_1, u398001] 96 (0, 0))) ∧ Aside0 (Below w.heap.size w w'))
 case atStart => exact ⟨(0), (t393), (t394), (.slice Ao8 t394.length co8), zq9, H', ⟨Nat.le_refl _⟩, ⟨Kd.R_V (by (with_reducible repeat (first | apply Kd.R_alloc | apply Kd.R_drewN | apply Kd.R_drew)); exact Kd.R_mono (Kd.R_far (p := ⟨gb397, 1, none⟩) (Kd.R_far (p := ⟨gb397, 0, none⟩) (Kd.R_types (Kd.R_types (Kd.R_types HO396.out BK392.out (by decide)) BK397.out (by decide)) BK397.out (by decide)) (fun _ hk => hk.2) (.bool t393)) (fun _ hk => hk.2) (.slice Ao8 t394.length co8)) (fun _ hk => ⟨hk.1.1.1.1, ⟨hk.1.1.2, hk.1.2⟩⟩))⟩, ⟨zq75⟩, ⟨by (with_reducible repeat (first | refine blk_drewN ?_ _ | refine blk_drew ?_ | refine blk_alloc ?_ _)); refine blk_put (cs := #[.bool t393, .slice none 0 0]) ?_ 1 _ rfl; (with_reducible repeat (first | refine blk_drewN ?_ _ | refine blk_drew ?_ | refine blk_alloc ?_ _)); refine blk_put (cs := #[.bool false, .slice none 0 0]) ?_ 0 _ rfl; (with_reducible repeat (first | refine blk_drewN ?_ _ | refine blk_drew ?_ | refine blk_alloc ?_ _)); exact BK397.out⟩, ⟨zq15⟩⟩
 case round =>
  clear H'
  try clear p2
  try clear c6
  try clear p6
  try clear c7
  try clear hcz7_0
  try clear hcz7_1
  try clear hfz7_0
  try clear hfz7_1
  obtain ⟨x4_1, x398000_1, x398001_1, u398001, rfl, HA, HK1, HO_398001, BK392, BK397, HB⟩ := hrel
  cases gk with
  | zero => exact absurd HA.out (by simp [r2_Big.l0])
  | succ k1 =>
   have H := HA.out
   clear HA
   simp only [r2_Big.l0] at H
   by_cases c9 : x4_1 < (a0.size : Int)
   ·rw [if_pos c9] at H
    have c9b0 : decide (x4_1 < (a0.size : Int)) = true := decide_eq_true c9
    clear c9
    replace H := Option.bind_eq_some_iff.mp H
    obtain ⟨⟨t398, t399⟩, A100, H⟩ := H
    replace H : ((r1_Times.f k1 x398000_1 x398001_1 t398 t399).bind fun bt402 => (if 0 ≤ x4_1 then ((r1_Of.f k1 (((bt a0 x4_1) - 48) % 256)).bind fun bt406 => ((r1_Plus.f k1 bt402.1 bt402.2 bt406.1 bt406.2).bind fun bt410 => (r2_Big.l0 k1 a0 (wrap64 (x4_1 + 1)) bt410.1 bt410.2))) else (none))) = some (r1, r2) := H
    have A10 := Aside0.mk A100
    clear A100
    replace H := Option.bind_eq_some_iff.mp H
    obtain ⟨⟨t402, t403⟩, A110, H⟩ := H
    replace H : (if 0 ≤ x4_1 then ((r1_Of.f k1 (((bt a0 x4_1) - 48) % 256)).bind fun bt406 => ((r1_Plus.f k1 t402 t403 bt406.1 bt406.2).bind fun bt410 => (r2_Big.l0 k1 a0 (wrap64 (x4_1 + 1)) bt410.1 bt410.2))) else (none)) = some (r1, r2) := H
    have A11 := Aside0.mk A110
    clear A110
    by_cases c12 : 0 ≤ x4_1
    ·rw [if_pos c12] at H
     have c12b0 : decide (0 ≤ x4_1) = true := decide_eq_true c12
     clear c12
     replace H := Option.bind_eq_some_iff.mp H
     obtain ⟨⟨t406, t407⟩, A140, H⟩ := H
     replace H : ((r1_Plus.f k1 t402 t403 t406 t407).bind fun bt410 => (r2_Big.l0 k1 a0 (wrap64 (x4_1 + 1)) bt410.1 bt410.2)) = some (r1, r2) := H
     have A14 := Aside0.mk A140
     clear A140
     replace H := Option.bind_eq_some_iff.mp H
     obtain ⟨⟨t410, t411⟩, A150, H⟩ := H
     replace H : (r2_Big.l0 k1 a0 (wrap64 (x4_1 + 1)) t410 t411) = some (r1, r2) := H
     have A15 := Aside0.mk A150
     clear A150
     have H' := Aside0.mk H
     clear H
     try go_wp2
     have n0_ := Aside0.mk (Kd.V_drew HO_398001.out)
     have n1_ := Aside0.mk (blk_drew BK392.out)
     have n2_ := Aside0.mk (blk_drew BK397.out)
     have n3_ := Aside0.mk (below_drew1 HB.out)
     clear HO_398001
     clear BK392
     clear BK397
     clear HB
     have HO_398001 := n0_
     have BK392 := n1_
     have BK397 := n2_
     have HB := n3_
     clear n0_ n1_ n2_ n3_
     have p13 : 0 ≤ (x4_1 : Int) := of_decide_eq_true zq10
     have q13 : x4_1 < (a0.size : Int) := of_decide_eq_true zq10
     have hx13 := bt_at a0 x4_1
     replace p13 := eq_true p13
     replace q13 := eq_true q13
     refine start_ (n := 11) (S := fun w' => w'.cell? ⟨gb397, 0, none⟩ = some (.bool x398000_1) ∧ w'.cell? ⟨gb397, 1, none⟩ = some (u398001)) (ds := [10]) #[false, false, false, false, false, false, false, false, false, false, false] (by kernel_rfl) rfl rfl ⟨(blk_cell BK397.out 0).trans rfl, (blk_cell BK397.out 1).trans rfl⟩ (fun hHeld => ?_); refine with_tabW r2_Big.tab5 r2_Big.bits5 (fun HT_ HW_ => ?_)
     generalize wr.drew = w16 at HO_398001 BK392 BK397 HB hHeld ⊢
     refine pure_ (i := 3) (N := some 15) (v := ?_) (a' := ?_) #[false, false, false, true, false, false, false, false, false, false, false] rfl rfl (any_of HT_.out (by kernel_rfl)) (fun _ _ _ h => h) (Or.inl ⟨by rfl, ?_⟩) ?_ ?_
     rotate_left
     ·intro w'
      go_simp
      with_reducible rfl
     rotate_left
     ·simp only [Act.put, sl_, i64_w, i32_w]
      rfl
     refine pure_ (i := 4) (N := some 16) (v := ?_) (a' := ?_) #[false, false, false, true, true, false, false, false, false, false, false] rfl rfl (any_of HT_.out (by kernel_rfl)) (fun _ _ _ h => h) (Or.inl ⟨by rfl, ?_⟩) ?_ ?_
     rotate_left
     ·intro w'
      go_simp
      with_reducible rfl
     rotate_left
     ·simp only [Act.put, sl_, i64_w, i32_w]
      rfl
     refine take_ (i := 0) (N := some 12) (v := ?_) (a' := ?_) #[true, false, false, true, true, false, false, false, false, false, false] rfl rfl (take_ofW HT_.out HW_.out (by kernel_rfl)) (fun _ _ _ h => h) (Or.inl ⟨by rfl, ?_⟩) hHeld ?_ ?_
     rotate_left
     ·rintro w' ⟨s0, s1⟩
      go_simp
      with_reducible rfl
     rotate_left
     ·simp only [Act.put, sl_, i64_w, i32_w]
      rfl
     refine take_ (i := 5) (N := some 17) (v := ?_) (a' := ?_) #[true, false, false, true, true, true, false, false, false, false, false] rfl rfl (take_ofW HT_.out HW_.out (by kernel_rfl)) (fun _ _ _ h => h) (Or.inl ⟨by rfl, ?_⟩) hHeld ?_ ?_
     rotate_left
     ·rintro w' ⟨s0, s1⟩
      go_simp
      with_reducible rfl
     rotate_left
     ·simp only [Act.put, sl_, i64_w, i32_w]
      rfl
     refine pure_ (i := 6) (N := some 18) (v := ?_) (a' := ?_) #[true, false, false, true, true, true, true, false, false, false, false] rfl rfl (any_of HT_.out (by kernel_rfl)) (fun _ _ _ h => h) (Or.inl ⟨by rfl, ?_⟩) ?_ ?_
     rotate_left
     ·intro w'
      go_simp
      with_reducible rfl
     rotate_left
     ·simp only [Act.put, sl_, i64_w, i32_w]
      rfl
     refine pure_ (i := 7) (N := some 19) (v := ?_) (a' := ?_) #[true, false, false, true, true, true, true, true, false, false, false] rfl rfl (any_of HT_.out (by kernel_rfl)) (fun _ _ _ h => h) (Or.inl ⟨by rfl, ?_⟩) ?_ ?_
     rotate_left
     ·intro w'
      go_simp
      with_reducible rfl
     rotate_left
     ·simp only [Act.put, sl_, i64_w, i32_w]
      rfl
     refine one_ (i := 1) (N := some 13) #[true, true, false, true, true, true, true, true, false, false, false] rfl rfl (one_of HT_.out (by kernel_rfl)) (by decide) (fun K hK => ?_)
     refine goes_ Try.func78 (by kernel_rfl) rfl #[.int .i64 10] (by rfl) rfl rfl zq1 ?_
     with_reducible refine (r1_Of.calls k1 10 t398 t399 _ A10.out).mono ?_
     rintro e w17 ⟨v400, rfl, ho0, hb⟩
     refine ⟨_, rfl, ?_⟩
     have n0_ := Aside0.mk (Kd.V_elder' zq86 (Kd.R_base ho0) hb)
     have n1_ := Aside0.mk (Kd.R_lower (Kd.R_newM (M := fun k_ => (w.heap.size ≤ k_)) ho0 (below_size zq15) (fun k_ h_ => h_)) (below_size zq15))
     have n2_ := Aside0.mk (blk_below (g := gb392) (o := .cells #[.bool false, .slice none 0 0] 96 (0, 0)) (bk_ BK392.out) hb)
     have n3_ := Aside0.mk (blk_below (g := gb397) (o := .cells #[.bool x398000_1, u398001] 96 (0, 0)) (bk_ BK397.out) hb)
     have n4_ := Aside0.mk (below_step zq15 hb)
     clear HO_398001
     clear BK392
     clear BK397
     clear HB
     have HO_398001 := n0_
     have HO401 := n1_
     have BK392 := n2_
     have BK397 := n3_
     have HB := n4_
     clear n0_ n1_ n2_ n3_ n4_
     (try clear hb)
     (try clear hb2)
     (try clear hk)
     (try clear hi)
     (try clear ho0)
     obtain ⟨Ao18, co18, eo18⟩ := Kd.V_slice HO_398001.out
     (first | subst eo18 | (injection eo18 with f1_ f2_ f3_; have f4_ := f1_.symm; have f5_ := f3_.symm; clear f1_ f2_ f3_; subst f4_; subst f5_))
     obtain ⟨Ao19, co19, eo19⟩ := Kd.R_slice HO401.out
     (first | subst eo19 | (injection eo19 with f1_ f2_ f3_; have f4_ := f1_.symm; have f5_ := f3_.symm; clear f1_ f2_ f3_; subst f4_; subst f5_))
     refine hK.out _ _ ⟨(blk_cell BK397.out 0).trans rfl, (blk_cell BK397.out 1).trans rfl⟩ (fun hHeld => ?_)
     clear hK K
     refine norm_ (a' := ?_) ?_ ?_
     rotate_left
     ·show Act.put _ (some 13) _ = _
      simp only [Act.put, sl_, i64_w, i32_w]
      rfl
     refine one_ (i := 2) (N := some 14) #[true, true, true, true, true, true, true, true, false, false, false] rfl rfl (one_of HT_.out (by kernel_rfl)) (by decide) (fun K hK => ?_)
     refine goes_ Try.func81 (by kernel_rfl) rfl #[.agg #[.bool x398000_1, .slice Ao18 x398001_1.length co18], .agg #[.bool t398, .slice Ao19 t399.length co19]] (by rfl) rfl rfl zq1 ?_
     with_reducible refine (r1_Times.calls k1 x398000_1 _ _ x398001_1 t398 _ _ t399 t402 t403 _ ?side1 ?side2 ?side3 ?side4 A11.out).mono ?_
     (case side1 => repeat (first | exact (Kd.V_reads' HO_398001.out).2.2 | (with_reducible refine Kd.C_alloc ?_ _) | (with_reducible refine Kd.C_drewN ?_ _) | (with_reducible refine Kd.C_drew ?_)))
     (case side2 => exact (Kd.V_reads' HO_398001.out).2.1)
     (case side3 => repeat (first | exact (Kd.R_reads' HO401.out).2.2 | (with_reducible refine Kd.C_alloc ?_ _) | (with_reducible refine Kd.C_drewN ?_ _) | (with_reducible refine Kd.C_drew ?_)))
     (case side4 => exact (Kd.R_reads' HO401.out).2.1)
     rintro e w20 ⟨v404, rfl, ho0, hb⟩
     refine ⟨_, rfl, ?_⟩
     have n0_ := Aside0.mk (Kd.V_below zq86 hb)
     have n1_ := Aside0.mk (Kd.R_below zq66 hb)
     have n2_ := Aside0.mk (Kd.V_lower (Kd.V_mono (ok' := fun k_ => (w.heap.size ≤ k_) ∧ some k_ ≠ (.slice Ao19 t399.length co19 : Value).ownBlock ∧ k_ ≠ gb392 ∧ k_ ≠ gb397) ho0 (fun k_ hk_ => ⟨(Nat.le_trans (below_size zq15) hk_), (Kd.fresh' (Kd.R_lt zq66) k_ hk_), (Kd.freshB (g := gb392) (o := .cells #[.bool false, .slice none 0 0] 96 (0, 0)) (bk_ BK392.out) k_ hk_), (Kd.freshB (g := gb397) (o := .cells #[.bool x398000_1, .slice Ao18 x398001_1.length co18] 96 (0, 0)) (bk_ BK397.out) k_ hk_)⟩)) (below_size zq15))
     have n3_ := Aside0.mk (blk_below (g := gb392) (o := .cells #[.bool false, .slice none 0 0] 96 (0, 0)) (bk_ BK392.out) hb)
     have n4_ := Aside0.mk (blk_below (g := gb397) (o := .cells #[.bool x398000_1, .slice Ao18 x398001_1.length co18] 96 (0, 0)) (bk_ BK397.out) hb)
     have n5_ := Aside0.mk (below_step zq15 hb)
     clear HO_398001
     clear HO401
     clear BK392
     clear BK397
     clear HB
     have HO_398001 := n0_
     have HO401 := n1_
     have HO405 := n2_
     have BK392 := n3_
     have BK397 := n4_
     have HB := n5_
     clear n0_ n1_ n2_ n3_ n4_ n5_
     (try clear hb)
     (try clear hb2)
     (try clear hk)
     (try clear hi)
     (try clear ho0)
     refine hK.out _ _ ⟨(blk_cell BK397.out 0).trans rfl, (blk_cell BK397.out 1).trans rfl⟩ (fun hHeld => ?_)
     clear hK K
     refine norm_ (a' := ?_) ?_ ?_
     rotate_left
     ·show Act.put _ (some 14) _ = _
      simp only [Act.put, sl_, i64_w, i32_w]
      rfl
     refine one_ (i := 8) (N := some 20) #[true, true, true, true, true, true, true, true, true, false, false] rfl rfl (one_of HT_.out (by kernel_rfl)) (by decide) (fun K hK => ?_)
     refine goes_ Try.func78 (by kernel_rfl) rfl #[.int .i64 (((bt a0 x4_1) - 48) % 256)] (by rfl) rfl rfl zq1 ?_
     with_reducible refine (r1_Of.calls k1 (((bt a0 x4_1) - 48) % 256) t406 t407 _ A14.out).mono ?_
     rintro e w21 ⟨v408, rfl, ho0, hb⟩
     refine ⟨_, rfl, ?_⟩
     have n0_ := Aside0.mk (Kd.V_elder' zq86 (Kd.R_base ho0) hb)
     have n1_ := Aside0.mk (Kd.R_elder' zq66 (Kd.R_base ho0) hb)
     have n2_ := Aside0.mk (Kd.V_elder' (by (with_reducible repeat (first | apply Kd.V_alloc | apply Kd.V_drewN | apply Kd.V_drew)); exact HO405.out) (Kd.R_base ho0) hb)
     have n3_ := Aside0.mk (Kd.R_lower (Kd.R_new' (Kd.R_newM (M := fun k_ => (w.heap.size ≤ k_)) ho0 (below_size zq15) (fun k_ h_ => h_)) (Kd.R_lt zq66)) (below_size zq15))
     have n4_ := Aside0.mk (blk_below (g := gb392) (o := .cells #[.bool false, .slice none 0 0] 96 (0, 0)) (bk_ BK392.out) hb)
     have n5_ := Aside0.mk (blk_below (g := gb397) (o := .cells #[.bool x398000_1, .slice Ao18 x398001_1.length co18] 96 (0, 0)) (bk_ BK397.out) hb)
     have n6_ := Aside0.mk (below_step zq15 hb)
     clear HO_398001
     clear HO401
     clear HO405
     clear BK392
     clear BK397
     clear HB
     have HO_398001 := n0_
     have HO401 := n1_
     have HO405 := n2_
     have HO409 := n3_
     have BK392 := n4_
     have BK397 := n5_
     have HB := n6_
     clear n0_ n1_ n2_ n3_ n4_ n5_ n6_
     (try clear hb)
     (try clear hb2)
     (try clear hk)
     (try clear hi)
     (try clear ho0)
     obtain ⟨Ao22, co22, eo22⟩ := Kd.V_slice HO405.out
     (first | subst eo22 | (injection eo22 with f1_ f2_ f3_; have f4_ := f1_.symm; have f5_ := f3_.symm; clear f1_ f2_ f3_; subst f4_; subst f5_))
     obtain ⟨Ao23, co23, eo23⟩ := Kd.R_slice HO409.out
     (first | subst eo23 | (injection eo23 with f1_ f2_ f3_; have f4_ := f1_.symm; have f5_ := f3_.symm; clear f1_ f2_ f3_; subst f4_; subst f5_))
     refine hK.out _ _ ⟨(blk_cell BK397.out 0).trans rfl, (blk_cell BK397.out 1).trans rfl⟩ (fun hHeld => ?_)
     clear hK K
     refine norm_ (a' := ?_) ?_ ?_
     rotate_left
     ·show Act.put _ (some 20) _ = _
      simp only [Act.put, sl_, i64_w, i32_w]
      rfl
     refine one_ (i := 9) (N := some 21) #[true, true, true, true, true, true, true, true, true, true, false] rfl rfl (one_of HT_.out (by kernel_rfl)) (by decide) (fun K hK => ?_)
     refine goes_ Try.func80 (by kernel_rfl) rfl #[.agg #[.bool t402, .slice Ao22 t403.length co22], .agg #[.bool t406, .slice Ao23 t407.length co23]] (by rfl) rfl rfl zq1 ?_
     with_reducible refine (r1_Plus.calls k1 t402 _ _ t403 t406 _ _ t407 t410 t411 _ ?side1 ?side2 ?side3 ?side4 A15.out).mono ?_
     (case side1 => repeat (first | exact (Kd.V_reads' HO405.out).2.2 | (with_reducible refine Kd.C_alloc ?_ _) | (with_reducible refine Kd.C_drewN ?_ _) | (with_reducible refine Kd.C_drew ?_)))
     (case side2 => exact (Kd.V_reads' HO405.out).2.1)
     (case side3 => repeat (first | exact (Kd.R_reads' HO409.out).2.2 | (with_reducible refine Kd.C_alloc ?_ _) | (with_reducible refine Kd.C_drewN ?_ _) | (with_reducible refine Kd.C_drew ?_)))
     (case side4 => exact (Kd.R_reads' HO409.out).2.1)
     rintro e w24 ⟨v412, rfl, ho0, hb⟩
     refine ⟨_, rfl, ?_⟩
     have n0_ := Aside0.mk (Kd.V_below zq86 hb)
     have n1_ := Aside0.mk (Kd.R_below zq66 hb)
     have n2_ := Aside0.mk (Kd.V_below (by (with_reducible repeat (first | apply Kd.V_alloc | apply Kd.V_drewN | apply Kd.V_drew)); exact HO405.out) hb)
     have n3_ := Aside0.mk (Kd.R_below (by (with_reducible repeat (first | apply Kd.R_alloc | apply Kd.R_drewN | apply Kd.R_drew)); exact HO409.out) hb)
     have n4_ := Aside0.mk (Kd.V_lower (Kd.V_mono (ok' := fun k_ => (w.heap.size ≤ k_) ∧ some k_ ≠ (.slice Ao19 t399.length co19 : Value).ownBlock ∧ some k_ ≠ (.slice Ao23 t407.length co23 : Value).ownBlock ∧ k_ ≠ gb392 ∧ k_ ≠ gb397) ho0 (fun k_ hk_ => ⟨(Nat.le_trans (below_size zq15) hk_), (Kd.fresh' (Kd.R_lt zq66) k_ hk_), (Kd.fresh' (Kd.R_lt (by (with_reducible repeat (first | apply Kd.R_alloc | apply Kd.R_drewN | apply Kd.R_drew)); exact HO409.out)) k_ hk_), (Kd.freshB (g := gb392) (o := .cells #[.bool false, .slice none 0 0] 96 (0, 0)) (bk_ BK392.out) k_ hk_), (Kd.freshB (g := gb397) (o := .cells #[.bool x398000_1, .slice Ao18 x398001_1.length co18] 96 (0, 0)) (bk_ BK397.out) k_ hk_)⟩)) (below_size zq15))
     have n5_ := Aside0.mk (blk_below (g := gb392) (o := .cells #[.bool false, .slice none 0 0] 96 (0, 0)) (bk_ BK392.out) hb)
     have n6_ := Aside0.mk (blk_below (g := gb397) (o := .cells #[.bool x398000_1, .slice Ao18 x398001_1.length co18] 96 (0, 0)) (bk_ BK397.out) hb)
     have n7_ := Aside0.mk (below_step zq15 hb)
     clear HO_398001
     clear HO401
     clear HO405
     clear HO409
     clear BK392
     clear BK397
     clear HB
     have HO_398001 := n0_
     have HO401 := n1_
     have HO405 := n2_
     have HO409 := n3_
     have HO413 := n4_
     have BK392 := n5_
     have BK397 := n6_
     have HB := n7_
     clear n0_ n1_ n2_ n3_ n4_ n5_ n6_ n7_
     (try clear hb)
     (try clear hb2)
     (try clear hk)
     (try clear hi)
     (try clear ho0)
     obtain ⟨Ao26, co26, eo26⟩ := Kd.V_slice HO413.out
     (first | subst eo26 | (injection eo26 with f1_ f2_ f3_; have f4_ := f1_.symm; have f5_ := f3_.symm; clear f1_ f2_ f3_; subst f4_; subst f5_))
     refine hK.out _ _ ⟨(blk_cell BK397.out 0).trans rfl, (blk_cell BK397.out 1).trans rfl⟩ (fun hHeld => ?_)
     clear hK K
     refine norm_ (a' := ?_) ?_ ?_
     rotate_left
     ·show Act.put _ (some 21) _ = _
      simp only [Act.put, sl_, i64_w, i32_w]
      rfl
     refine last_ (i := 10) (N := none) #[true, true, true, true, true, true, true, true, true, true, true] rfl rfl (one_of HT_.out (by kernel_rfl)) (by decide) (fun K hK => ?_)
     have hs25 : w24.cell? ⟨gb397, 0, none⟩ = some (.bool x398000_1) := (blk_cell BK397.out 0).trans rfl
     have hfs25 := blk_frozen BK397.out 0
     have hns25_0 := NB392_397.out
     have hms25_0 := NB397_392.out
     have hs27 : w24.cell? ⟨gb397, 1, none⟩ = some (.slice Ao18 x398001_1.length co18) := (blk_cell BK397.out 1).trans rfl
     have hfs27 := blk_frozen BK397.out 1
     have hns27_0 := NB392_397.out
     have hms27_0 := NB397_392.out
     refine skip_ (w1 := ?_) (by rfl) rfl ?_ ?_
     rotate_left
     ·go_simp
      rfl
     refine hK.out _ _ ?_
     clear hK K
     refine done_ (done_of HT_.out (by kernel_rfl)) ?_
     try go_wp2
     go_roundg k1
     case measure => have := HK1.out; omega
     case rel => exact ⟨(wrap64 (x4_1 + 1)), (t410), (t411), (.slice Ao26 t411.length co26), zq9, H', ⟨by have := HK1.out; omega⟩, ⟨by (with_reducible repeat (first | apply Kd.V_alloc | apply Kd.V_drewN | apply Kd.V_drew)); exact Kd.V_mono (Kd.V_far (p := ⟨gb397, 1, none⟩) (Kd.V_far (p := ⟨gb397, 0, none⟩) (Kd.V_mono HO413.out (fun k_ hk => (⟨hk, hk.2.2.2.2⟩ : _ ∧ k_ ≠ gb397))) (fun _ hk => hk.2) (.bool t410)) (fun _ hk => hk.2) (.slice Ao26 t411.length co26)) (fun _ hk => ⟨hk.1.1, ⟨hk.1.2.2.2.1, hk.1.2.2.2.2⟩⟩)⟩, ⟨zq75⟩, ⟨by (with_reducible repeat (first | refine blk_drewN ?_ _ | refine blk_drew ?_ | refine blk_alloc ?_ _)); refine blk_put (cs := #[.bool t410, .slice Ao18 x398001_1.length co18]) ?_ 1 _ rfl; (with_reducible repeat (first | refine blk_drewN ?_ _ | refine blk_drew ?_ | refine blk_alloc ?_ _)); refine blk_put (cs := #[.bool x398000_1, .slice Ao18 x398001_1.length co18]) ?_ 0 _ rfl; (with_reducible repeat (first | refine blk_drewN ?_ _ | refine blk_drew ?_ | refine blk_alloc ?_ _)); exact BK397.out⟩, ⟨zq15⟩⟩
    ·rw [if_neg c12] at H
     exact absurd H (by simp)
   ·rw [if_neg c9] at H
    have c9b0 : decide (x4_1 < (a0.size : Int)) = false := decide_eq_false c9
    clear c9
    simp only [Option.some.injEq, Prod.mk.injEq] at H
    obtain ⟨rfl, rfl⟩ := H
    have hnb28 := NB397_392.out
    have hnc28 := NB392_397.out
    have hcz29_0 : wr.cell? ⟨gb397, 0, none⟩ = some (.bool x398000_1) := (blk_cell BK397.out 0).trans rfl
    have hcz29_1 : wr.cell? ⟨gb397, 1, none⟩ = some (u398001) := (blk_cell BK397.out 1).trans rfl
    have hfz29_0 := blk_frozen BK397.out 0
    have hfz29_1 := blk_frozen BK397.out 1
    have hcz30_0 : wr.cell? ⟨gb392, 0, none⟩ = some (.bool false) := (blk_cell BK392.out 0).trans rfl
    have hcz30_1 : wr.cell? ⟨gb392, 1, none⟩ = some (.slice none 0 0) := (blk_cell BK392.out 1).trans rfl
    have hfz30_0 := blk_frozen BK392.out 0
    have hfz30_1 := blk_frozen BK392.out 1
    obtain ⟨Ao31, co31, eo31⟩ := Kd.V_slice HO_398001.out
    subst eo31
    go_wp2
    refine bodyPost_ret (results_cell_row rfl _ _ gb392 96 #[.bool x398000_1, .slice Ao31 x398001_1.length co31] (0, 0) _ rfl (by (with_reducible repeat (first | refine blk_drewN ?_ _ | refine blk_drew ?_ | refine blk_alloc ?_ _)); refine blk_put (cs := #[.bool x398000_1, .slice none 0 0]) ?_ 1 _ rfl; (with_reducible repeat (first | refine blk_drewN ?_ _ | refine blk_drew ?_ | refine blk_alloc ?_ _)); refine blk_put (cs := #[.bool false, .slice none 0 0]) ?_ 0 _ rfl; (with_reducible repeat (first | refine blk_drewN ?_ _ | refine blk_drew ?_ | refine blk_alloc ?_ _)); exact BK392.out) Try.underlying96 rfl (by kernel_rfl)) rfl ?_
    exact ⟨_, zq8, by (with_reducible repeat (first | apply Kd.V_alloc | apply Kd.V_drewN | apply Kd.V_drew)); exact Kd.V_mono (Kd.V_far (p := ⟨gb392, 1, none⟩) (Kd.V_far (p := ⟨gb392, 0, none⟩) (Kd.V_mono HO_398001.out (fun k_ hk => (⟨hk, hk.2.1⟩ : _ ∧ k_ ≠ gb392))) (fun _ hk => hk.2) (.bool x398000_1)) (fun _ hk => hk.2) (.slice Ao31 x398001_1.length co31)) (fun _ hk => hk.1.1), zq15⟩

end Go.Proofs.Ytonjfggfcnpgbaa.MScanPlays
