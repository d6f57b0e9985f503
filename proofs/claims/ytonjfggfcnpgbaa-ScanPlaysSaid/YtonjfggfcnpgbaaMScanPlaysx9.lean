-- This text was written by a program of this session (a changed scratch copy of a tool of the kit; NOTES.md tells the changes).
import Derived.Test.YtonjfggfcnpgbaaMScanPlaysx0
namespace Go.Proofs.Ytonjfggfcnpgbaa.MScanPlays
open Go.RowKit Go.Proofs.YtonjfggfcnpgbaaW.PrintWords Go.Proofs.YtonjfggfcnpgbaaW.PrintLast Go.Proofs.YtonjfggfcnpgbaaW.PrintMore
attribute [local go_sem] max2_int min2_int max_two min_two max_three min_three max_four min_four   -- for this text's walks alone
set_option linter.unusedVariables false
set_option linter.unusedSimpArgs false

/-! ### r1_Of: function 78 -/
def r1_Of.l0 : Nat → Int → List Int → Bool → Option (Bool × List Int)
 | 0, _, _, _ => none
 | k + 1, x0, x3, x4 => if x0 = 0 then (some (x4, x3)) else (if (Int.tmod x0 65536) < 0 then (if x3.length < 17592186044416 then (r1_Of.l0 k (wrap64 (Int.tdiv x0 65536)) (x3 ++ [IntKind.u64.wrap (wrap64 (-(Int.tmod x0 65536)))]) x4) else (none)) else (if x3.length < 17592186044416 then (r1_Of.l0 k (wrap64 (Int.tdiv x0 65536)) (x3 ++ [IntKind.u64.wrap (Int.tmod x0 65536)]) x4) else (none)))
def r1_Of.f (k : Nat) (a0 : Int) : Option (Bool × List Int) := r1_Of.l0 k a0 ([] : List Int) (decide (a0 < 0))
set_option maxHeartbeats 8000000 in
set_option maxRecDepth 100000 in
theorem r1_Of.calls (k : Nat) (a0 : Int) (r1 : Bool) (r2 : List Int) (w : World) (h : r1_Of.f k a0 = some (r1, r2)) :
  Calls Try.prog 78 #[.int .i64 a0] w fun e w' => ∃ v1_ : Value, e = .returned (.agg #[.bool r1, v1_]) ∧ Kd.R (Kd.int .u64) 88 w' w.heap.size (fun _ => True) v1_ r2 ∧ Below w.heap.size w w' := by
 have hu96 := Try.underlying96
 have HB := Aside0.mk (Below.refl w.heap.size w)
 have H : (r1_Of.l0 k a0 ([] : List Int) (decide (a0 < 0))) = some (r1, r2) := h
 clear h
 have H' := Aside0.mk H
 clear H
 go_enter Try.func78, Try.ntmps78
 go_wp2_with (first | ((with_reducible refine gate_dst (N := 2) rfl ?_); refine box_event ?hg (N := 2) ?hd (cs := #[.bool false, .slice none 0 0]) (t := 96) ?hr ?_; (case hd => rfl); (case hg => rfl); (case hr => exact zq16); intro gb304 hg w2 hbox hb; have n0_ := Aside0.mk (below_step zq2 hb); have n1_ := Aside0.mk (hbox); have n2_ := Aside0.mk ((by rw [hg]; exact (below_size zq2) : w.heap.size ≤ gb304)); have n3_ := Aside0.mk ((by rw [hg]; exact (below_size zq2) : w.heap.size ≤ gb304)); clear HB; have HB := n0_; have BK304 := n1_; have GW304 := n2_; have GE304 := n3_; clear n0_ n1_ n2_ n3_; clear hb hbox hg))
 try simp only [Act.put, sl_]
 go_loopg [0, 3] k (fun kq v0 v3 w' => ∃ (x0_1 : Int) (x3_1 : List Int), v0 = .int .i64 x0_1 ∧ Aside0 (r1_Of.l0 kq x0_1 x3_1 (decide (a0 < 0)) = some (r1, r2)) ∧ Aside0 (kq ≤ k) ∧ Aside0 (Kd.R (Kd.int .u64) 88 w' w.heap.size (fun _ => True) v3 x3_1) ∧ Aside0 (w'.heap[gb304]? = some (.cells #[.bool false, (.slice none 0 0)] 96 (0, 0))) ∧ Aside0 (Below w.heap.size w w'))
 case atStart => exact ⟨(a0), (([] : List Int)), zq9, H', ⟨Nat.le_refl _⟩, ⟨zq72⟩, ⟨zq88⟩, ⟨zq40⟩⟩
 case round =>
  clear H'
  try clear p2
  obtain ⟨x0_1, x3_1, rfl, HA, HK1, HO_3, BK304, HB⟩ := hrel
  cases gk with
  | zero => exact absurd HA.out (by simp [r1_Of.l0])
  | succ k1 =>
   have H := HA.out
   clear HA
   simp only [r1_Of.l0] at H
   by_cases c3 : x0_1 = 0
   ·rw [if_pos c3] at H
    have c3b0 : (x0_1 == 0) = true := beq_iff_eq.mpr c3
    have c3b1 : (x0_1 != 0) = false := bne_eq_false_iff_eq.mpr c3
    clear c3
    simp only [Option.some.injEq, Prod.mk.injEq] at H
    obtain ⟨rfl, rfl⟩ := H
    obtain ⟨Ao4, co4, eo4⟩ := Kd.R_slice HO_3.out
    subst eo4
    have hcz5_0 : wr.cell? ⟨gb304, 0, none⟩ = some (.bool false) := (blk_cell BK304.out 0).trans rfl
    have hcz5_1 : wr.cell? ⟨gb304, 1, none⟩ = some (.slice none 0 0) := (blk_cell BK304.out 1).trans rfl
    have hfz5_0 := blk_frozen BK304.out 0
    have hfz5_1 := blk_frozen BK304.out 1
    go_wp2
    refine bodyPost_ret (results_cell_row rfl _ _ gb304 96 #[.bool (decide (a0 < 0)), .slice Ao4 x3_1.length co4] (0, 0) _ rfl (by (with_reducible repeat (first | refine blk_drewN ?_ _ | refine blk_drew ?_ | refine blk_alloc ?_ _)); refine blk_put (cs := #[.bool (decide (a0 < 0)), .slice none 0 0]) ?_ 1 _ rfl; (with_reducible repeat (first | refine blk_drewN ?_ _ | refine blk_drew ?_ | refine blk_alloc ?_ _)); refine blk_put (cs := #[.bool false, .slice none 0 0]) ?_ 0 _ rfl; (with_reducible repeat (first | refine blk_drewN ?_ _ | refine blk_drew ?_ | refine blk_alloc ?_ _)); exact BK304.out) Try.underlying96 rfl (by kernel_rfl)) rfl ?_
    exact ⟨_, zq8, by (with_reducible repeat (first | apply Kd.R_alloc | apply Kd.R_drewN | apply Kd.R_drew)); exact Kd.R_mono (Kd.R_far (p := ⟨gb304, 1, none⟩) (Kd.R_far (p := ⟨gb304, 0, none⟩) (Kd.R_types HO_3.out BK304.out (by decide)) (fun _ hk => hk.2) (.bool (decide (a0 < 0)))) (fun _ hk => hk.2) (.slice Ao4 x3_1.length co4)) (fun _ hk => trivial), zq40⟩
   ·rw [if_neg c3] at H
    have c3b0 : (x0_1 == 0) = false := beq_eq_false_iff_ne.mpr c3
    have c3b1 : (x0_1 != 0) = true := bne_iff_ne.mpr c3
    by_cases c6 : (Int.tmod x0_1 65536) < 0
    ·rw [if_pos c6] at H
     have c6b0 : decide ((Int.tmod x0_1 65536) < 0) = true := decide_eq_true c6
     clear c6
     by_cases c7 : x3_1.length < 17592186044416
     ·rw [if_pos c7] at H
      have LMc7 := Aside0.mk c7
      clear c7
      obtain ⟨y305, hy305⟩ : ∃ y_ : List Int, y_ = (x3_1 ++ [IntKind.u64.wrap (wrap64 (-(Int.tmod x0_1 65536)))]) := ⟨_, rfl⟩
      replace H : (r1_Of.l0 k1 (wrap64 (Int.tdiv x0_1 65536)) y305 (decide (a0 < 0))) = some (r1, r2) := by first | (rw [hy305]; with_reducible exact H) | (have H2_ := (Option.bind_some _ _).symm.trans H; rw [hy305]; with_reducible exact H2_) | (have H2_ := (Option.bind_some _ _).symm.trans H; with_reducible exact H2_) | with_reducible exact H | (rw [hy305]; exact H) | exact H
      have Ny305 := Aside0.mk hy305
      clear hy305
      have H' := Aside0.mk H
      clear H
      go_wp2_with (first | ((with_reducible refine gate_builtin (b := .append) (xs := #[.tmp 16, .tmp 19]) rfl ?_); at_builtin; refine Kd.R_append (Kd.int .u64) (w0 := w) w.heap.size rfl (.tmp 16) (.tmp 19) 94 88 (.int .u64 0) 8 rfl Try.underlying94 info88 rfl (by decide) (by omega) u3 x3_1 (IntKind.u64.wrap (wrap64 (-(Int.tmod x0_1 65536)))) [.int .u64 (IntKind.u64.wrap (wrap64 (-(Int.tmod x0_1 65536))))] (fun _ => True) (fun _ => False) rfl rfl ?aP (fun _ hk => hk.elim) ?aF ?aO ?aB ?aS ?aL ?_; (case aP => exact rfl); (case aB => exact zq40); (case aF => exact (fun _ _ => trivial)); (case aO => exact (by (with_reducible repeat (first | apply Kd.R_alloc | apply Kd.R_drewN | apply Kd.R_drew)); exact HO_3.out)); (case aS => exact (below_size zq40)); (case aL => have := LMc7.out; omega); intro v306 w8 ho hb hg hat; rw [← Ny305.out] at ho; have n0_ := Aside0.mk (blk_grown (g := gb304) (o := .cells #[.bool false, .slice none 0 0] 96 (0, 0)) (bk_ BK304.out) hg (Kd.R_ne HO_3.out BK304.out (by decide))); have n1_ := Aside0.mk (hb); have n2_ := Aside0.mk (ho); clear BK304; clear HB; clear HO_3; have BK304 := n0_; have HB := n1_; have HO307 := n2_; clear n0_ n1_ n2_; clear ho hb hg hat))
      go_roundg k1
      case measure => have := HK1.out; omega
      case rel => exact ⟨(wrap64 (Int.tdiv x0_1 65536)), (y305), zq9, H', ⟨by have := HK1.out; omega⟩, ⟨by (with_reducible repeat (first | apply Kd.R_alloc | apply Kd.R_drewN | apply Kd.R_drew)); exact HO307.out⟩, ⟨zq88⟩, ⟨zq40⟩⟩
     ·rw [if_neg c7] at H
      exact absurd H (by simp)
    ·rw [if_neg c6] at H
     have c6b0 : decide ((Int.tmod x0_1 65536) < 0) = false := decide_eq_false c6
     clear c6
     by_cases c9 : x3_1.length < 17592186044416
     ·rw [if_pos c9] at H
      have LMc9 := Aside0.mk c9
      clear c9
      obtain ⟨y308, hy308⟩ : ∃ y_ : List Int, y_ = (x3_1 ++ [IntKind.u64.wrap (Int.tmod x0_1 65536)]) := ⟨_, rfl⟩
      replace H : (r1_Of.l0 k1 (wrap64 (Int.tdiv x0_1 65536)) y308 (decide (a0 < 0))) = some (r1, r2) := by first | (rw [hy308]; with_reducible exact H) | (have H2_ := (Option.bind_some _ _).symm.trans H; rw [hy308]; with_reducible exact H2_) | (have H2_ := (Option.bind_some _ _).symm.trans H; with_reducible exact H2_) | with_reducible exact H | (rw [hy308]; exact H) | exact H
      have Ny308 := Aside0.mk hy308
      clear hy308
      have H' := Aside0.mk H
      clear H
      go_wp2_with (first | ((with_reducible refine gate_builtin (b := .append) (xs := #[.tmp 16, .tmp 19]) rfl ?_); at_builtin; refine Kd.R_append (Kd.int .u64) (w0 := w) w.heap.size rfl (.tmp 16) (.tmp 19) 94 88 (.int .u64 0) 8 rfl Try.underlying94 info88 rfl (by decide) (by omega) u3 x3_1 (IntKind.u64.wrap (Int.tmod x0_1 65536)) [.int .u64 (IntKind.u64.wrap (Int.tmod x0_1 65536))] (fun _ => True) (fun _ => False) rfl rfl ?aP (fun _ hk => hk.elim) ?aF ?aO ?aB ?aS ?aL ?_; (case aP => exact rfl); (case aB => exact zq40); (case aF => exact (fun _ _ => trivial)); (case aO => exact (by (with_reducible repeat (first | apply Kd.R_alloc | apply Kd.R_drewN | apply Kd.R_drew)); exact HO_3.out)); (case aS => exact (below_size zq40)); (case aL => have := LMc9.out; omega); intro v309 w10 ho hb hg hat; rw [← Ny308.out] at ho; have n0_ := Aside0.mk (blk_grown (g := gb304) (o := .cells #[.bool false, .slice none 0 0] 96 (0, 0)) (bk_ BK304.out) hg (Kd.R_ne HO_3.out BK304.out (by decide))); have n1_ := Aside0.mk (hb); have n2_ := Aside0.mk (ho); clear BK304; clear HB; clear HO_3; have BK304 := n0_; have HB := n1_; have HO310 := n2_; clear n0_ n1_ n2_; clear ho hb hg hat))
      go_roundg k1
      case measure => have := HK1.out; omega
      case rel => exact ⟨(wrap64 (Int.tdiv x0_1 65536)), (y308), zq9, H', ⟨by have := HK1.out; omega⟩, ⟨by (with_reducible repeat (first | apply Kd.R_alloc | apply Kd.R_drewN | apply Kd.R_drew)); exact HO310.out⟩, ⟨zq88⟩, ⟨zq40⟩⟩
     ·rw [if_neg c9] at H
      exact absurd H (by simp)

/-! ### r1_digit: function 87 -/
def r1_digit.f (l0 : List Int) (a1 : Int) : Option (Int) := if a1 < (l0.length : Int) then (if 0 ≤ a1 then (some (rd l0 a1)) else (none)) else (some 0)
set_option maxHeartbeats 8000000 in
set_option maxRecDepth 100000 in
theorem r1_digit.calls (A0 : Option Addr) (c0 : Nat) (l0 : List Int) (a1 : Int) (r : Int) (w : World) (hr0 : Kd.C (Kd.int .u64) w A0 l0.length l0) (hc0 : l0.length ≤ c0) (h : r1_digit.f l0 a1 = some r) :
  Calls Try.prog 87 #[.slice A0 l0.length c0, .int .i64 a1] w fun e w' => e = .returned (.int .u64 r) ∧ Drawn0 w w' := by
 have HR0 := Aside0.mk hr0
 have HC0 := Aside0.mk hc0
 clear hr0 hc0
 have H : (if a1 < (l0.length : Int) then (if 0 ≤ a1 then (some (rd l0 a1)) else (none)) else (some 0)) = some r := h
 clear h
 by_cases c3 : a1 < (l0.length : Int)
 ·rw [if_pos c3] at H
  have c3b0 : decide (a1 < (l0.length : Int)) = true := decide_eq_true c3
  clear c3
  by_cases c4 : 0 ≤ a1
  ·rw [if_pos c4] at H
   have c4b0 : decide (0 ≤ a1) = true := decide_eq_true c4
   clear c4
   obtain rfl := Option.some.inj H
   have p311 : 0 ≤ (a1 : Int) := of_decide_eq_true zq10
   have q311 : a1 < (l0.length : Int) := of_decide_eq_true zq10
   obtain ⟨ad311, e311, hx311_0⟩ := Kd.at_int HR0.out a1 p311 q311
   cases e311
   replace p311 := eq_true p311
   replace q311 := eq_true q311
   go_enter Try.func87, Try.ntmps87
   go_wp2
   go_ret
   exact ⟨zq9, zq22⟩
  ·rw [if_neg c4] at H
   exact absurd H (by simp)
 ·rw [if_neg c3] at H
  have c3b0 : decide (a1 < (l0.length : Int)) = false := decide_eq_false c3
  clear c3
  obtain rfl := Option.some.inj H
  go_enter Try.func87, Try.ntmps87
  go_wp2
  go_ret
  exact ⟨zq9, zq22⟩

/-! ### r1_less: function 83 -/
def r1_less.l0 : Nat → List Int → List Int → Int → Option (Bool)
 | 0, _, _, _ => none
 | k + 1, x0, x1, x5 => if x5 ≥ 0 then ((r1_digit.f x0 x5).bind fun t312 => ((r1_digit.f x1 x5).bind fun t313 => (if t312 = t313 then (r1_less.l0 k x0 x1 (wrap64 (x5 - 1))) else ((r1_digit.f x0 x5).bind fun t314 => ((r1_digit.f x1 x5).bind fun t315 => (some (decide (t314 < t315)))))))) else (some false)
def r1_less.f (k : Nat) (l0 : List Int) (l1 : List Int) : Option (Bool) := r1_less.l0 k l0 l1 (wrap64 ((mx (l0.length : Int) (l1.length : Int)) - 1))
set_option maxHeartbeats 8000000 in
set_option maxRecDepth 100000 in
theorem r1_less.calls (k : Nat) (A0 : Option Addr) (c0 : Nat) (l0 : List Int) (A1 : Option Addr) (c1 : Nat) (l1 : List Int) (r : Bool) (w : World) (hr0 : Kd.C (Kd.int .u64) w A0 l0.length l0) (hc0 : l0.length ≤ c0) (hr1 : Kd.C (Kd.int .u64) w A1 l1.length l1) (hc1 : l1.length ≤ c1) (h : r1_less.f k l0 l1 = some r) :
  Calls Try.prog 83 #[.slice A0 l0.length c0, .slice A1 l1.length c1] w fun e w' => e = .returned (.bool r) ∧ Below w.heap.size w w' := by
 have HR0 := Aside0.mk hr0
 have HC0 := Aside0.mk hc0
 clear hr0 hc0
 have HR1 := Aside0.mk hr1
 have HC1 := Aside0.mk hc1
 clear hr1 hc1
 have HB := Aside0.mk (Below.refl w.heap.size w)
 have H : (r1_less.l0 k l0 l1 (wrap64 ((mx (l0.length : Int) (l1.length : Int)) - 1))) = some r := h
 clear h
 obtain ⟨ji3, hji3⟩ : ∃ j_ : Int, (mx (l0.length : Int) (l1.length : Int)) = j_ := ⟨_, rfl⟩
 replace H : (r1_less.l0 k l0 l1 (wrap64 ((ji3) - 1))) = some r := by first | (rw [hji3] at H; exact H) | (simp only [hji3] at H ⊢; exact H)
 (try (have hji3l : 0 ≤ ji3 := by (rw [← hji3]; unfold mx; (repeat' split) <;> omega)))
 (try (have hji3m : 0 ≤ ji3 := by omega))
 have hji3k : (if l0.length < l1.length then (l1.length : Int) else (l0.length : Int)) = ji3 := by rw [← hji3]; simp only [mx, Int.ofNat_lt]
 have hji3_ : (if (l0.length : Int) < (l1.length : Int) then (l1.length : Int) else (l0.length : Int)) = ji3 := hji3
 have H' := Aside0.mk H
 clear H
 go_enter Try.func83, Try.ntmps83
 go_wp2
 try simp only [Act.put, sl_]
 go_loopg [5] k (fun kq v5 w' => ∃ (x5_1 : Int), v5 = .int .i64 x5_1 ∧ Aside0 (r1_less.l0 kq l0 l1 x5_1 = some r) ∧ Aside0 (kq ≤ k) ∧ Aside0 (Below w.heap.size w w'))
 case atStart => exact ⟨(wrap64 ((ji3) - 1)), (by first | rfl | (simp; done) | (simp only [← hji3] <;> (first | rfl | simp)) | (simp [*]; done)), H', ⟨Nat.le_refl _⟩, ⟨zq2⟩⟩
 case round =>
  clear H'
  try clear c1
  try clear p2
  obtain ⟨x5_1, rfl, HA, HK1, HB⟩ := hrel
  cases gk with
  | zero => exact absurd HA.out (by simp [r1_less.l0])
  | succ k1 =>
   have H := HA.out
   clear HA
   simp only [r1_less.l0] at H
   by_cases c4 : x5_1 ≥ 0
   ·rw [if_pos c4] at H
    have c4b0 : decide (0 ≤ x5_1) = true := decide_eq_true c4
    clear c4
    replace H := Option.bind_eq_some_iff.mp H
    obtain ⟨t312, A50, H⟩ := H
    replace H : ((r1_digit.f l1 x5_1).bind fun t313 => (if t312 = t313 then (r1_less.l0 k1 l0 l1 (wrap64 (x5_1 - 1))) else ((r1_digit.f l0 x5_1).bind fun t314 => ((r1_digit.f l1 x5_1).bind fun t315 => (some (decide (t314 < t315))))))) = some r := H
    have A5 := Aside0.mk A50
    clear A50
    replace H := Option.bind_eq_some_iff.mp H
    obtain ⟨t313, A60, H⟩ := H
    replace H : (if t312 = t313 then (r1_less.l0 k1 l0 l1 (wrap64 (x5_1 - 1))) else ((r1_digit.f l0 x5_1).bind fun t314 => ((r1_digit.f l1 x5_1).bind fun t315 => (some (decide (t314 < t315)))))) = some r := H
    have A6 := Aside0.mk A60
    clear A60
    by_cases c7 : t312 = t313
    ·rw [if_pos c7] at H
     have c7b0 : (t312 == t313) = true := beq_iff_eq.mpr c7
     have c7b1 : (t312 != t313) = false := bne_eq_false_iff_eq.mpr c7
     clear c7
     have H' := Aside0.mk H
     clear H
     go_wp2_with (first | ((with_reducible refine gate_callee (f := 87) rfl ?_); refine goesL_ (some 18) rfl rfl Try.func87 (by kernel_rfl) rfl #[.slice A0 l0.length c0, .int .i64 x5_1] rfl zq1 ?_; (with_reducible refine (r1_digit.calls _ _ l0 x5_1 t312 _ ?side1 ?side2 A5.out).mono ?_); (case side1 => exact zq35); (case side2 => exact HC0.out); rintro e w' ⟨rfl, ⟨nd, rfl⟩⟩; refine ⟨_, rfl, ?_⟩) | ((with_reducible refine gate_callee (f := 87) rfl ?_); refine goesL_ (some 21) rfl rfl Try.func87 (by kernel_rfl) rfl #[.slice A1 l1.length c1, .int .i64 x5_1] rfl zq1 ?_; (with_reducible refine (r1_digit.calls _ _ l1 x5_1 t313 _ ?side1 ?side2 A6.out).mono ?_); (case side1 => exact zq61); (case side2 => exact HC1.out); rintro e w' ⟨rfl, ⟨nd, rfl⟩⟩; refine ⟨_, rfl, ?_⟩))
     go_roundg k1
     case measure => have := HK1.out; omega
     case rel => exact ⟨(wrap64 (x5_1 - 1)), zq9, H', ⟨by have := HK1.out; omega⟩, ⟨zq2⟩⟩
    ·rw [if_neg c7] at H
     have c7b0 : (t312 == t313) = false := beq_eq_false_iff_ne.mpr c7
     have c7b1 : (t312 != t313) = true := bne_iff_ne.mpr c7
     replace H := Option.bind_eq_some_iff.mp H
     obtain ⟨t314, A80, H⟩ := H
     replace H : ((r1_digit.f l1 x5_1).bind fun t315 => (some (decide (t314 < t315)))) = some r := H
     have A8 := Aside0.mk A80
     clear A80
     replace H := Option.bind_eq_some_iff.mp H
     obtain ⟨t315, A90, H⟩ := H
     replace H : (some (decide (t314 < t315))) = some r := H
     have A9 := Aside0.mk A90
     clear A90
     obtain rfl := Option.some.inj H
     go_wp2_with (first | ((with_reducible refine gate_callee (f := 87) rfl ?_); refine goesL_ (some 18) rfl rfl Try.func87 (by kernel_rfl) rfl #[.slice A0 l0.length c0, .int .i64 x5_1] rfl zq1 ?_; (with_reducible refine (r1_digit.calls _ _ l0 x5_1 t312 _ ?side1 ?side2 A5.out).mono ?_); (case side1 => exact zq35); (case side2 => exact HC0.out); rintro e w' ⟨rfl, ⟨nd, rfl⟩⟩; refine ⟨_, rfl, ?_⟩) | ((with_reducible refine gate_callee (f := 87) rfl ?_); refine goesL_ (some 21) rfl rfl Try.func87 (by kernel_rfl) rfl #[.slice A1 l1.length c1, .int .i64 x5_1] rfl zq1 ?_; (with_reducible refine (r1_digit.calls _ _ l1 x5_1 t313 _ ?side1 ?side2 A6.out).mono ?_); (case side1 => exact zq61); (case side2 => exact HC1.out); rintro e w' ⟨rfl, ⟨nd, rfl⟩⟩; refine ⟨_, rfl, ?_⟩) | ((with_reducible refine gate_callee (f := 87) rfl ?_); refine goesL_ (some 25) rfl rfl Try.func87 (by kernel_rfl) rfl #[.slice A0 l0.length c0, .int .i64 x5_1] rfl zq1 ?_; (with_reducible refine (r1_digit.calls _ _ l0 x5_1 t314 _ ?side1 ?side2 A8.out).mono ?_); (case side1 => repeat (first | exact (Kd.C_below HR0.out zq2) | (with_reducible refine Kd.C_alloc ?_ _) | (with_reducible refine Kd.C_drewN ?_ _) | (with_reducible refine Kd.C_drew ?_))); (case side2 => exact HC0.out); rintro e w' ⟨rfl, ⟨nd, rfl⟩⟩; refine ⟨_, rfl, ?_⟩) | ((with_reducible refine gate_callee (f := 87) rfl ?_); refine goesL_ (some 28) rfl rfl Try.func87 (by kernel_rfl) rfl #[.slice A1 l1.length c1, .int .i64 x5_1] rfl zq1 ?_; (with_reducible refine (r1_digit.calls _ _ l1 x5_1 t315 _ ?side1 ?side2 A9.out).mono ?_); (case side1 => exact zq61); (case side2 => exact HC1.out); rintro e w' ⟨rfl, ⟨nd, rfl⟩⟩; refine ⟨_, rfl, ?_⟩))
     go_ret
     exact ⟨zq59, zq2⟩
   ·rw [if_neg c4] at H
    have c4b0 : decide (0 ≤ x5_1) = false := decide_eq_false c4
    clear c4
    obtain rfl := Option.some.inj H
    go_wp2
    go_ret
    exact ⟨zq59, zq2⟩

/-! ### r1_Less: function 79 -/
def r1_Less.f (k : Nat) (a0_0 : Bool) (l0_1 : List Int) (a1_0 : Bool) (l1_1 : List Int) : Option (Bool) := if (a0_0 != a1_0) = true then (some a0_0) else (if a0_0 = true then ((r1_less.f k l1_1 l0_1).bind fun t318 => (some t318)) else ((r1_less.f k l0_1 l1_1).bind fun t319 => (some t319)))
set_option maxHeartbeats 8000000 in
set_option maxRecDepth 100000 in
theorem r1_Less.calls (k : Nat) (a0_0 : Bool) (A0_1 : Option Addr) (c0_1 : Nat) (l0_1 : List Int) (a1_0 : Bool) (A1_1 : Option Addr) (c1_1 : Nat) (l1_1 : List Int) (r : Bool) (w : World) (hr0_1 : Kd.C (Kd.int .u64) w A0_1 l0_1.length l0_1) (hc0_1 : l0_1.length ≤ c0_1) (hr1_1 : Kd.C (Kd.int .u64) w A1_1 l1_1.length l1_1) (hc1_1 : l1_1.length ≤ c1_1) (h : r1_Less.f k a0_0 l0_1 a1_0 l1_1 = some r) :
  Calls Try.prog 79 #[.agg #[.bool a0_0, .slice A0_1 l0_1.length c0_1], .agg #[.bool a1_0, .slice A1_1 l1_1.length c1_1]] w fun e w' => e = .returned (.bool r) ∧ Below w.heap.size w w' := by
 have hu96 := Try.underlying96
 have HR0_1 := Aside0.mk hr0_1
 have HC0_1 := Aside0.mk hc0_1
 clear hr0_1 hc0_1
 have HR1_1 := Aside0.mk hr1_1
 have HC1_1 := Aside0.mk hc1_1
 clear hr1_1 hc1_1
 have HB := Aside0.mk (Below.refl w.heap.size w)
 have H : (if (a0_0 != a1_0) = true then (some a0_0) else (if a0_0 = true then ((r1_less.f k l1_1 l0_1).bind fun t318 => (some t318)) else ((r1_less.f k l0_1 l1_1).bind fun t319 => (some t319)))) = some r := h
 clear h
 by_cases c3 : (a0_0 != a1_0) = true
 ·rw [if_pos c3] at H
  have c3b0 : (a0_0 != a1_0) = true := c3
  (try (have c3b1 : decide (a0_0 = a1_0) = false := by simpa using c3))
  (try (have c3b2 : (a0_0 == a1_0) = false := by simpa using c3))
  (try (have c3b3 : ¬ (a0_0 = a1_0) := by simpa using c3))
  clear c3
  obtain rfl := Option.some.inj H
  go_enter Try.func79, Try.ntmps79
  go_wp2_with (first | ((with_reducible refine gate_dst (N := 2) rfl ?_); refine box_event ?hg (N := 2) ?hd (cs := #[.bool a0_0, .slice A0_1 l0_1.length c0_1]) (t := 96) ?hr ?_; (case hd => rfl); (case hg => rfl); (case hr => exact zq16); intro gb316 hg w4 hbox hb; have n0_ := Aside0.mk (below_step zq2 hb); have n1_ := Aside0.mk (hbox); have n2_ := Aside0.mk ((by rw [hg]; exact (below_size zq2) : w.heap.size ≤ gb316)); have n3_ := Aside0.mk ((by rw [hg]; exact (below_size zq2) : w.heap.size ≤ gb316)); clear HB; have HB := n0_; have BK316 := n1_; have GW316 := n2_; have GE316 := n3_; clear n0_ n1_ n2_ n3_; clear hb hbox hg) | ((with_reducible refine gate_dst (N := 3) rfl ?_); refine box_event ?hg (N := 3) ?hd (cs := #[.bool a1_0, .slice A1_1 l1_1.length c1_1]) (t := 96) ?hr ?_; (case hd => rfl); (case hg => rfl); (case hr => exact zq16); intro gb317 hg w5 hbox hb; have n0_ := Aside0.mk (blk_below (g := gb316) (o := .cells #[.bool a0_0, .slice A0_1 l0_1.length c0_1] 96 (0, 0)) (bk_ BK316.out) hb); have n1_ := Aside0.mk (below_step zq38 hb); have n2_ := Aside0.mk (hbox); have n3_ := Aside0.mk ((by rw [hg]; exact (below_size zq38) : w.heap.size ≤ gb317)); have n4_ := Aside0.mk ((by rw [hg]; exact (below_size zq38) : w.heap.size ≤ gb317)); have n5_ := Aside0.mk ((by rw [hg]; exact Nat.ne_of_lt (blk_lt (g := gb316) (o := .cells #[.bool a0_0, .slice A0_1 l0_1.length c0_1] 96 (0, 0)) (bk_ BK316.out)) : gb316 ≠ gb317)); have n6_ := Aside0.mk ((by rw [hg]; exact Nat.ne_of_gt (blk_lt (g := gb316) (o := .cells #[.bool a0_0, .slice A0_1 l0_1.length c0_1] 96 (0, 0)) (bk_ BK316.out)) : gb317 ≠ gb316)); clear BK316; clear HB; have BK316 := n0_; have HB := n1_; have BK317 := n2_; have GW317 := n3_; have GE317 := n4_; have NB316_317 := n5_; have NB317_316 := n6_; clear n0_ n1_ n2_ n3_ n4_ n5_ n6_; clear hb hbox hg; have hnb6 := NB316_317.out; have hnc6 := NB317_316.out; have hcz7_0 : w5.cell? ⟨gb316, 0, none⟩ = some (.bool a0_0) := (blk_cell BK316.out 0).trans rfl; have hcz7_1 : w5.cell? ⟨gb316, 1, none⟩ = some (.slice A0_1 l0_1.length c0_1) := (blk_cell BK316.out 1).trans rfl; have hfz7_0 := blk_frozen BK316.out 0; have hfz7_1 := blk_frozen BK316.out 1; have hcz8_0 : w5.cell? ⟨gb317, 0, none⟩ = some (.bool a1_0) := (blk_cell BK317.out 0).trans rfl; have hcz8_1 : w5.cell? ⟨gb317, 1, none⟩ = some (.slice A1_1 l1_1.length c1_1) := (blk_cell BK317.out 1).trans rfl; have hfz8_0 := blk_frozen BK317.out 0; have hfz8_1 := blk_frozen BK317.out 1))
  go_ret
  exact ⟨zq8, zq52⟩
 ·rw [if_neg c3] at H
  have c3b0 : (a0_0 != a1_0) = false := by simpa using c3
  (try (have c3b1 : decide (a0_0 = a1_0) = true := by simpa using c3))
  (try (have c3b2 : (a0_0 == a1_0) = true := by simpa using c3))
  clear c3
  by_cases c9 : a0_0 = true
  ·subst c9
   have H1 : ((r1_less.f k l1_1 l0_1).bind fun t318 => (some t318)) = some r := by rw [if_pos rfl] at H; exact H
   clear H
   have H := H1
   clear H1
   replace H := Option.bind_eq_some_iff.mp H
   obtain ⟨t318, A100, H⟩ := H
   replace H : (some t318) = some r := H
   have A10 := Aside0.mk A100
   clear A100
   obtain rfl := Option.some.inj H
   go_enter Try.func79, Try.ntmps79
   go_wp2_with (first | ((with_reducible refine gate_dst (N := 2) rfl ?_); refine box_event ?hg (N := 2) ?hd (cs := #[.bool true, .slice A0_1 l0_1.length c0_1]) (t := 96) ?hr ?_; (case hd => rfl); (case hg => rfl); (case hr => exact zq16); intro gb316 hg w11 hbox hb; have n0_ := Aside0.mk (below_step zq2 hb); have n1_ := Aside0.mk (hbox); have n2_ := Aside0.mk ((by rw [hg]; exact (below_size zq2) : w.heap.size ≤ gb316)); have n3_ := Aside0.mk ((by rw [hg]; exact (below_size zq2) : w.heap.size ≤ gb316)); clear HB; have HB := n0_; have BK316 := n1_; have GW316 := n2_; have GE316 := n3_; clear n0_ n1_ n2_ n3_; clear hb hbox hg) | ((with_reducible refine gate_dst (N := 3) rfl ?_); refine box_event ?hg (N := 3) ?hd (cs := #[.bool a1_0, .slice A1_1 l1_1.length c1_1]) (t := 96) ?hr ?_; (case hd => rfl); (case hg => rfl); (case hr => exact zq16); intro gb317 hg w12 hbox hb; have n0_ := Aside0.mk (blk_below (g := gb316) (o := .cells #[.bool true, .slice A0_1 l0_1.length c0_1] 96 (0, 0)) (bk_ BK316.out) hb); have n1_ := Aside0.mk (below_step zq38 hb); have n2_ := Aside0.mk (hbox); have n3_ := Aside0.mk ((by rw [hg]; exact (below_size zq38) : w.heap.size ≤ gb317)); have n4_ := Aside0.mk ((by rw [hg]; exact (below_size zq38) : w.heap.size ≤ gb317)); have n5_ := Aside0.mk ((by rw [hg]; exact Nat.ne_of_lt (blk_lt (g := gb316) (o := .cells #[.bool true, .slice A0_1 l0_1.length c0_1] 96 (0, 0)) (bk_ BK316.out)) : gb316 ≠ gb317)); have n6_ := Aside0.mk ((by rw [hg]; exact Nat.ne_of_gt (blk_lt (g := gb316) (o := .cells #[.bool true, .slice A0_1 l0_1.length c0_1] 96 (0, 0)) (bk_ BK316.out)) : gb317 ≠ gb316)); clear BK316; clear HB; have BK316 := n0_; have HB := n1_; have BK317 := n2_; have GW317 := n3_; have GE317 := n4_; have NB316_317 := n5_; have NB317_316 := n6_; clear n0_ n1_ n2_ n3_ n4_ n5_ n6_; clear hb hbox hg; have hnb13 := NB316_317.out; have hnc13 := NB317_316.out; have hcz14_0 : w12.cell? ⟨gb316, 0, none⟩ = some (.bool true) := (blk_cell BK316.out 0).trans rfl; have hcz14_1 : w12.cell? ⟨gb316, 1, none⟩ = some (.slice A0_1 l0_1.length c0_1) := (blk_cell BK316.out 1).trans rfl; have hfz14_0 := blk_frozen BK316.out 0; have hfz14_1 := blk_frozen BK316.out 1; have hcz15_0 : w12.cell? ⟨gb317, 0, none⟩ = some (.bool a1_0) := (blk_cell BK317.out 0).trans rfl; have hcz15_1 : w12.cell? ⟨gb317, 1, none⟩ = some (.slice A1_1 l1_1.length c1_1) := (blk_cell BK317.out 1).trans rfl; have hfz15_0 := blk_frozen BK317.out 0; have hfz15_1 := blk_frozen BK317.out 1) | ((with_reducible refine gate_callee (f := 83) rfl ?_); refine goesL_ (some 18) rfl rfl Try.func83 (by kernel_rfl) rfl #[.slice A1_1 l1_1.length c1_1, .slice A0_1 l0_1.length c0_1] rfl zq1 ?_; (with_reducible refine (r1_less.calls k _ _ l1_1 _ _ l0_1 t318 _ ?side1 ?side2 ?side3 ?side4 A10.out).mono ?_); (case side1 => exact zq30); (case side2 => exact HC1_1.out); (case side3 => exact zq24); (case side4 => exact HC0_1.out); rintro e w16 ⟨rfl, hb⟩; refine ⟨_, rfl, ?_⟩; replace BK316 := Aside0.mk (blk_below (g := gb316) (o := .cells #[.bool true, .slice A0_1 l0_1.length c0_1] 96 (0, 0)) (bk_ BK316.out) hb); replace BK317 := Aside0.mk (blk_below (g := gb317) (o := .cells #[.bool a1_0, .slice A1_1 l1_1.length c1_1] 96 (0, 0)) (bk_ BK317.out) hb); replace HB := Aside0.mk (below_step zq52 hb); (try clear hb hk hi); (try clear hb2)))
   go_ret
   exact ⟨zq8, zq52⟩
  ·replace c9 := Bool.eq_false_iff.mpr c9
   subst c9
   have H1 : ((r1_less.f k l0_1 l1_1).bind fun t319 => (some t319)) = some r := by rw [if_neg (show ¬ (false = true) by decide)] at H; exact H
   clear H
   have H := H1
   clear H1
   replace H := Option.bind_eq_some_iff.mp H
   obtain ⟨t319, A170, H⟩ := H
   replace H : (some t319) = some r := H
   have A17 := Aside0.mk A170
   clear A170
   obtain rfl := Option.some.inj H
   go_enter Try.func79, Try.ntmps79
   go_wp2_with (first | ((with_reducible refine gate_dst (N := 2) rfl ?_); refine box_event ?hg (N := 2) ?hd (cs := #[.bool false, .slice A0_1 l0_1.length c0_1]) (t := 96) ?hr ?_; (case hd => rfl); (case hg => rfl); (case hr => exact zq16); intro gb316 hg w18 hbox hb; have n0_ := Aside0.mk (below_step zq2 hb); have n1_ := Aside0.mk (hbox); have n2_ := Aside0.mk ((by rw [hg]; exact (below_size zq2) : w.heap.size ≤ gb316)); have n3_ := Aside0.mk ((by rw [hg]; exact (below_size zq2) : w.heap.size ≤ gb316)); clear HB; have HB := n0_; have BK316 := n1_; have GW316 := n2_; have GE316 := n3_; clear n0_ n1_ n2_ n3_; clear hb hbox hg) | ((with_reducible refine gate_dst (N := 3) rfl ?_); refine box_event ?hg (N := 3) ?hd (cs := #[.bool a1_0, .slice A1_1 l1_1.length c1_1]) (t := 96) ?hr ?_; (case hd => rfl); (case hg => rfl); (case hr => exact zq16); intro gb317 hg w19 hbox hb; have n0_ := Aside0.mk (blk_below (g := gb316) (o := .cells #[.bool false, .slice A0_1 l0_1.length c0_1] 96 (0, 0)) (bk_ BK316.out) hb); have n1_ := Aside0.mk (below_step zq38 hb); have n2_ := Aside0.mk (hbox); have n3_ := Aside0.mk ((by rw [hg]; exact (below_size zq38) : w.heap.size ≤ gb317)); have n4_ := Aside0.mk ((by rw [hg]; exact (below_size zq38) : w.heap.size ≤ gb317)); have n5_ := Aside0.mk ((by rw [hg]; exact Nat.ne_of_lt (blk_lt (g := gb316) (o := .cells #[.bool false, .slice A0_1 l0_1.length c0_1] 96 (0, 0)) (bk_ BK316.out)) : gb316 ≠ gb317)); have n6_ := Aside0.mk ((by rw [hg]; exact Nat.ne_of_gt (blk_lt (g := gb316) (o := .cells #[.bool false, .slice A0_1 l0_1.length c0_1] 96 (0, 0)) (bk_ BK316.out)) : gb317 ≠ gb316)); clear BK316; clear HB; have BK316 := n0_; have HB := n1_; have BK317 := n2_; have GW317 := n3_; have GE317 := n4_; have NB316_317 := n5_; have NB317_316 := n6_; clear n0_ n1_ n2_ n3_ n4_ n5_ n6_; clear hb hbox hg; have hnb20 := NB316_317.out; have hnc20 := NB317_316.out; have hcz21_0 : w19.cell? ⟨gb316, 0, none⟩ = some (.bool false) := (blk_cell BK316.out 0).trans rfl; have hcz21_1 : w19.cell? ⟨gb316, 1, none⟩ = some (.slice A0_1 l0_1.length c0_1) := (blk_cell BK316.out 1).trans rfl; have hfz21_0 := blk_frozen BK316.out 0; have hfz21_1 := blk_frozen BK316.out 1; have hcz22_0 : w19.cell? ⟨gb317, 0, none⟩ = some (.bool a1_0) := (blk_cell BK317.out 0).trans rfl; have hcz22_1 : w19.cell? ⟨gb317, 1, none⟩ = some (.slice A1_1 l1_1.length c1_1) := (blk_cell BK317.out 1).trans rfl; have hfz22_0 := blk_frozen BK317.out 0; have hfz22_1 := blk_frozen BK317.out 1) | ((with_reducible refine gate_callee (f := 83) rfl ?_); refine goesL_ (some 23) rfl rfl Try.func83 (by kernel_rfl) rfl #[.slice A0_1 l0_1.length c0_1, .slice A1_1 l1_1.length c1_1] rfl zq1 ?_; (with_reducible refine (r1_less.calls k _ _ l0_1 _ _ l1_1 t319 _ ?side1 ?side2 ?side3 ?side4 A17.out).mono ?_); (case side1 => exact zq24); (case side2 => exact HC0_1.out); (case side3 => exact zq30); (case side4 => exact HC1_1.out); rintro e w23 ⟨rfl, hb⟩; refine ⟨_, rfl, ?_⟩; replace BK316 := Aside0.mk (blk_below (g := gb316) (o := .cells #[.bool false, .slice A0_1 l0_1.length c0_1] 96 (0, 0)) (bk_ BK316.out) hb); replace BK317 := Aside0.mk (blk_below (g := gb317) (o := .cells #[.bool a1_0, .slice A1_1 l1_1.length c1_1] 96 (0, 0)) (bk_ BK317.out) hb); replace HB := Aside0.mk (below_step zq52 hb); (try clear hb hk hi); (try clear hb2)))
   go_ret
   exact ⟨zq8, zq52⟩

/-! ### r1_Small: function 71 -/
mutual
def r1_Small.j0 : Nat → Bool → Bool → List Int → Option (Int × Int)
 | 0, _, _, _ => none
 | k + 1, x17, x321000, x321001 => if x17 = true then (some (0, 5)) else (r1_Small.l0 k 0 (wrap64 ((x321001.length : Int) - 1)) x321000 x321001)
def r1_Small.l0 : Nat → Int → Int → Bool → List Int → Option (Int × Int)
 | 0, _, _, _, _ => none
 | k + 1, x6, x7, x321000, x321001 => if x7 ≥ 0 then (if x321000 = true then (if 0 ≤ x7 then (if x7 < (x321001.length : Int) then (r1_Small.l0 k (wrap64 ((wrap64 (x6 * 65536)) - (wrap64 (rd x321001 x7)))) (wrap64 (x7 - 1)) x321000 x321001) else (none)) else (none)) else (if 0 ≤ x7 then (if x7 < (x321001.length : Int) then (r1_Small.l0 k (wrap64 ((wrap64 (x6 * 65536)) + (wrap64 (rd x321001 x7)))) (wrap64 (x7 - 1)) x321000 x321001) else (none)) else (none))) else (some (x6, 0))
end
def r1_Small.f (k : Nat) (a0_0 : Bool) (l0_1 : List Int) : Option (Int × Int) := (r1_Of.f k (-9223372036854775808)).bind fun bt321 => ((r1_Of.f k 9223372036854775807).bind fun bt325 => ((r1_Less.f k a0_0 l0_1 bt321.1 bt321.2).bind fun t331 => (if t331 = true then (r1_Small.j0 k true a0_0 l0_1) else ((r1_Less.f k bt325.1 bt325.2 a0_0 l0_1).bind fun t332 => (r1_Small.j0 k t332 a0_0 l0_1)))))
set_option maxHeartbeats 8000000 in
set_option maxRecDepth 100000 in
theorem r1_Small.calls (k : Nat) (a0_0 : Bool) (A0_1 : Option Addr) (c0_1 : Nat) (l0_1 : List Int) (r1 : Int) (r2 : Int) (w : World) (hr0_1 : Kd.C (Kd.int .u64) w A0_1 l0_1.length l0_1) (hc0_1 : l0_1.length ≤ c0_1) (h : r1_Small.f k a0_0 l0_1 = some (r1, r2)) :
  Calls Try.prog 71 #[.agg #[.bool a0_0, .slice A0_1 l0_1.length c0_1]] w fun e w' => e = .returned (.tuple #[.int .i64 r1, .int .i64 r2]) ∧ Below w.heap.size w w' := by
 have hu96 := Try.underlying96
 have HR0_1 := Aside0.mk hr0_1
 have HC0_1 := Aside0.mk hc0_1
 clear hr0_1 hc0_1
 have HB := Aside0.mk (Below.refl w.heap.size w)
 have H : ((r1_Of.f k (-9223372036854775808)).bind fun bt321 => ((r1_Of.f k 9223372036854775807).bind fun bt325 => ((r1_Less.f k a0_0 l0_1 bt321.1 bt321.2).bind fun t331 => (if t331 = true then (r1_Small.j0 k true a0_0 l0_1) else ((r1_Less.f k bt325.1 bt325.2 a0_0 l0_1).bind fun t332 => (r1_Small.j0 k t332 a0_0 l0_1)))))) = some (r1, r2) := h
 clear h
 replace H := Option.bind_eq_some_iff.mp H
 obtain ⟨⟨t321, t322⟩, A20, H⟩ := H
 replace H : ((r1_Of.f k 9223372036854775807).bind fun bt325 => ((r1_Less.f k a0_0 l0_1 t321 t322).bind fun t331 => (if t331 = true then (r1_Small.j0 k true a0_0 l0_1) else ((r1_Less.f k bt325.1 bt325.2 a0_0 l0_1).bind fun t332 => (r1_Small.j0 k t332 a0_0 l0_1))))) = some (r1, r2) := H
 have A2 := Aside0.mk A20
 clear A20
 replace H := Option.bind_eq_some_iff.mp H
 obtain ⟨⟨t325, t326⟩, A30, H⟩ := H
 replace H : ((r1_Less.f k a0_0 l0_1 t321 t322).bind fun t331 => (if t331 = true then (r1_Small.j0 k true a0_0 l0_1) else ((r1_Less.f k t325 t326 a0_0 l0_1).bind fun t332 => (r1_Small.j0 k t332 a0_0 l0_1)))) = some (r1, r2) := H
 have A3 := Aside0.mk A30
 clear A30
 have HC4 := Aside0.mk H
 clear H
 go_enter Try.func71, Try.ntmps71
 go_upto_region 2 with (first | ((with_reducible refine gate_dst (N := 1) rfl ?_); refine box_event ?hg (N := 1) ?hd (cs := #[.bool a0_0, .slice A0_1 l0_1.length c0_1]) (t := 96) ?hr ?_; (case hd => rfl); (case hg => rfl); (case hr => exact zq16); intro gb320 hg w5 hbox hb; have n0_ := Aside0.mk (below_step zq2 hb); have n1_ := Aside0.mk (hbox); have n2_ := Aside0.mk ((by rw [hg]; exact (below_size zq2) : w.heap.size ≤ gb320)); have n3_ := Aside0.mk ((by rw [hg]; exact (below_size zq2) : w.heap.size ≤ gb320)); clear HB; have HB := n0_; have BK320 := n1_; have GW320 := n2_; have GE320 := n3_; clear n0_ n1_ n2_ n3_; clear hb hbox hg) | ((with_reducible refine gate_callee (f := 78) rfl ?_); refine goesL_ (some 8) rfl rfl Try.func78 (by kernel_rfl) rfl #[.int .i64 (-9223372036854775808)] rfl zq1 ?_; (with_reducible refine (r1_Of.calls k (-9223372036854775808) t321 t322 _ A2.out).mono ?_); rintro e w6 ⟨v323, rfl, ho0, hb⟩; refine ⟨_, rfl, ?_⟩; have n0_ := Aside0.mk (Kd.R_lower ho0 (below_size zq45)); have n1_ := Aside0.mk (blk_below (g := gb320) (o := .cells #[.bool a0_0, .slice A0_1 l0_1.length c0_1] 96 (0, 0)) (bk_ BK320.out) hb); have n2_ := Aside0.mk (below_step zq45 hb); clear BK320; clear HB; have HO324 := n0_; have BK320 := n1_; have HB := n2_; clear n0_ n1_ n2_; (try clear hb hk hi); (try clear hb2); (try clear ho0)) | ((with_reducible refine gate_callee (f := 78) rfl ?_); refine goesL_ (some 9) rfl rfl Try.func78 (by kernel_rfl) rfl #[.int .i64 9223372036854775807] rfl zq1 ?_; (with_reducible refine (r1_Of.calls k 9223372036854775807 t325 t326 _ A3.out).mono ?_); rintro e w7 ⟨v327, rfl, ho0, hb⟩; refine ⟨_, rfl, ?_⟩; have n0_ := Aside0.mk (Kd.R_elder' zq73 (Kd.R_base ho0) hb); have n1_ := Aside0.mk (Kd.R_lower (Kd.R_new' ho0 (Kd.R_lt zq73)) (below_size zq45)); have n2_ := Aside0.mk (blk_below (g := gb320) (o := .cells #[.bool a0_0, .slice A0_1 l0_1.length c0_1] 96 (0, 0)) (bk_ BK320.out) hb); have n3_ := Aside0.mk (below_step zq45 hb); clear HO324; clear BK320; clear HB; have HO324 := n0_; have HO328 := n1_; have BK320 := n2_; have HB := n3_; clear n0_ n1_ n2_ n3_; (try clear hb hk hi); (try clear hb2); (try clear ho0)) | ((with_reducible refine gate_dst (N := 4) rfl ?_); refine box_event ?hg (N := 4) ?hd (cs := #[.bool false, .slice none 0 0]) (t := 96) ?hr ?_; (case hd => rfl); (case hg => rfl); (case hr => exact zq16); intro gb329 hg w8 hbox hb; have n0_ := Aside0.mk (Kd.R_below zq73 hb); have n1_ := Aside0.mk (Kd.R_below (by (with_reducible repeat (first | apply Kd.R_alloc | apply Kd.R_drewN | apply Kd.R_drew)); exact HO328.out) hb); have n2_ := Aside0.mk (blk_below (g := gb320) (o := .cells #[.bool a0_0, .slice A0_1 l0_1.length c0_1] 96 (0, 0)) (bk_ BK320.out) hb); have n3_ := Aside0.mk (below_step zq45 hb); have n4_ := Aside0.mk (hbox); have n5_ := Aside0.mk ((by rw [hg]; exact (below_size zq45) : w.heap.size ≤ gb329)); have n6_ := Aside0.mk ((by rw [hg]; exact (below_size zq45) : w.heap.size ≤ gb329)); have n7_ := Aside0.mk ((by rw [hg]; exact Nat.ne_of_lt (blk_lt (g := gb320) (o := .cells #[.bool a0_0, .slice A0_1 l0_1.length c0_1] 96 (0, 0)) (bk_ BK320.out)) : gb320 ≠ gb329)); have n8_ := Aside0.mk ((by rw [hg]; exact Nat.ne_of_gt (blk_lt (g := gb320) (o := .cells #[.bool a0_0, .slice A0_1 l0_1.length c0_1] 96 (0, 0)) (bk_ BK320.out)) : gb329 ≠ gb320)); clear HO324; clear HO328; clear BK320; clear HB; have HO324 := n0_; have HO328 := n1_; have BK320 := n2_; have HB := n3_; have BK329 := n4_; have GW329 := n5_; have GE329 := n6_; have NB320_329 := n7_; have NB329_320 := n8_; clear n0_ n1_ n2_ n3_ n4_ n5_ n6_ n7_ n8_; clear hb hbox hg) | ((with_reducible refine gate_dst (N := 5) rfl ?_); refine box_event ?hg (N := 5) ?hd (cs := #[.bool false, .slice none 0 0]) (t := 96) ?hr ?_; (case hd => rfl); (case hg => rfl); (case hr => exact zq16); intro gb330 hg w9 hbox hb; have n0_ := Aside0.mk (Kd.R_below zq73 hb); have n1_ := Aside0.mk (Kd.R_below (by (with_reducible repeat (first | apply Kd.R_alloc | apply Kd.R_drewN | apply Kd.R_drew)); exact HO328.out) hb); have n2_ := Aside0.mk (blk_below (g := gb320) (o := .cells #[.bool a0_0, .slice A0_1 l0_1.length c0_1] 96 (0, 0)) (bk_ BK320.out) hb); have n3_ := Aside0.mk (blk_below (g := gb329) (o := .cells #[.bool false, .slice none 0 0] 96 (0, 0)) (bk_ BK329.out) hb); have n4_ := Aside0.mk (below_step zq77 hb); have n5_ := Aside0.mk (hbox); have n6_ := Aside0.mk ((by rw [hg]; exact (below_size zq77) : w.heap.size ≤ gb330)); have n7_ := Aside0.mk ((by rw [hg]; exact (below_size zq77) : w.heap.size ≤ gb330)); have n8_ := Aside0.mk ((by rw [hg]; exact Nat.ne_of_lt (blk_lt (g := gb320) (o := .cells #[.bool a0_0, .slice A0_1 l0_1.length c0_1] 96 (0, 0)) (bk_ BK320.out)) : gb320 ≠ gb330)); have n9_ := Aside0.mk ((by rw [hg]; exact Nat.ne_of_gt (blk_lt (g := gb320) (o := .cells #[.bool a0_0, .slice A0_1 l0_1.length c0_1] 96 (0, 0)) (bk_ BK320.out)) : gb330 ≠ gb320)); have n10_ := Aside0.mk ((by rw [hg]; exact Nat.ne_of_lt (blk_lt (g := gb329) (o := .cells #[.bool false, .slice none 0 0] 96 (0, 0)) (bk_ BK329.out)) : gb329 ≠ gb330)); have n11_ := Aside0.mk ((by rw [hg]; exact Nat.ne_of_gt (blk_lt (g := gb329) (o := .cells #[.bool false, .slice none 0 0] 96 (0, 0)) (bk_ BK329.out)) : gb330 ≠ gb329)); clear HO324; clear HO328; clear BK320; clear BK329; clear HB; have HO324 := n0_; have HO328 := n1_; have BK320 := n2_; have BK329 := n3_; have HB := n4_; have BK330 := n5_; have GW330 := n6_; have GE330 := n7_; have NB320_330 := n8_; have NB330_320 := n9_; have NB329_330 := n10_; have NB330_329 := n11_; clear n0_ n1_ n2_ n3_ n4_ n5_ n6_ n7_ n8_ n9_ n10_ n11_; clear hb hbox hg; have hnb10 := NB329_320.out; have hnc10 := NB320_329.out; have hnb11 := NB329_330.out; have hnc11 := NB330_329.out; have hcz12_0 : w9.cell? ⟨gb329, 0, none⟩ = some (.bool false) := (blk_cell BK329.out 0).trans rfl; have hcz12_1 : w9.cell? ⟨gb329, 1, none⟩ = some (.slice none 0 0) := (blk_cell BK329.out 1).trans rfl; have hfz12_0 := blk_frozen BK329.out 0; have hfz12_1 := blk_frozen BK329.out 1; obtain ⟨Ao13, co13, eo13⟩ := Kd.R_slice HO324.out; subst eo13; have hnb14 := NB330_320.out; have hnc14 := NB320_330.out; have hcz15_0 : w9.cell? ⟨gb330, 0, none⟩ = some (.bool false) := (blk_cell BK330.out 0).trans rfl; have hcz15_1 : w9.cell? ⟨gb330, 1, none⟩ = some (.slice none 0 0) := (blk_cell BK330.out 1).trans rfl; have hfz15_0 := blk_frozen BK330.out 0; have hfz15_1 := blk_frozen BK330.out 1; obtain ⟨Ao16, co16, eo16⟩ := Kd.R_slice HO328.out; subst eo16))
 (try simp only [Act.put, sl_])
 go_cut [17] (fun v17 wc => ∃ (kq : Nat) (x17_3 : Bool), v17 = .bool x17_3 ∧ Aside0 (r1_Small.j0 kq x17_3 a0_0 l0_1 = some (r1, r2)) ∧ Aside0 (kq ≤ k) ∧ Aside0 (Kd.R (Kd.int .u64) 88 wc w.heap.size (fun k_ => some k_ ≠ ((.slice Ao16 t326.length co16) : Value).ownBlock) (.slice Ao13 t322.length co13) t322) ∧ Aside0 (Kd.R (Kd.int .u64) 88 wc w.heap.size (fun k_ => some k_ ≠ ((.slice Ao13 t322.length co13) : Value).ownBlock) (.slice Ao16 t326.length co16) t326) ∧ Aside0 (wc.heap[gb320]? = some (.cells #[.bool a0_0, (.slice A0_1 l0_1.length c0_1)] 96 (0, 0))) ∧ Aside0 (wc.heap[gb329]? = some (.cells #[.bool t321, (.slice Ao13 t322.length co13)] 96 (0, 0))) ∧ Aside0 (wc.heap[gb330]? = some (.cells #[.bool t325, (.slice Ao16 t326.length co16)] 96 (0, 0))) ∧ Aside0 (Below w.heap.size w wc))
 case first =>
  have H := HC4.out
  clear HC4
  replace H := Option.bind_eq_some_iff.mp H
  obtain ⟨t331, A170, H⟩ := H
  replace H : (if t331 = true then (r1_Small.j0 k true a0_0 l0_1) else ((r1_Less.f k t325 t326 a0_0 l0_1).bind fun t332 => (r1_Small.j0 k t332 a0_0 l0_1))) = some (r1, r2) := H
  have A17 := Aside0.mk A170
  clear A170
  by_cases c18 : t331 = true
  ·subst c18
   have H1 : (r1_Small.j0 k true a0_0 l0_1) = some (r1, r2) := by rw [if_pos rfl] at H; exact H
   clear H
   have H := H1
   clear H1
   have H' := Aside0.mk H
   clear H
   have hnb19 := NB320_329.out
   have hnc19 := NB329_320.out
   have hnb20 := NB320_330.out
   have hnc20 := NB330_320.out
   have hcz21_0 : w9.cell? ⟨gb320, 0, none⟩ = some (.bool a0_0) := (blk_cell BK320.out 0).trans rfl
   have hcz21_1 : w9.cell? ⟨gb320, 1, none⟩ = some (.slice A0_1 l0_1.length c0_1) := (blk_cell BK320.out 1).trans rfl
   have hfz21_0 := blk_frozen BK320.out 0
   have hfz21_1 := blk_frozen BK320.out 1
   have hnb22 := NB329_330.out
   have hnc22 := NB330_329.out
   have hcz23_0 : w9.cell? ⟨gb329, 0, none⟩ = some (.bool false) := (blk_cell BK329.out 0).trans rfl
   have hcz23_1 : w9.cell? ⟨gb329, 1, none⟩ = some (.slice none 0 0) := (blk_cell BK329.out 1).trans rfl
   have hfz23_0 := blk_frozen BK329.out 0
   have hfz23_1 := blk_frozen BK329.out 1
   go_wp2_with (first | ((with_reducible refine gate_callee (f := 79) rfl ?_); refine goesL_ (some 12) rfl rfl Try.func79 (by kernel_rfl) rfl #[.agg #[.bool a0_0, .slice A0_1 l0_1.length c0_1], .agg #[.bool t321, .slice Ao13 t322.length co13]] rfl zq1 ?_; (with_reducible refine (r1_Less.calls k a0_0 _ _ l0_1 t321 _ _ t322 true _ ?side1 ?side2 ?side3 ?side4 A17.out).mono ?_); (case side1 => exact Kd.C_below HR0_1.out zq18); (case side2 => exact HC0_1.out); (case side3 => refine (Kd.R_reads' (e := 88) (base := w.heap.size) (ok := fun k_ => (True ∧ some k_ ≠ (.slice Ao16 t326.length co16 : Value).ownBlock)) (n := t322.length) (c := co13) ?_).2.2; exact zq31); (case side4 => exact (Kd.R_reads' HO324.out).2.1); rintro e w24 ⟨rfl, hb⟩; refine ⟨_, rfl, ?_⟩; replace HO324 := Aside0.mk (Kd.R_below zq31 hb); replace HO328 := Aside0.mk (Kd.R_below zq63 hb); replace BK320 := Aside0.mk (blk_below (g := gb320) (o := .cells #[.bool a0_0, .slice A0_1 l0_1.length c0_1] 96 (0, 0)) zq62 hb); replace BK329 := Aside0.mk (blk_below (g := gb329) (o := .cells #[.bool t321, .slice Ao13 t322.length co13] 96 (0, 0)) zq54 hb); replace BK330 := Aside0.mk (blk_below (g := gb330) (o := .cells #[.bool t325, .slice Ao16 t326.length co16] 96 (0, 0)) zq55 hb); replace HB := Aside0.mk (below_step zq18 hb); (try clear hb hk hi); (try clear hb2)))
   go_meet
   case rel => exact ⟨_, (true), zq9, H', ⟨zq53⟩, ⟨by (with_reducible repeat (first | apply Kd.R_alloc | apply Kd.R_drewN | apply Kd.R_drew)); exact Kd.R_mono HO324.out (fun _ hk => hk.2)⟩, ⟨by (with_reducible repeat (first | apply Kd.R_alloc | apply Kd.R_drewN | apply Kd.R_drew)); exact Kd.R_mono HO328.out (fun _ hk => hk.2)⟩, ⟨zq67⟩, ⟨zq68⟩, ⟨zq69⟩, ⟨zq18⟩⟩
  ·replace c18 := Bool.eq_false_iff.mpr c18
   subst c18
   have H1 : ((r1_Less.f k t325 t326 a0_0 l0_1).bind fun t332 => (r1_Small.j0 k t332 a0_0 l0_1)) = some (r1, r2) := by rw [if_neg (show ¬ (false = true) by decide)] at H; exact H
   clear H
   have H := H1
   clear H1
   replace H := Option.bind_eq_some_iff.mp H
   obtain ⟨t332, A250, H⟩ := H
   replace H : (r1_Small.j0 k t332 a0_0 l0_1) = some (r1, r2) := H
   have A25 := Aside0.mk A250
   clear A250
   have H' := Aside0.mk H
   clear H
   have hnb26 := NB320_329.out
   have hnc26 := NB329_320.out
   have hnb27 := NB320_330.out
   have hnc27 := NB330_320.out
   have hcz28_0 : w9.cell? ⟨gb320, 0, none⟩ = some (.bool a0_0) := (blk_cell BK320.out 0).trans rfl
   have hcz28_1 : w9.cell? ⟨gb320, 1, none⟩ = some (.slice A0_1 l0_1.length c0_1) := (blk_cell BK320.out 1).trans rfl
   have hfz28_0 := blk_frozen BK320.out 0
   have hfz28_1 := blk_frozen BK320.out 1
   have hnb29 := NB329_330.out
   have hnc29 := NB330_329.out
   have hcz30_0 : w9.cell? ⟨gb329, 0, none⟩ = some (.bool false) := (blk_cell BK329.out 0).trans rfl
   have hcz30_1 : w9.cell? ⟨gb329, 1, none⟩ = some (.slice none 0 0) := (blk_cell BK329.out 1).trans rfl
   have hfz30_0 := blk_frozen BK329.out 0
   have hfz30_1 := blk_frozen BK329.out 1
   go_wp2_with (first | ((with_reducible refine gate_callee (f := 79) rfl ?_); refine goesL_ (some 12) rfl rfl Try.func79 (by kernel_rfl) rfl #[.agg #[.bool a0_0, .slice A0_1 l0_1.length c0_1], .agg #[.bool t321, .slice Ao13 t322.length co13]] rfl zq1 ?_; (with_reducible refine (r1_Less.calls k a0_0 _ _ l0_1 t321 _ _ t322 false _ ?side1 ?side2 ?side3 ?side4 A17.out).mono ?_); (case side1 => exact Kd.C_below HR0_1.out zq18); (case side2 => exact HC0_1.out); (case side3 => refine (Kd.R_reads' (e := 88) (base := w.heap.size) (ok := fun k_ => (True ∧ some k_ ≠ (.slice Ao16 t326.length co16 : Value).ownBlock)) (n := t322.length) (c := co13) ?_).2.2; exact zq31); (case side4 => exact (Kd.R_reads' HO324.out).2.1); rintro e w31 ⟨rfl, hb⟩; refine ⟨_, rfl, ?_⟩; replace HO324 := Aside0.mk (Kd.R_below zq31 hb); replace HO328 := Aside0.mk (Kd.R_below zq63 hb); replace BK320 := Aside0.mk (blk_below (g := gb320) (o := .cells #[.bool a0_0, .slice A0_1 l0_1.length c0_1] 96 (0, 0)) zq62 hb); replace BK329 := Aside0.mk (blk_below (g := gb329) (o := .cells #[.bool t321, .slice Ao13 t322.length co13] 96 (0, 0)) zq54 hb); replace BK330 := Aside0.mk (blk_below (g := gb330) (o := .cells #[.bool t325, .slice Ao16 t326.length co16] 96 (0, 0)) zq55 hb); replace HB := Aside0.mk (below_step zq18 hb); (try clear hb hk hi); (try clear hb2); have hcz32_0 : w31.cell? ⟨gb330, 0, none⟩ = some (.bool t325) := (blk_cell BK330.out 0).trans rfl; have hcz32_1 : w31.cell? ⟨gb330, 1, none⟩ = some (.slice Ao16 t326.length co16) := (blk_cell BK330.out 1).trans rfl; have hfz32_0 := blk_frozen BK330.out 0; have hfz32_1 := blk_frozen BK330.out 1; have hcz33_0 : w31.cell? ⟨gb320, 0, none⟩ = some (.bool a0_0) := (blk_cell BK320.out 0).trans rfl; have hcz33_1 : w31.cell? ⟨gb320, 1, none⟩ = some (.slice A0_1 l0_1.length c0_1) := (blk_cell BK320.out 1).trans rfl; have hfz33_0 := blk_frozen BK320.out 0; have hfz33_1 := blk_frozen BK320.out 1) | (go_at_call 79; (with_reducible refine (r1_Less.calls k t325 _ _ t326 a0_0 _ _ l0_1 t332 _ ?side1 ?side2 ?side3 ?side4 A25.out).mono ?_); (case side1 => repeat (first | exact (Kd.R_reads' HO328.out).2.2 | (with_reducible refine Kd.C_alloc ?_ _) | (with_reducible refine Kd.C_drewN ?_ _) | (with_reducible refine Kd.C_drew ?_))); (case side2 => exact (Kd.R_reads' HO328.out).2.1); (case side3 => exact zq24); (case side4 => exact HC0_1.out); rintro e w34 ⟨rfl, hb⟩; replace HO324 := Aside0.mk (Kd.R_below zq73 hb); replace HO328 := Aside0.mk (Kd.R_below (by (with_reducible repeat (first | apply Kd.R_alloc | apply Kd.R_drewN | apply Kd.R_drew)); exact HO328.out) hb); replace BK320 := Aside0.mk (blk_below (g := gb320) (o := .cells #[.bool a0_0, .slice A0_1 l0_1.length c0_1] 96 (0, 0)) (bk_ BK320.out) hb); replace BK329 := Aside0.mk (blk_below (g := gb329) (o := .cells #[.bool t321, .slice Ao13 t322.length co13] 96 (0, 0)) (bk_ BK329.out) hb); replace BK330 := Aside0.mk (blk_below (g := gb330) (o := .cells #[.bool t325, .slice Ao16 t326.length co16] 96 (0, 0)) (bk_ BK330.out) hb); replace HB := Aside0.mk (below_step zq18 hb); (try clear hb hk hi); (try clear hb2)))
   go_meet
   case rel => exact ⟨_, (t332), zq9, H', ⟨zq53⟩, ⟨by (with_reducible repeat (first | apply Kd.R_alloc | apply Kd.R_drewN | apply Kd.R_drew)); exact Kd.R_mono HO324.out (fun _ hk => hk.2)⟩, ⟨by (with_reducible repeat (first | apply Kd.R_alloc | apply Kd.R_drewN | apply Kd.R_drew)); exact Kd.R_mono HO328.out (fun _ hk => hk.2)⟩, ⟨zq67⟩, ⟨zq68⟩, ⟨zq69⟩, ⟨zq18⟩⟩
 case rest =>
  clear HC4
  try clear c1
  try clear c2
  try clear p2
  try clear p6
  try clear c7
  try clear c10
  try clear c11
  try clear c14
  try clear c18
  try clear c19
  try clear c20
  try clear c22
  try clear c26
  try clear c27
  try clear c29
  try clear hcz12_0
  try clear hcz12_1
  try clear hcz15_0
  try clear hcz15_1
  try clear hcz21_0
  try clear hcz21_1
  try clear hcz23_0
  try clear hcz23_1
  try clear hcz28_0
  try clear hcz28_1
  try clear hcz30_0
  try clear hcz30_1
  try clear hcz32_0
  try clear hcz32_1
  try clear hcz33_0
  try clear hcz33_1
  try clear hfz12_0
  try clear hfz12_1
  try clear hfz15_0
  try clear hfz15_1
  try clear hfz21_0
  try clear hfz21_1
  try clear hfz23_0
  try clear hfz23_1
  try clear hfz28_0
  try clear hfz28_1
  try clear hfz30_0
  try clear hfz30_1
  try clear hfz32_0
  try clear hfz32_1
  try clear hfz33_0
  try clear hfz33_1
  obtain ⟨kq, x17_3, rfl, HA, HJ3, HO_330001, HO_331001, BK320, BK329, BK330, HB⟩ := hcut
  cases kq with
  | zero => exact absurd HA.out (by simp [r1_Small.j0])
  | succ kj3 =>
   have H := HA.out
   clear HA
   simp only [r1_Small.j0] at H
   by_cases c35 : x17_3 = true
   ·subst c35
    have H1 : (some (0, 5)) = some (r1, r2) := by rw [if_pos rfl] at H; exact H
    clear H
    have H := H1
    clear H1
    simp only [Option.some.injEq, Prod.mk.injEq] at H
    obtain ⟨rfl, rfl⟩ := H
    go_wp2
    go_ret2
    exact ⟨zq8, zq18⟩
   ·replace c35 := Bool.eq_false_iff.mpr c35
    subst c35
    have H1 : (r1_Small.l0 kj3 0 (wrap64 ((l0_1.length : Int) - 1)) a0_0 l0_1) = some (r1, r2) := by rw [if_neg (show ¬ (false = true) by decide)] at H; exact H
    clear H
    have H := H1
    clear H1
    have H' := Aside0.mk H
    clear H
    have hnb36 := NB320_329.out
    have hnc36 := NB329_320.out
    have hnb37 := NB320_330.out
    have hnc37 := NB330_320.out
    have hcz38_0 : wc.cell? ⟨gb320, 0, none⟩ = some (.bool a0_0) := (blk_cell BK320.out 0).trans rfl
    have hcz38_1 : wc.cell? ⟨gb320, 1, none⟩ = some (.slice A0_1 l0_1.length c0_1) := (blk_cell BK320.out 1).trans rfl
    have hfz38_0 := blk_frozen BK320.out 0
    have hfz38_1 := blk_frozen BK320.out 1
    go_wp2
    try simp only [Act.put, sl_]
    go_loopg [6, 7] kj3 (fun kq v6 v7 w' => ∃ (x6_2 : Int) (x7_2 : Int), v6 = .int .i64 x6_2 ∧ v7 = .int .i64 x7_2 ∧ Aside0 (r1_Small.l0 kq x6_2 x7_2 a0_0 l0_1 = some (r1, r2)) ∧ Aside0 (kq ≤ kj3) ∧ Aside0 (Kd.R (Kd.int .u64) 88 w' w.heap.size (fun k_ => some k_ ≠ ((.slice Ao16 t326.length co16) : Value).ownBlock) (.slice Ao13 t322.length co13) t322) ∧ Aside0 (Kd.R (Kd.int .u64) 88 w' w.heap.size (fun k_ => some k_ ≠ ((.slice Ao13 t322.length co13) : Value).ownBlock) (.slice Ao16 t326.length co16) t326) ∧ Aside0 (w'.heap[gb320]? = some (.cells #[.bool a0_0, (.slice A0_1 l0_1.length c0_1)] 96 (0, 0))) ∧ Aside0 (w'.heap[gb329]? = some (.cells #[.bool t321, (.slice Ao13 t322.length co13)] 96 (0, 0))) ∧ Aside0 (w'.heap[gb330]? = some (.cells #[.bool t325, (.slice Ao16 t326.length co16)] 96 (0, 0))) ∧ Aside0 (Below w.heap.size w w'))
    case atStart => exact ⟨(0), (wrap64 ((l0_1.length : Int) - 1)), zq9, zq9, H', ⟨Nat.le_refl _⟩, ⟨by (with_reducible repeat (first | apply Kd.R_alloc | apply Kd.R_drewN | apply Kd.R_drew)); exact HO_330001.out⟩, ⟨by (with_reducible repeat (first | apply Kd.R_alloc | apply Kd.R_drewN | apply Kd.R_drew)); exact HO_331001.out⟩, ⟨zq67⟩, ⟨zq68⟩, ⟨zq69⟩, ⟨zq18⟩⟩
    case round =>
     clear H'
     try clear c1
     try clear c2
     try clear p2
     try clear c3
     try clear p6
     try clear c7
     try clear c10
     try clear c11
     try clear c14
     try clear c18
     try clear c19
     try clear c20
     try clear c22
     try clear c26
     try clear c27
     try clear c29
     try clear c35
     try clear c36
     try clear c37
     try clear hcz12_0
     try clear hcz12_1
     try clear hcz15_0
     try clear hcz15_1
     try clear hcz21_0
     try clear hcz21_1
     try clear hcz23_0
     try clear hcz23_1
     try clear hcz28_0
     try clear hcz28_1
     try clear hcz30_0
     try clear hcz30_1
     try clear hcz32_0
     try clear hcz32_1
     try clear hcz33_0
     try clear hcz33_1
     try clear hcz38_0
     try clear hcz38_1
     try clear hfz12_0
     try clear hfz12_1
     try clear hfz15_0
     try clear hfz15_1
     try clear hfz21_0
     try clear hfz21_1
     try clear hfz23_0
     try clear hfz23_1
     try clear hfz28_0
     try clear hfz28_1
     try clear hfz30_0
     try clear hfz30_1
     try clear hfz32_0
     try clear hfz32_1
     try clear hfz33_0
     try clear hfz33_1
     try clear hfz38_0
     try clear hfz38_1
     try clear p2
     try clear p6
     obtain ⟨x6_2, x7_2, rfl, rfl, HA, HK2, HO_330001, HO_331001, BK320, BK329, BK330, HB⟩ := hrel
     cases gk with
     | zero => exact absurd HA.out (by simp [r1_Small.l0])
     | succ k2 =>
      have H := HA.out
      clear HA
      simp only [r1_Small.l0] at H
      by_cases c39 : x7_2 ≥ 0
      ·rw [if_pos c39] at H
       have c39b0 : decide (0 ≤ x7_2) = true := decide_eq_true c39
       clear c39
       by_cases c40 : a0_0 = true
       ·subst c40
        have H1 : (if 0 ≤ x7_2 then (if x7_2 < (l0_1.length : Int) then (r1_Small.l0 k2 (wrap64 ((wrap64 (x6_2 * 65536)) - (wrap64 (rd l0_1 x7_2)))) (wrap64 (x7_2 - 1)) true l0_1) else (none)) else (none)) = some (r1, r2) := by rw [if_pos rfl] at H; exact H
        clear H
        have H := H1
        clear H1
        by_cases c41 : 0 ≤ x7_2
        ·rw [if_pos c41] at H
         have c41b0 : decide (0 ≤ x7_2) = true := decide_eq_true c41
         clear c41
         by_cases c42 : x7_2 < (l0_1.length : Int)
         ·rw [if_pos c42] at H
          have c42b0 : decide (x7_2 < (l0_1.length : Int)) = true := decide_eq_true c42
          clear c42
          have H' := Aside0.mk H
          clear H
          have hnb43 := NB320_329.out
          have hnc43 := NB329_320.out
          have hnb44 := NB320_330.out
          have hnc44 := NB330_320.out
          have hcz45_0 : wr.cell? ⟨gb320, 0, none⟩ = some (.bool true) := (blk_cell BK320.out 0).trans rfl
          have hcz45_1 : wr.cell? ⟨gb320, 1, none⟩ = some (.slice A0_1 l0_1.length c0_1) := (blk_cell BK320.out 1).trans rfl
          have hfz45_0 := blk_frozen BK320.out 0
          have hfz45_1 := blk_frozen BK320.out 1
          have p333 : 0 ≤ (x7_2 : Int) := of_decide_eq_true zq10
          have q333 : x7_2 < (l0_1.length : Int) := of_decide_eq_true zq10
          obtain ⟨ad333, e333, hx333_0⟩ := Kd.at_int HR0_1.out x7_2 p333 q333
          cases e333
          replace hx333_0 := (HB.out.cell (World.block_lt_of_cell? w _ hx333_0)).trans hx333_0
          replace p333 := eq_true p333
          replace q333 := eq_true q333
          go_wp2
          go_roundg k2
          case measure => have := HJ3.out; have := HK2.out; omega
          case rel => exact ⟨(wrap64 ((wrap64 (x6_2 * 65536)) - (wrap64 (rd l0_1 x7_2)))), (wrap64 (x7_2 - 1)), zq9, zq9, H', ⟨by have := HJ3.out; have := HK2.out; omega⟩, ⟨by (with_reducible repeat (first | apply Kd.R_alloc | apply Kd.R_drewN | apply Kd.R_drew)); exact HO_330001.out⟩, ⟨by (with_reducible repeat (first | apply Kd.R_alloc | apply Kd.R_drewN | apply Kd.R_drew)); exact HO_331001.out⟩, ⟨zq67⟩, ⟨zq68⟩, ⟨zq69⟩, ⟨zq18⟩⟩
         ·rw [if_neg c42] at H
          exact absurd H (by simp)
        ·rw [if_neg c41] at H
         exact absurd H (by simp)
       ·replace c40 := Bool.eq_false_iff.mpr c40
        subst c40
        have H1 : (if 0 ≤ x7_2 then (if x7_2 < (l0_1.length : Int) then (r1_Small.l0 k2 (wrap64 ((wrap64 (x6_2 * 65536)) + (wrap64 (rd l0_1 x7_2)))) (wrap64 (x7_2 - 1)) false l0_1) else (none)) else (none)) = some (r1, r2) := by rw [if_neg (show ¬ (false = true) by decide)] at H; exact H
        clear H
        have H := H1
        clear H1
        by_cases c46 : 0 ≤ x7_2
        ·rw [if_pos c46] at H
         have c46b0 : decide (0 ≤ x7_2) = true := decide_eq_true c46
         clear c46
         by_cases c47 : x7_2 < (l0_1.length : Int)
         ·rw [if_pos c47] at H
          have c47b0 : decide (x7_2 < (l0_1.length : Int)) = true := decide_eq_true c47
          clear c47
          have H' := Aside0.mk H
          clear H
          have hnb48 := NB320_329.out
          have hnc48 := NB329_320.out
          have hnb49 := NB320_330.out
          have hnc49 := NB330_320.out
          have hcz50_0 : wr.cell? ⟨gb320, 0, none⟩ = some (.bool false) := (blk_cell BK320.out 0).trans rfl
          have hcz50_1 : wr.cell? ⟨gb320, 1, none⟩ = some (.slice A0_1 l0_1.length c0_1) := (blk_cell BK320.out 1).trans rfl
          have hfz50_0 := blk_frozen BK320.out 0
          have hfz50_1 := blk_frozen BK320.out 1
          have p334 : 0 ≤ (x7_2 : Int) := of_decide_eq_true zq10
          have q334 : x7_2 < (l0_1.length : Int) := of_decide_eq_true zq10
          obtain ⟨ad334, e334, hx334_0⟩ := Kd.at_int HR0_1.out x7_2 p334 q334
          cases e334
          replace hx334_0 := (HB.out.cell (World.block_lt_of_cell? w _ hx334_0)).trans hx334_0
          replace p334 := eq_true p334
          replace q334 := eq_true q334
          go_wp2
          go_roundg k2
          case measure => have := HJ3.out; have := HK2.out; omega
          case rel => exact ⟨(wrap64 ((wrap64 (x6_2 * 65536)) + (wrap64 (rd l0_1 x7_2)))), (wrap64 (x7_2 - 1)), zq9, zq9, H', ⟨by have := HJ3.out; have := HK2.out; omega⟩, ⟨by (with_reducible repeat (first | apply Kd.R_alloc | apply Kd.R_drewN | apply Kd.R_drew)); exact HO_330001.out⟩, ⟨by (with_reducible repeat (first | apply Kd.R_alloc | apply Kd.R_drewN | apply Kd.R_drew)); exact HO_331001.out⟩, ⟨zq67⟩, ⟨zq68⟩, ⟨zq69⟩, ⟨zq18⟩⟩
         ·rw [if_neg c47] at H
          exact absurd H (by simp)
        ·rw [if_neg c46] at H
         exact absurd H (by simp)
      ·rw [if_neg c39] at H
       have c39b0 : decide (0 ≤ x7_2) = false := decide_eq_false c39
       clear c39
       simp only [Option.some.injEq, Prod.mk.injEq] at H
       obtain ⟨rfl, rfl⟩ := H
       go_wp2
       go_ret2
       exact ⟨zq8, zq18⟩

end Go.Proofs.Ytonjfggfcnpgbaa.MScanPlays
