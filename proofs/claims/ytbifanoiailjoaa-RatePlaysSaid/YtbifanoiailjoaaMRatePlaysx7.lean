-- This text was written by a program of this session (a changed scratch copy of a tool of the kit; NOTES.md tells the changes).
import Derived.Test.YtbifanoiailjoaaMRatePlaysx0
import Derived.Test.YtbifanoiailjoaaMRatePlaysx4
namespace Go.Proofs.Ytbifanoiailjoaa.MRatePlays
open Go.RowKit Go.Proofs.YtbifanoiailjoaaW.PrintWords Go.Proofs.YtbifanoiailjoaaW.PrintLast Go.Proofs.YtbifanoiailjoaaW.PrintMore
attribute [local go_sem] max2_int min2_int max_two min_two max_three min_three max_four min_four   -- for this text's walks alone
set_option linter.unusedVariables false
set_option linter.unusedSimpArgs false

-- NOT PRINTED: function 32 (horologelaw31_ask)

-- NOT PRINTED: function 11 (rate_Table_uint32_Entry)

-- NOT PRINTED: function 39 (rate_Entry_uint32_39)

-- NOT PRINTED: function 12 (rate_Table_uint32_Entries)

/-! ### horologeref31_Sorted: function 52 -/
mutual
def horologeref31_Sorted.l0 : Nat → List (S94) → Int → List (S94) → Int → Int → Option ((List (S94)))
  | 0, _, _, _, _, _ => none
  | k + 1, x3, x4, x275000, x275001, x275002 => if x4 < (x275000.length : Int) then (horologeref31_Sorted.l1 k x3 x4 (x3.length : Int) x275000 x275001 x275002) else (some x3)
def horologeref31_Sorted.j2 : Nat → List (S94) → Int → Int → List (S94) → Int → Int → Option ((List (S94)))
  | 0, _, _, _, _, _, _ => none
  | k + 1, x3, x4, x5, x275000, x275001, x275002 => if x3.length < 5864062014805 then ((some (x3 ++ [(⟨0, 0, false⟩ : S94)] : List (S94))).bind fun y280 => (horologeref31_Sorted.l2 k y280 x4 x5 (wrap64 ((y280.length : Int) - 1)) x275000 x275001 x275002)) else (none)
def horologeref31_Sorted.l2 : Nat → List (S94) → Int → Int → Int → List (S94) → Int → Int → Option ((List (S94)))
  | 0, _, _, _, _, _, _, _ => none
  | k + 1, x3, x4, x5, x6, x275000, x275001, x275002 => if x6 > x5 then (if 0 ≤ (wrap64 (x6 - 1)) then (if (wrap64 (x6 - 1)) < (x3.length : Int) then (if 0 ≤ x6 then (if x6 < (x3.length : Int) then (horologeref31_Sorted.l2 k (x3.set (x6 : Int).toNat (⟨(rd_T94 x3 (wrap64 (x6 - 1))).f0, (rd_T94 x3 (wrap64 (x6 - 1))).f1, (rd_T94 x3 (wrap64 (x6 - 1))).f2⟩ : S94)) x4 x5 (wrap64 (x6 - 1)) x275000 x275001 x275002) else (none)) else (none)) else (none)) else (none)) else (if 0 ≤ x4 then (if x4 < (x275000.length : Int) then (if 0 ≤ x5 then (if x5 < (x3.length : Int) then (horologeref31_Sorted.l0 k (x3.set (x5 : Int).toNat (⟨(rd_T94 x275000 x4).f0, (rd_T94 x275000 x4).f1, (rd_T94 x275000 x4).f2⟩ : S94)) (wrap64 (x4 + 1)) x275000 x275001 x275002) else (none)) else (none)) else (none)) else (none))
def horologeref31_Sorted.l1 : Nat → List (S94) → Int → Int → List (S94) → Int → Int → Option ((List (S94)))
  | 0, _, _, _, _, _, _ => none
  | k + 1, x3, x4, x5, x275000, x275001, x275002 => if x5 > 0 then (if 0 ≤ (wrap64 (x5 - 1)) then (if (wrap64 (x5 - 1)) < (x3.length : Int) then (if 0 ≤ x4 then (if x4 < (x275000.length : Int) then (if ((rd_T94 x3 (wrap64 (x5 - 1))).f0) > ((rd_T94 x275000 x4).f0) then (horologeref31_Sorted.l1 k x3 x4 (wrap64 (x5 - 1)) x275000 x275001 x275002) else (horologeref31_Sorted.j2 k x3 x4 x5 x275000 x275001 x275002)) else (none)) else (none)) else (none)) else (none)) else (horologeref31_Sorted.j2 k x3 x4 x5 x275000 x275001 x275002)
end
def horologeref31_Sorted.f (k : Nat) (l0_0 : List (S94)) (a0_1 : Int) (a0_2 : Int) : Option ((List (S94))) := horologeref31_Sorted.l0 k (([] : List (S94))) 0 l0_0 a0_1 a0_2
set_option maxHeartbeats 8000000 in
set_option maxRecDepth 100000 in
theorem horologeref31_Sorted.calls (k : Nat) (A0_0 : Option Addr) (c0_0 : Nat) (l0_0 : List (S94)) (a0_1 : Int) (a0_2 : Int) (r : List (S94)) (w : World) (hr0_0 : Kd.C k94 w A0_0 l0_0.length l0_0) (hc0_0 : l0_0.length ≤ c0_0) (h : horologeref31_Sorted.f k l0_0 a0_1 a0_2 = some r) :
    Calls Try.prog 52 #[.agg #[.slice A0_0 l0_0.length c0_0, .int .i64 a0_1, .int .i64 a0_2]] w fun e w' => ∃ v0_ : Value, e = .returned (v0_) ∧ Kd.R k94 94 w' w.heap.size (fun _ => True) v0_ r ∧ Below w.heap.size w w' := by
  have hu65 := Try.underlying65
  have hu94 := Try.underlying94
  have HR0_0 := Aside0.mk hr0_0
  have HC0_0 := Aside0.mk hc0_0
  clear hr0_0 hc0_0
  have HB := Aside0.mk (Below.refl w.heap.size w)
  have H : (horologeref31_Sorted.l0 k (([] : List (S94))) 0 l0_0 a0_1 a0_2) = some r := h
  clear h
  obtain ⟨y275, hy275⟩ : ∃ y_ : List (S94), y_ = (([] : List (S94))) := ⟨_, rfl⟩
  replace H : (horologeref31_Sorted.l0 k y275 0 l0_0 a0_1 a0_2) = some r := by first | (rw [hy275]; with_reducible exact H) | (have H2_ := (Option.bind_some _ _).symm.trans H; rw [hy275]; with_reducible exact H2_) | (have H2_ := (Option.bind_some _ _).symm.trans H; with_reducible exact H2_) | with_reducible exact H | (rw [hy275]; exact H) | exact H
  have Ny275 := Aside0.mk hy275
  clear hy275
  have H' := Aside0.mk H
  clear H
  go_enter Try.func52, Try.ntmps52
  go_wp2_with (first | ((with_reducible refine gate_dst (N := 1) rfl ?_); refine box_event ?hg (N := 1) ?hd (cs := #[.slice A0_0 l0_0.length c0_0, .int .i64 a0_1, .int .i64 a0_2]) (t := 65) ?hr ?_; (case hd => rfl); (case hg => rfl); (case hr => first | (go_simp; done) | (go_simp; rfl)); intro gb274 hg w2 hbox hb; have n0_ := Aside0.mk (below_step (by repeat (first | (with_reducible first | exact HB.out | apply below_alloc | apply pw_below_drewN | apply below_drew1) | exact HB.out)) hb); have n1_ := Aside0.mk (hbox); have n2_ := Aside0.mk ((by rw [hg]; exact (below_size (by repeat (first | (with_reducible first | exact HB.out | apply below_alloc | apply pw_below_drewN | apply below_drew1) | exact HB.out))) : w.heap.size ≤ gb274)); have n3_ := Aside0.mk ((by rw [hg]; exact (below_size (by repeat (first | (with_reducible first | exact HB.out | apply below_alloc | apply pw_below_drewN | apply below_drew1) | exact HB.out))) : w.heap.size ≤ gb274)); clear HB; have HB := n0_; have BK274 := n1_; have GW274 := n2_; have GE274 := n3_; clear n0_ n1_ n2_ n3_; clear hb hbox hg) | ((with_reducible refine gate_dst (N := 7) rfl ?_); refine Kd.R_lit k94 _ 94 ?hg (N := 7) ?hd (xs := ([] : List (S94))) (inner := []) (ok := fun _ => True) (okp := fun _ => True) ?hr ?hp (fun _ hk => hk) trivial (Below.refl _ _) (Nat.le_refl _) (by simp) ?_; (case hd => rfl); (case hg => rfl); (case hr => first | (go_simp; done) | (go_simp; rfl)); (case hp => exact (Reps.none _ _)); intro v276 w3 ho4 hb hg_ hnew_; clear hg_ hnew_; (first | rw [← Ny275.out] at ho4 | (simp only [Int.reduceToNat] at ho4; rw [← Ny275.out] at ho4)); have n0_ := Aside0.mk (Kd.R_lower ho4 (below_size (by repeat (first | (with_reducible first | exact HB.out | apply below_alloc | apply pw_below_drewN | apply below_drew1 | refine below_set ?_ GE274.out) | exact HB.out)))); have n1_ := Aside0.mk (blk_below (g := gb274) (o := .cells #[.slice A0_0 l0_0.length c0_0, .int .i64 a0_1, .int .i64 a0_2] 65 (0, 0)) (by (with_reducible repeat (first | refine blk_drewN ?_ _ | refine blk_drew ?_ | refine blk_alloc ?_ _)); exact BK274.out) hb); have n2_ := Aside0.mk (below_step (by repeat (first | (with_reducible first | exact HB.out | apply below_alloc | apply pw_below_drewN | apply below_drew1 | refine below_set ?_ GE274.out) | exact HB.out)) hb); clear BK274; clear HB; have HO277 := n0_; have BK274 := n1_; have HB := n2_; clear n0_ n1_ n2_; clear hb ho4))
  repeat (go_quiet (first | ((with_reducible refine gate_dst (N := 1) rfl ?_); refine box_event ?hg (N := 1) ?hd (cs := #[.slice A0_0 l0_0.length c0_0, .int .i64 a0_1, .int .i64 a0_2]) (t := 65) ?hr ?_; (case hd => rfl); (case hg => rfl); (case hr => first | (go_simp; done) | (go_simp; rfl)); intro gb274 hg w2 hbox hb; have n0_ := Aside0.mk (below_step (by repeat (first | (with_reducible first | exact HB.out | apply below_alloc | apply pw_below_drewN | apply below_drew1) | exact HB.out)) hb); have n1_ := Aside0.mk (hbox); have n2_ := Aside0.mk ((by rw [hg]; exact (below_size (by repeat (first | (with_reducible first | exact HB.out | apply below_alloc | apply pw_below_drewN | apply below_drew1) | exact HB.out))) : w.heap.size ≤ gb274)); have n3_ := Aside0.mk ((by rw [hg]; exact (below_size (by repeat (first | (with_reducible first | exact HB.out | apply below_alloc | apply pw_below_drewN | apply below_drew1) | exact HB.out))) : w.heap.size ≤ gb274)); clear HB; have HB := n0_; have BK274 := n1_; have GW274 := n2_; have GE274 := n3_; clear n0_ n1_ n2_ n3_; clear hb hbox hg) | ((with_reducible refine gate_dst (N := 7) rfl ?_); refine Kd.R_lit k94 _ 94 ?hg (N := 7) ?hd (xs := ([] : List (S94))) (inner := []) (ok := fun _ => True) (okp := fun _ => True) ?hr ?hp (fun _ hk => hk) trivial (Below.refl _ _) (Nat.le_refl _) (by simp) ?_; (case hd => rfl); (case hg => rfl); (case hr => first | (go_simp; done) | (go_simp; rfl)); (case hp => exact (Reps.none _ _)); intro v276 w3 ho4 hb hg_ hnew_; clear hg_ hnew_; (first | rw [← Ny275.out] at ho4 | (simp only [Int.reduceToNat] at ho4; rw [← Ny275.out] at ho4)); have n0_ := Aside0.mk (Kd.R_lower ho4 (below_size (by repeat (first | (with_reducible first | exact HB.out | apply below_alloc | apply pw_below_drewN | apply below_drew1 | refine below_set ?_ GE274.out) | exact HB.out)))); have n1_ := Aside0.mk (blk_below (g := gb274) (o := .cells #[.slice A0_0 l0_0.length c0_0, .int .i64 a0_1, .int .i64 a0_2] 65 (0, 0)) (by (with_reducible repeat (first | refine blk_drewN ?_ _ | refine blk_drew ?_ | refine blk_alloc ?_ _)); exact BK274.out) hb); have n2_ := Aside0.mk (below_step (by repeat (first | (with_reducible first | exact HB.out | apply below_alloc | apply pw_below_drewN | apply below_drew1 | refine below_set ?_ GE274.out) | exact HB.out)) hb); clear BK274; clear HB; have HO277 := n0_; have BK274 := n1_; have HB := n2_; clear n0_ n1_ n2_; clear hb ho4)); try go_wp2_with (first | ((with_reducible refine gate_dst (N := 1) rfl ?_); refine box_event ?hg (N := 1) ?hd (cs := #[.slice A0_0 l0_0.length c0_0, .int .i64 a0_1, .int .i64 a0_2]) (t := 65) ?hr ?_; (case hd => rfl); (case hg => rfl); (case hr => first | (go_simp; done) | (go_simp; rfl)); intro gb274 hg w2 hbox hb; have n0_ := Aside0.mk (below_step (by repeat (first | (with_reducible first | exact HB.out | apply below_alloc | apply pw_below_drewN | apply below_drew1) | exact HB.out)) hb); have n1_ := Aside0.mk (hbox); have n2_ := Aside0.mk ((by rw [hg]; exact (below_size (by repeat (first | (with_reducible first | exact HB.out | apply below_alloc | apply pw_below_drewN | apply below_drew1) | exact HB.out))) : w.heap.size ≤ gb274)); have n3_ := Aside0.mk ((by rw [hg]; exact (below_size (by repeat (first | (with_reducible first | exact HB.out | apply below_alloc | apply pw_below_drewN | apply below_drew1) | exact HB.out))) : w.heap.size ≤ gb274)); clear HB; have HB := n0_; have BK274 := n1_; have GW274 := n2_; have GE274 := n3_; clear n0_ n1_ n2_ n3_; clear hb hbox hg) | ((with_reducible refine gate_dst (N := 7) rfl ?_); refine Kd.R_lit k94 _ 94 ?hg (N := 7) ?hd (xs := ([] : List (S94))) (inner := []) (ok := fun _ => True) (okp := fun _ => True) ?hr ?hp (fun _ hk => hk) trivial (Below.refl _ _) (Nat.le_refl _) (by simp) ?_; (case hd => rfl); (case hg => rfl); (case hr => first | (go_simp; done) | (go_simp; rfl)); (case hp => exact (Reps.none _ _)); intro v276 w3 ho4 hb hg_ hnew_; clear hg_ hnew_; (first | rw [← Ny275.out] at ho4 | (simp only [Int.reduceToNat] at ho4; rw [← Ny275.out] at ho4)); have n0_ := Aside0.mk (Kd.R_lower ho4 (below_size (by repeat (first | (with_reducible first | exact HB.out | apply below_alloc | apply pw_below_drewN | apply below_drew1 | refine below_set ?_ GE274.out) | exact HB.out)))); have n1_ := Aside0.mk (blk_below (g := gb274) (o := .cells #[.slice A0_0 l0_0.length c0_0, .int .i64 a0_1, .int .i64 a0_2] 65 (0, 0)) (by (with_reducible repeat (first | refine blk_drewN ?_ _ | refine blk_drew ?_ | refine blk_alloc ?_ _)); exact BK274.out) hb); have n2_ := Aside0.mk (below_step (by repeat (first | (with_reducible first | exact HB.out | apply below_alloc | apply pw_below_drewN | apply below_drew1 | refine below_set ?_ GE274.out) | exact HB.out)) hb); clear BK274; clear HB; have HO277 := n0_; have BK274 := n1_; have HB := n2_; clear n0_ n1_ n2_; clear hb ho4)))
  try simp only [Act.put, List.setIfInBounds_toArray, List.set_cons_zero, List.set_cons_succ]
  go_loopg [3, 4] k (fun kq v3 v4 w' => ∃ (x3_1 : List (S94)) (x4_1 : Int), v4 = .int .i64 x4_1 ∧ Aside0 (horologeref31_Sorted.l0 kq x3_1 x4_1 l0_0 a0_1 a0_2 = some r) ∧ Aside0 (kq ≤ k) ∧ Aside0 (Kd.R k94 94 w' w.heap.size (fun _ => True) v3 x3_1) ∧ Aside0 (w'.heap[gb274]? = some (.cells #[(.slice A0_0 l0_0.length c0_0), .int .i64 a0_1, .int .i64 a0_2] 65 (0, 0))) ∧ Aside0 (Below w.heap.size w w'))
  case atStart => exact ⟨(y275), (0), (by first | rfl | (simp; done) | (simp [*]; done)), H', ⟨Nat.le_refl _⟩, ⟨by (with_reducible repeat (first | apply Kd.R_alloc | apply Kd.R_drewN | apply Kd.R_drew)); exact HO277.out⟩, ⟨by (with_reducible repeat (first | refine blk_drewN ?_ _ | refine blk_drew ?_ | refine blk_alloc ?_ _)); exact BK274.out⟩, ⟨by repeat (first | (with_reducible first | exact HB.out | apply below_alloc | apply pw_below_drewN | apply below_drew1 | refine below_set ?_ GE274.out) | exact HB.out)⟩⟩
  case round =>
    clear H'
    try clear p2
    obtain ⟨x3_1, x4_1, rfl, HA, HK1, HO_3, BK274, HB⟩ := hrel
    cases gk with
    | zero => exact absurd HA.out (by simp [horologeref31_Sorted.l0])
    | succ k1 =>
      have H := HA.out
      clear HA
      simp only [horologeref31_Sorted.l0] at H
      by_cases c5 : x4_1 < (l0_0.length : Int)
      · rw [if_pos c5] at H
        have c5b0 : decide (x4_1 < (l0_0.length : Int)) = true := decide_eq_true c5
        clear c5
        have HC6 := Aside0.mk H
        clear H
        have hcz7_0 : wr.cell? ⟨gb274, 0, none⟩ = some (.slice A0_0 l0_0.length c0_0) := (blk_cell BK274.out 0).trans rfl
        have hcz7_1 : wr.cell? ⟨gb274, 1, none⟩ = some (.int .i64 a0_1) := (blk_cell BK274.out 1).trans rfl
        have hcz7_2 : wr.cell? ⟨gb274, 2, none⟩ = some (.int .i64 a0_2) := (blk_cell BK274.out 2).trans rfl
        have hfz7_0 := blk_frozen BK274.out 0
        have hfz7_1 := blk_frozen BK274.out 1
        have hfz7_2 := blk_frozen BK274.out 2
        obtain ⟨Ao8, co8, eo8⟩ := Kd.R_slice HO_3.out
        subst eo8
        go_upto_block 2 with (fail)
        repeat (go_quiet (fail); go_upto_block 2 with (fail))
        go_cut [5] (fun v5 wc => ∃ (kq : Nat) (x5_5 : Int), v5 = .int .i64 x5_5 ∧ Aside0 (horologeref31_Sorted.j2 kq x3_1 x4_1 x5_5 l0_0 a0_1 a0_2 = some r) ∧ Aside0 (kq ≤ k1) ∧ Aside0 (Kd.R k94 94 wc w.heap.size (fun _ => True) (.slice Ao8 x3_1.length co8) x3_1) ∧ Aside0 (wc.heap[gb274]? = some (.cells #[(.slice A0_0 l0_0.length c0_0), .int .i64 a0_1, .int .i64 a0_2] 65 (0, 0))) ∧ Aside0 (Below w.heap.size w wc))
        case first =>
          have H := HC6.out
          clear HC6
          have H' := Aside0.mk H
          clear H
          go_wp2
          repeat (go_quiet (fail); try go_wp2)
          try simp only [Act.put, List.setIfInBounds_toArray, List.set_cons_zero, List.set_cons_succ]
          go_loopg [5] k1 (fun kq v5 w' => ∃ (x5_2 : Int), v5 = .int .i64 x5_2 ∧ Aside0 (horologeref31_Sorted.l1 kq x3_1 x4_1 x5_2 l0_0 a0_1 a0_2 = some r) ∧ Aside0 (kq ≤ k1) ∧ Aside0 (Kd.R k94 94 w' w.heap.size (fun _ => True) (.slice Ao8 x3_1.length co8) x3_1) ∧ Aside0 (w'.heap[gb274]? = some (.cells #[(.slice A0_0 l0_0.length c0_0), .int .i64 a0_1, .int .i64 a0_2] 65 (0, 0))) ∧ Aside0 (Below w.heap.size w w'))
          case atStart => exact ⟨((x3_1.length : Int)), (by first | rfl | (simp; done) | (simp [*]; done)), H', ⟨Nat.le_refl _⟩, ⟨by (with_reducible repeat (first | apply Kd.R_alloc | apply Kd.R_drewN | apply Kd.R_drew)); exact HO_3.out⟩, ⟨by (with_reducible repeat (first | refine blk_drewN ?_ _ | refine blk_drew ?_ | refine blk_alloc ?_ _)); exact BK274.out⟩, ⟨by repeat (first | (with_reducible first | exact HB.out | apply below_alloc | apply pw_below_drewN | apply below_drew1 | refine below_set ?_ GE274.out) | exact HB.out)⟩⟩
          case round =>
            clear H'
            try clear p2
            try clear c5
            try clear c5b0
            try clear hcz7_0
            try clear hcz7_1
            try clear hcz7_2
            try clear hfz7_0
            try clear hfz7_1
            try clear hfz7_2
            try clear p2
            obtain ⟨x5_2, rfl, HA, HK2, HO_3, BK274, HB⟩ := hrel
            cases gk with
            | zero => exact absurd HA.out (by simp [horologeref31_Sorted.l1])
            | succ k2 =>
              have H := HA.out
              clear HA
              simp only [horologeref31_Sorted.l1] at H
              by_cases c9 : x5_2 > 0
              · rw [if_pos c9] at H
                have c9b0 : decide (0 < x5_2) = true := decide_eq_true c9
                clear c9
                (first | rw [c9b0] | (simp only [i64_w, i32_w]; rw [c9b0]) | skip)
                obtain ⟨ji10, hji10⟩ : ∃ j_ : Int, (wrap64 (x5_2 - 1)) = j_ := ⟨_, rfl⟩
                replace H : (if 0 ≤ (ji10) then (if (ji10) < (x3_1.length : Int) then (if 0 ≤ x4_1 then (if x4_1 < (l0_0.length : Int) then (if ((rd_T94 x3_1 (ji10)).f0) > ((rd_T94 l0_0 x4_1).f0) then (horologeref31_Sorted.l1 k2 x3_1 x4_1 ji10 l0_0 a0_1 a0_2) else (horologeref31_Sorted.j2 k2 x3_1 x4_1 x5_2 l0_0 a0_1 a0_2)) else (none)) else (none)) else (none)) else (none)) = some r := by first | (rw [hji10] at H; exact H) | (simp only [hji10] at H ⊢; exact H)
                have hji10w : (IntKind.i64.wrap (x5_2 - 1)) = ji10 := (i64_w _).trans hji10
                by_cases c11 : 0 ≤ (ji10)
                · rw [if_pos c11] at H
                  have c11b0 : decide (0 ≤ (ji10)) = true := decide_eq_true c11
                  clear c11
                  by_cases c12 : (ji10) < (x3_1.length : Int)
                  · rw [if_pos c12] at H
                    have c12b0 : decide ((ji10) < (x3_1.length : Int)) = true := decide_eq_true c12
                    clear c12
                    by_cases c13 : 0 ≤ x4_1
                    · rw [if_pos c13] at H
                      have c13b0 : decide (0 ≤ x4_1) = true := decide_eq_true c13
                      clear c13
                      by_cases c14 : x4_1 < (l0_0.length : Int)
                      · rw [if_pos c14] at H
                        have c14b0 : decide (x4_1 < (l0_0.length : Int)) = true := decide_eq_true c14
                        clear c14
                        by_cases c15 : ((rd_T94 x3_1 (ji10)).f0) > ((rd_T94 l0_0 x4_1).f0)
                        · rw [if_pos c15] at H
                          have c15b0 : decide (((rd_T94 l0_0 x4_1).f0) < ((rd_T94 x3_1 (ji10)).f0)) = true := decide_eq_true c15
                          clear c15
                          have H' := Aside0.mk H
                          clear H
                          have p278 : 0 ≤ ((ji10) : Int) := of_decide_eq_true (by first | (with_reducible assumption) | assumption)
                          have q278 : (ji10) < (x3_1.length : Int) := of_decide_eq_true (by first | (with_reducible assumption) | assumption)
                          obtain ⟨ad278, e278, hx278_0, hx278_1, hx278_2⟩ := at_T94 (Kd.R_reads' HO_3.out).2.2 (ji10) p278 q278
                          cases e278
                          replace p278 := eq_true p278
                          replace q278 := eq_true q278
                          have hcz16_0 : wr.cell? ⟨gb274, 0, none⟩ = some (.slice A0_0 l0_0.length c0_0) := (blk_cell BK274.out 0).trans rfl
                          have hcz16_1 : wr.cell? ⟨gb274, 1, none⟩ = some (.int .i64 a0_1) := (blk_cell BK274.out 1).trans rfl
                          have hcz16_2 : wr.cell? ⟨gb274, 2, none⟩ = some (.int .i64 a0_2) := (blk_cell BK274.out 2).trans rfl
                          have hfz16_0 := blk_frozen BK274.out 0
                          have hfz16_1 := blk_frozen BK274.out 1
                          have hfz16_2 := blk_frozen BK274.out 2
                          have p279 : 0 ≤ (x4_1 : Int) := of_decide_eq_true (by first | (with_reducible assumption) | assumption)
                          have q279 : x4_1 < (l0_0.length : Int) := of_decide_eq_true (by first | (with_reducible assumption) | assumption)
                          obtain ⟨ad279, e279, hx279_0, hx279_1, hx279_2⟩ := at_T94 HR0_0.out x4_1 p279 q279
                          cases e279
                          replace hx279_0 := (HB.out.cell (World.block_lt_of_cell? w _ hx279_0)).trans hx279_0
                          replace hx279_1 := (HB.out.cell (World.block_lt_of_cell? w _ hx279_1)).trans hx279_1
                          replace hx279_2 := (HB.out.cell (World.block_lt_of_cell? w _ hx279_2)).trans hx279_2
                          replace p279 := eq_true p279
                          replace q279 := eq_true q279
                          go_wp2
                          repeat (go_quiet (fail); try go_wp2)
                          go_roundg k2
                          case measure => have := HK1.out; have := HK2.out; omega
                          case rel => exact ⟨(ji10), (by first | rfl | (simp; done) | (simp only [← hji10] <;> (first | rfl | simp)) | (simp [*]; done)), H', ⟨by have := HK1.out; have := HK2.out; omega⟩, ⟨by (with_reducible repeat (first | apply Kd.R_alloc | apply Kd.R_drewN | apply Kd.R_drew)); exact HO_3.out⟩, ⟨by (with_reducible repeat (first | refine blk_drewN ?_ _ | refine blk_drew ?_ | refine blk_alloc ?_ _)); exact BK274.out⟩, ⟨by repeat (first | (with_reducible first | exact HB.out | apply below_alloc | apply pw_below_drewN | apply below_drew1 | refine below_set ?_ GE274.out) | exact HB.out)⟩⟩
                        · rw [if_neg c15] at H
                          have c15b0 : decide (((rd_T94 l0_0 x4_1).f0) < ((rd_T94 x3_1 (ji10)).f0)) = false := decide_eq_false c15
                          clear c15
                          have H' := Aside0.mk H
                          clear H
                          have p278 : 0 ≤ ((ji10) : Int) := of_decide_eq_true (by first | (with_reducible assumption) | assumption)
                          have q278 : (ji10) < (x3_1.length : Int) := of_decide_eq_true (by first | (with_reducible assumption) | assumption)
                          obtain ⟨ad278, e278, hx278_0, hx278_1, hx278_2⟩ := at_T94 (Kd.R_reads' HO_3.out).2.2 (ji10) p278 q278
                          cases e278
                          replace p278 := eq_true p278
                          replace q278 := eq_true q278
                          have hcz17_0 : wr.cell? ⟨gb274, 0, none⟩ = some (.slice A0_0 l0_0.length c0_0) := (blk_cell BK274.out 0).trans rfl
                          have hcz17_1 : wr.cell? ⟨gb274, 1, none⟩ = some (.int .i64 a0_1) := (blk_cell BK274.out 1).trans rfl
                          have hcz17_2 : wr.cell? ⟨gb274, 2, none⟩ = some (.int .i64 a0_2) := (blk_cell BK274.out 2).trans rfl
                          have hfz17_0 := blk_frozen BK274.out 0
                          have hfz17_1 := blk_frozen BK274.out 1
                          have hfz17_2 := blk_frozen BK274.out 2
                          have p279 : 0 ≤ (x4_1 : Int) := of_decide_eq_true (by first | (with_reducible assumption) | assumption)
                          have q279 : x4_1 < (l0_0.length : Int) := of_decide_eq_true (by first | (with_reducible assumption) | assumption)
                          obtain ⟨ad279, e279, hx279_0, hx279_1, hx279_2⟩ := at_T94 HR0_0.out x4_1 p279 q279
                          cases e279
                          replace hx279_0 := (HB.out.cell (World.block_lt_of_cell? w _ hx279_0)).trans hx279_0
                          replace hx279_1 := (HB.out.cell (World.block_lt_of_cell? w _ hx279_1)).trans hx279_1
                          replace hx279_2 := (HB.out.cell (World.block_lt_of_cell? w _ hx279_2)).trans hx279_2
                          replace p279 := eq_true p279
                          replace q279 := eq_true q279
                          go_wp2
                          repeat (go_quiet (fail); try go_wp2)
                          go_meet
                          case rel => exact ⟨_, (x5_2), (by first | rfl | (simp; done) | (simp [*]; done)), H', ⟨by have := HK1.out; have := HK2.out; first | omega | exact Nat.le_refl _⟩, ⟨by (with_reducible repeat (first | apply Kd.R_alloc | apply Kd.R_drewN | apply Kd.R_drew)); exact HO_3.out⟩, ⟨by (with_reducible repeat (first | refine blk_drewN ?_ _ | refine blk_drew ?_ | refine blk_alloc ?_ _)); exact BK274.out⟩, ⟨by repeat (first | (with_reducible first | exact HB.out | apply below_alloc | apply pw_below_drewN | apply below_drew1 | refine below_set ?_ GE274.out) | exact HB.out)⟩⟩
                      · rw [if_neg c14] at H
                        exact absurd H (by simp)
                    · rw [if_neg c13] at H
                      exact absurd H (by simp)
                  · rw [if_neg c12] at H
                    exact absurd H (by simp)
                · rw [if_neg c11] at H
                  exact absurd H (by simp)
              · rw [if_neg c9] at H
                have c9b0 : decide (0 < x5_2) = false := decide_eq_false c9
                clear c9
                (first | rw [c9b0] | (simp only [i64_w, i32_w]; rw [c9b0]) | skip)
                have H' := Aside0.mk H
                clear H
                go_wp2
                repeat (go_quiet (fail); try go_wp2)
                go_meet
                case rel => exact ⟨_, (x5_2), (by first | rfl | (simp; done) | (simp [*]; done)), H', ⟨by have := HK1.out; have := HK2.out; first | omega | exact Nat.le_refl _⟩, ⟨by (with_reducible repeat (first | apply Kd.R_alloc | apply Kd.R_drewN | apply Kd.R_drew)); exact HO_3.out⟩, ⟨by (with_reducible repeat (first | refine blk_drewN ?_ _ | refine blk_drew ?_ | refine blk_alloc ?_ _)); exact BK274.out⟩, ⟨by repeat (first | (with_reducible first | exact HB.out | apply below_alloc | apply pw_below_drewN | apply below_drew1 | refine below_set ?_ GE274.out) | exact HB.out)⟩⟩
        case rest =>
          clear HC6
          try clear c1
          try clear p2
          try clear q2
          try clear hx2
          try clear c5
          try clear c5b0
          try clear p6
          try clear c9
          try clear c9b0
          try clear c11
          try clear c11b0
          try clear c12
          try clear c12b0
          try clear c13
          try clear c13b0
          try clear c14
          try clear c14b0
          try clear c15
          try clear c15b0
          try clear hcz16_0
          try clear hcz16_1
          try clear hcz16_2
          try clear hcz17_0
          try clear hcz17_1
          try clear hcz17_2
          try clear hcz7_0
          try clear hcz7_1
          try clear hcz7_2
          try clear hfz16_0
          try clear hfz16_1
          try clear hfz16_2
          try clear hfz17_0
          try clear hfz17_1
          try clear hfz17_2
          try clear hfz7_0
          try clear hfz7_1
          try clear hfz7_2
          try clear hx278_0
          try clear hx278_1
          try clear hx278_2
          try clear hx279_0
          try clear hx279_1
          try clear hx279_2
          try clear p2
          try clear p278
          try clear p279
          try clear q278
          try clear q279
          obtain ⟨kq, x5_5, rfl, HA, HJ5, HO_3, BK274, HB⟩ := hcut
          cases kq with
          | zero => exact absurd HA.out (by simp [horologeref31_Sorted.j2])
          | succ kj5 =>
            have H := HA.out
            clear HA
            simp only [horologeref31_Sorted.j2] at H
            by_cases c18 : x3_1.length < 5864062014805
            · rw [if_pos c18] at H
              have LMc18 := Aside0.mk c18
              clear c18
              obtain ⟨y280, hy280⟩ : ∃ y_ : List (S94), y_ = (x3_1 ++ [(⟨0, 0, false⟩ : S94)]) := ⟨_, rfl⟩
              replace H : (horologeref31_Sorted.l2 kj5 y280 x4_1 x5_5 (wrap64 ((y280.length : Int) - 1)) l0_0 a0_1 a0_2) = some r := by first | (rw [hy280]; with_reducible exact H) | (have H2_ := (Option.bind_some _ _).symm.trans H; rw [hy280]; with_reducible exact H2_) | (have H2_ := (Option.bind_some _ _).symm.trans H; with_reducible exact H2_) | with_reducible exact H | (rw [hy280]; exact H) | exact H
              have Ny280 := Aside0.mk hy280
              clear hy280
              have H' := Aside0.mk H
              clear H
              go_wp2_with (first | ((with_reducible refine gate_builtin (b := .append) (xs := #[.tmp 36, .tmp 38]) rfl ?_); at_builtin; refine Kd.R_append k94 (w0 := w) w.heap.size rfl (.tmp 36) (.tmp 38) 63 94 (.agg #[(.int .u32 0), (.int .i64 0), (.bool false)]) 24 rfl Try.underlying63 info94 rfl (by decide) (by omega) (.slice Ao8 x3_1.length co8) x3_1 (⟨0, 0, false⟩ : S94) [.int .u32 0, .int .i64 0, .bool false] (fun _ => True) (fun _ => False) rfl rfl ?aP (fun _ hk => hk.elim) ?aF ?aO ?aB ?aS ?aL ?_; (case aP => exact k94_mkM _ _ _ (⟨0, 0, false⟩ : S94)); (case aB => exact (by repeat (first | (with_reducible first | exact HB.out | apply below_alloc | apply pw_below_drewN | apply below_drew1 | refine below_set ?_ GE274.out) | exact HB.out))); (case aF => exact (fun _ _ => trivial)); (case aO => exact (by (with_reducible repeat (first | apply Kd.R_alloc | apply Kd.R_drewN | apply Kd.R_drew)); exact HO_3.out)); (case aS => exact (below_size (by repeat (first | (with_reducible first | exact HB.out | apply below_alloc | apply pw_below_drewN | apply below_drew1 | refine below_set ?_ GE274.out) | exact HB.out)))); (case aL => have := LMc18.out; omega); intro v281 w19 ho hb hg hat; rw [← Ny280.out] at ho; have n0_ := Aside0.mk (blk_grown (g := gb274) (o := .cells #[.slice A0_0 l0_0.length c0_0, .int .i64 a0_1, .int .i64 a0_2] 65 (0, 0)) (by (with_reducible repeat (first | refine blk_drewN ?_ _ | refine blk_drew ?_ | refine blk_alloc ?_ _)); exact BK274.out) hg (Kd.R_ne HO_3.out BK274.out (by decide))); have n1_ := Aside0.mk (hb); have n2_ := Aside0.mk (ho); clear BK274; clear HB; clear HO_3; have BK274 := n0_; have HB := n1_; have HO282 := n2_; clear n0_ n1_ n2_; clear ho hb hg hat; obtain ⟨Ao20, co20, eo20⟩ := Kd.R_slice HO282.out; subst eo20))
              repeat (go_quiet (first | ((with_reducible refine gate_builtin (b := .append) (xs := #[.tmp 36, .tmp 38]) rfl ?_); at_builtin; refine Kd.R_append k94 (w0 := w) w.heap.size rfl (.tmp 36) (.tmp 38) 63 94 (.agg #[(.int .u32 0), (.int .i64 0), (.bool false)]) 24 rfl Try.underlying63 info94 rfl (by decide) (by omega) (.slice Ao8 x3_1.length co8) x3_1 (⟨0, 0, false⟩ : S94) [.int .u32 0, .int .i64 0, .bool false] (fun _ => True) (fun _ => False) rfl rfl ?aP (fun _ hk => hk.elim) ?aF ?aO ?aB ?aS ?aL ?_; (case aP => exact k94_mkM _ _ _ (⟨0, 0, false⟩ : S94)); (case aB => exact (by repeat (first | (with_reducible first | exact HB.out | apply below_alloc | apply pw_below_drewN | apply below_drew1 | refine below_set ?_ GE274.out) | exact HB.out))); (case aF => exact (fun _ _ => trivial)); (case aO => exact (by (with_reducible repeat (first | apply Kd.R_alloc | apply Kd.R_drewN | apply Kd.R_drew)); exact HO_3.out)); (case aS => exact (below_size (by repeat (first | (with_reducible first | exact HB.out | apply below_alloc | apply pw_below_drewN | apply below_drew1 | refine below_set ?_ GE274.out) | exact HB.out)))); (case aL => have := LMc18.out; omega); intro v281 w19 ho hb hg hat; rw [← Ny280.out] at ho; have n0_ := Aside0.mk (blk_grown (g := gb274) (o := .cells #[.slice A0_0 l0_0.length c0_0, .int .i64 a0_1, .int .i64 a0_2] 65 (0, 0)) (by (with_reducible repeat (first | refine blk_drewN ?_ _ | refine blk_drew ?_ | refine blk_alloc ?_ _)); exact BK274.out) hg (Kd.R_ne HO_3.out BK274.out (by decide))); have n1_ := Aside0.mk (hb); have n2_ := Aside0.mk (ho); clear BK274; clear HB; clear HO_3; have BK274 := n0_; have HB := n1_; have HO282 := n2_; clear n0_ n1_ n2_; clear ho hb hg hat; obtain ⟨Ao20, co20, eo20⟩ := Kd.R_slice HO282.out; subst eo20)); try go_wp2_with (first | ((with_reducible refine gate_builtin (b := .append) (xs := #[.tmp 36, .tmp 38]) rfl ?_); at_builtin; refine Kd.R_append k94 (w0 := w) w.heap.size rfl (.tmp 36) (.tmp 38) 63 94 (.agg #[(.int .u32 0), (.int .i64 0), (.bool false)]) 24 rfl Try.underlying63 info94 rfl (by decide) (by omega) (.slice Ao8 x3_1.length co8) x3_1 (⟨0, 0, false⟩ : S94) [.int .u32 0, .int .i64 0, .bool false] (fun _ => True) (fun _ => False) rfl rfl ?aP (fun _ hk => hk.elim) ?aF ?aO ?aB ?aS ?aL ?_; (case aP => exact k94_mkM _ _ _ (⟨0, 0, false⟩ : S94)); (case aB => exact (by repeat (first | (with_reducible first | exact HB.out | apply below_alloc | apply pw_below_drewN | apply below_drew1 | refine below_set ?_ GE274.out) | exact HB.out))); (case aF => exact (fun _ _ => trivial)); (case aO => exact (by (with_reducible repeat (first | apply Kd.R_alloc | apply Kd.R_drewN | apply Kd.R_drew)); exact HO_3.out)); (case aS => exact (below_size (by repeat (first | (with_reducible first | exact HB.out | apply below_alloc | apply pw_below_drewN | apply below_drew1 | refine below_set ?_ GE274.out) | exact HB.out)))); (case aL => have := LMc18.out; omega); intro v281 w19 ho hb hg hat; rw [← Ny280.out] at ho; have n0_ := Aside0.mk (blk_grown (g := gb274) (o := .cells #[.slice A0_0 l0_0.length c0_0, .int .i64 a0_1, .int .i64 a0_2] 65 (0, 0)) (by (with_reducible repeat (first | refine blk_drewN ?_ _ | refine blk_drew ?_ | refine blk_alloc ?_ _)); exact BK274.out) hg (Kd.R_ne HO_3.out BK274.out (by decide))); have n1_ := Aside0.mk (hb); have n2_ := Aside0.mk (ho); clear BK274; clear HB; clear HO_3; have BK274 := n0_; have HB := n1_; have HO282 := n2_; clear n0_ n1_ n2_; clear ho hb hg hat; obtain ⟨Ao20, co20, eo20⟩ := Kd.R_slice HO282.out; subst eo20)))
              try simp only [Act.put, List.setIfInBounds_toArray, List.set_cons_zero, List.set_cons_succ]
              go_loopg [6] kj5 (fun kq v6 w' => ∃ (x3_3 : List (S94)) (x6_3 : Int), v6 = .int .i64 x6_3 ∧ Aside0 (horologeref31_Sorted.l2 kq x3_3 x4_1 x5_5 x6_3 l0_0 a0_1 a0_2 = some r) ∧ Aside0 (kq ≤ kj5) ∧ Aside0 (Kd.R k94 94 w' w.heap.size (fun _ => True) (.slice Ao20 y280.length co20) x3_3) ∧ Aside0 (w'.heap[gb274]? = some (.cells #[(.slice A0_0 l0_0.length c0_0), .int .i64 a0_1, .int .i64 a0_2] 65 (0, 0))) ∧ Aside0 (Below w.heap.size w w'))
              case atStart => exact ⟨(y280), (wrap64 ((y280.length : Int) - 1)), (by first | rfl | (simp; done) | (simp [*]; done)), H', ⟨Nat.le_refl _⟩, ⟨by (with_reducible repeat (first | apply Kd.R_alloc | apply Kd.R_drewN | apply Kd.R_drew)); exact HO282.out⟩, ⟨by (with_reducible repeat (first | refine blk_drewN ?_ _ | refine blk_drew ?_ | refine blk_alloc ?_ _)); exact BK274.out⟩, ⟨by repeat (first | (with_reducible first | exact HB.out | apply below_alloc | apply pw_below_drewN | apply below_drew1 | refine below_set ?_ GE274.out) | exact HB.out)⟩⟩
              case round =>
                clear H'
                try clear c1
                try clear p2
                try clear q2
                try clear hx2
                try clear c5
                try clear c5b0
                try clear p6
                try clear c9
                try clear c9b0
                try clear c11
                try clear c11b0
                try clear c12
                try clear c12b0
                try clear c13
                try clear c13b0
                try clear c14
                try clear c14b0
                try clear c15
                try clear c15b0
                try clear c18
                try clear hcz16_0
                try clear hcz16_1
                try clear hcz16_2
                try clear hcz17_0
                try clear hcz17_1
                try clear hcz17_2
                try clear hcz7_0
                try clear hcz7_1
                try clear hcz7_2
                try clear hfz16_0
                try clear hfz16_1
                try clear hfz16_2
                try clear hfz17_0
                try clear hfz17_1
                try clear hfz17_2
                try clear hfz7_0
                try clear hfz7_1
                try clear hfz7_2
                try clear hx278_0
                try clear hx278_1
                try clear hx278_2
                try clear hx279_0
                try clear hx279_1
                try clear hx279_2
                try clear p2
                try clear p278
                try clear p279
                try clear p6
                try clear q2
                try clear q278
                try clear q279
                obtain ⟨x3_3, x6_3, rfl, HA, HK3, HO_3, BK274, HB⟩ := hrel
                have hl3_3 := (Kd.R_reads' HO_3.out).1
                rw [hl3_3] at HO_3
                (try simp only [hl3_3])
                (try simp only [hl3_3] at BK274)
                cases gk with
                | zero => exact absurd HA.out (by simp [horologeref31_Sorted.l2])
                | succ k3 =>
                  have H := HA.out
                  clear HA
                  simp only [horologeref31_Sorted.l2] at H
                  by_cases c21 : x6_3 > x5_5
                  · rw [if_pos c21] at H
                    have c21b0 : decide (x5_5 < x6_3) = true := decide_eq_true c21
                    clear c21
                    obtain ⟨ji22, hji22⟩ : ∃ j_ : Int, (wrap64 (x6_3 - 1)) = j_ := ⟨_, rfl⟩
                    replace H : (if 0 ≤ (ji22) then (if (ji22) < (x3_3.length : Int) then (if 0 ≤ x6_3 then (if x6_3 < (x3_3.length : Int) then (horologeref31_Sorted.l2 k3 (x3_3.set (x6_3 : Int).toNat (⟨(rd_T94 x3_3 (ji22)).f0, (rd_T94 x3_3 (ji22)).f1, (rd_T94 x3_3 (ji22)).f2⟩ : S94)) x4_1 x5_5 ji22 l0_0 a0_1 a0_2) else (none)) else (none)) else (none)) else (none)) = some r := by first | (rw [hji22] at H; exact H) | (simp only [hji22] at H ⊢; exact H)
                    have hji22w : (IntKind.i64.wrap (x6_3 - 1)) = ji22 := (i64_w _).trans hji22
                    by_cases c23 : 0 ≤ (ji22)
                    · rw [if_pos c23] at H
                      have c23b0 : decide (0 ≤ (ji22)) = true := decide_eq_true c23
                      clear c23
                      by_cases c24 : (ji22) < (x3_3.length : Int)
                      · rw [if_pos c24] at H
                        have c24b0 : decide ((ji22) < (x3_3.length : Int)) = true := decide_eq_true c24
                        clear c24
                        by_cases c25 : 0 ≤ x6_3
                        · rw [if_pos c25] at H
                          have c25b0 : decide (0 ≤ x6_3) = true := decide_eq_true c25
                          clear c25
                          by_cases c26 : x6_3 < (x3_3.length : Int)
                          · rw [if_pos c26] at H
                            have c26b0 : decide (x6_3 < (x3_3.length : Int)) = true := decide_eq_true c26
                            clear c26
                            obtain ⟨y284, hy284⟩ : ∃ y_ : List (S94), y_ = (x3_3.set (x6_3 : Int).toNat (⟨(rd_T94 x3_3 (ji22)).f0, (rd_T94 x3_3 (ji22)).f1, (rd_T94 x3_3 (ji22)).f2⟩ : S94)) := ⟨_, rfl⟩
                            replace H : (horologeref31_Sorted.l2 k3 y284 x4_1 x5_5 ji22 l0_0 a0_1 a0_2) = some r := by first | (rw [hy284]; with_reducible exact H) | (have H2_ := (Option.bind_some _ _).symm.trans H; rw [hy284]; with_reducible exact H2_) | (have H2_ := (Option.bind_some _ _).symm.trans H; with_reducible exact H2_) | with_reducible exact H | (rw [hy284]; exact H) | exact H
                            have Ny284 := Aside0.mk hy284
                            clear hy284
                            have H' := Aside0.mk H
                            clear H
                            have p283 : 0 ≤ ((ji22) : Int) := of_decide_eq_true (by first | (with_reducible assumption) | assumption)
                            have q283 : (ji22) < (x3_3.length : Int) := of_decide_eq_true (by first | (with_reducible assumption) | assumption)
                            obtain ⟨ad283, e283, hx283_0, hx283_1, hx283_2⟩ := at_T94 (Kd.R_reads' HO_3.out).2.2 (ji22) p283 q283
                            cases e283
                            replace p283 := eq_true p283
                            replace q283 := eq_true q283
                            have p27 : 0 ≤ (x6_3 : Int) := of_decide_eq_true (by first | (with_reducible assumption) | assumption)
                            have q27 : (x6_3 : Int) < ((x3_3.length : Int) : Int) := of_decide_eq_true (by first | (with_reducible assumption) | assumption)
                            obtain ⟨go27, co27, eo27, gb27, gl27, cl27, HG27⟩ := Kd.R_form HO_3.out (by omega)
                            (first | cases eo27 | (injection eo27 with ea_ en_ ec_; (first | subst ea_ | (injection ea_ with ea_; subst ea_)); subst ec_; clear en_))
                            have GB27 := Aside0.mk gb27
                            have GG27 := Aside0.mk HG27
                            clear gb27 gl27 HG27
                            (first | simp only [add_plain] at hx283_0 | skip)
                            (first | simp only [add_plain] at hx283_1 | skip)
                            (first | simp only [add_plain] at hx283_2 | skip)
                            obtain ⟨ce27, hcl27, hM27, hcc27, hfr27⟩ := Kd.R_elem HO_3.out z94 (x6_3 : Int) p27 q27
                            obtain rfl := k94_openM hM27
                            have hx27_0 : wr.cell? ⟨go27, (x6_3 : Int).toNat * 3, none⟩ = some (.int .u32 ((rd_T94 x3_3 x6_3).f0)) := hcc27 0 _ rfl
                            have hx27_1 : wr.cell? ⟨go27, (x6_3 : Int).toNat * 3 + 1, none⟩ = some (.int .i64 ((rd_T94 x3_3 x6_3).f1)) := hcc27 1 _ rfl
                            have hx27_2 : wr.cell? ⟨go27, (x6_3 : Int).toNat * 3 + 2, none⟩ = some (.bool ((rd_T94 x3_3 x6_3).f2)) := hcc27 2 _ rfl
                            have hf27_0 : wr.frozen? ⟨go27, (x6_3 : Int).toNat * 3, none⟩ = false := hfr27 0
                            have hf27_1 : wr.frozen? ⟨go27, (x6_3 : Int).toNat * 3 + 1, none⟩ = false := hfr27 1
                            have hf27_2 : wr.frozen? ⟨go27, (x6_3 : Int).toNat * 3 + 2, none⟩ = false := hfr27 2
                            clear hcl27 hcc27 hfr27 hM27
                            replace p27 := eq_true p27
                            replace q27 := eq_true q27
                            have HX28 := Aside0.mk (show Kd.R k94 94 wr w.heap.size (fun _ => True) (.slice (some ⟨go27, 0, none⟩) x3_3.length co20) x3_3 from (by (with_reducible repeat (first | apply Kd.R_alloc | apply Kd.R_drewN | apply Kd.R_drew)); exact HO_3.out))
                            obtain ⟨ce28, hcl28, hM28, hcc28, hfr28⟩ := Kd.R_elem HX28.out z94 (x6_3 : Int) (of_decide_eq_true (by first | (with_reducible assumption) | assumption)) (by have h_ : (x6_3 : Int) < ((x3_3.length : Int) : Int) := of_decide_eq_true (by first | (with_reducible assumption) | assumption); first | exact h_ | (have e_ := (Kd.R_reads' HO_3.out).1; omega) | simpa using h_)
                            obtain rfl := k94_openM hM28
                            have HP28 := Kd.R_seg HX28.out (x6_3 : Int) (of_decide_eq_true (by first | (with_reducible assumption) | assumption)) (by have h_ : (x6_3 : Int) < ((x3_3.length : Int) : Int) := of_decide_eq_true (by first | (with_reducible assumption) | assumption); first | exact h_ | (have e_ := (Kd.R_reads' HO_3.out).1; omega) | simpa using h_) (seg := [.int .u32 ((rd_T94 x3_3 (ji22)).f0), .int .i64 ((rd_T94 x3_3 (ji22)).f1), .bool ((rd_T94 x3_3 (ji22)).f2)]) (j := 0) hcl28 hcc28 (show 3 ≤ 3 from by decide) (x' := (⟨(rd_T94 x3_3 (ji22)).f0, (rd_T94 x3_3 (ji22)).f1, (rd_T94 x3_3 (ji22)).f2⟩ : S94)) (k94_mkM _ _ _ (⟨(rd_T94 x3_3 (ji22)).f0, (rd_T94 x3_3 (ji22)).f1, (rd_T94 x3_3 (ji22)).f2⟩ : S94) ) (fun _ hk => hk)
                            have hx28_0 := hcc28 0 _ rfl
                            (try simp only [show (k94).sz = 3 from rfl, Nat.mul_one, Nat.add_zero] at hx28_0)
                            have hf28_0 := hfr28 0
                            (try simp only [show (k94).sz = 3 from rfl, Nat.mul_one, Nat.add_zero] at hf28_0)
                            have hx28_1 := hcc28 1 _ rfl
                            (try simp only [show (k94).sz = 3 from rfl, Nat.mul_one, Nat.add_zero] at hx28_1)
                            have hf28_1 := hfr28 1
                            (try simp only [show (k94).sz = 3 from rfl, Nat.mul_one, Nat.add_zero] at hf28_1)
                            have hx28_2 := hcc28 2 _ rfl
                            (try simp only [show (k94).sz = 3 from rfl, Nat.mul_one, Nat.add_zero] at hx28_2)
                            have hf28_2 := hfr28 2
                            (try simp only [show (k94).sz = 3 from rfl, Nat.mul_one, Nat.add_zero] at hf28_2)
                            clear hcl28 hcc28 hfr28 hM28
                            go_wp2_with (first | ((with_reducible refine gate_store (t := 94) (p := 55) rfl ?_); (try (rw [drewN_self wr]; generalize hq_ : World.drewN wr _ = wr; have n0_ := Aside0.mk (Kd.R_at hq_ HO_3.out); have n1_ := Aside0.mk (blk_at hq_ BK274.out); have n2_ := Aside0.mk (below_at hq_ HB.out); clear hq_ HO_3 BK274 HB; have HO_3 := n0_; have BK274 := n1_; have HB := n2_; clear n0_ n1_ n2_; (try (have HX28 := Aside0.mk (show Kd.R k94 94 wr w.heap.size (fun _ => True) (.slice (some ⟨go27, 0, none⟩) x3_3.length co20) x3_3 from (by (with_reducible repeat (first | apply Kd.R_alloc | apply Kd.R_drewN | apply Kd.R_drew)); exact HO_3.out)))); (try (obtain ⟨ce28, hcl28, hM28, hcc28, hfr28⟩ := Kd.R_elem HX28.out z94 (x6_3 : Int) (of_decide_eq_true (by first | (with_reducible assumption) | assumption)) (by have h_ : (x6_3 : Int) < ((x3_3.length : Int) : Int) := of_decide_eq_true (by first | (with_reducible assumption) | assumption); first | exact h_ | (have e_ := (Kd.R_reads' HO_3.out).1; omega) | simpa using h_))); (try (obtain rfl := k94_openM hM28)); (try (have HP28 := Kd.R_seg HX28.out (x6_3 : Int) (of_decide_eq_true (by first | (with_reducible assumption) | assumption)) (by have h_ : (x6_3 : Int) < ((x3_3.length : Int) : Int) := of_decide_eq_true (by first | (with_reducible assumption) | assumption); first | exact h_ | (have e_ := (Kd.R_reads' HO_3.out).1; omega) | simpa using h_) (seg := [.int .u32 ((rd_T94 x3_3 (ji22)).f0), .int .i64 ((rd_T94 x3_3 (ji22)).f1), .bool ((rd_T94 x3_3 (ji22)).f2)]) (j := 0) hcl28 hcc28 (show 3 ≤ 3 from by decide) (x' := (⟨(rd_T94 x3_3 (ji22)).f0, (rd_T94 x3_3 (ji22)).f1, (rd_T94 x3_3 (ji22)).f2⟩ : S94)) (k94_mkM _ _ _ (⟨(rd_T94 x3_3 (ji22)).f0, (rd_T94 x3_3 (ji22)).f1, (rd_T94 x3_3 (ji22)).f2⟩ : S94) ) (fun _ hk => hk))); (try (have hx28_0 := hcc28 0 _ rfl)); (try (try simp only [show (k94).sz = 3 from rfl, Nat.mul_one, Nat.add_zero] at hx28_0)); (try (have hf28_0 := hfr28 0)); (try (try simp only [show (k94).sz = 3 from rfl, Nat.mul_one, Nat.add_zero] at hf28_0)); (try (have hx28_1 := hcc28 1 _ rfl)); (try (try simp only [show (k94).sz = 3 from rfl, Nat.mul_one, Nat.add_zero] at hx28_1)); (try (have hf28_1 := hfr28 1)); (try (try simp only [show (k94).sz = 3 from rfl, Nat.mul_one, Nat.add_zero] at hf28_1)); (try (have hx28_2 := hcc28 2 _ rfl)); (try (try simp only [show (k94).sz = 3 from rfl, Nat.mul_one, Nat.add_zero] at hx28_2)); (try (have hf28_2 := hfr28 2)); (try (try simp only [show (k94).sz = 3 from rfl, Nat.mul_one, Nat.add_zero] at hf28_2)); (try (clear hcl28 hcc28 hfr28 hM28)))); refine store_event (t := 94) (p := 55) (v := ?vo_w29) (w1 := (((wr.setCell ⟨go27, (x6_3 : Int).toNat * 3, none⟩ (.int .u32 ((rd_T94 x3_3 (ji22)).f0))).setCell ⟨go27, (x6_3 : Int).toNat * 3 + 1, none⟩ (.int .i64 ((rd_T94 x3_3 (ji22)).f1))).setCell ⟨go27, (x6_3 : Int).toNat * 3 + 2, none⟩ (.bool ((rd_T94 x3_3 (ji22)).f2)))) ?hg ?ho ?hn ?hr ?_; (case ho => rfl); (case hg => rfl); (case hn => rfl); (case hr => first | (go_simp; done) | (go_simp; rfl)); intro w29 hw; have hg : wr.grownBy w29 (some go27) := (by rw [hw]; exact HP28.2); have hp_ : Kd.R k94 94 w29 w.heap.size (fun _ => True) (.slice (some ⟨go27, 0, none⟩) x3_3.length co20) y284 := (by rw [hw, Ny284.out]; exact HP28.1); clear HP28; have n0_ := Aside0.mk (hp_); have n1_ := Aside0.mk (blk_grown (g := gb274) (o := .cells #[.slice A0_0 l0_0.length c0_0, .int .i64 a0_1, .int .i64 a0_2] 65 (0, 0)) (by (with_reducible repeat (first | refine blk_drewN ?_ _ | refine blk_drew ?_ | refine blk_alloc ?_ _)); exact BK274.out) hg (Kd.R_ne HO_3.out BK274.out (by decide))); have n2_ := Aside0.mk ((by rw [hw]; exact below_set (below_set (below_set (HB.out) GB27.out) GB27.out) GB27.out : Below w.heap.size w w29)); clear HO_3; clear BK274; clear HB; have HO_3 := n0_; have BK274 := n1_; have HB := n2_; clear n0_ n1_ n2_; clear hg hw hp_))
                            repeat (go_quiet (first | ((with_reducible refine gate_store (t := 94) (p := 55) rfl ?_); (try (rw [drewN_self wr]; generalize hq_ : World.drewN wr _ = wr; have n0_ := Aside0.mk (Kd.R_at hq_ HO_3.out); have n1_ := Aside0.mk (blk_at hq_ BK274.out); have n2_ := Aside0.mk (below_at hq_ HB.out); clear hq_ HO_3 BK274 HB; have HO_3 := n0_; have BK274 := n1_; have HB := n2_; clear n0_ n1_ n2_; (try (have HX28 := Aside0.mk (show Kd.R k94 94 wr w.heap.size (fun _ => True) (.slice (some ⟨go27, 0, none⟩) x3_3.length co20) x3_3 from (by (with_reducible repeat (first | apply Kd.R_alloc | apply Kd.R_drewN | apply Kd.R_drew)); exact HO_3.out)))); (try (obtain ⟨ce28, hcl28, hM28, hcc28, hfr28⟩ := Kd.R_elem HX28.out z94 (x6_3 : Int) (of_decide_eq_true (by first | (with_reducible assumption) | assumption)) (by have h_ : (x6_3 : Int) < ((x3_3.length : Int) : Int) := of_decide_eq_true (by first | (with_reducible assumption) | assumption); first | exact h_ | (have e_ := (Kd.R_reads' HO_3.out).1; omega) | simpa using h_))); (try (obtain rfl := k94_openM hM28)); (try (have HP28 := Kd.R_seg HX28.out (x6_3 : Int) (of_decide_eq_true (by first | (with_reducible assumption) | assumption)) (by have h_ : (x6_3 : Int) < ((x3_3.length : Int) : Int) := of_decide_eq_true (by first | (with_reducible assumption) | assumption); first | exact h_ | (have e_ := (Kd.R_reads' HO_3.out).1; omega) | simpa using h_) (seg := [.int .u32 ((rd_T94 x3_3 (ji22)).f0), .int .i64 ((rd_T94 x3_3 (ji22)).f1), .bool ((rd_T94 x3_3 (ji22)).f2)]) (j := 0) hcl28 hcc28 (show 3 ≤ 3 from by decide) (x' := (⟨(rd_T94 x3_3 (ji22)).f0, (rd_T94 x3_3 (ji22)).f1, (rd_T94 x3_3 (ji22)).f2⟩ : S94)) (k94_mkM _ _ _ (⟨(rd_T94 x3_3 (ji22)).f0, (rd_T94 x3_3 (ji22)).f1, (rd_T94 x3_3 (ji22)).f2⟩ : S94) ) (fun _ hk => hk))); (try (have hx28_0 := hcc28 0 _ rfl)); (try (try simp only [show (k94).sz = 3 from rfl, Nat.mul_one, Nat.add_zero] at hx28_0)); (try (have hf28_0 := hfr28 0)); (try (try simp only [show (k94).sz = 3 from rfl, Nat.mul_one, Nat.add_zero] at hf28_0)); (try (have hx28_1 := hcc28 1 _ rfl)); (try (try simp only [show (k94).sz = 3 from rfl, Nat.mul_one, Nat.add_zero] at hx28_1)); (try (have hf28_1 := hfr28 1)); (try (try simp only [show (k94).sz = 3 from rfl, Nat.mul_one, Nat.add_zero] at hf28_1)); (try (have hx28_2 := hcc28 2 _ rfl)); (try (try simp only [show (k94).sz = 3 from rfl, Nat.mul_one, Nat.add_zero] at hx28_2)); (try (have hf28_2 := hfr28 2)); (try (try simp only [show (k94).sz = 3 from rfl, Nat.mul_one, Nat.add_zero] at hf28_2)); (try (clear hcl28 hcc28 hfr28 hM28)))); refine store_event (t := 94) (p := 55) (v := ?vo_w29) (w1 := (((wr.setCell ⟨go27, (x6_3 : Int).toNat * 3, none⟩ (.int .u32 ((rd_T94 x3_3 (ji22)).f0))).setCell ⟨go27, (x6_3 : Int).toNat * 3 + 1, none⟩ (.int .i64 ((rd_T94 x3_3 (ji22)).f1))).setCell ⟨go27, (x6_3 : Int).toNat * 3 + 2, none⟩ (.bool ((rd_T94 x3_3 (ji22)).f2)))) ?hg ?ho ?hn ?hr ?_; (case ho => rfl); (case hg => rfl); (case hn => rfl); (case hr => first | (go_simp; done) | (go_simp; rfl)); intro w29 hw; have hg : wr.grownBy w29 (some go27) := (by rw [hw]; exact HP28.2); have hp_ : Kd.R k94 94 w29 w.heap.size (fun _ => True) (.slice (some ⟨go27, 0, none⟩) x3_3.length co20) y284 := (by rw [hw, Ny284.out]; exact HP28.1); clear HP28; have n0_ := Aside0.mk (hp_); have n1_ := Aside0.mk (blk_grown (g := gb274) (o := .cells #[.slice A0_0 l0_0.length c0_0, .int .i64 a0_1, .int .i64 a0_2] 65 (0, 0)) (by (with_reducible repeat (first | refine blk_drewN ?_ _ | refine blk_drew ?_ | refine blk_alloc ?_ _)); exact BK274.out) hg (Kd.R_ne HO_3.out BK274.out (by decide))); have n2_ := Aside0.mk ((by rw [hw]; exact below_set (below_set (below_set (HB.out) GB27.out) GB27.out) GB27.out : Below w.heap.size w w29)); clear HO_3; clear BK274; clear HB; have HO_3 := n0_; have BK274 := n1_; have HB := n2_; clear n0_ n1_ n2_; clear hg hw hp_)); try go_wp2_with (first | ((with_reducible refine gate_store (t := 94) (p := 55) rfl ?_); (try (rw [drewN_self wr]; generalize hq_ : World.drewN wr _ = wr; have n0_ := Aside0.mk (Kd.R_at hq_ HO_3.out); have n1_ := Aside0.mk (blk_at hq_ BK274.out); have n2_ := Aside0.mk (below_at hq_ HB.out); clear hq_ HO_3 BK274 HB; have HO_3 := n0_; have BK274 := n1_; have HB := n2_; clear n0_ n1_ n2_; (try (have HX28 := Aside0.mk (show Kd.R k94 94 wr w.heap.size (fun _ => True) (.slice (some ⟨go27, 0, none⟩) x3_3.length co20) x3_3 from (by (with_reducible repeat (first | apply Kd.R_alloc | apply Kd.R_drewN | apply Kd.R_drew)); exact HO_3.out)))); (try (obtain ⟨ce28, hcl28, hM28, hcc28, hfr28⟩ := Kd.R_elem HX28.out z94 (x6_3 : Int) (of_decide_eq_true (by first | (with_reducible assumption) | assumption)) (by have h_ : (x6_3 : Int) < ((x3_3.length : Int) : Int) := of_decide_eq_true (by first | (with_reducible assumption) | assumption); first | exact h_ | (have e_ := (Kd.R_reads' HO_3.out).1; omega) | simpa using h_))); (try (obtain rfl := k94_openM hM28)); (try (have HP28 := Kd.R_seg HX28.out (x6_3 : Int) (of_decide_eq_true (by first | (with_reducible assumption) | assumption)) (by have h_ : (x6_3 : Int) < ((x3_3.length : Int) : Int) := of_decide_eq_true (by first | (with_reducible assumption) | assumption); first | exact h_ | (have e_ := (Kd.R_reads' HO_3.out).1; omega) | simpa using h_) (seg := [.int .u32 ((rd_T94 x3_3 (ji22)).f0), .int .i64 ((rd_T94 x3_3 (ji22)).f1), .bool ((rd_T94 x3_3 (ji22)).f2)]) (j := 0) hcl28 hcc28 (show 3 ≤ 3 from by decide) (x' := (⟨(rd_T94 x3_3 (ji22)).f0, (rd_T94 x3_3 (ji22)).f1, (rd_T94 x3_3 (ji22)).f2⟩ : S94)) (k94_mkM _ _ _ (⟨(rd_T94 x3_3 (ji22)).f0, (rd_T94 x3_3 (ji22)).f1, (rd_T94 x3_3 (ji22)).f2⟩ : S94) ) (fun _ hk => hk))); (try (have hx28_0 := hcc28 0 _ rfl)); (try (try simp only [show (k94).sz = 3 from rfl, Nat.mul_one, Nat.add_zero] at hx28_0)); (try (have hf28_0 := hfr28 0)); (try (try simp only [show (k94).sz = 3 from rfl, Nat.mul_one, Nat.add_zero] at hf28_0)); (try (have hx28_1 := hcc28 1 _ rfl)); (try (try simp only [show (k94).sz = 3 from rfl, Nat.mul_one, Nat.add_zero] at hx28_1)); (try (have hf28_1 := hfr28 1)); (try (try simp only [show (k94).sz = 3 from rfl, Nat.mul_one, Nat.add_zero] at hf28_1)); (try (have hx28_2 := hcc28 2 _ rfl)); (try (try simp only [show (k94).sz = 3 from rfl, Nat.mul_one, Nat.add_zero] at hx28_2)); (try (have hf28_2 := hfr28 2)); (try (try simp only [show (k94).sz = 3 from rfl, Nat.mul_one, Nat.add_zero] at hf28_2)); (try (clear hcl28 hcc28 hfr28 hM28)))); refine store_event (t := 94) (p := 55) (v := ?vo_w29) (w1 := (((wr.setCell ⟨go27, (x6_3 : Int).toNat * 3, none⟩ (.int .u32 ((rd_T94 x3_3 (ji22)).f0))).setCell ⟨go27, (x6_3 : Int).toNat * 3 + 1, none⟩ (.int .i64 ((rd_T94 x3_3 (ji22)).f1))).setCell ⟨go27, (x6_3 : Int).toNat * 3 + 2, none⟩ (.bool ((rd_T94 x3_3 (ji22)).f2)))) ?hg ?ho ?hn ?hr ?_; (case ho => rfl); (case hg => rfl); (case hn => rfl); (case hr => first | (go_simp; done) | (go_simp; rfl)); intro w29 hw; have hg : wr.grownBy w29 (some go27) := (by rw [hw]; exact HP28.2); have hp_ : Kd.R k94 94 w29 w.heap.size (fun _ => True) (.slice (some ⟨go27, 0, none⟩) x3_3.length co20) y284 := (by rw [hw, Ny284.out]; exact HP28.1); clear HP28; have n0_ := Aside0.mk (hp_); have n1_ := Aside0.mk (blk_grown (g := gb274) (o := .cells #[.slice A0_0 l0_0.length c0_0, .int .i64 a0_1, .int .i64 a0_2] 65 (0, 0)) (by (with_reducible repeat (first | refine blk_drewN ?_ _ | refine blk_drew ?_ | refine blk_alloc ?_ _)); exact BK274.out) hg (Kd.R_ne HO_3.out BK274.out (by decide))); have n2_ := Aside0.mk ((by rw [hw]; exact below_set (below_set (below_set (HB.out) GB27.out) GB27.out) GB27.out : Below w.heap.size w w29)); clear HO_3; clear BK274; clear HB; have HO_3 := n0_; have BK274 := n1_; have HB := n2_; clear n0_ n1_ n2_; clear hg hw hp_)))
                            (try simp only [← hl3_3])
                            go_roundg k3
                            case measure => have := HK1.out; have := HJ5.out; have := HK3.out; omega
                            case rel => exact ⟨(y284), (ji22), (by first | rfl | (simp; done) | (simp only [← hji22] <;> (first | rfl | simp)) | (simp [*]; done)), H', ⟨by have := HK1.out; have := HJ5.out; have := HK3.out; omega⟩, ⟨by (try simp only [hl3_3]); (with_reducible repeat (first | apply Kd.R_alloc | apply Kd.R_drewN | apply Kd.R_drew)); exact HO_3.out⟩, ⟨by (try simp only [hl3_3]); (with_reducible repeat (first | refine blk_drewN ?_ _ | refine blk_drew ?_ | refine blk_alloc ?_ _)); exact BK274.out⟩, ⟨by repeat (first | (with_reducible first | exact HB.out | apply below_alloc | apply pw_below_drewN | apply below_drew1 | refine below_set ?_ GE274.out) | exact HB.out)⟩⟩
                          · rw [if_neg c26] at H
                            exact absurd H (by simp)
                        · rw [if_neg c25] at H
                          exact absurd H (by simp)
                      · rw [if_neg c24] at H
                        exact absurd H (by simp)
                    · rw [if_neg c23] at H
                      exact absurd H (by simp)
                  · rw [if_neg c21] at H
                    have c21b0 : decide (x5_5 < x6_3) = false := decide_eq_false c21
                    clear c21
                    by_cases c30 : 0 ≤ x4_1
                    · rw [if_pos c30] at H
                      have c30b0 : decide (0 ≤ x4_1) = true := decide_eq_true c30
                      clear c30
                      by_cases c31 : x4_1 < (l0_0.length : Int)
                      · rw [if_pos c31] at H
                        have c31b0 : decide (x4_1 < (l0_0.length : Int)) = true := decide_eq_true c31
                        clear c31
                        by_cases c32 : 0 ≤ x5_5
                        · rw [if_pos c32] at H
                          have c32b0 : decide (0 ≤ x5_5) = true := decide_eq_true c32
                          clear c32
                          by_cases c33 : x5_5 < (x3_3.length : Int)
                          · rw [if_pos c33] at H
                            have c33b0 : decide (x5_5 < (x3_3.length : Int)) = true := decide_eq_true c33
                            clear c33
                            obtain ⟨y286, hy286⟩ : ∃ y_ : List (S94), y_ = (x3_3.set (x5_5 : Int).toNat (⟨(rd_T94 l0_0 x4_1).f0, (rd_T94 l0_0 x4_1).f1, (rd_T94 l0_0 x4_1).f2⟩ : S94)) := ⟨_, rfl⟩
                            replace H : (horologeref31_Sorted.l0 k3 y286 (wrap64 (x4_1 + 1)) l0_0 a0_1 a0_2) = some r := by first | (rw [hy286]; with_reducible exact H) | (have H2_ := (Option.bind_some _ _).symm.trans H; rw [hy286]; with_reducible exact H2_) | (have H2_ := (Option.bind_some _ _).symm.trans H; with_reducible exact H2_) | with_reducible exact H | (rw [hy286]; exact H) | exact H
                            have Ny286 := Aside0.mk hy286
                            clear hy286
                            have H' := Aside0.mk H
                            clear H
                            have hcz35_0 : wr.cell? ⟨gb274, 0, none⟩ = some (.slice A0_0 l0_0.length c0_0) := (blk_cell BK274.out 0).trans rfl
                            have hcz35_1 : wr.cell? ⟨gb274, 1, none⟩ = some (.int .i64 a0_1) := (blk_cell BK274.out 1).trans rfl
                            have hcz35_2 : wr.cell? ⟨gb274, 2, none⟩ = some (.int .i64 a0_2) := (blk_cell BK274.out 2).trans rfl
                            have hfz35_0 := blk_frozen BK274.out 0
                            have hfz35_1 := blk_frozen BK274.out 1
                            have hfz35_2 := blk_frozen BK274.out 2
                            have p285 : 0 ≤ (x4_1 : Int) := of_decide_eq_true (by first | (with_reducible assumption) | assumption)
                            have q285 : x4_1 < (l0_0.length : Int) := of_decide_eq_true (by first | (with_reducible assumption) | assumption)
                            obtain ⟨ad285, e285, hx285_0, hx285_1, hx285_2⟩ := at_T94 HR0_0.out x4_1 p285 q285
                            cases e285
                            replace hx285_0 := (HB.out.cell (World.block_lt_of_cell? w _ hx285_0)).trans hx285_0
                            replace hx285_1 := (HB.out.cell (World.block_lt_of_cell? w _ hx285_1)).trans hx285_1
                            replace hx285_2 := (HB.out.cell (World.block_lt_of_cell? w _ hx285_2)).trans hx285_2
                            replace p285 := eq_true p285
                            replace q285 := eq_true q285
                            have p34 : 0 ≤ (x5_5 : Int) := of_decide_eq_true (by first | (with_reducible assumption) | assumption)
                            have q34 : (x5_5 : Int) < ((x3_3.length : Int) : Int) := of_decide_eq_true (by first | (with_reducible assumption) | assumption)
                            obtain ⟨go34, co34, eo34, gb34, gl34, cl34, HG34⟩ := Kd.R_form HO_3.out (by omega)
                            (first | cases eo34 | (injection eo34 with ea_ en_ ec_; (first | subst ea_ | (injection ea_ with ea_; subst ea_)); subst ec_; clear en_))
                            have GB34 := Aside0.mk gb34
                            have GG34 := Aside0.mk HG34
                            clear gb34 gl34 HG34
                            obtain ⟨ce34, hcl34, hM34, hcc34, hfr34⟩ := Kd.R_elem HO_3.out z94 (x5_5 : Int) p34 q34
                            obtain rfl := k94_openM hM34
                            have hx34_0 : wr.cell? ⟨go34, (x5_5 : Int).toNat * 3, none⟩ = some (.int .u32 ((rd_T94 x3_3 x5_5).f0)) := hcc34 0 _ rfl
                            have hx34_1 : wr.cell? ⟨go34, (x5_5 : Int).toNat * 3 + 1, none⟩ = some (.int .i64 ((rd_T94 x3_3 x5_5).f1)) := hcc34 1 _ rfl
                            have hx34_2 : wr.cell? ⟨go34, (x5_5 : Int).toNat * 3 + 2, none⟩ = some (.bool ((rd_T94 x3_3 x5_5).f2)) := hcc34 2 _ rfl
                            have hf34_0 : wr.frozen? ⟨go34, (x5_5 : Int).toNat * 3, none⟩ = false := hfr34 0
                            have hf34_1 : wr.frozen? ⟨go34, (x5_5 : Int).toNat * 3 + 1, none⟩ = false := hfr34 1
                            have hf34_2 : wr.frozen? ⟨go34, (x5_5 : Int).toNat * 3 + 2, none⟩ = false := hfr34 2
                            clear hcl34 hcc34 hfr34 hM34
                            replace p34 := eq_true p34
                            replace q34 := eq_true q34
                            have HX36 := Aside0.mk (show Kd.R k94 94 wr w.heap.size (fun _ => True) (.slice (some ⟨go34, 0, none⟩) x3_3.length co20) x3_3 from (by (with_reducible repeat (first | apply Kd.R_alloc | apply Kd.R_drewN | apply Kd.R_drew)); exact HO_3.out))
                            obtain ⟨ce36, hcl36, hM36, hcc36, hfr36⟩ := Kd.R_elem HX36.out z94 (x5_5 : Int) (of_decide_eq_true (by first | (with_reducible assumption) | assumption)) (by have h_ : (x5_5 : Int) < ((x3_3.length : Int) : Int) := of_decide_eq_true (by first | (with_reducible assumption) | assumption); first | exact h_ | (have e_ := (Kd.R_reads' HO_3.out).1; omega) | simpa using h_)
                            obtain rfl := k94_openM hM36
                            have HP36 := Kd.R_seg HX36.out (x5_5 : Int) (of_decide_eq_true (by first | (with_reducible assumption) | assumption)) (by have h_ : (x5_5 : Int) < ((x3_3.length : Int) : Int) := of_decide_eq_true (by first | (with_reducible assumption) | assumption); first | exact h_ | (have e_ := (Kd.R_reads' HO_3.out).1; omega) | simpa using h_) (seg := [.int .u32 ((rd_T94 l0_0 x4_1).f0), .int .i64 ((rd_T94 l0_0 x4_1).f1), .bool ((rd_T94 l0_0 x4_1).f2)]) (j := 0) hcl36 hcc36 (show 3 ≤ 3 from by decide) (x' := (⟨(rd_T94 l0_0 x4_1).f0, (rd_T94 l0_0 x4_1).f1, (rd_T94 l0_0 x4_1).f2⟩ : S94)) (k94_mkM _ _ _ (⟨(rd_T94 l0_0 x4_1).f0, (rd_T94 l0_0 x4_1).f1, (rd_T94 l0_0 x4_1).f2⟩ : S94) ) (fun _ hk => hk)
                            have hx36_0 := hcc36 0 _ rfl
                            (try simp only [show (k94).sz = 3 from rfl, Nat.mul_one, Nat.add_zero] at hx36_0)
                            have hf36_0 := hfr36 0
                            (try simp only [show (k94).sz = 3 from rfl, Nat.mul_one, Nat.add_zero] at hf36_0)
                            have hx36_1 := hcc36 1 _ rfl
                            (try simp only [show (k94).sz = 3 from rfl, Nat.mul_one, Nat.add_zero] at hx36_1)
                            have hf36_1 := hfr36 1
                            (try simp only [show (k94).sz = 3 from rfl, Nat.mul_one, Nat.add_zero] at hf36_1)
                            have hx36_2 := hcc36 2 _ rfl
                            (try simp only [show (k94).sz = 3 from rfl, Nat.mul_one, Nat.add_zero] at hx36_2)
                            have hf36_2 := hfr36 2
                            (try simp only [show (k94).sz = 3 from rfl, Nat.mul_one, Nat.add_zero] at hf36_2)
                            clear hcl36 hcc36 hfr36 hM36
                            go_wp2_with (first | ((with_reducible refine gate_store (t := 94) (p := 63) rfl ?_); (try (rw [drewN_self wr]; generalize hq_ : World.drewN wr _ = wr; have n0_ := Aside0.mk (Kd.R_at hq_ HO_3.out); have n1_ := Aside0.mk (blk_at hq_ BK274.out); have n2_ := Aside0.mk (below_at hq_ HB.out); clear hq_ HO_3 BK274 HB; have HO_3 := n0_; have BK274 := n1_; have HB := n2_; clear n0_ n1_ n2_; (try (have HX36 := Aside0.mk (show Kd.R k94 94 wr w.heap.size (fun _ => True) (.slice (some ⟨go34, 0, none⟩) x3_3.length co20) x3_3 from (by (with_reducible repeat (first | apply Kd.R_alloc | apply Kd.R_drewN | apply Kd.R_drew)); exact HO_3.out)))); (try (obtain ⟨ce36, hcl36, hM36, hcc36, hfr36⟩ := Kd.R_elem HX36.out z94 (x5_5 : Int) (of_decide_eq_true (by first | (with_reducible assumption) | assumption)) (by have h_ : (x5_5 : Int) < ((x3_3.length : Int) : Int) := of_decide_eq_true (by first | (with_reducible assumption) | assumption); first | exact h_ | (have e_ := (Kd.R_reads' HO_3.out).1; omega) | simpa using h_))); (try (obtain rfl := k94_openM hM36)); (try (have HP36 := Kd.R_seg HX36.out (x5_5 : Int) (of_decide_eq_true (by first | (with_reducible assumption) | assumption)) (by have h_ : (x5_5 : Int) < ((x3_3.length : Int) : Int) := of_decide_eq_true (by first | (with_reducible assumption) | assumption); first | exact h_ | (have e_ := (Kd.R_reads' HO_3.out).1; omega) | simpa using h_) (seg := [.int .u32 ((rd_T94 l0_0 x4_1).f0), .int .i64 ((rd_T94 l0_0 x4_1).f1), .bool ((rd_T94 l0_0 x4_1).f2)]) (j := 0) hcl36 hcc36 (show 3 ≤ 3 from by decide) (x' := (⟨(rd_T94 l0_0 x4_1).f0, (rd_T94 l0_0 x4_1).f1, (rd_T94 l0_0 x4_1).f2⟩ : S94)) (k94_mkM _ _ _ (⟨(rd_T94 l0_0 x4_1).f0, (rd_T94 l0_0 x4_1).f1, (rd_T94 l0_0 x4_1).f2⟩ : S94) ) (fun _ hk => hk))); (try (have hx36_0 := hcc36 0 _ rfl)); (try (try simp only [show (k94).sz = 3 from rfl, Nat.mul_one, Nat.add_zero] at hx36_0)); (try (have hf36_0 := hfr36 0)); (try (try simp only [show (k94).sz = 3 from rfl, Nat.mul_one, Nat.add_zero] at hf36_0)); (try (have hx36_1 := hcc36 1 _ rfl)); (try (try simp only [show (k94).sz = 3 from rfl, Nat.mul_one, Nat.add_zero] at hx36_1)); (try (have hf36_1 := hfr36 1)); (try (try simp only [show (k94).sz = 3 from rfl, Nat.mul_one, Nat.add_zero] at hf36_1)); (try (have hx36_2 := hcc36 2 _ rfl)); (try (try simp only [show (k94).sz = 3 from rfl, Nat.mul_one, Nat.add_zero] at hx36_2)); (try (have hf36_2 := hfr36 2)); (try (try simp only [show (k94).sz = 3 from rfl, Nat.mul_one, Nat.add_zero] at hf36_2)); (try (clear hcl36 hcc36 hfr36 hM36)))); refine store_event (t := 94) (p := 63) (v := ?vo_w37) (w1 := (((wr.setCell ⟨go34, (x5_5 : Int).toNat * 3, none⟩ (.int .u32 ((rd_T94 l0_0 x4_1).f0))).setCell ⟨go34, (x5_5 : Int).toNat * 3 + 1, none⟩ (.int .i64 ((rd_T94 l0_0 x4_1).f1))).setCell ⟨go34, (x5_5 : Int).toNat * 3 + 2, none⟩ (.bool ((rd_T94 l0_0 x4_1).f2)))) ?hg ?ho ?hn ?hr ?_; (case ho => rfl); (case hg => rfl); (case hn => rfl); (case hr => first | (go_simp; done) | (go_simp; rfl)); intro w37 hw; have hg : wr.grownBy w37 (some go34) := (by rw [hw]; exact HP36.2); have hp_ : Kd.R k94 94 w37 w.heap.size (fun _ => True) (.slice (some ⟨go34, 0, none⟩) x3_3.length co20) y286 := (by rw [hw, Ny286.out]; exact HP36.1); clear HP36; have n0_ := Aside0.mk (hp_); have n1_ := Aside0.mk (blk_grown (g := gb274) (o := .cells #[.slice (some ad285) l0_0.length c0_0, .int .i64 a0_1, .int .i64 a0_2] 65 (0, 0)) (by (with_reducible repeat (first | refine blk_drewN ?_ _ | refine blk_drew ?_ | refine blk_alloc ?_ _)); exact BK274.out) hg (Kd.R_ne HO_3.out BK274.out (by decide))); have n2_ := Aside0.mk ((by rw [hw]; exact below_set (below_set (below_set (HB.out) GB34.out) GB34.out) GB34.out : Below w.heap.size w w37)); clear HO_3; clear BK274; clear HB; have HO_3 := n0_; have BK274 := n1_; have HB := n2_; clear n0_ n1_ n2_; clear hg hw hp_))
                            repeat (go_quiet (first | ((with_reducible refine gate_store (t := 94) (p := 63) rfl ?_); (try (rw [drewN_self wr]; generalize hq_ : World.drewN wr _ = wr; have n0_ := Aside0.mk (Kd.R_at hq_ HO_3.out); have n1_ := Aside0.mk (blk_at hq_ BK274.out); have n2_ := Aside0.mk (below_at hq_ HB.out); clear hq_ HO_3 BK274 HB; have HO_3 := n0_; have BK274 := n1_; have HB := n2_; clear n0_ n1_ n2_; (try (have HX36 := Aside0.mk (show Kd.R k94 94 wr w.heap.size (fun _ => True) (.slice (some ⟨go34, 0, none⟩) x3_3.length co20) x3_3 from (by (with_reducible repeat (first | apply Kd.R_alloc | apply Kd.R_drewN | apply Kd.R_drew)); exact HO_3.out)))); (try (obtain ⟨ce36, hcl36, hM36, hcc36, hfr36⟩ := Kd.R_elem HX36.out z94 (x5_5 : Int) (of_decide_eq_true (by first | (with_reducible assumption) | assumption)) (by have h_ : (x5_5 : Int) < ((x3_3.length : Int) : Int) := of_decide_eq_true (by first | (with_reducible assumption) | assumption); first | exact h_ | (have e_ := (Kd.R_reads' HO_3.out).1; omega) | simpa using h_))); (try (obtain rfl := k94_openM hM36)); (try (have HP36 := Kd.R_seg HX36.out (x5_5 : Int) (of_decide_eq_true (by first | (with_reducible assumption) | assumption)) (by have h_ : (x5_5 : Int) < ((x3_3.length : Int) : Int) := of_decide_eq_true (by first | (with_reducible assumption) | assumption); first | exact h_ | (have e_ := (Kd.R_reads' HO_3.out).1; omega) | simpa using h_) (seg := [.int .u32 ((rd_T94 l0_0 x4_1).f0), .int .i64 ((rd_T94 l0_0 x4_1).f1), .bool ((rd_T94 l0_0 x4_1).f2)]) (j := 0) hcl36 hcc36 (show 3 ≤ 3 from by decide) (x' := (⟨(rd_T94 l0_0 x4_1).f0, (rd_T94 l0_0 x4_1).f1, (rd_T94 l0_0 x4_1).f2⟩ : S94)) (k94_mkM _ _ _ (⟨(rd_T94 l0_0 x4_1).f0, (rd_T94 l0_0 x4_1).f1, (rd_T94 l0_0 x4_1).f2⟩ : S94) ) (fun _ hk => hk))); (try (have hx36_0 := hcc36 0 _ rfl)); (try (try simp only [show (k94).sz = 3 from rfl, Nat.mul_one, Nat.add_zero] at hx36_0)); (try (have hf36_0 := hfr36 0)); (try (try simp only [show (k94).sz = 3 from rfl, Nat.mul_one, Nat.add_zero] at hf36_0)); (try (have hx36_1 := hcc36 1 _ rfl)); (try (try simp only [show (k94).sz = 3 from rfl, Nat.mul_one, Nat.add_zero] at hx36_1)); (try (have hf36_1 := hfr36 1)); (try (try simp only [show (k94).sz = 3 from rfl, Nat.mul_one, Nat.add_zero] at hf36_1)); (try (have hx36_2 := hcc36 2 _ rfl)); (try (try simp only [show (k94).sz = 3 from rfl, Nat.mul_one, Nat.add_zero] at hx36_2)); (try (have hf36_2 := hfr36 2)); (try (try simp only [show (k94).sz = 3 from rfl, Nat.mul_one, Nat.add_zero] at hf36_2)); (try (clear hcl36 hcc36 hfr36 hM36)))); refine store_event (t := 94) (p := 63) (v := ?vo_w37) (w1 := (((wr.setCell ⟨go34, (x5_5 : Int).toNat * 3, none⟩ (.int .u32 ((rd_T94 l0_0 x4_1).f0))).setCell ⟨go34, (x5_5 : Int).toNat * 3 + 1, none⟩ (.int .i64 ((rd_T94 l0_0 x4_1).f1))).setCell ⟨go34, (x5_5 : Int).toNat * 3 + 2, none⟩ (.bool ((rd_T94 l0_0 x4_1).f2)))) ?hg ?ho ?hn ?hr ?_; (case ho => rfl); (case hg => rfl); (case hn => rfl); (case hr => first | (go_simp; done) | (go_simp; rfl)); intro w37 hw; have hg : wr.grownBy w37 (some go34) := (by rw [hw]; exact HP36.2); have hp_ : Kd.R k94 94 w37 w.heap.size (fun _ => True) (.slice (some ⟨go34, 0, none⟩) x3_3.length co20) y286 := (by rw [hw, Ny286.out]; exact HP36.1); clear HP36; have n0_ := Aside0.mk (hp_); have n1_ := Aside0.mk (blk_grown (g := gb274) (o := .cells #[.slice (some ad285) l0_0.length c0_0, .int .i64 a0_1, .int .i64 a0_2] 65 (0, 0)) (by (with_reducible repeat (first | refine blk_drewN ?_ _ | refine blk_drew ?_ | refine blk_alloc ?_ _)); exact BK274.out) hg (Kd.R_ne HO_3.out BK274.out (by decide))); have n2_ := Aside0.mk ((by rw [hw]; exact below_set (below_set (below_set (HB.out) GB34.out) GB34.out) GB34.out : Below w.heap.size w w37)); clear HO_3; clear BK274; clear HB; have HO_3 := n0_; have BK274 := n1_; have HB := n2_; clear n0_ n1_ n2_; clear hg hw hp_)); try go_wp2_with (first | ((with_reducible refine gate_store (t := 94) (p := 63) rfl ?_); (try (rw [drewN_self wr]; generalize hq_ : World.drewN wr _ = wr; have n0_ := Aside0.mk (Kd.R_at hq_ HO_3.out); have n1_ := Aside0.mk (blk_at hq_ BK274.out); have n2_ := Aside0.mk (below_at hq_ HB.out); clear hq_ HO_3 BK274 HB; have HO_3 := n0_; have BK274 := n1_; have HB := n2_; clear n0_ n1_ n2_; (try (have HX36 := Aside0.mk (show Kd.R k94 94 wr w.heap.size (fun _ => True) (.slice (some ⟨go34, 0, none⟩) x3_3.length co20) x3_3 from (by (with_reducible repeat (first | apply Kd.R_alloc | apply Kd.R_drewN | apply Kd.R_drew)); exact HO_3.out)))); (try (obtain ⟨ce36, hcl36, hM36, hcc36, hfr36⟩ := Kd.R_elem HX36.out z94 (x5_5 : Int) (of_decide_eq_true (by first | (with_reducible assumption) | assumption)) (by have h_ : (x5_5 : Int) < ((x3_3.length : Int) : Int) := of_decide_eq_true (by first | (with_reducible assumption) | assumption); first | exact h_ | (have e_ := (Kd.R_reads' HO_3.out).1; omega) | simpa using h_))); (try (obtain rfl := k94_openM hM36)); (try (have HP36 := Kd.R_seg HX36.out (x5_5 : Int) (of_decide_eq_true (by first | (with_reducible assumption) | assumption)) (by have h_ : (x5_5 : Int) < ((x3_3.length : Int) : Int) := of_decide_eq_true (by first | (with_reducible assumption) | assumption); first | exact h_ | (have e_ := (Kd.R_reads' HO_3.out).1; omega) | simpa using h_) (seg := [.int .u32 ((rd_T94 l0_0 x4_1).f0), .int .i64 ((rd_T94 l0_0 x4_1).f1), .bool ((rd_T94 l0_0 x4_1).f2)]) (j := 0) hcl36 hcc36 (show 3 ≤ 3 from by decide) (x' := (⟨(rd_T94 l0_0 x4_1).f0, (rd_T94 l0_0 x4_1).f1, (rd_T94 l0_0 x4_1).f2⟩ : S94)) (k94_mkM _ _ _ (⟨(rd_T94 l0_0 x4_1).f0, (rd_T94 l0_0 x4_1).f1, (rd_T94 l0_0 x4_1).f2⟩ : S94) ) (fun _ hk => hk))); (try (have hx36_0 := hcc36 0 _ rfl)); (try (try simp only [show (k94).sz = 3 from rfl, Nat.mul_one, Nat.add_zero] at hx36_0)); (try (have hf36_0 := hfr36 0)); (try (try simp only [show (k94).sz = 3 from rfl, Nat.mul_one, Nat.add_zero] at hf36_0)); (try (have hx36_1 := hcc36 1 _ rfl)); (try (try simp only [show (k94).sz = 3 from rfl, Nat.mul_one, Nat.add_zero] at hx36_1)); (try (have hf36_1 := hfr36 1)); (try (try simp only [show (k94).sz = 3 from rfl, Nat.mul_one, Nat.add_zero] at hf36_1)); (try (have hx36_2 := hcc36 2 _ rfl)); (try (try simp only [show (k94).sz = 3 from rfl, Nat.mul_one, Nat.add_zero] at hx36_2)); (try (have hf36_2 := hfr36 2)); (try (try simp only [show (k94).sz = 3 from rfl, Nat.mul_one, Nat.add_zero] at hf36_2)); (try (clear hcl36 hcc36 hfr36 hM36)))); refine store_event (t := 94) (p := 63) (v := ?vo_w37) (w1 := (((wr.setCell ⟨go34, (x5_5 : Int).toNat * 3, none⟩ (.int .u32 ((rd_T94 l0_0 x4_1).f0))).setCell ⟨go34, (x5_5 : Int).toNat * 3 + 1, none⟩ (.int .i64 ((rd_T94 l0_0 x4_1).f1))).setCell ⟨go34, (x5_5 : Int).toNat * 3 + 2, none⟩ (.bool ((rd_T94 l0_0 x4_1).f2)))) ?hg ?ho ?hn ?hr ?_; (case ho => rfl); (case hg => rfl); (case hn => rfl); (case hr => first | (go_simp; done) | (go_simp; rfl)); intro w37 hw; have hg : wr.grownBy w37 (some go34) := (by rw [hw]; exact HP36.2); have hp_ : Kd.R k94 94 w37 w.heap.size (fun _ => True) (.slice (some ⟨go34, 0, none⟩) x3_3.length co20) y286 := (by rw [hw, Ny286.out]; exact HP36.1); clear HP36; have n0_ := Aside0.mk (hp_); have n1_ := Aside0.mk (blk_grown (g := gb274) (o := .cells #[.slice (some ad285) l0_0.length c0_0, .int .i64 a0_1, .int .i64 a0_2] 65 (0, 0)) (by (with_reducible repeat (first | refine blk_drewN ?_ _ | refine blk_drew ?_ | refine blk_alloc ?_ _)); exact BK274.out) hg (Kd.R_ne HO_3.out BK274.out (by decide))); have n2_ := Aside0.mk ((by rw [hw]; exact below_set (below_set (below_set (HB.out) GB34.out) GB34.out) GB34.out : Below w.heap.size w w37)); clear HO_3; clear BK274; clear HB; have HO_3 := n0_; have BK274 := n1_; have HB := n2_; clear n0_ n1_ n2_; clear hg hw hp_)))
                            (try simp only [← hl3_3])
                            go_roundg k3
                            case measure => have := HK1.out; have := HJ5.out; have := HK3.out; omega
                            case rel => exact ⟨(y286), (wrap64 (x4_1 + 1)), (by first | rfl | (simp; done) | (simp [*]; done)), H', ⟨by have := HK1.out; have := HJ5.out; have := HK3.out; omega⟩, ⟨by (try simp only [hl3_3]); (with_reducible repeat (first | apply Kd.R_alloc | apply Kd.R_drewN | apply Kd.R_drew)); exact HO_3.out⟩, ⟨by (try simp only [hl3_3]); (with_reducible repeat (first | refine blk_drewN ?_ _ | refine blk_drew ?_ | refine blk_alloc ?_ _)); exact BK274.out⟩, ⟨by repeat (first | (with_reducible first | exact HB.out | apply below_alloc | apply pw_below_drewN | apply below_drew1 | refine below_set ?_ GE274.out) | exact HB.out)⟩⟩
                          · rw [if_neg c33] at H
                            exact absurd H (by simp)
                        · rw [if_neg c32] at H
                          exact absurd H (by simp)
                      · rw [if_neg c31] at H
                        exact absurd H (by simp)
                    · rw [if_neg c30] at H
                      exact absurd H (by simp)
            · rw [if_neg c18] at H
              exact absurd H (by simp)
      · rw [if_neg c5] at H
        have c5b0 : decide (x4_1 < (l0_0.length : Int)) = false := decide_eq_false c5
        clear c5
        obtain rfl := Option.some.inj H
        have hcz38_0 : wr.cell? ⟨gb274, 0, none⟩ = some (.slice A0_0 l0_0.length c0_0) := (blk_cell BK274.out 0).trans rfl
        have hcz38_1 : wr.cell? ⟨gb274, 1, none⟩ = some (.int .i64 a0_1) := (blk_cell BK274.out 1).trans rfl
        have hcz38_2 : wr.cell? ⟨gb274, 2, none⟩ = some (.int .i64 a0_2) := (blk_cell BK274.out 2).trans rfl
        have hfz38_0 := blk_frozen BK274.out 0
        have hfz38_1 := blk_frozen BK274.out 1
        have hfz38_2 := blk_frozen BK274.out 2
        go_wp2
        repeat (go_quiet (fail); try go_wp2)
        go_ret
        exact ⟨_, by first | rfl | (simp [errW_none, errW_some] <;> rfl) | (simp [*, errW_none, errW_some] <;> rfl), by (with_reducible repeat (first | apply Kd.R_alloc | apply Kd.R_drewN | apply Kd.R_drew)); exact HO_3.out, by repeat (first | (with_reducible first | exact HB.out | apply below_alloc | apply pw_below_drewN | apply below_drew1 | refine below_set ?_ GE274.out) | exact HB.out)⟩

/-! ### rate_Table_uint32_Span: function 54 -/
-- NOT PRINTED: function 33 (horologelaw31_same)

-- NOT PRINTED: function 6 (horologelaw31_RatePlays)

end Go.Proofs.Ytbifanoiailjoaa.MRatePlays
