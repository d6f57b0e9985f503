/- What all answers have; an answer in earnest (written by gen_begin.py). -/
import Derived.Test.YtlaaofbmnaekoaaClientAsk
namespace Go.Proofs.Ytlaaofbmnaekoaa.MWholeClient
open Go.RowKit Go.Proofs.YtlaaofbmnaekoaaW.PrintWords Go.Proofs.YtlaaofbmnaekoaaW.PrintLast Go.Proofs.YtlaaofbmnaekoaaW.PrintMore Go.Proofs.Ytlaaofbmnaekoaa.Base
set_option linter.unusedVariables false
set_option linter.unusedSimpArgs false

set_option maxHeartbeats 16000000 in
set_option maxRecDepth 100000 in
theorem begin_c (w : World) (g ba c : Nat) (x : HD) (k1 : Nat) (came goes r0 r1 s0 s1 : Int) (hst : w.heap[g]? = some (.cells S18 82 (0, 0))) (e2 : x.vn = 4) (e3 : x.md = 3) (hle : came ≤ goes)
    (hA : ∀ W, Below w.heap.size w W → Calls Try.prog 44 #[.slice (some ⟨ba, 0, none⟩) 48 c] W fun e w' => e = .returned (.tuple #[.agg x.cs, .nilIface]) ∧ Below W.heap.size W w') (hs1 : steady_Stamp.f k1 came = some (r0, r1)) (hs2 : steady_Stamp.f k1 goes = some (s0, s1)) :
    Calls Try.prog 27 #[.pointer (some ⟨g, 0, none⟩), .slice (some ⟨ba, 0, none⟩) 48 c, .int .u64 came, .int .u64 goes] w fun e w' => e = .returned (.tuple #[.agg (H22 0 4 4 0 x.pl (-20) 0 0 0 0 0 0 0 0 0 0 x.t0 x.t1 r0 r1 s0 s1), .nilIface]) ∧ Below w.heap.size w w' := by
  have HA := Aside0.mk hA
  have E2 := Aside0.mk e2
  have E3 := Aside0.mk e3
  have HST := Aside0.mk hst
  have HS1 := Aside0.mk hs1
  have HS2 := Aside0.mk hs2
  have hlt1 : decide (goes < came) = false := decide_eq_false (by omega)
  have hlt2 : (goes < came) = False := eq_false (by omega)
  clear hA e2 e3 hst hs1 hs2 hle
  go_enter Try.func27, Try.ntmps27
  go_wp2_with (first | ((with_reducible refine gate_dst (N := 8) rfl ?_); refine box_event ?hg (N := 8) ?hd (cs := Z22) (t := 53) ?hr ?_; (case hd => rfl); (case hg => rfl); (case hr => go_simp; try rfl); intro g0 hg_ w0 hx_ hb_; have G0 := Aside0.mk hg_; have H0 := Aside0.mk hb_; have B0 := Aside0.mk hx_; clear hg_ hx_ hb_; skip) | (go_at_call 44; refine (HA.out _ H0.out).mono ?_; rintro e_ w1 ⟨rfl, hb_⟩; have K1 := Aside0.mk hb_; clear hb_) | ((with_reducible refine gate_dst (N := 10) rfl ?_); refine box_event ?hg (N := 10) ?hd (cs := Z22) (t := 53) ?hr ?_; (case hd => rfl); (case hg => rfl); (case hr => go_simp; try rfl); intro g4 hg_ w4 hx_ hb_; have G4 := Aside0.mk hg_; have H4 := Aside0.mk hb_; have B4 := Aside0.mk hx_; clear hg_ hx_ hb_; refine halt_ ?_) | fail)
  unfold Halted
  try apply_assumption
  refine wpList_store_row rfl 53 _ _ rfl g4 x.cs rfl rfl 53 _ B4.out (by kernel_rfl) (by rfl) (h22_one ..) ?_
  have E0 := Aside0.mk ((PH.start (below_step H0.out K1.out) H4.out G4.out B4.out).set x.cs)
  have B0_ := Aside0.mk (show (w4.setRow g4 x.cs).heap[g0]? = some (.cells Z22 53 (0, 0)) from (setRow_ne _ _ _ _ (by have a_ := blk_lt B0.out; have b_ := K1.out.size; have c_ := G4.out; omega)).trans (blk_below (blk_below B0.out K1.out) H4.out))
  have GN := Aside0.mk (show g0 < g4 ∧ w.heap.size ≤ g0 from by have a_ := blk_lt B0.out; have b_ := K1.out.size; have c_ := G4.out; have d_ := G0.out; omega)
  clear H0 K1 H4 G4 B4 B0 G0
  generalize w4.setRow g4 x.cs = w5 at E0 B0_ ⊢
  have y1 := (blk_cell E0.out.row 1).trans (show x.cs[1]? = some (.int .i64 x.vn) from rfl)
  have y2 := (blk_cell E0.out.row 2).trans (show x.cs[2]? = some (.int .i64 x.md) from rfl)
  rw [E2.out] at y1
  rw [E3.out] at y2
  go_wp2_with (first | (go_at_call 45; refine (answer_Mode.calls 9 4 3 4 true _ mode43).mono ?_; rintro e_ w6 ⟨rfl, n_, rfl⟩) | fail)
  have E0 := Aside0.mk (E0.out.below (pw_below_drewN (Below.refl _ _) n_))
  have B0_ := Aside0.mk (blk_below B0_.out (pw_below_drewN (Below.refl _ _) n_))
  generalize w5.drewN n_ = w6 at E0 B0_ ⊢
  clear y1 y2
  refine region_inv (T := ?T9) [some 42, some 43, some 44, some 45, some 46, some 47, some 48, some 49, some 50, some 51, some 52, some 53, some 54, some 55, some 56, some 57, none, some 9] ?hT9 (fun dn_ X w_ => PH 53 w g4 x.cs w_ ∧ w_.heap[g0]? = some (.cells (bif dn_ 16 then (H22 0 4 4 0 x.pl (-20) 0 0 0 0 0 0 0 0 0 0 x.t0 x.t1 r0 r1 s0 s1) else Z22) 53 (0, 0)) ∧ (dn_ 0 = true → X 0 = .pointer (some ⟨g4, 1, none⟩)) ∧ (dn_ 1 = true → X 1 = .int .i64 4) ∧ (dn_ 2 = true → X 2 = .int .i64 4) ∧ (dn_ 3 = true → X 3 = .pointer (some ⟨g4, 4, none⟩)) ∧ (dn_ 4 = true → X 4 = .int .i8 x.pl) ∧ (dn_ 5 = true → X 5 = .pointer (some ⟨g, 0, none⟩)) ∧ (dn_ 6 = true → X 6 = .agg #[.int .i64 1, .int .i64 1000, .int .i64 64, .int .i64 2, .int .u8 76, .int .u8 79, .int .u8 67, .int .u8 76, .int .i64 (-20), .int .i64 6, .int .i64 0, .int .i64 10, .int .i64 500, .int .i64 0]) ∧ (dn_ 7 = true → X 7 = .int .i64 (-20)) ∧ (dn_ 8 = true → X 8 = .int .i8 (-20)) ∧ (dn_ 9 = true → X 9 = .pointer (some ⟨g4, 20, none⟩)) ∧ (dn_ 10 = true → X 10 = .agg #[.int .u32 x.t0, .int .u32 x.t1]) ∧ (dn_ 11 = true → X 11 = .int .u64 came) ∧ (dn_ 12 = true → X 12 = .agg #[.int .u32 r0, .int .u32 r1]) ∧ (dn_ 13 = true → X 13 = .int .u64 goes) ∧ (dn_ 14 = true → X 14 = .agg #[.int .u32 s0, .int .u32 s1]) ∧ (dn_ 15 = true → X 15 = .agg (H22 0 4 4 0 x.pl (-20) 0 0 0 0 0 0 0 0 0 0 x.t0 x.t1 r0 r1 s0 s1)) ∧ (dn_ 16 = true → True) ∧ (dn_ 17 = true → X 17 = .nilIface)) (by kernel_rfl) (by kernel_rfl) (by rfl) [0, 1, 2, 3, 4, 5, 6, 7, 8, 9, 10, 11, 12, 13, 14, 15, 16, 17] rfl (.cons (some 42) rfl rfl (fun dn_ X w_ hd0_ hd_ hI_ K hK => ?_) (.cons (some 43) rfl rfl (fun dn_ X w_ hd0_ hd_ hI_ K hK => ?_) (.cons (some 44) rfl rfl (fun dn_ X w_ hd0_ hd_ hI_ K hK => ?_) (.cons (some 45) rfl rfl (fun dn_ X w_ hd0_ hd_ hI_ K hK => ?_) (.cons (some 46) rfl rfl (fun dn_ X w_ hd0_ hd_ hI_ K hK => ?_) (.cons (some 47) rfl rfl (fun dn_ X w_ hd0_ hd_ hI_ K hK => ?_) (.cons (some 48) rfl rfl (fun dn_ X w_ hd0_ hd_ hI_ K hK => ?_) (.cons (some 49) rfl rfl (fun dn_ X w_ hd0_ hd_ hI_ K hK => ?_) (.cons (some 50) rfl rfl (fun dn_ X w_ hd0_ hd_ hI_ K hK => ?_) (.cons (some 51) rfl rfl (fun dn_ X w_ hd0_ hd_ hI_ K hK => ?_) (.cons (some 52) rfl rfl (fun dn_ X w_ hd0_ hd_ hI_ K hK => ?_) (.cons (some 53) rfl rfl (fun dn_ X w_ hd0_ hd_ hI_ K hK => ?_) (.cons (some 54) rfl rfl (fun dn_ X w_ hd0_ hd_ hI_ K hK => ?_) (.cons (some 55) rfl rfl (fun dn_ X w_ hd0_ hd_ hI_ K hK => ?_) (.cons (some 56) rfl rfl (fun dn_ X w_ hd0_ hd_ hI_ K hK => ?_) (.cons (some 57) rfl rfl (fun dn_ X w_ hd0_ hd_ hI_ K hK => ?_) (.cons none rfl rfl (fun dn_ X w_ hd0_ hd_ hI_ K hK => ?_) (.cons (some 9) rfl rfl (fun dn_ X w_ hd0_ hd_ hI_ K hK => ?_) .nil)))))))))))))))))) ?h09 ?hend9
  case hT9 =>
    intro X
    simp only [fill, Act.put, List.setIfInBounds_toArray, List.set_cons_zero, List.set_cons_succ, Nat.zero_add, Nat.reduceAdd]
    rfl
  case h09 =>
    exact ⟨E0.out.below (below_drew (Below.refl _ _)), blk_below B0_.out (below_drew (Below.refl _ _)), noF_, noF_, noF_, noF_, noF_, noF_, noF_, noF_, noF_, noF_, noF_, noF_, noF_, noF_, noF_, noF_, noF_, noF_⟩
  · -- 0
    refine val_ (w1 := w_) (v := .pointer (some ⟨g4, 1, none⟩)) (by rfl) rfl ?_ (hK.out _ _ _ rfl ⟨hI_.1, hI_.2.1, (fun _ => rfl), hI_.2.2.2.1, hI_.2.2.2.2.1, hI_.2.2.2.2.2.1, hI_.2.2.2.2.2.2.1, hI_.2.2.2.2.2.2.2.1, hI_.2.2.2.2.2.2.2.2.1, hI_.2.2.2.2.2.2.2.2.2.1, hI_.2.2.2.2.2.2.2.2.2.2.1, hI_.2.2.2.2.2.2.2.2.2.2.2.1, hI_.2.2.2.2.2.2.2.2.2.2.2.2.1, hI_.2.2.2.2.2.2.2.2.2.2.2.2.2.1, hI_.2.2.2.2.2.2.2.2.2.2.2.2.2.2.1, hI_.2.2.2.2.2.2.2.2.2.2.2.2.2.2.2.1, hI_.2.2.2.2.2.2.2.2.2.2.2.2.2.2.2.2.1, hI_.2.2.2.2.2.2.2.2.2.2.2.2.2.2.2.2.2.1, hI_.2.2.2.2.2.2.2.2.2.2.2.2.2.2.2.2.2.2.1, hI_.2.2.2.2.2.2.2.2.2.2.2.2.2.2.2.2.2.2.2⟩)
    go_simp
    all_goals (first | decide | rfl)
  · -- 1
    have wE := hI_.1
    have e0 := hI_.2.2.1 (hd_ 1 0 (by kernel_rfl))
    have z1_ := (blk_cell wE.row 1).trans (show x.cs[1]? = some (.int .i64 x.vn) from rfl)
    rw [E2.out] at z1_
    refine val_ (w1 := w_) (v := .int .i64 4) (by rfl) rfl ?_ (hK.out _ _ _ rfl ⟨hI_.1, hI_.2.1, hI_.2.2.1, (fun _ => rfl), hI_.2.2.2.2.1, hI_.2.2.2.2.2.1, hI_.2.2.2.2.2.2.1, hI_.2.2.2.2.2.2.2.1, hI_.2.2.2.2.2.2.2.2.1, hI_.2.2.2.2.2.2.2.2.2.1, hI_.2.2.2.2.2.2.2.2.2.2.1, hI_.2.2.2.2.2.2.2.2.2.2.2.1, hI_.2.2.2.2.2.2.2.2.2.2.2.2.1, hI_.2.2.2.2.2.2.2.2.2.2.2.2.2.1, hI_.2.2.2.2.2.2.2.2.2.2.2.2.2.2.1, hI_.2.2.2.2.2.2.2.2.2.2.2.2.2.2.2.1, hI_.2.2.2.2.2.2.2.2.2.2.2.2.2.2.2.2.1, hI_.2.2.2.2.2.2.2.2.2.2.2.2.2.2.2.2.2.1, hI_.2.2.2.2.2.2.2.2.2.2.2.2.2.2.2.2.2.2.1, hI_.2.2.2.2.2.2.2.2.2.2.2.2.2.2.2.2.2.2.2⟩)
    go_simp
    all_goals (first | decide | rfl)
  · -- 2
    refine val_ (w1 := w_) (v := .int .i64 4) (by rfl) rfl ?_ (hK.out _ _ _ rfl ⟨hI_.1, hI_.2.1, hI_.2.2.1, hI_.2.2.2.1, (fun _ => rfl), hI_.2.2.2.2.2.1, hI_.2.2.2.2.2.2.1, hI_.2.2.2.2.2.2.2.1, hI_.2.2.2.2.2.2.2.2.1, hI_.2.2.2.2.2.2.2.2.2.1, hI_.2.2.2.2.2.2.2.2.2.2.1, hI_.2.2.2.2.2.2.2.2.2.2.2.1, hI_.2.2.2.2.2.2.2.2.2.2.2.2.1, hI_.2.2.2.2.2.2.2.2.2.2.2.2.2.1, hI_.2.2.2.2.2.2.2.2.2.2.2.2.2.2.1, hI_.2.2.2.2.2.2.2.2.2.2.2.2.2.2.2.1, hI_.2.2.2.2.2.2.2.2.2.2.2.2.2.2.2.2.1, hI_.2.2.2.2.2.2.2.2.2.2.2.2.2.2.2.2.2.1, hI_.2.2.2.2.2.2.2.2.2.2.2.2.2.2.2.2.2.2.1, hI_.2.2.2.2.2.2.2.2.2.2.2.2.2.2.2.2.2.2.2⟩)
    go_simp
    all_goals (first | decide | rfl)
  · -- 3
    refine val_ (w1 := w_) (v := .pointer (some ⟨g4, 4, none⟩)) (by rfl) rfl ?_ (hK.out _ _ _ rfl ⟨hI_.1, hI_.2.1, hI_.2.2.1, hI_.2.2.2.1, hI_.2.2.2.2.1, (fun _ => rfl), hI_.2.2.2.2.2.2.1, hI_.2.2.2.2.2.2.2.1, hI_.2.2.2.2.2.2.2.2.1, hI_.2.2.2.2.2.2.2.2.2.1, hI_.2.2.2.2.2.2.2.2.2.2.1, hI_.2.2.2.2.2.2.2.2.2.2.2.1, hI_.2.2.2.2.2.2.2.2.2.2.2.2.1, hI_.2.2.2.2.2.2.2.2.2.2.2.2.2.1, hI_.2.2.2.2.2.2.2.2.2.2.2.2.2.2.1, hI_.2.2.2.2.2.2.2.2.2.2.2.2.2.2.2.1, hI_.2.2.2.2.2.2.2.2.2.2.2.2.2.2.2.2.1, hI_.2.2.2.2.2.2.2.2.2.2.2.2.2.2.2.2.2.1, hI_.2.2.2.2.2.2.2.2.2.2.2.2.2.2.2.2.2.2.1, hI_.2.2.2.2.2.2.2.2.2.2.2.2.2.2.2.2.2.2.2⟩)
    go_simp
    all_goals (first | decide | rfl)
  · -- 4
    have wE := hI_.1
    have e3 := hI_.2.2.2.2.2.1 (hd_ 1 3 (by kernel_rfl))
    have z4_ := (blk_cell wE.row 4).trans (show x.cs[4]? = some (.int .i8 x.pl) from rfl)
    refine val_ (w1 := w_) (v := .int .i8 x.pl) (by rfl) rfl ?_ (hK.out _ _ _ rfl ⟨hI_.1, hI_.2.1, hI_.2.2.1, hI_.2.2.2.1, hI_.2.2.2.2.1, hI_.2.2.2.2.2.1, (fun _ => rfl), hI_.2.2.2.2.2.2.2.1, hI_.2.2.2.2.2.2.2.2.1, hI_.2.2.2.2.2.2.2.2.2.1, hI_.2.2.2.2.2.2.2.2.2.2.1, hI_.2.2.2.2.2.2.2.2.2.2.2.1, hI_.2.2.2.2.2.2.2.2.2.2.2.2.1, hI_.2.2.2.2.2.2.2.2.2.2.2.2.2.1, hI_.2.2.2.2.2.2.2.2.2.2.2.2.2.2.1, hI_.2.2.2.2.2.2.2.2.2.2.2.2.2.2.2.1, hI_.2.2.2.2.2.2.2.2.2.2.2.2.2.2.2.2.1, hI_.2.2.2.2.2.2.2.2.2.2.2.2.2.2.2.2.2.1, hI_.2.2.2.2.2.2.2.2.2.2.2.2.2.2.2.2.2.2.1, hI_.2.2.2.2.2.2.2.2.2.2.2.2.2.2.2.2.2.2.2⟩)
    go_simp
    all_goals (first | decide | rfl)
  · -- 5
    refine val_ (w1 := w_) (v := .pointer (some ⟨g, 0, none⟩)) (by rfl) rfl ?_ (hK.out _ _ _ rfl ⟨hI_.1, hI_.2.1, hI_.2.2.1, hI_.2.2.2.1, hI_.2.2.2.2.1, hI_.2.2.2.2.2.1, hI_.2.2.2.2.2.2.1, (fun _ => rfl), hI_.2.2.2.2.2.2.2.2.1, hI_.2.2.2.2.2.2.2.2.2.1, hI_.2.2.2.2.2.2.2.2.2.2.1, hI_.2.2.2.2.2.2.2.2.2.2.2.1, hI_.2.2.2.2.2.2.2.2.2.2.2.2.1, hI_.2.2.2.2.2.2.2.2.2.2.2.2.2.1, hI_.2.2.2.2.2.2.2.2.2.2.2.2.2.2.1, hI_.2.2.2.2.2.2.2.2.2.2.2.2.2.2.2.1, hI_.2.2.2.2.2.2.2.2.2.2.2.2.2.2.2.2.1, hI_.2.2.2.2.2.2.2.2.2.2.2.2.2.2.2.2.2.1, hI_.2.2.2.2.2.2.2.2.2.2.2.2.2.2.2.2.2.2.1, hI_.2.2.2.2.2.2.2.2.2.2.2.2.2.2.2.2.2.2.2⟩)
    go_simp
    all_goals (first | decide | rfl)
  · -- 6
    have wE := hI_.1
    have wZ := hI_.2.1
    have h0 := hI_.2.2.1
    have h1 := hI_.2.2.2.1
    have h2 := hI_.2.2.2.2.1
    have h3 := hI_.2.2.2.2.2.1
    have h4 := hI_.2.2.2.2.2.2.1
    have h5 := hI_.2.2.2.2.2.2.2.1
    have h6 := hI_.2.2.2.2.2.2.2.2.1
    have h7 := hI_.2.2.2.2.2.2.2.2.2.1
    have h8 := hI_.2.2.2.2.2.2.2.2.2.2.1
    have h9 := hI_.2.2.2.2.2.2.2.2.2.2.2.1
    have h10 := hI_.2.2.2.2.2.2.2.2.2.2.2.2.1
    have h11 := hI_.2.2.2.2.2.2.2.2.2.2.2.2.2.1
    have h12 := hI_.2.2.2.2.2.2.2.2.2.2.2.2.2.2.1
    have h13 := hI_.2.2.2.2.2.2.2.2.2.2.2.2.2.2.2.1
    have h14 := hI_.2.2.2.2.2.2.2.2.2.2.2.2.2.2.2.2.1
    have h15 := hI_.2.2.2.2.2.2.2.2.2.2.2.2.2.2.2.2.2.1
    have h16 := hI_.2.2.2.2.2.2.2.2.2.2.2.2.2.2.2.2.2.2.1
    have h17 := hI_.2.2.2.2.2.2.2.2.2.2.2.2.2.2.2.2.2.2.2
    have e5 := h5 (hd_ 1 5 (by kernel_rfl))
    refine goes_ Try.func28 (by kernel_rfl) rfl #[X 5] (by rfl) rfl rfl (by simp only [List.map_toArray, List.map_cons, List.map_nil]; rfl) ?_
    refine calls_args (args1 e5) ?_
    refine (settings_c w_ g (blk_below HST.out wE.bel)).mono ?_
    rintro e_ w' ⟨rfl, hb_⟩
    exact ⟨_, rfl, hK.out _ _ _ rfl ⟨(wE.below hb_), (blk_below wZ hb_), h0, h1, h2, h3, h4, h5, (fun _ => rfl), h7, h8, h9, h10, h11, h12, h13, h14, h15, h16, h17⟩⟩
  · -- 7
    have e6 := hI_.2.2.2.2.2.2.2.2.1 (hd_ 1 6 (by kernel_rfl))
    refine val_ (w1 := w_) (v := .int .i64 (-20)) (by rfl) rfl ?_ (hK.out _ _ _ rfl ⟨hI_.1, hI_.2.1, hI_.2.2.1, hI_.2.2.2.1, hI_.2.2.2.2.1, hI_.2.2.2.2.2.1, hI_.2.2.2.2.2.2.1, hI_.2.2.2.2.2.2.2.1, hI_.2.2.2.2.2.2.2.2.1, (fun _ => rfl), hI_.2.2.2.2.2.2.2.2.2.2.1, hI_.2.2.2.2.2.2.2.2.2.2.2.1, hI_.2.2.2.2.2.2.2.2.2.2.2.2.1, hI_.2.2.2.2.2.2.2.2.2.2.2.2.2.1, hI_.2.2.2.2.2.2.2.2.2.2.2.2.2.2.1, hI_.2.2.2.2.2.2.2.2.2.2.2.2.2.2.2.1, hI_.2.2.2.2.2.2.2.2.2.2.2.2.2.2.2.2.1, hI_.2.2.2.2.2.2.2.2.2.2.2.2.2.2.2.2.2.1, hI_.2.2.2.2.2.2.2.2.2.2.2.2.2.2.2.2.2.2.1, hI_.2.2.2.2.2.2.2.2.2.2.2.2.2.2.2.2.2.2.2⟩)
    go_simp
    all_goals (first | decide | rfl)
  · -- 8
    have e7 := hI_.2.2.2.2.2.2.2.2.2.1 (hd_ 1 7 (by kernel_rfl))
    refine val_ (w1 := w_) (v := .int .i8 (-20)) (by rfl) rfl ?_ (hK.out _ _ _ rfl ⟨hI_.1, hI_.2.1, hI_.2.2.1, hI_.2.2.2.1, hI_.2.2.2.2.1, hI_.2.2.2.2.2.1, hI_.2.2.2.2.2.2.1, hI_.2.2.2.2.2.2.2.1, hI_.2.2.2.2.2.2.2.2.1, hI_.2.2.2.2.2.2.2.2.2.1, (fun _ => rfl), hI_.2.2.2.2.2.2.2.2.2.2.2.1, hI_.2.2.2.2.2.2.2.2.2.2.2.2.1, hI_.2.2.2.2.2.2.2.2.2.2.2.2.2.1, hI_.2.2.2.2.2.2.2.2.2.2.2.2.2.2.1, hI_.2.2.2.2.2.2.2.2.2.2.2.2.2.2.2.1, hI_.2.2.2.2.2.2.2.2.2.2.2.2.2.2.2.2.1, hI_.2.2.2.2.2.2.2.2.2.2.2.2.2.2.2.2.2.1, hI_.2.2.2.2.2.2.2.2.2.2.2.2.2.2.2.2.2.2.1, hI_.2.2.2.2.2.2.2.2.2.2.2.2.2.2.2.2.2.2.2⟩)
    go_simp
    all_goals (first | decide | rfl)
  · -- 9
    refine val_ (w1 := w_) (v := .pointer (some ⟨g4, 20, none⟩)) (by rfl) rfl ?_ (hK.out _ _ _ rfl ⟨hI_.1, hI_.2.1, hI_.2.2.1, hI_.2.2.2.1, hI_.2.2.2.2.1, hI_.2.2.2.2.2.1, hI_.2.2.2.2.2.2.1, hI_.2.2.2.2.2.2.2.1, hI_.2.2.2.2.2.2.2.2.1, hI_.2.2.2.2.2.2.2.2.2.1, hI_.2.2.2.2.2.2.2.2.2.2.1, (fun _ => rfl), hI_.2.2.2.2.2.2.2.2.2.2.2.2.1, hI_.2.2.2.2.2.2.2.2.2.2.2.2.2.1, hI_.2.2.2.2.2.2.2.2.2.2.2.2.2.2.1, hI_.2.2.2.2.2.2.2.2.2.2.2.2.2.2.2.1, hI_.2.2.2.2.2.2.2.2.2.2.2.2.2.2.2.2.1, hI_.2.2.2.2.2.2.2.2.2.2.2.2.2.2.2.2.2.1, hI_.2.2.2.2.2.2.2.2.2.2.2.2.2.2.2.2.2.2.1, hI_.2.2.2.2.2.2.2.2.2.2.2.2.2.2.2.2.2.2.2⟩)
    go_simp
    all_goals (first | decide | rfl)
  · -- 10
    have wE := hI_.1
    have e9 := hI_.2.2.2.2.2.2.2.2.2.2.2.1 (hd_ 1 9 (by kernel_rfl))
    have z20_ := (blk_cell wE.row 20).trans (show x.cs[20]? = some (.int .u32 x.t0) from rfl)
    have z21_ := (blk_cell wE.row 21).trans (show x.cs[21]? = some (.int .u32 x.t1) from rfl)
    refine val_ (w1 := w_) (v := .agg #[.int .u32 x.t0, .int .u32 x.t1]) (by rfl) rfl ?_ (hK.out _ _ _ rfl ⟨hI_.1, hI_.2.1, hI_.2.2.1, hI_.2.2.2.1, hI_.2.2.2.2.1, hI_.2.2.2.2.2.1, hI_.2.2.2.2.2.2.1, hI_.2.2.2.2.2.2.2.1, hI_.2.2.2.2.2.2.2.2.1, hI_.2.2.2.2.2.2.2.2.2.1, hI_.2.2.2.2.2.2.2.2.2.2.1, hI_.2.2.2.2.2.2.2.2.2.2.2.1, (fun _ => rfl), hI_.2.2.2.2.2.2.2.2.2.2.2.2.2.1, hI_.2.2.2.2.2.2.2.2.2.2.2.2.2.2.1, hI_.2.2.2.2.2.2.2.2.2.2.2.2.2.2.2.1, hI_.2.2.2.2.2.2.2.2.2.2.2.2.2.2.2.2.1, hI_.2.2.2.2.2.2.2.2.2.2.2.2.2.2.2.2.2.1, hI_.2.2.2.2.2.2.2.2.2.2.2.2.2.2.2.2.2.2.1, hI_.2.2.2.2.2.2.2.2.2.2.2.2.2.2.2.2.2.2.2⟩)
    go_simp
    all_goals (first | decide | rfl)
  · -- 11
    refine val_ (w1 := w_) (v := .int .u64 came) (by rfl) rfl ?_ (hK.out _ _ _ rfl ⟨hI_.1, hI_.2.1, hI_.2.2.1, hI_.2.2.2.1, hI_.2.2.2.2.1, hI_.2.2.2.2.2.1, hI_.2.2.2.2.2.2.1, hI_.2.2.2.2.2.2.2.1, hI_.2.2.2.2.2.2.2.2.1, hI_.2.2.2.2.2.2.2.2.2.1, hI_.2.2.2.2.2.2.2.2.2.2.1, hI_.2.2.2.2.2.2.2.2.2.2.2.1, hI_.2.2.2.2.2.2.2.2.2.2.2.2.1, (fun _ => rfl), hI_.2.2.2.2.2.2.2.2.2.2.2.2.2.2.1, hI_.2.2.2.2.2.2.2.2.2.2.2.2.2.2.2.1, hI_.2.2.2.2.2.2.2.2.2.2.2.2.2.2.2.2.1, hI_.2.2.2.2.2.2.2.2.2.2.2.2.2.2.2.2.2.1, hI_.2.2.2.2.2.2.2.2.2.2.2.2.2.2.2.2.2.2.1, hI_.2.2.2.2.2.2.2.2.2.2.2.2.2.2.2.2.2.2.2⟩)
    go_simp
    all_goals (first | decide | rfl)
  · -- 12
    have wE := hI_.1
    have wZ := hI_.2.1
    have h0 := hI_.2.2.1
    have h1 := hI_.2.2.2.1
    have h2 := hI_.2.2.2.2.1
    have h3 := hI_.2.2.2.2.2.1
    have h4 := hI_.2.2.2.2.2.2.1
    have h5 := hI_.2.2.2.2.2.2.2.1
    have h6 := hI_.2.2.2.2.2.2.2.2.1
    have h7 := hI_.2.2.2.2.2.2.2.2.2.1
    have h8 := hI_.2.2.2.2.2.2.2.2.2.2.1
    have h9 := hI_.2.2.2.2.2.2.2.2.2.2.2.1
    have h10 := hI_.2.2.2.2.2.2.2.2.2.2.2.2.1
    have h11 := hI_.2.2.2.2.2.2.2.2.2.2.2.2.2.1
    have h12 := hI_.2.2.2.2.2.2.2.2.2.2.2.2.2.2.1
    have h13 := hI_.2.2.2.2.2.2.2.2.2.2.2.2.2.2.2.1
    have h14 := hI_.2.2.2.2.2.2.2.2.2.2.2.2.2.2.2.2.1
    have h15 := hI_.2.2.2.2.2.2.2.2.2.2.2.2.2.2.2.2.2.1
    have h16 := hI_.2.2.2.2.2.2.2.2.2.2.2.2.2.2.2.2.2.2.1
    have h17 := hI_.2.2.2.2.2.2.2.2.2.2.2.2.2.2.2.2.2.2.2
    have e11 := h11 (hd_ 1 11 (by kernel_rfl))
    refine goes_ Try.func13 (by kernel_rfl) rfl #[X 11] (by rfl) rfl rfl (by simp only [List.map_toArray, List.map_cons, List.map_nil]; rfl) ?_
    refine calls_args (args1 e11) ?_
    refine (steady_Stamp.calls k1 came r0 r1 w_ HS1.out).mono ?_
    rintro e_ w' ⟨rfl, hb_⟩
    exact ⟨_, rfl, hK.out _ _ _ rfl ⟨(wE.below hb_), (blk_below wZ hb_), h0, h1, h2, h3, h4, h5, h6, h7, h8, h9, h10, h11, (fun _ => rfl), h13, h14, h15, h16, h17⟩⟩
  · -- 13
    refine val_ (w1 := w_) (v := .int .u64 goes) (by rfl) rfl ?_ (hK.out _ _ _ rfl ⟨hI_.1, hI_.2.1, hI_.2.2.1, hI_.2.2.2.1, hI_.2.2.2.2.1, hI_.2.2.2.2.2.1, hI_.2.2.2.2.2.2.1, hI_.2.2.2.2.2.2.2.1, hI_.2.2.2.2.2.2.2.2.1, hI_.2.2.2.2.2.2.2.2.2.1, hI_.2.2.2.2.2.2.2.2.2.2.1, hI_.2.2.2.2.2.2.2.2.2.2.2.1, hI_.2.2.2.2.2.2.2.2.2.2.2.2.1, hI_.2.2.2.2.2.2.2.2.2.2.2.2.2.1, hI_.2.2.2.2.2.2.2.2.2.2.2.2.2.2.1, (fun _ => rfl), hI_.2.2.2.2.2.2.2.2.2.2.2.2.2.2.2.2.1, hI_.2.2.2.2.2.2.2.2.2.2.2.2.2.2.2.2.2.1, hI_.2.2.2.2.2.2.2.2.2.2.2.2.2.2.2.2.2.2.1, hI_.2.2.2.2.2.2.2.2.2.2.2.2.2.2.2.2.2.2.2⟩)
    go_simp
    all_goals (first | decide | rfl)
  · -- 14
    have wE := hI_.1
    have wZ := hI_.2.1
    have h0 := hI_.2.2.1
    have h1 := hI_.2.2.2.1
    have h2 := hI_.2.2.2.2.1
    have h3 := hI_.2.2.2.2.2.1
    have h4 := hI_.2.2.2.2.2.2.1
    have h5 := hI_.2.2.2.2.2.2.2.1
    have h6 := hI_.2.2.2.2.2.2.2.2.1
    have h7 := hI_.2.2.2.2.2.2.2.2.2.1
    have h8 := hI_.2.2.2.2.2.2.2.2.2.2.1
    have h9 := hI_.2.2.2.2.2.2.2.2.2.2.2.1
    have h10 := hI_.2.2.2.2.2.2.2.2.2.2.2.2.1
    have h11 := hI_.2.2.2.2.2.2.2.2.2.2.2.2.2.1
    have h12 := hI_.2.2.2.2.2.2.2.2.2.2.2.2.2.2.1
    have h13 := hI_.2.2.2.2.2.2.2.2.2.2.2.2.2.2.2.1
    have h14 := hI_.2.2.2.2.2.2.2.2.2.2.2.2.2.2.2.2.1
    have h15 := hI_.2.2.2.2.2.2.2.2.2.2.2.2.2.2.2.2.2.1
    have h16 := hI_.2.2.2.2.2.2.2.2.2.2.2.2.2.2.2.2.2.2.1
    have h17 := hI_.2.2.2.2.2.2.2.2.2.2.2.2.2.2.2.2.2.2.2
    have e13 := h13 (hd_ 1 13 (by kernel_rfl))
    refine goes_ Try.func13 (by kernel_rfl) rfl #[X 13] (by rfl) rfl rfl (by simp only [List.map_toArray, List.map_cons, List.map_nil]; rfl) ?_
    refine calls_args (args1 e13) ?_
    refine (steady_Stamp.calls k1 goes s0 s1 w_ HS2.out).mono ?_
    rintro e_ w' ⟨rfl, hb_⟩
    exact ⟨_, rfl, hK.out _ _ _ rfl ⟨(wE.below hb_), (blk_below wZ hb_), h0, h1, h2, h3, h4, h5, h6, h7, h8, h9, h10, h11, h12, h13, (fun _ => rfl), h15, h16, h17⟩⟩
  · -- 15
    have e1 := hI_.2.2.2.1 (hd_ 1 1 (by kernel_rfl))
    have e2 := hI_.2.2.2.2.1 (hd_ 1 2 (by kernel_rfl))
    have e4 := hI_.2.2.2.2.2.2.1 (hd_ 1 4 (by kernel_rfl))
    have e8 := hI_.2.2.2.2.2.2.2.2.2.2.1 (hd_ 1 8 (by kernel_rfl))
    have e10 := hI_.2.2.2.2.2.2.2.2.2.2.2.2.1 (hd_ 1 10 (by kernel_rfl))
    have e12 := hI_.2.2.2.2.2.2.2.2.2.2.2.2.2.2.1 (hd_ 1 12 (by kernel_rfl))
    have e14 := hI_.2.2.2.2.2.2.2.2.2.2.2.2.2.2.2.2.1 (hd_ 1 14 (by kernel_rfl))
    refine val_ (w1 := w_) (v := .agg (H22 0 4 4 0 x.pl (-20) 0 0 0 0 0 0 0 0 0 0 x.t0 x.t1 r0 r1 s0 s1)) (by rfl) rfl ?_ (hK.out _ _ _ rfl ⟨hI_.1, hI_.2.1, hI_.2.2.1, hI_.2.2.2.1, hI_.2.2.2.2.1, hI_.2.2.2.2.2.1, hI_.2.2.2.2.2.2.1, hI_.2.2.2.2.2.2.2.1, hI_.2.2.2.2.2.2.2.2.1, hI_.2.2.2.2.2.2.2.2.2.1, hI_.2.2.2.2.2.2.2.2.2.2.1, hI_.2.2.2.2.2.2.2.2.2.2.2.1, hI_.2.2.2.2.2.2.2.2.2.2.2.2.1, hI_.2.2.2.2.2.2.2.2.2.2.2.2.2.1, hI_.2.2.2.2.2.2.2.2.2.2.2.2.2.2.1, hI_.2.2.2.2.2.2.2.2.2.2.2.2.2.2.2.1, hI_.2.2.2.2.2.2.2.2.2.2.2.2.2.2.2.2.1, (fun _ => rfl), hI_.2.2.2.2.2.2.2.2.2.2.2.2.2.2.2.2.2.2.1, hI_.2.2.2.2.2.2.2.2.2.2.2.2.2.2.2.2.2.2.2⟩)
    go_simp
    all_goals (first | decide | rfl)
  · -- 16
    have wE := hI_.1
    have wZ := hI_.2.1
    have h0 := hI_.2.2.1
    have h1 := hI_.2.2.2.1
    have h2 := hI_.2.2.2.2.1
    have h3 := hI_.2.2.2.2.2.1
    have h4 := hI_.2.2.2.2.2.2.1
    have h5 := hI_.2.2.2.2.2.2.2.1
    have h6 := hI_.2.2.2.2.2.2.2.2.1
    have h7 := hI_.2.2.2.2.2.2.2.2.2.1
    have h8 := hI_.2.2.2.2.2.2.2.2.2.2.1
    have h9 := hI_.2.2.2.2.2.2.2.2.2.2.2.1
    have h10 := hI_.2.2.2.2.2.2.2.2.2.2.2.2.1
    have h11 := hI_.2.2.2.2.2.2.2.2.2.2.2.2.2.1
    have h12 := hI_.2.2.2.2.2.2.2.2.2.2.2.2.2.2.1
    have h13 := hI_.2.2.2.2.2.2.2.2.2.2.2.2.2.2.2.1
    have h14 := hI_.2.2.2.2.2.2.2.2.2.2.2.2.2.2.2.2.1
    have h15 := hI_.2.2.2.2.2.2.2.2.2.2.2.2.2.2.2.2.2.1
    have h16 := hI_.2.2.2.2.2.2.2.2.2.2.2.2.2.2.2.2.2.2.1
    have h17 := hI_.2.2.2.2.2.2.2.2.2.2.2.2.2.2.2.2.2.2.2
    have e15 := h15 (hd_ 1 15 (by kernel_rfl))
    have wZ0 : w_.heap[g0]? = some (.cells Z22 53 (0, 0)) := by rw [hd0_] at wZ; exact wZ
    rw [if_pos (by rfl)]
    refine wp_store_row 53 _ _ rfl g0 (H22 0 4 4 0 x.pl (-20) 0 0 0 0 0 0 0 0 0 0 x.t0 x.t1 r0 r1 s0 s1) rfl ?_ 53 _ wZ0 (by kernel_rfl) (by rfl) (h22_one ..) ?_
    · exact e15
    · exact hK.out _ undef _ rfl ⟨(wE.setx GN.out.2 (by have q_ := GN.out.1; omega)), (setRow_heap _ _ _ _ _ _ wZ0), h0, h1, h2, h3, h4, h5, h6, h7, h8, h9, h10, h11, h12, h13, h14, h15, (fun _ => trivial), h17⟩
  · -- 17
    refine val_ (w1 := w_) (v := .nilIface) (by rfl) rfl ?_ (hK.out _ _ _ rfl ⟨hI_.1, hI_.2.1, hI_.2.2.1, hI_.2.2.2.1, hI_.2.2.2.2.1, hI_.2.2.2.2.2.1, hI_.2.2.2.2.2.2.1, hI_.2.2.2.2.2.2.2.1, hI_.2.2.2.2.2.2.2.2.1, hI_.2.2.2.2.2.2.2.2.2.1, hI_.2.2.2.2.2.2.2.2.2.2.1, hI_.2.2.2.2.2.2.2.2.2.2.2.1, hI_.2.2.2.2.2.2.2.2.2.2.2.2.1, hI_.2.2.2.2.2.2.2.2.2.2.2.2.2.1, hI_.2.2.2.2.2.2.2.2.2.2.2.2.2.2.1, hI_.2.2.2.2.2.2.2.2.2.2.2.2.2.2.2.1, hI_.2.2.2.2.2.2.2.2.2.2.2.2.2.2.2.2.1, hI_.2.2.2.2.2.2.2.2.2.2.2.2.2.2.2.2.2.1, hI_.2.2.2.2.2.2.2.2.2.2.2.2.2.2.2.2.2.2.1, (fun _ => rfl)⟩)
    go_simp
    all_goals (first | decide | rfl)
  intro dn_ X w7 hdn_ hI_
  clear E0 B0_
  obtain ⟨wE, wZ, h0, h1, h2, h3, h4, h5, h6, h7, h8, h9, h10, h11, h12, h13, h14, h15, h16, h17⟩ := hI_
  have e17_ := h17 (hdn_ 17 (by decide))
  rw [hdn_ 16 (by decide)] at wZ
  have E0 := Aside0.mk wE
  have B0_ := Aside0.mk (show w7.heap[g0]? = some (.cells (H22 0 4 4 0 x.pl (-20) 0 0 0 0 0 0 0 0 0 0 x.t0 x.t1 r0 r1 s0 s1) 53 (0, 0)) from wZ)
  rw [e17_]
  clear wE wZ h0 h1 h2 h3 h4 h5 h6 h7 h8 h9 h10 h11 h12 h13 h14 h15 h16 h17 e17_ hdn_
  go_wp2_with (fail)
  refine bodyPost_ret (results_list (rs := [.cell 8 53, .tmp 9]) rfl (by simp) (.cell g0 53 (H22 0 4 4 0 x.pl (-20) 0 0 0 0 0 0 0 0 0 0 x.t0 x.t1 r0 r1 s0 s1) (0, 0) _ rfl B0_.out Try.underlying53 rfl (by kernel_rfl) (.tmp .nil))) rfl ?_
  exact ⟨rfl, E0.out.bel⟩
set_option maxHeartbeats 16000000 in
set_option maxRecDepth 100000 in
theorem reply_c (w : World) (g ba c : Nat) (x : HD) (k1 : Nat) (came goes r0 r1 s0 s1 sec : Int) (out : List Int) (hst : w.heap[g]? = some (.cells S18 82 (0, 0)))
    (hBg : ∀ W, Below w.heap.size w W → Calls Try.prog 27 #[.pointer (some ⟨g, 0, none⟩), .slice (some ⟨ba, 0, none⟩) 48 c, .int .u64 came, .int .u64 goes] W fun e w' => e = .returned (.tuple #[.agg (H22 0 4 4 0 x.pl (-20) 0 0 0 0 0 0 0 0 0 0 x.t0 x.t1 r0 r1 s0 s1), .nilIface]) ∧ Below W.heap.size W w') (hsec : steady_Seconds.f k1 goes = some sec)
    (hPut : ∀ W, Below w.heap.size w W → Calls Try.prog 31 #[.agg (H22 3 4 4 16 x.pl (-20) 0 0 0 655 76 79 67 76 r0 0 x.t0 x.t1 r0 r1 s0 s1)] W fun e w' => ∃ v, e = .returned (.tuple #[v, .nilIface]) ∧ Kd.R (Kd.int .u8) 5 w' W.heap.size (fun _ => True) v out ∧ Below W.heap.size W w') :
    Calls Try.prog 14 #[.pointer (some ⟨g, 0, none⟩), .slice (some ⟨ba, 0, none⟩) 48 c, .int .u64 came, .int .u64 goes] w fun e w' => ∃ v, e = .returned (.tuple #[v, .nilIface]) ∧ Kd.R (Kd.int .u8) 5 w' w.heap.size (fun _ => True) v out ∧ Below w.heap.size w w' := by
  have HBG := Aside0.mk hBg
  have HSEC := Aside0.mk hsec
  have HPUT := Aside0.mk hPut
  have HST := Aside0.mk hst
  clear hBg hsec hPut hst
  go_enter Try.func14, Try.ntmps14
  go_wp2_with (first | (go_at_call 27; refine (HBG.out _ (Below.refl _ _)).mono ?_; rintro e_ w1 ⟨rfl, hb_⟩; have K1 := Aside0.mk hb_; clear hb_) | ((with_reducible refine gate_dst (N := 10) rfl ?_); refine box_event ?hg (N := 10) ?hd (cs := Z22) (t := 53) ?hr ?_; (case hd => rfl); (case hg => rfl); (case hr => go_simp; try rfl); intro gh hg_ wh hx_ hb_; have Gh := Aside0.mk hg_; have Hh := Aside0.mk hb_; have Bh := Aside0.mk hx_; clear hg_ hx_ hb_; refine halt_ ?_) | fail)
  unfold Halted
  try apply_assumption
  refine wpList_store_row rfl 53 _ _ rfl gh (H22 0 4 4 0 x.pl (-20) 0 0 0 0 0 0 0 0 0 0 x.t0 x.t1 r0 r1 s0 s1) rfl rfl 53 _ Bh.out (by kernel_rfl) (by rfl) (h22_one ..) ?_
  have E0 := Aside0.mk ((PH.start K1.out Hh.out Gh.out Bh.out).set (H22 0 4 4 0 x.pl (-20) 0 0 0 0 0 0 0 0 0 0 x.t0 x.t1 r0 r1 s0 s1))
  clear K1 Hh Gh Bh
  generalize wh.setRow gh (H22 0 4 4 0 x.pl (-20) 0 0 0 0 0 0 0 0 0 0 x.t0 x.t1 r0 r1 s0 s1) = w2 at E0 ⊢
  go_wp2_with (first | (go_at_call 28; refine (settings_c _ g (blk_below HST.out E0.out.bel)).mono ?_; rintro e_ w3 ⟨rfl, hb_⟩; have E0 := Aside0.mk (E0.out.below hb_); clear hb_) | ((with_reducible refine gate_dst (N := 12) rfl ?_); refine box_event ?hg (N := 12) ?hd (cs := Z14) (t := 73) ?hr ?_; (case hd => rfl); (case hg => rfl); (case hr => go_simp; try rfl); intro gs hg_ ws hx_ hb_; have Gs := Aside0.mk hg_; have Hs := Aside0.mk hb_; have Bs := Aside0.mk hx_; clear hg_ hx_ hb_; refine halt_ ?_) | fail)
  unfold Halted
  try apply_assumption
  refine wpList_store_row rfl 73 _ _ rfl gs S14 rfl rfl 73 _ Bs.out (by kernel_rfl) (by rfl) s14_one ?_
  have GN := Aside0.mk (show gh ≠ gs ∧ w.heap.size ≤ gs from by have a_ := blk_lt E0.out.row; have b_ := Gs.out; have c_ := E0.out.new; omega)
  have E0 := Aside0.mk ((E0.out.below Hs.out).setx (cs' := S14) GN.out.2 GN.out.1)
  have BS := Aside0.mk (setRow_heap _ _ _ S14 _ _ Bs.out)
  clear Hs Gs Bs
  generalize ws.setRow gs S14 = w4 at E0 BS ⊢
  go_wp2_with (fail)
  refine region_inv (T := ?T5) [some 26, some 27, some 28, some 29, some 30, some 31, some 32, some 33, some 34, none, some 35, none, some 36, none] ?hT5 (fun dn_ X w_ => PH 53 w gh (H22 (bif dn_ 9 then 3 else 0) 4 4 (bif dn_ 11 then 2 else 0) x.pl (-20) 0 0 0 0 (bif dn_ 13 then 76 else 0) (bif dn_ 13 then 79 else 0) (bif dn_ 13 then 67 else 0) (bif dn_ 13 then 76 else 0) 0 0 x.t0 x.t1 r0 r1 s0 s1) w_ ∧ w_.heap[gs]? = some (.cells S14 73 (0, 0)) ∧ (dn_ 0 = true → X 0 = .pointer (some ⟨g, 0, none⟩)) ∧ (dn_ 1 = true → X 1 = .int .u64 goes) ∧ (dn_ 2 = true → X 2 = .int .i64 3) ∧ (dn_ 3 = true → X 3 = .pointer (some ⟨gs, 3, none⟩)) ∧ (dn_ 4 = true → X 4 = .int .i64 2) ∧ (dn_ 5 = true → X 5 = .int .u8 2) ∧ (dn_ 6 = true → X 6 = .pointer (some ⟨gs, 4, none⟩)) ∧ (dn_ 7 = true → X 7 = .agg #[.int .u8 76, .int .u8 79, .int .u8 67, .int .u8 76]) ∧ (dn_ 8 = true → X 8 = .pointer (some ⟨gh, 0, none⟩)) ∧ (dn_ 9 = true → True) ∧ (dn_ 10 = true → X 10 = .pointer (some ⟨gh, 3, none⟩)) ∧ (dn_ 11 = true → True) ∧ (dn_ 12 = true → X 12 = .pointer (some ⟨gh, 10, none⟩)) ∧ (dn_ 13 = true → True)) (by kernel_rfl) (by kernel_rfl) (by rfl) [0, 1, 2, 3, 4, 5, 6, 7, 8, 9, 10, 11, 12, 13] rfl (.cons (some 26) rfl rfl (fun dn_ X w_ hd0_ hd_ hI_ K hK => ?_) (.cons (some 27) rfl rfl (fun dn_ X w_ hd0_ hd_ hI_ K hK => ?_) (.cons (some 28) rfl rfl (fun dn_ X w_ hd0_ hd_ hI_ K hK => ?_) (.cons (some 29) rfl rfl (fun dn_ X w_ hd0_ hd_ hI_ K hK => ?_) (.cons (some 30) rfl rfl (fun dn_ X w_ hd0_ hd_ hI_ K hK => ?_) (.cons (some 31) rfl rfl (fun dn_ X w_ hd0_ hd_ hI_ K hK => ?_) (.cons (some 32) rfl rfl (fun dn_ X w_ hd0_ hd_ hI_ K hK => ?_) (.cons (some 33) rfl rfl (fun dn_ X w_ hd0_ hd_ hI_ K hK => ?_) (.cons (some 34) rfl rfl (fun dn_ X w_ hd0_ hd_ hI_ K hK => ?_) (.cons none rfl rfl (fun dn_ X w_ hd0_ hd_ hI_ K hK => ?_) (.cons (some 35) rfl rfl (fun dn_ X w_ hd0_ hd_ hI_ K hK => ?_) (.cons none rfl rfl (fun dn_ X w_ hd0_ hd_ hI_ K hK => ?_) (.cons (some 36) rfl rfl (fun dn_ X w_ hd0_ hd_ hI_ K hK => ?_) (.cons none rfl rfl (fun dn_ X w_ hd0_ hd_ hI_ K hK => ?_) .nil)))))))))))))) ?h05 ?hend5
  case hT5 =>
    intro X
    simp only [fill, Act.put, List.setIfInBounds_toArray, List.set_cons_zero, List.set_cons_succ, Nat.zero_add, Nat.reduceAdd]
    rfl
  case h05 =>
    exact ⟨E0.out.below (below_drew (Below.refl _ _)), blk_below BS.out (below_drew (Below.refl _ _)), noF_, noF_, noF_, noF_, noF_, noF_, noF_, noF_, noF_, noF_, noF_, noF_, noF_, noF_⟩
  · -- 0
    refine val_ (w1 := w_) (v := .pointer (some ⟨g, 0, none⟩)) (by rfl) rfl ?_ (hK.out _ _ _ rfl ⟨hI_.1, hI_.2.1, (fun _ => rfl), hI_.2.2.2.1, hI_.2.2.2.2.1, hI_.2.2.2.2.2.1, hI_.2.2.2.2.2.2.1, hI_.2.2.2.2.2.2.2.1, hI_.2.2.2.2.2.2.2.2.1, hI_.2.2.2.2.2.2.2.2.2.1, hI_.2.2.2.2.2.2.2.2.2.2.1, hI_.2.2.2.2.2.2.2.2.2.2.2.1, hI_.2.2.2.2.2.2.2.2.2.2.2.2.1, hI_.2.2.2.2.2.2.2.2.2.2.2.2.2.1, hI_.2.2.2.2.2.2.2.2.2.2.2.2.2.2.1, hI_.2.2.2.2.2.2.2.2.2.2.2.2.2.2.2⟩)
    go_simp
    all_goals (first | decide | rfl)
  · -- 1
    refine val_ (w1 := w_) (v := .int .u64 goes) (by rfl) rfl ?_ (hK.out _ _ _ rfl ⟨hI_.1, hI_.2.1, hI_.2.2.1, (fun _ => rfl), hI_.2.2.2.2.1, hI_.2.2.2.2.2.1, hI_.2.2.2.2.2.2.1, hI_.2.2.2.2.2.2.2.1, hI_.2.2.2.2.2.2.2.2.1, hI_.2.2.2.2.2.2.2.2.2.1, hI_.2.2.2.2.2.2.2.2.2.2.1, hI_.2.2.2.2.2.2.2.2.2.2.2.1, hI_.2.2.2.2.2.2.2.2.2.2.2.2.1, hI_.2.2.2.2.2.2.2.2.2.2.2.2.2.1, hI_.2.2.2.2.2.2.2.2.2.2.2.2.2.2.1, hI_.2.2.2.2.2.2.2.2.2.2.2.2.2.2.2⟩)
    go_simp
    all_goals (first | decide | rfl)
  · -- 2
    have wE := hI_.1
    have wS := hI_.2.1
    have h0 := hI_.2.2.1
    have h1 := hI_.2.2.2.1
    have h2 := hI_.2.2.2.2.1
    have h3 := hI_.2.2.2.2.2.1
    have h4 := hI_.2.2.2.2.2.2.1
    have h5 := hI_.2.2.2.2.2.2.2.1
    have h6 := hI_.2.2.2.2.2.2.2.2.1
    have h7 := hI_.2.2.2.2.2.2.2.2.2.1
    have h8 := hI_.2.2.2.2.2.2.2.2.2.2.1
    have h9 := hI_.2.2.2.2.2.2.2.2.2.2.2.1
    have h10 := hI_.2.2.2.2.2.2.2.2.2.2.2.2.1
    have h11 := hI_.2.2.2.2.2.2.2.2.2.2.2.2.2.1
    have h12 := hI_.2.2.2.2.2.2.2.2.2.2.2.2.2.2.1
    have h13 := hI_.2.2.2.2.2.2.2.2.2.2.2.2.2.2.2
    have e0 := h0 (hd_ 1 0 (by kernel_rfl))
    have e1 := h1 (hd_ 1 1 (by kernel_rfl))
    refine goes_ Try.func29 (by kernel_rfl) rfl #[X 0, X 1] (by rfl) rfl rfl (by simp only [List.map_toArray, List.map_cons, List.map_nil]; rfl) ?_
    refine calls_args (args2 e0 e1) ?_
    refine (sign_c w_ g k1 goes sec (blk_below HST.out wE.bel) HSEC.out).mono ?_
    rintro e_ w' ⟨rfl, n_, rfl⟩
    have hb_ := pw_below_drewN (Below.refl w_.heap.size w_) n_
    exact ⟨_, rfl, hK.out _ _ _ rfl ⟨(wE.below hb_), (blk_below wS hb_), h0, h1, (fun _ => rfl), h3, h4, h5, h6, h7, h8, h9, h10, h11, h12, h13⟩⟩
  · -- 3
    refine val_ (w1 := w_) (v := .pointer (some ⟨gs, 3, none⟩)) (by rfl) rfl ?_ (hK.out _ _ _ rfl ⟨hI_.1, hI_.2.1, hI_.2.2.1, hI_.2.2.2.1, hI_.2.2.2.2.1, (fun _ => rfl), hI_.2.2.2.2.2.2.1, hI_.2.2.2.2.2.2.2.1, hI_.2.2.2.2.2.2.2.2.1, hI_.2.2.2.2.2.2.2.2.2.1, hI_.2.2.2.2.2.2.2.2.2.2.1, hI_.2.2.2.2.2.2.2.2.2.2.2.1, hI_.2.2.2.2.2.2.2.2.2.2.2.2.1, hI_.2.2.2.2.2.2.2.2.2.2.2.2.2.1, hI_.2.2.2.2.2.2.2.2.2.2.2.2.2.2.1, hI_.2.2.2.2.2.2.2.2.2.2.2.2.2.2.2⟩)
    go_simp
    all_goals (first | decide | rfl)
  · -- 4
    have wS := hI_.2.1
    have e3 := hI_.2.2.2.2.2.1 (hd_ 1 3 (by kernel_rfl))
    have z3_ := (blk_cell wS 3).trans (show S14[3]? = some (.int .i64 2) from rfl)
    refine val_ (w1 := w_) (v := .int .i64 2) (by rfl) rfl ?_ (hK.out _ _ _ rfl ⟨hI_.1, hI_.2.1, hI_.2.2.1, hI_.2.2.2.1, hI_.2.2.2.2.1, hI_.2.2.2.2.2.1, (fun _ => rfl), hI_.2.2.2.2.2.2.2.1, hI_.2.2.2.2.2.2.2.2.1, hI_.2.2.2.2.2.2.2.2.2.1, hI_.2.2.2.2.2.2.2.2.2.2.1, hI_.2.2.2.2.2.2.2.2.2.2.2.1, hI_.2.2.2.2.2.2.2.2.2.2.2.2.1, hI_.2.2.2.2.2.2.2.2.2.2.2.2.2.1, hI_.2.2.2.2.2.2.2.2.2.2.2.2.2.2.1, hI_.2.2.2.2.2.2.2.2.2.2.2.2.2.2.2⟩)
    go_simp
    all_goals (first | decide | rfl)
  · -- 5
    have e4 := hI_.2.2.2.2.2.2.1 (hd_ 1 4 (by kernel_rfl))
    refine val_ (w1 := w_) (v := .int .u8 2) (by rfl) rfl ?_ (hK.out _ _ _ rfl ⟨hI_.1, hI_.2.1, hI_.2.2.1, hI_.2.2.2.1, hI_.2.2.2.2.1, hI_.2.2.2.2.2.1, hI_.2.2.2.2.2.2.1, (fun _ => rfl), hI_.2.2.2.2.2.2.2.2.1, hI_.2.2.2.2.2.2.2.2.2.1, hI_.2.2.2.2.2.2.2.2.2.2.1, hI_.2.2.2.2.2.2.2.2.2.2.2.1, hI_.2.2.2.2.2.2.2.2.2.2.2.2.1, hI_.2.2.2.2.2.2.2.2.2.2.2.2.2.1, hI_.2.2.2.2.2.2.2.2.2.2.2.2.2.2.1, hI_.2.2.2.2.2.2.2.2.2.2.2.2.2.2.2⟩)
    go_simp
    all_goals (first | decide | rfl)
  · -- 6
    refine val_ (w1 := w_) (v := .pointer (some ⟨gs, 4, none⟩)) (by rfl) rfl ?_ (hK.out _ _ _ rfl ⟨hI_.1, hI_.2.1, hI_.2.2.1, hI_.2.2.2.1, hI_.2.2.2.2.1, hI_.2.2.2.2.2.1, hI_.2.2.2.2.2.2.1, hI_.2.2.2.2.2.2.2.1, (fun _ => rfl), hI_.2.2.2.2.2.2.2.2.2.1, hI_.2.2.2.2.2.2.2.2.2.2.1, hI_.2.2.2.2.2.2.2.2.2.2.2.1, hI_.2.2.2.2.2.2.2.2.2.2.2.2.1, hI_.2.2.2.2.2.2.2.2.2.2.2.2.2.1, hI_.2.2.2.2.2.2.2.2.2.2.2.2.2.2.1, hI_.2.2.2.2.2.2.2.2.2.2.2.2.2.2.2⟩)
    go_simp
    all_goals (first | decide | rfl)
  · -- 7
    have wS := hI_.2.1
    have e6 := hI_.2.2.2.2.2.2.2.2.1 (hd_ 1 6 (by kernel_rfl))
    have z4_ := (blk_cell wS 4).trans (show S14[4]? = some (.int .u8 76) from rfl)
    have z5_ := (blk_cell wS 5).trans (show S14[5]? = some (.int .u8 79) from rfl)
    have z6_ := (blk_cell wS 6).trans (show S14[6]? = some (.int .u8 67) from rfl)
    have z7_ := (blk_cell wS 7).trans (show S14[7]? = some (.int .u8 76) from rfl)
    refine val_ (w1 := w_) (v := .agg #[.int .u8 76, .int .u8 79, .int .u8 67, .int .u8 76]) (by rfl) rfl ?_ (hK.out _ _ _ rfl ⟨hI_.1, hI_.2.1, hI_.2.2.1, hI_.2.2.2.1, hI_.2.2.2.2.1, hI_.2.2.2.2.2.1, hI_.2.2.2.2.2.2.1, hI_.2.2.2.2.2.2.2.1, hI_.2.2.2.2.2.2.2.2.1, (fun _ => rfl), hI_.2.2.2.2.2.2.2.2.2.2.1, hI_.2.2.2.2.2.2.2.2.2.2.2.1, hI_.2.2.2.2.2.2.2.2.2.2.2.2.1, hI_.2.2.2.2.2.2.2.2.2.2.2.2.2.1, hI_.2.2.2.2.2.2.2.2.2.2.2.2.2.2.1, hI_.2.2.2.2.2.2.2.2.2.2.2.2.2.2.2⟩)
    go_simp
    all_goals (first | decide | rfl)
  · -- 8
    refine val_ (w1 := w_) (v := .pointer (some ⟨gh, 0, none⟩)) (by rfl) rfl ?_ (hK.out _ _ _ rfl ⟨hI_.1, hI_.2.1, hI_.2.2.1, hI_.2.2.2.1, hI_.2.2.2.2.1, hI_.2.2.2.2.2.1, hI_.2.2.2.2.2.2.1, hI_.2.2.2.2.2.2.2.1, hI_.2.2.2.2.2.2.2.2.1, hI_.2.2.2.2.2.2.2.2.2.1, (fun _ => rfl), hI_.2.2.2.2.2.2.2.2.2.2.2.1, hI_.2.2.2.2.2.2.2.2.2.2.2.2.1, hI_.2.2.2.2.2.2.2.2.2.2.2.2.2.1, hI_.2.2.2.2.2.2.2.2.2.2.2.2.2.2.1, hI_.2.2.2.2.2.2.2.2.2.2.2.2.2.2.2⟩)
    go_simp
    all_goals (first | decide | rfl)
  · -- 9
    have wE := hI_.1
    have wS := hI_.2.1
    have h0 := hI_.2.2.1
    have h1 := hI_.2.2.2.1
    have h2 := hI_.2.2.2.2.1
    have h3 := hI_.2.2.2.2.2.1
    have h4 := hI_.2.2.2.2.2.2.1
    have h5 := hI_.2.2.2.2.2.2.2.1
    have h6 := hI_.2.2.2.2.2.2.2.2.1
    have h7 := hI_.2.2.2.2.2.2.2.2.2.1
    have h8 := hI_.2.2.2.2.2.2.2.2.2.2.1
    have h9 := hI_.2.2.2.2.2.2.2.2.2.2.2.1
    have h10 := hI_.2.2.2.2.2.2.2.2.2.2.2.2.1
    have h11 := hI_.2.2.2.2.2.2.2.2.2.2.2.2.2.1
    have h12 := hI_.2.2.2.2.2.2.2.2.2.2.2.2.2.2.1
    have h13 := hI_.2.2.2.2.2.2.2.2.2.2.2.2.2.2.2
    have e2 := h2 (hd_ 1 2 (by kernel_rfl))
    have e8 := h8 (hd_ 1 8 (by kernel_rfl))
    have wE0 : PH 53 w gh (H22 0 4 4 (bif dn_ 11 then 2 else 0) x.pl (-20) 0 0 0 0 (bif dn_ 13 then 76 else 0) (bif dn_ 13 then 79 else 0) (bif dn_ 13 then 67 else 0) (bif dn_ 13 then 76 else 0) 0 0 x.t0 x.t1 r0 r1 s0 s1) w_ := by rw [hd0_] at wE; exact wE
    rw [if_pos (by rfl)]
    refine wp_store_part 3 _ _ rfl gh 0 (.int .i64 3) [.int .i64 3] ?_ ?_ rfl (by simp [Value.oneCell']) 53 _ (H22 3 4 4 (bif dn_ 11 then 2 else 0) x.pl (-20) 0 0 0 0 (bif dn_ 13 then 76 else 0) (bif dn_ 13 then 79 else 0) (bif dn_ 13 then 67 else 0) (bif dn_ 13 then 76 else 0) 0 0 x.t0 x.t1 r0 r1 s0 s1) wE0.row (by simp [H22]) (by kernel_rfl) (by rfl) ?_
    · exact e8
    · exact e2
    · exact hK.out _ undef _ rfl ⟨(wE0.set _), ((setRow_ne _ _ _ _ GN.out.1.symm).trans wS), h0, h1, h2, h3, h4, h5, h6, h7, h8, (fun _ => trivial), h10, h11, h12, h13⟩
  · -- 10
    refine val_ (w1 := w_) (v := .pointer (some ⟨gh, 3, none⟩)) (by rfl) rfl ?_ (hK.out _ _ _ rfl ⟨hI_.1, hI_.2.1, hI_.2.2.1, hI_.2.2.2.1, hI_.2.2.2.2.1, hI_.2.2.2.2.2.1, hI_.2.2.2.2.2.2.1, hI_.2.2.2.2.2.2.2.1, hI_.2.2.2.2.2.2.2.2.1, hI_.2.2.2.2.2.2.2.2.2.1, hI_.2.2.2.2.2.2.2.2.2.2.1, hI_.2.2.2.2.2.2.2.2.2.2.2.1, (fun _ => rfl), hI_.2.2.2.2.2.2.2.2.2.2.2.2.2.1, hI_.2.2.2.2.2.2.2.2.2.2.2.2.2.2.1, hI_.2.2.2.2.2.2.2.2.2.2.2.2.2.2.2⟩)
    go_simp
    all_goals (first | decide | rfl)
  · -- 11
    have wE := hI_.1
    have wS := hI_.2.1
    have h0 := hI_.2.2.1
    have h1 := hI_.2.2.2.1
    have h2 := hI_.2.2.2.2.1
    have h3 := hI_.2.2.2.2.2.1
    have h4 := hI_.2.2.2.2.2.2.1
    have h5 := hI_.2.2.2.2.2.2.2.1
    have h6 := hI_.2.2.2.2.2.2.2.2.1
    have h7 := hI_.2.2.2.2.2.2.2.2.2.1
    have h8 := hI_.2.2.2.2.2.2.2.2.2.2.1
    have h9 := hI_.2.2.2.2.2.2.2.2.2.2.2.1
    have h10 := hI_.2.2.2.2.2.2.2.2.2.2.2.2.1
    have h11 := hI_.2.2.2.2.2.2.2.2.2.2.2.2.2.1
    have h12 := hI_.2.2.2.2.2.2.2.2.2.2.2.2.2.2.1
    have h13 := hI_.2.2.2.2.2.2.2.2.2.2.2.2.2.2.2
    have e5 := h5 (hd_ 1 5 (by kernel_rfl))
    have e10 := h10 (hd_ 1 10 (by kernel_rfl))
    have wE0 : PH 53 w gh (H22 (bif dn_ 9 then 3 else 0) 4 4 0 x.pl (-20) 0 0 0 0 (bif dn_ 13 then 76 else 0) (bif dn_ 13 then 79 else 0) (bif dn_ 13 then 67 else 0) (bif dn_ 13 then 76 else 0) 0 0 x.t0 x.t1 r0 r1 s0 s1) w_ := by rw [hd0_] at wE; exact wE
    rw [if_pos (by rfl)]
    refine wp_store_part 5 _ _ rfl gh 3 (.int .u8 2) [.int .u8 2] ?_ ?_ rfl (by simp [Value.oneCell']) 53 _ (H22 (bif dn_ 9 then 3 else 0) 4 4 2 x.pl (-20) 0 0 0 0 (bif dn_ 13 then 76 else 0) (bif dn_ 13 then 79 else 0) (bif dn_ 13 then 67 else 0) (bif dn_ 13 then 76 else 0) 0 0 x.t0 x.t1 r0 r1 s0 s1) wE0.row (by simp [H22]) (by kernel_rfl) (by rfl) ?_
    · exact e10
    · exact e5
    · exact hK.out _ undef _ rfl ⟨(wE0.set _), ((setRow_ne _ _ _ _ GN.out.1.symm).trans wS), h0, h1, h2, h3, h4, h5, h6, h7, h8, h9, h10, (fun _ => trivial), h12, h13⟩
  · -- 12
    refine val_ (w1 := w_) (v := .pointer (some ⟨gh, 10, none⟩)) (by rfl) rfl ?_ (hK.out _ _ _ rfl ⟨hI_.1, hI_.2.1, hI_.2.2.1, hI_.2.2.2.1, hI_.2.2.2.2.1, hI_.2.2.2.2.2.1, hI_.2.2.2.2.2.2.1, hI_.2.2.2.2.2.2.2.1, hI_.2.2.2.2.2.2.2.2.1, hI_.2.2.2.2.2.2.2.2.2.1, hI_.2.2.2.2.2.2.2.2.2.2.1, hI_.2.2.2.2.2.2.2.2.2.2.2.1, hI_.2.2.2.2.2.2.2.2.2.2.2.2.1, hI_.2.2.2.2.2.2.2.2.2.2.2.2.2.1, (fun _ => rfl), hI_.2.2.2.2.2.2.2.2.2.2.2.2.2.2.2⟩)
    go_simp
    all_goals (first | decide | rfl)
  · -- 13
    have wE := hI_.1
    have wS := hI_.2.1
    have h0 := hI_.2.2.1
    have h1 := hI_.2.2.2.1
    have h2 := hI_.2.2.2.2.1
    have h3 := hI_.2.2.2.2.2.1
    have h4 := hI_.2.2.2.2.2.2.1
    have h5 := hI_.2.2.2.2.2.2.2.1
    have h6 := hI_.2.2.2.2.2.2.2.2.1
    have h7 := hI_.2.2.2.2.2.2.2.2.2.1
    have h8 := hI_.2.2.2.2.2.2.2.2.2.2.1
    have h9 := hI_.2.2.2.2.2.2.2.2.2.2.2.1
    have h10 := hI_.2.2.2.2.2.2.2.2.2.2.2.2.1
    have h11 := hI_.2.2.2.2.2.2.2.2.2.2.2.2.2.1
    have h12 := hI_.2.2.2.2.2.2.2.2.2.2.2.2.2.2.1
    have h13 := hI_.2.2.2.2.2.2.2.2.2.2.2.2.2.2.2
    have e7 := h7 (hd_ 1 7 (by kernel_rfl))
    have e12 := h12 (hd_ 1 12 (by kernel_rfl))
    have wE0 : PH 53 w gh (H22 (bif dn_ 9 then 3 else 0) 4 4 (bif dn_ 11 then 2 else 0) x.pl (-20) 0 0 0 0 0 0 0 0 0 0 x.t0 x.t1 r0 r1 s0 s1) w_ := by rw [hd0_] at wE; exact wE
    rw [if_pos (by rfl)]
    refine wp_store_part 51 _ _ rfl gh 10 (.agg #[.int .u8 76, .int .u8 79, .int .u8 67, .int .u8 76]) [.int .u8 76, .int .u8 79, .int .u8 67, .int .u8 76] ?_ ?_ rfl (by simp [Value.oneCell']) 53 _ (H22 (bif dn_ 9 then 3 else 0) 4 4 (bif dn_ 11 then 2 else 0) x.pl (-20) 0 0 0 0 76 79 67 76 0 0 x.t0 x.t1 r0 r1 s0 s1) wE0.row (by simp [H22]) (by kernel_rfl) (by rfl) ?_
    · exact e12
    · exact e7
    · exact hK.out _ undef _ rfl ⟨(wE0.set _), ((setRow_ne _ _ _ _ GN.out.1.symm).trans wS), h0, h1, h2, h3, h4, h5, h6, h7, h8, h9, h10, h11, h12, (fun _ => trivial)⟩
  intro dn_ X w5 hdn_ hI_
  clear E0 BS
  obtain ⟨wE, wS, h0, h1, h2, h3, h4, h5, h6, h7, h8, h9, h10, h11, h12, h13⟩ := hI_
  rw [hdn_ 9 (by decide), hdn_ 11 (by decide), hdn_ 13 (by decide)] at wE
  have E0 := Aside0.mk (show PH 53 w gh (H22 3 4 4 2 x.pl (-20) 0 0 0 0 76 79 67 76 0 0 x.t0 x.t1 r0 r1 s0 s1) w5 from wE)
  have BS := Aside0.mk wS
  clear wE wS h0 h1 h2 h3 h4 h5 h6 h7 h8 h9 h10 h11 h12 h13 hdn_
  have y0 := (blk_cell E0.out.row 0).trans (show (H22 3 4 4 2 x.pl (-20) 0 0 0 0 76 79 67 76 0 0 x.t0 x.t1 r0 r1 s0 s1)[0]? = some (.int .i64 3) from rfl)
  go_upto_region 8 with (first | ((with_reducible refine gate_store (t := 5) (p := 40) rfl ?_); refine store_part rfl 5 _ _ rfl rfl gh 3 (.int .u8 16) [.int .u8 16] rfl rfl rfl (by simp [Value.oneCell']) 53 (H22 3 4 4 2 x.pl (-20) 0 0 0 0 76 79 67 76 0 0 x.t0 x.t1 r0 r1 s0 s1) (H22 3 4 4 16 x.pl (-20) 0 0 0 0 76 79 67 76 0 0 x.t0 x.t1 r0 r1 s0 s1) E0.out.row (by simp [H22]) (by kernel_rfl) (by rfl) ?_; have BS := Aside0.mk ((setRow_ne _ _ _ (H22 3 4 4 16 x.pl (-20) 0 0 0 0 76 79 67 76 0 0 x.t0 x.t1 r0 r1 s0 s1) GN.out.1.symm).trans BS.out); have E0 := Aside0.mk (E0.out.set (H22 3 4 4 16 x.pl (-20) 0 0 0 0 76 79 67 76 0 0 x.t0 x.t1 r0 r1 s0 s1)); clear y0) | fail)
  have z10_ := (blk_cell BS.out 10).trans (show S14[10]? = some (.int .i64 0) from rfl)
  go_upto_region 11 with (first | (go_at_call 30; refine (answer_span.calls 9 0 0 0 none _ span0).mono ?_; rintro e_ w6 ⟨rfl, hb_⟩; have BS := Aside0.mk (blk_below BS.out hb_); have E0 := Aside0.mk (E0.out.below hb_); clear hb_ z10_; (try simp only [errW_none])) | ((with_reducible refine gate_store (t := 50) (p := 47) rfl ?_); refine store_part rfl 50 _ _ rfl rfl gh 6 (.agg #[.int .u16 0, .int .u16 0]) [.int .u16 0, .int .u16 0] rfl rfl rfl (by simp [Value.oneCell']) 53 (H22 3 4 4 16 x.pl (-20) 0 0 0 0 76 79 67 76 0 0 x.t0 x.t1 r0 r1 s0 s1) (H22 3 4 4 16 x.pl (-20) 0 0 0 0 76 79 67 76 0 0 x.t0 x.t1 r0 r1 s0 s1) E0.out.row (by simp [H22]) (by kernel_rfl) (by rfl) ?_; have BS := Aside0.mk ((setRow_ne _ _ _ (H22 3 4 4 16 x.pl (-20) 0 0 0 0 76 79 67 76 0 0 x.t0 x.t1 r0 r1 s0 s1) GN.out.1.symm).trans BS.out); have E0 := Aside0.mk (E0.out.set (H22 3 4 4 16 x.pl (-20) 0 0 0 0 76 79 67 76 0 0 x.t0 x.t1 r0 r1 s0 s1))) | fail)
  have z11_ := (blk_cell BS.out 11).trans (show S14[11]? = some (.int .i64 10) from rfl)
  go_upto_region 14 with (first | (go_at_call 30; refine (answer_span.calls 9 10 0 655 none _ span10).mono ?_; rintro e_ w6 ⟨rfl, hb_⟩; have BS := Aside0.mk (blk_below BS.out hb_); have E0 := Aside0.mk (E0.out.below hb_); clear hb_ z11_; (try simp only [errW_none])) | ((with_reducible refine gate_store (t := 50) (p := 57) rfl ?_); refine store_part rfl 50 _ _ rfl rfl gh 8 (.agg #[.int .u16 0, .int .u16 655]) [.int .u16 0, .int .u16 655] rfl rfl rfl (by simp [Value.oneCell']) 53 (H22 3 4 4 16 x.pl (-20) 0 0 0 0 76 79 67 76 0 0 x.t0 x.t1 r0 r1 s0 s1) (H22 3 4 4 16 x.pl (-20) 0 0 0 655 76 79 67 76 0 0 x.t0 x.t1 r0 r1 s0 s1) E0.out.row (by simp [H22]) (by kernel_rfl) (by rfl) ?_; have BS := Aside0.mk ((setRow_ne _ _ _ (H22 3 4 4 16 x.pl (-20) 0 0 0 655 76 79 67 76 0 0 x.t0 x.t1 r0 r1 s0 s1) GN.out.1.symm).trans BS.out); have E0 := Aside0.mk (E0.out.set (H22 3 4 4 16 x.pl (-20) 0 0 0 655 76 79 67 76 0 0 x.t0 x.t1 r0 r1 s0 s1))) | fail)
  have y18 := (blk_cell E0.out.row 18).trans (show (H22 3 4 4 16 x.pl (-20) 0 0 0 655 76 79 67 76 0 0 x.t0 x.t1 r0 r1 s0 s1)[18]? = some (.int .u32 r0) from rfl)
  go_wp2_with (first | ((with_reducible refine gate_store (t := 25) (p := 65) rfl ?_); refine store_part rfl 25 _ _ rfl rfl gh 14 (.agg #[.int .u32 r0, .int .u32 0]) [.int .u32 r0, .int .u32 0] rfl rfl rfl (by simp [Value.oneCell']) 53 (H22 3 4 4 16 x.pl (-20) 0 0 0 655 76 79 67 76 0 0 x.t0 x.t1 r0 r1 s0 s1) (H22 3 4 4 16 x.pl (-20) 0 0 0 655 76 79 67 76 r0 0 x.t0 x.t1 r0 r1 s0 s1) E0.out.row (by simp [H22]) (by kernel_rfl) (by rfl) ?_; have BS := Aside0.mk ((setRow_ne _ _ _ (H22 3 4 4 16 x.pl (-20) 0 0 0 655 76 79 67 76 r0 0 x.t0 x.t1 r0 r1 s0 s1) GN.out.1.symm).trans BS.out); have E0 := Aside0.mk (E0.out.set (H22 3 4 4 16 x.pl (-20) 0 0 0 655 76 79 67 76 r0 0 x.t0 x.t1 r0 r1 s0 s1)); clear y18) | ((with_reducible refine gate_dst (N := 66) rfl ?_); refine load_part rfl 53 _ rfl gh 0 rfl (H22 3 4 4 16 x.pl (-20) 0 0 0 655 76 79 67 76 r0 0 x.t0 x.t1 r0 r1 s0 s1) 53 (H22 3 4 4 16 x.pl (-20) 0 0 0 655 76 79 67 76 r0 0 x.t0 x.t1 r0 r1 s0 s1) E0.out.row (by rfl) _ Try.underlying53 rfl (by kernel_rfl) ?_) | (go_at_call 31; refine (HPUT.out _ E0.out.bel).mono ?_; rintro e_ w8 ⟨v_, rfl, hr_, hb_⟩; have RV := Aside0.mk (Kd.R_lower hr_ E0.out.bel.size); have E0 := Aside0.mk (E0.out.below hb_); clear hr_ hb_) | fail)
  go_ret2
  exact ⟨_, rfl, RV.out, E0.out.bel⟩
end Go.Proofs.Ytlaaofbmnaekoaa.MWholeClient
