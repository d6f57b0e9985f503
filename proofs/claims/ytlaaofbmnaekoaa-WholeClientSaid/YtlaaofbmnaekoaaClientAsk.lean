/- A question's head (written by gen_ask.py). -/
import Derived.Test.YtlaaofbmnaekoaaClientPut
namespace Go.Proofs.Ytlaaofbmnaekoaa.MWholeClient
open Go.RowKit Go.Proofs.YtlaaofbmnaekoaaW.PrintWords Go.Proofs.YtlaaofbmnaekoaaW.PrintLast Go.Proofs.YtlaaofbmnaekoaaW.PrintMore Go.Proofs.Ytlaaofbmnaekoaa.Base
set_option linter.unusedVariables false
set_option linter.unusedSimpArgs false

theorem mode43 : answer_Mode.f 9 4 3 = some (4, true) := by kernel_rfl
theorem walk0 : ext_Walk.f 9 4 [] = some ([], [], none) := by kernel_rfl
theorem span0 : answer_span.f 9 0 = some (0, 0, none) := by kernel_rfl
theorem span10 : answer_span.f 9 10 = some (0, 655, none) := by kernel_rfl
theorem V0 (W : World) (b : Nat) (ok : Nat → Prop) (A : Option Addr) (c : Nat) : Kd.V (Kd.int .u8) 5 W b ok (.slice A ([] : List Int).length c) [] := Kd.V_mk (Nat.zero_le _) (fun _ _ => ⟨rfl, by simp, fun h => absurd h (Nat.lt_irrefl 0)⟩)
theorem sl48 (ba c : Nat) (h : 48 ≤ c) (w : World) : (Instr.sliceAt 39 (.slice (some ⟨ba, 0, none⟩) 48 c) (some (.int .i64 48)) none none).run Try.prog w = .ok (.slice (if c = 48 then some ⟨ba, 0, none⟩ else some ⟨ba, 48, none⟩) 0 (c - 48)) w := by
  unfold Instr.sliceAt Instr.slice
  by_cases hc : c = 48
  · subst hc
    simp [Sem.run_bind, run_underlying Try.underlying39, Instr.sureAddr, Instr.sliceBounds, Instr.sliceBound, asIntOf, size_one (e := 5) (by kernel_rfl), Addr.add]
  · simp [Sem.run_bind, run_underlying Try.underlying39, Instr.sureAddr, Instr.sliceBounds, Instr.sliceBound, asIntOf, size_one (e := 5) (by kernel_rfl), Addr.add, hc]
set_option maxHeartbeats 16000000 in
set_option maxRecDepth 100000 in
theorem ask_c (w : World) (ba c : Nat) (x : HD) (hc : 48 ≤ c) (e2 : x.vn = 4) (e3 : x.md = 3)
    (hP : ∀ W, Below w.heap.size w W → Calls Try.prog 16 #[.slice (some ⟨ba, 0, none⟩) 48 c] W fun e w' => e = .returned (.tuple #[.agg x.cs, .nilIface]) ∧ Below W.heap.size W w') :
    Calls Try.prog 44 #[.slice (some ⟨ba, 0, none⟩) 48 c] w fun e w' => e = .returned (.tuple #[.agg x.cs, .nilIface]) ∧ Below w.heap.size w w' := by
  have HP := Aside0.mk hP
  have E2 := Aside0.mk e2
  have E3 := Aside0.mk e3
  have HC := Aside0.mk hc
  clear hP e2 e3
  have sl := sl48 ba c hc
  clear hc
  go_enter Try.func44, Try.ntmps44
  go_upto_region 4 with (first | ((with_reducible refine gate_dst (N := 2) rfl ?_); refine box_event ?hg (N := 2) ?hd (cs := Z22) (t := 53) ?hr ?_; (case hd => rfl); (case hg => rfl); (case hr => go_simp; try rfl); intro g0 hg_ w0 hx_ hb_; have G0 := Aside0.mk hg_; have H0 := Aside0.mk hb_; have B0 := Aside0.mk hx_; clear hg_ hx_ hb_; skip) | (go_at_call 16; refine (HP.out _ H0.out).mono ?_; rintro e_ w1 ⟨rfl, hb_⟩; have K1 := Aside0.mk hb_; clear hb_) | ((with_reducible refine gate_dst (N := 4) rfl ?_); refine box_event ?hg (N := 4) ?hd (cs := Z22) (t := 53) ?hr ?_; (case hd => rfl); (case hg => rfl); (case hr => go_simp; try rfl); intro g4 hg_ w4 hx_ hb_; have G4 := Aside0.mk hg_; have H4 := Aside0.mk hb_; have B4 := Aside0.mk hx_; clear hg_ hx_ hb_; refine halt_ ?_) | fail)
  unfold Halted
  try apply_assumption
  refine wpList_store_row rfl 53 _ _ rfl g4 x.cs rfl rfl 53 _ B4.out (by kernel_rfl) (by rfl) (h22_one ..) ?_
  have E0 := Aside0.mk ((PH.start (below_step H0.out K1.out) H4.out G4.out B4.out).set x.cs)
  have B0_ := Aside0.mk (show (w4.setRow g4 x.cs).heap[g0]? = some (.cells Z22 53 (0, 0)) from (setRow_ne _ _ _ _ (by have a_ := blk_lt B0.out; have b_ := K1.out.size; have c_ := G4.out; omega)).trans (blk_below (blk_below B0.out K1.out) H4.out))
  have GN := Aside0.mk (show g0 < g4 ∧ w.heap.size ≤ g0 from by have a_ := blk_lt B0.out; have b_ := K1.out.size; have c_ := G4.out; have d_ := G0.out; omega)
  clear H0 K1 H4 G4 B4 B0 G0
  generalize w4.setRow g4 x.cs = w5 at E0 B0_ ⊢
  have y1 := (blk_cell E0.out.row 1).trans (show x.cs[1]? = some (.int .i64 x.vn) from rfl)
  have y2 := (blk_cell E0.out.row 2).trans (show x.cs[2]? = some (.int .i64 x.md) from rfl)
  rw [E2.out] at y1
  rw [E3.out] at y2
  go_wp2_with (first | (go_at_call 45; refine (answer_Mode.calls 9 4 3 4 true _ mode43).mono ?_; rintro e_ w6 ⟨rfl, n_, rfl⟩) | fail)
  have E0 := Aside0.mk (E0.out.below (pw_below_drewN (Below.refl _ _) n_))
  have B0_ := Aside0.mk (blk_below B0_.out (pw_below_drewN (Below.refl _ _) n_))
  generalize w5.drewN n_ = w6 at E0 B0_ ⊢
  clear y1 y2
  refine region_inv (T := ?T11) [some 47, some 48, some 49, some 50, some 51, some 46, some 52, some 53, some 8, none, some 9] ?hT11 (fun dn_ X w_ => PH 53 w g4 x.cs w_ ∧ w_.heap[g0]? = some (.cells Z22 53 (0, 0)) ∧ (dn_ 0 = true → X 0 = .pointer (some ⟨g4, 1, none⟩)) ∧ (dn_ 1 = true → X 1 = .int .i64 4) ∧ (dn_ 2 = true → X 2 = .slice (some ⟨ba, 0, none⟩) 48 c) ∧ (dn_ 3 = true → X 3 = .slice (if c = 48 then some ⟨ba, 0, none⟩ else some ⟨ba, 48, none⟩) 0 (c - 48)) ∧ (dn_ 4 = true → (∃ a_ b_ : Value, X 4 = .tuple #[.agg #[a_, b_], .nilIface] ∧ a_.oneCell' = true ∧ b_.oneCell' = true)) ∧ (dn_ 5 = true → (∃ a_ b_ : Value, X 5 = .tuple #[.agg #[a_, b_], .nilIface] ∧ a_.oneCell' = true ∧ b_.oneCell' = true)) ∧ (dn_ 6 = true → (∃ a_ b_ : Value, X 6 = .agg #[a_, b_] ∧ a_.oneCell' = true ∧ b_.oneCell' = true)) ∧ (dn_ 7 = true → (X 7 = .nilIface)) ∧ (dn_ 8 = true → (dn_ 9 = false → ∃ g_, X 8 = .pointer (some ⟨g_, 0, none⟩) ∧ w_.heap[g_]? = some (.cells #[.slice none 0 0, .slice none 0 0] 116 (0, 0)) ∧ g4 < g_)) ∧ (dn_ 9 = true → True) ∧ (dn_ 10 = true → (X 10 = .nilIface))) (by kernel_rfl) (by kernel_rfl) (by rfl) [0, 1, 2, 3, 4, 5, 6, 7, 8, 9, 10] rfl (.cons (some 47) rfl rfl (fun dn_ X w_ hd0_ hd_ hI_ K hK => ?_) (.cons (some 48) rfl rfl (fun dn_ X w_ hd0_ hd_ hI_ K hK => ?_) (.cons (some 49) rfl rfl (fun dn_ X w_ hd0_ hd_ hI_ K hK => ?_) (.cons (some 50) rfl rfl (fun dn_ X w_ hd0_ hd_ hI_ K hK => ?_) (.cons (some 51) rfl rfl (fun dn_ X w_ hd0_ hd_ hI_ K hK => ?_) (.cons (some 46) rfl rfl (fun dn_ X w_ hd0_ hd_ hI_ K hK => ?_) (.cons (some 52) rfl rfl (fun dn_ X w_ hd0_ hd_ hI_ K hK => ?_) (.cons (some 53) rfl rfl (fun dn_ X w_ hd0_ hd_ hI_ K hK => ?_) (.cons (some 8) rfl rfl (fun dn_ X w_ hd0_ hd_ hI_ K hK => ?_) (.cons none rfl rfl (fun dn_ X w_ hd0_ hd_ hI_ K hK => ?_) (.cons (some 9) rfl rfl (fun dn_ X w_ hd0_ hd_ hI_ K hK => ?_) .nil))))))))))) ?h011 ?hend11
  case hT11 =>
    intro X
    simp only [fill, Act.put, List.setIfInBounds_toArray, List.set_cons_zero, List.set_cons_succ, Nat.zero_add, Nat.reduceAdd]
    rfl
  case h011 =>
    exact ⟨E0.out.below (below_drew (Below.refl _ _)), blk_below B0_.out (below_drew (Below.refl _ _)), noF_, noF_, noF_, noF_, noF_, noF_, noF_, noF_, noF_, noF_, noF_⟩
  · -- 0
    refine val_ (w1 := w_) (v := .pointer (some ⟨g4, 1, none⟩)) (by rfl) rfl ?_ (hK.out _ _ _ rfl ⟨hI_.1, hI_.2.1, (fun _ => rfl), hI_.2.2.2.1, hI_.2.2.2.2.1, hI_.2.2.2.2.2.1, hI_.2.2.2.2.2.2.1, hI_.2.2.2.2.2.2.2.1, hI_.2.2.2.2.2.2.2.2.1, hI_.2.2.2.2.2.2.2.2.2.1, hI_.2.2.2.2.2.2.2.2.2.2.1, hI_.2.2.2.2.2.2.2.2.2.2.2.1, hI_.2.2.2.2.2.2.2.2.2.2.2.2⟩)
    go_simp
    all_goals (first | decide | rfl)
  · -- 1
    have wE := hI_.1
    have e0 := hI_.2.2.1 (hd_ 1 0 (by kernel_rfl))
    have z_ := (blk_cell wE.row 1).trans (show x.cs[1]? = some (.int .i64 x.vn) from rfl)
    rw [E2.out] at z_
    refine val_ (w1 := w_) (v := .int .i64 4) (by rfl) rfl ?_ (hK.out _ _ _ rfl ⟨hI_.1, hI_.2.1, hI_.2.2.1, (fun _ => rfl), hI_.2.2.2.2.1, hI_.2.2.2.2.2.1, hI_.2.2.2.2.2.2.1, hI_.2.2.2.2.2.2.2.1, hI_.2.2.2.2.2.2.2.2.1, hI_.2.2.2.2.2.2.2.2.2.1, hI_.2.2.2.2.2.2.2.2.2.2.1, hI_.2.2.2.2.2.2.2.2.2.2.2.1, hI_.2.2.2.2.2.2.2.2.2.2.2.2⟩)
    go_simp
    all_goals (first | decide | rfl)
  · -- 2
    refine val_ (w1 := w_) (v := .slice (some ⟨ba, 0, none⟩) 48 c) (by rfl) rfl ?_ (hK.out _ _ _ rfl ⟨hI_.1, hI_.2.1, hI_.2.2.1, hI_.2.2.2.1, (fun _ => rfl), hI_.2.2.2.2.2.1, hI_.2.2.2.2.2.2.1, hI_.2.2.2.2.2.2.2.1, hI_.2.2.2.2.2.2.2.2.1, hI_.2.2.2.2.2.2.2.2.2.1, hI_.2.2.2.2.2.2.2.2.2.2.1, hI_.2.2.2.2.2.2.2.2.2.2.2.1, hI_.2.2.2.2.2.2.2.2.2.2.2.2⟩)
    go_simp
    all_goals (first | decide | rfl)
  · -- 3
    have e2 := hI_.2.2.2.2.1 (hd_ 1 2 (by kernel_rfl))
    refine val_ (w1 := w_) (v := .slice (if c = 48 then some ⟨ba, 0, none⟩ else some ⟨ba, 48, none⟩) 0 (c - 48)) (by rfl) rfl ?_ (hK.out _ _ _ rfl ⟨hI_.1, hI_.2.1, hI_.2.2.1, hI_.2.2.2.1, hI_.2.2.2.2.1, (fun _ => rfl), hI_.2.2.2.2.2.2.1, hI_.2.2.2.2.2.2.2.1, hI_.2.2.2.2.2.2.2.2.1, hI_.2.2.2.2.2.2.2.2.2.1, hI_.2.2.2.2.2.2.2.2.2.2.1, hI_.2.2.2.2.2.2.2.2.2.2.2.1, hI_.2.2.2.2.2.2.2.2.2.2.2.2⟩)
    go_simp
    all_goals (first | decide | rfl)
  · -- 4
    have wE := hI_.1
    have wZ := hI_.2.1
    have h0 := hI_.2.2.1
    have h1 := hI_.2.2.2.1
    have h2 := hI_.2.2.2.2.1
    have h3 := hI_.2.2.2.2.2.1
    have h4 := hI_.2.2.2.2.2.2.1
    have h5 := hI_.2.2.2.2.2.2.2.1
    have h6 := hI_.2.2.2.2.2.2.2.2.1
    have h7 := hI_.2.2.2.2.2.2.2.2.2.1
    have h8 := hI_.2.2.2.2.2.2.2.2.2.2.1
    have h9 := hI_.2.2.2.2.2.2.2.2.2.2.2.1
    have h10 := hI_.2.2.2.2.2.2.2.2.2.2.2.2
    have e1 := h1 (hd_ 1 1 (by kernel_rfl))
    have e3 := h3 (hd_ 1 3 (by kernel_rfl))
    refine goes_ Try.func59 (by kernel_rfl) rfl #[X 1, X 3] (by rfl) rfl rfl (by simp only [List.map_toArray, List.map_cons, List.map_nil]; rfl) ?_
    refine calls_args (args2 e1 e3) ?_
    refine (ext_Walk.calls 9 4 (fun _ => True) _ _ [] [] [] none w_ (V0 _ _ _ _ _) walk0).mono ?_
    rintro e_ w' ⟨a_, b_, he_, ha_, hr_, hb_⟩
    obtain ⟨A1_, c1_, rfl⟩ := Kd.S_slice ha_
    obtain ⟨A2_, c2_, rfl⟩ := Kd.R_slice hr_
    obtain rfl := he_
    exact ⟨_, rfl, hK.out _ _ _ rfl ⟨(wE.below hb_), (blk_below wZ hb_), h0, h1, h2, h3, (fun _ => ⟨_, _, rfl, rfl, rfl⟩), h5, h6, h7, (fun d_ q_ => let ⟨g_, x_, y_, z_⟩ := h8 d_ q_; ⟨g_, x_, blk_below y_ hb_, z_⟩), h9, h10⟩⟩
  · -- 5
    have wE := hI_.1
    have wZ := hI_.2.1
    have h0 := hI_.2.2.1
    have h1 := hI_.2.2.2.1
    have h2 := hI_.2.2.2.2.1
    have h3 := hI_.2.2.2.2.2.1
    have h4 := hI_.2.2.2.2.2.2.1
    have h5 := hI_.2.2.2.2.2.2.2.1
    have h6 := hI_.2.2.2.2.2.2.2.2.1
    have h7 := hI_.2.2.2.2.2.2.2.2.2.1
    have h8 := hI_.2.2.2.2.2.2.2.2.2.2.1
    have h9 := hI_.2.2.2.2.2.2.2.2.2.2.2.1
    have h10 := hI_.2.2.2.2.2.2.2.2.2.2.2.2
    have e4 := h4 (hd_ 1 4 (by kernel_rfl))
    obtain ⟨a_, b_, e4, h1_, h2_⟩ := h4 (hd_ 1 4 (by kernel_rfl))
    refine val_ (w1 := w_) (v := .tuple #[.agg #[a_, b_], .nilIface]) (by rfl) rfl ?_ (hK.out _ _ _ rfl ⟨wE, wZ, h0, h1, h2, h3, h4, (fun _ => ⟨a_, b_, rfl, h1_, h2_⟩), h6, h7, h8, h9, h10⟩)
    go_simp
  · -- 6
    have wE := hI_.1
    have wZ := hI_.2.1
    have h0 := hI_.2.2.1
    have h1 := hI_.2.2.2.1
    have h2 := hI_.2.2.2.2.1
    have h3 := hI_.2.2.2.2.2.1
    have h4 := hI_.2.2.2.2.2.2.1
    have h5 := hI_.2.2.2.2.2.2.2.1
    have h6 := hI_.2.2.2.2.2.2.2.2.1
    have h7 := hI_.2.2.2.2.2.2.2.2.2.1
    have h8 := hI_.2.2.2.2.2.2.2.2.2.2.1
    have h9 := hI_.2.2.2.2.2.2.2.2.2.2.2.1
    have h10 := hI_.2.2.2.2.2.2.2.2.2.2.2.2
    have e5 := h5 (hd_ 1 5 (by kernel_rfl))
    obtain ⟨a_, b_, e5, h1_, h2_⟩ := h5 (hd_ 1 5 (by kernel_rfl))
    refine val_ (w1 := w_) (v := .agg #[a_, b_]) (by rfl) rfl ?_ (hK.out _ _ _ rfl ⟨wE, wZ, h0, h1, h2, h3, h4, h5, (fun _ => ⟨a_, b_, rfl, h1_, h2_⟩), h7, h8, h9, h10⟩)
    go_simp
  · -- 7
    have wE := hI_.1
    have wZ := hI_.2.1
    have h0 := hI_.2.2.1
    have h1 := hI_.2.2.2.1
    have h2 := hI_.2.2.2.2.1
    have h3 := hI_.2.2.2.2.2.1
    have h4 := hI_.2.2.2.2.2.2.1
    have h5 := hI_.2.2.2.2.2.2.2.1
    have h6 := hI_.2.2.2.2.2.2.2.2.1
    have h7 := hI_.2.2.2.2.2.2.2.2.2.1
    have h8 := hI_.2.2.2.2.2.2.2.2.2.2.1
    have h9 := hI_.2.2.2.2.2.2.2.2.2.2.2.1
    have h10 := hI_.2.2.2.2.2.2.2.2.2.2.2.2
    have e5 := h5 (hd_ 1 5 (by kernel_rfl))
    obtain ⟨a_, b_, e5, h1_, h2_⟩ := h5 (hd_ 1 5 (by kernel_rfl))
    refine val_ (w1 := w_) (v := .nilIface) (by rfl) rfl ?_ (hK.out _ _ _ rfl ⟨wE, wZ, h0, h1, h2, h3, h4, h5, h6, (fun _ => rfl), h8, h9, h10⟩)
    go_simp
  · -- 8
    have wE := hI_.1
    have wZ := hI_.2.1
    have h0 := hI_.2.2.1
    have h1 := hI_.2.2.2.1
    have h2 := hI_.2.2.2.2.1
    have h3 := hI_.2.2.2.2.2.1
    have h4 := hI_.2.2.2.2.2.2.1
    have h5 := hI_.2.2.2.2.2.2.2.1
    have h6 := hI_.2.2.2.2.2.2.2.2.1
    have h7 := hI_.2.2.2.2.2.2.2.2.2.1
    have h8 := hI_.2.2.2.2.2.2.2.2.2.2.1
    have h9 := hI_.2.2.2.2.2.2.2.2.2.2.2.1
    have h10 := hI_.2.2.2.2.2.2.2.2.2.2.2.2
    have hb_ := below_alloc (Below.refl w_.heap.size w_) (.cells #[.slice none 0 0, .slice none 0 0] 116)
    have q_ := blk_lt wE.row
    rw [if_pos (by rfl)]
    go_simp
    exact hK.out _ _ _ rfl ⟨(wE.below hb_), (blk_below wZ hb_), h0, h1, h2, h3, h4, h5, h6, h7, (fun _ _ => ⟨_, rfl, blk_new _ _, q_⟩), h9, h10⟩
  · -- 9
    have wE := hI_.1
    have wZ := hI_.2.1
    have h0 := hI_.2.2.1
    have h1 := hI_.2.2.2.1
    have h2 := hI_.2.2.2.2.1
    have h3 := hI_.2.2.2.2.2.1
    have h4 := hI_.2.2.2.2.2.2.1
    have h5 := hI_.2.2.2.2.2.2.2.1
    have h6 := hI_.2.2.2.2.2.2.2.2.1
    have h7 := hI_.2.2.2.2.2.2.2.2.2.1
    have h8 := hI_.2.2.2.2.2.2.2.2.2.2.1
    have h9 := hI_.2.2.2.2.2.2.2.2.2.2.2.1
    have h10 := hI_.2.2.2.2.2.2.2.2.2.2.2.2
    have e6 := h6 (hd_ 1 6 (by kernel_rfl))
    have e8 := h8 (hd_ 1 8 (by kernel_rfl))
    obtain ⟨g_, e8, hx_, hg_⟩ := h8 (hd_ 1 8 (by kernel_rfl)) hd0_
    obtain ⟨a_, b_, e6, h1_, h2_⟩ := h6 (hd_ 1 6 (by kernel_rfl))
    rw [if_pos (by rfl)]
    refine wp_store_row 116 _ _ rfl g_ #[a_, b_] ?_ ?_ 116 _ hx_ (by kernel_rfl) (by rfl) (by simp [h1_, h2_]) ?_
    · exact e8
    · exact e6
    · exact hK.out _ undef _ rfl ⟨(wE.setx (by have q_ := wE.new; omega) (by omega)), ((setRow_ne _ _ _ _ (by have q_ := GN.out.1; omega)).trans wZ), h0, h1, h2, h3, h4, h5, h6, h7, (fun _ => noT_), (fun _ => trivial), h10⟩
  · -- 10
    have wE := hI_.1
    have wZ := hI_.2.1
    have h0 := hI_.2.2.1
    have h1 := hI_.2.2.2.1
    have h2 := hI_.2.2.2.2.1
    have h3 := hI_.2.2.2.2.2.1
    have h4 := hI_.2.2.2.2.2.2.1
    have h5 := hI_.2.2.2.2.2.2.2.1
    have h6 := hI_.2.2.2.2.2.2.2.2.1
    have h7 := hI_.2.2.2.2.2.2.2.2.2.1
    have h8 := hI_.2.2.2.2.2.2.2.2.2.2.1
    have h9 := hI_.2.2.2.2.2.2.2.2.2.2.2.1
    have h10 := hI_.2.2.2.2.2.2.2.2.2.2.2.2
    have e7 := h7 (hd_ 1 7 (by kernel_rfl))
    have e7 := h7 (hd_ 1 7 (by kernel_rfl))
    refine val_ (w1 := w_) (v := .nilIface) (by rfl) rfl ?_ (hK.out _ _ _ rfl ⟨wE, wZ, h0, h1, h2, h3, h4, h5, h6, h7, h8, h9, (fun _ => rfl)⟩)
    go_simp
  intro dn_ X w7 hdn_ hI_
  clear E0 B0_
  obtain ⟨wE, wZ, h0, h1, h2, h3, h4, h5, h6, h7, h8, h9, h10⟩ := hI_
  have e10_ := h10 (hdn_ 10 (by decide))
  have E0 := Aside0.mk wE
  have B0_ := Aside0.mk wZ
  rw [e10_]
  clear wE wZ h0 h1 h2 h3 h4 h5 h6 h7 h8 h9 h10 e10_ hdn_
  go_wp2_with (first | ((with_reducible refine gate_dst (N := 58) rfl ?_); refine load_part rfl 53 _ rfl g4 0 rfl x.cs 53 x.cs E0.out.row (by rfl) _ Try.underlying53 rfl (by kernel_rfl) ?_) | ((with_reducible refine gate_store (t := 53) (p := 2) rfl ?_); refine wpList_store_row rfl 53 _ _ rfl g0 x.cs rfl rfl 53 _ B0_.out (by kernel_rfl) (by rfl) (h22_one ..) ?_) | fail)
  refine bodyPost_ret (results_list (rs := [.cell 2 53, .tmp 3]) rfl (by simp) (.cell g0 53 x.cs (0, 0) _ rfl (setRow_heap _ _ _ _ _ _ B0_.out) Try.underlying53 rfl (by kernel_rfl) (.tmp .nil))) rfl ?_
  have h4 := E0.out.bel
  have h5 := GN.out.2
  exact ⟨rfl, h4.os, h4.tape, h4.output, by simpa using h4.size, fun q hq => (setRow_ne _ _ _ _ (by omega)).trans (h4.block q hq)⟩
end Go.Proofs.Ytlaaofbmnaekoaa.MWholeClient
