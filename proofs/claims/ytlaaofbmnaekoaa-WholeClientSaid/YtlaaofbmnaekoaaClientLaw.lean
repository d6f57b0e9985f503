/- The law WholeClient (written by gen_client2.py). -/
import Derived.Test.YtlaaofbmnaekoaaClientQuest
namespace Go.Proofs.Ytlaaofbmnaekoaa.MWholeClient
open Go.RowKit Go.Proofs.YtlaaofbmnaekoaaW.PrintWords Go.Proofs.YtlaaofbmnaekoaaW.PrintLast Go.Proofs.YtlaaofbmnaekoaaW.PrintMore Go.Proofs.Ytlaaofbmnaekoaa.Base
set_option linter.unusedVariables false
set_option linter.unusedSimpArgs false

theorem nine32 : B32 9 := ⟨by decide, by decide⟩
theorem load_step {ops : Array Oper} {o : Oper} {a : Act} {Q : Exit → Act → World → Prop} {Kc : Act → World → Prop} {W : World} (hw : Region.wanted o (yielded ops a.tmps) = true) (x : Operand) (ho : o.op = .load 53 x) (g : Nat) (hx : a.eval x = .pointer (some ⟨g, 0, none⟩)) (cs : Array Value) (hr : W.heap[g]? = some (.cells cs 53 (0, 0))) (hz : cs.size = 22) (h : Kc (a.put o.dst (.agg cs)) W) :
    if Region.wanted o (yielded ops a.tmps) = true then Oper.wp Try.prog o a W Kc Q else Kc (a.put o.dst undef) W := by
  rw [if_pos hw]
  unfold Oper.wp execOp
  simp only [ho, hx, load53 hr hz, Sem.run_bind, Sem.run_pure, Result.andThen_ok]
  exact h
set_option maxHeartbeats 16000000 in
set_option maxRecDepth 100000 in
theorem signs_c (w : World) : Calls Try.prog 10 #[] w fun e w' => e = .returned (.bool true) ∧ Below w.heap.size w w' := by
  go_enter Try.func10, Try.ntmps10
  go_upto_region 2 with (first | (go_at_call 15; refine (new_c _).mono ?_; rintro e_ w1 ⟨g, rfl, hx_, hg_, hb_⟩; have HST := Aside0.mk hx_; have B1 := Aside0.mk hb_; clear hx_ hg_ hb_) | (go_at_call 11; refine (question_c _).mono ?_; rintro e_ w2 ⟨ba, c, rfl, hr_, hc_, hb_⟩; have HQ := Aside0.mk hr_; have HCQ := Aside0.mk hc_; have HST := Aside0.mk (blk_below HST.out hb_); have B2 := Aside0.mk (below_step B1.out hb_); clear hr_ hc_ hb_) | (go_at_call 14; refine (reply_q _ g ba c 0 0 9 5 5 z32 nine32 HST.out (rowC (qL_len 0 0 9) HQ.out) HCQ.out (by decide) (by decide) (by decide)).mono ?_; rintro e_ w3 ⟨v_, rfl, hr_, hb_⟩; have HV := Aside0.mk hr_; have B3 := Aside0.mk (below_step B2.out hb_); clear hr_ hb_) | fail)
  obtain ⟨bb, d, hv_, _⟩ := Kd.R_form HV.out (by rw [aL_len]; omega)
  rw [aL_len] at hv_
  obtain rfl := hv_
  have HD := Aside0.mk (show 48 ≤ d from by have q_ := (Kd.R_reads' HV.out).2.1; exact q_)
  have z0 := (Kd.R_cell (enc := Value.int .u8) (h1 := fun _ => rfl) (0 : Int) (by have q_ := HV.out; rw [show (48 : Nat) = (aL 0 0 9 (SA 5) (SB 5) (SA 5) (SB 5)).length from (aL_len ..).symm] at q_; exact q_) 0 (by omega) (by rw [aL_len]; omega)).1
  have z0_ : w3.cell? ⟨bb, 0, none⟩ = some (.int .u8 228) := z0
  clear z0
  go_wp2_with (first | (go_at_call 11; refine (question_c _).mono ?_; rintro e_ w4 ⟨bc, c4, rfl, hr_, hc_, hb_⟩; have HQ4 := Aside0.mk hr_; have HC4 := Aside0.mk hc_; have HV4 := Aside0.mk (Kd.R_below HV.out hb_); have B4 := Aside0.mk (below_step B3.out hb_); clear hr_ hc_ hb_) | (go_at_call 23; refine (match_c _ bc c4 bb d (qH 0 0 9) (aH 0 0 9 (SA 5) (SB 5) (SA 5) (SB 5)) rfl rfl rfl rfl rfl rfl (fun W hW => ask_q _ bc c4 0 0 9 z32 nine32 (rowC (qL_len 0 0 9) HQ4.out) HC4.out W hW) (fun W hW => a_parse _ bb d 0 0 9 (SA 5) (SB 5) (SA 5) (SB 5) z32 nine32 (SA_32 _) (SB_32 _) (SA_32 _) (SB_32 _) (rowC (aL_len ..) HV4.out) HD.out W hW)).mono ?_; rintro e_ w5 ⟨rfl, hb_⟩; have B5 := Aside0.mk (below_step B4.out hb_); clear hb_) | fail)
  go_ret
  exact ⟨rfl, B5.out⟩
set_option maxHeartbeats 16000000 in
set_option maxRecDepth 100000 in
theorem client_c (w : World) (t0 t1 t2 p rdg : Int) (h0 : 0 ≤ t0 ∧ t0 < 4294967296) (h1 : 0 ≤ t1 ∧ t1 < 4294967296) (h2 : 0 ≤ t2 ∧ t2 < 4294967296) (hp : 0 ≤ p ∧ p ≤ 255) (hrd : 0 ≤ rdg ∧ rdg < 18446744073709551616) :
    Calls Try.prog 4 #[.agg #[.int .u32 t0, .int .u32 t1, .int .u32 t2], .int .u8 p, .int .u64 rdg] w fun e w' => e = .returned (.bool true) ∧ Below w.heap.size w w' := by
  obtain ⟨o, ho⟩ : ∃ o, rdg / 2 = o := ⟨_, rfl⟩
  obtain ⟨came, hcame⟩ : ∃ x, o + t0 = x := ⟨_, rfl⟩
  obtain ⟨goes, hgoes⟩ : ∃ x, came + t1 = x := ⟨_, rfl⟩
  obtain ⟨en, hen⟩ : ∃ x, goes + t2 = x := ⟨_, rfl⟩
  have BD := Aside0.mk (show 0 ≤ o ∧ o ≤ came ∧ came ≤ goes ∧ goes ≤ en ∧ en ≤ o + 12884901888 ∧ en < 18446744073709551616 from by omega)
  have m1 : came % 18446744073709551616 = came := by omega
  have m2 : goes % 18446744073709551616 = goes := by omega
  have m3 : en % 18446744073709551616 = en := by omega
  have m4 : t0 % 18446744073709551616 = t0 := by omega
  have m5 : t1 % 18446744073709551616 = t1 := by omega
  have m6 : t2 % 18446744073709551616 = t2 := by omega
  have HP := Aside0.mk hp
  clear h0 h1 h2 hp hrd
  go_enter Try.func4, Try.ntmps4
  go_upto_region 4 with (first | ((with_reducible refine gate_dst (N := 3) rfl ?_); refine box_event ?hg (N := 3) ?hd (cs := #[.int .u32 t0, .int .u32 t1, .int .u32 t2]) (t := 36) ?hr ?_; (case hd => rfl); (case hg => rfl); (case hr => go_simp; try rfl); intro gt hg_ wt hx_ hb_; have Gt := Aside0.mk hg_; have Ht := Aside0.mk hb_; have Bt := Aside0.mk hx_; clear hg_ hx_ hb_; skip) | (go_at_call 10; refine (signs_c _).mono ?_; rintro e_ w1 ⟨rfl, hb_⟩; have B1 := Aside0.mk (below_step Ht.out hb_); have BT := Aside0.mk (blk_below Bt.out hb_); clear hb_) | fail)
  have y0 := (blk_cell BT.out 0).trans (show (#[.int .u32 t0, .int .u32 t1, .int .u32 t2] : Array Value)[0]? = some (.int .u32 t0) from rfl)
  have y1 := (blk_cell BT.out 1).trans (show (#[.int .u32 t0, .int .u32 t1, .int .u32 t2] : Array Value)[1]? = some (.int .u32 t1) from rfl)
  have y2 := (blk_cell BT.out 2).trans (show (#[.int .u32 t0, .int .u32 t1, .int .u32 t2] : Array Value)[2]? = some (.int .u32 t2) from rfl)
  go_upto_region 8 with (first | (go_at_call 11; refine (question_c _).mono ?_; rintro e_ w2 ⟨ba, c, rfl, hr_, hc_, hb_⟩; have HQ := Aside0.mk hr_; have HCQ := Aside0.mk hc_; have B2 := Aside0.mk hb_; clear hr_ hc_ hb_) | fail)
  clear y0 y1 y2 ho hcame hgoes hen m1 m2 m3 m4 m5 m6
  obtain ⟨n1, k1⟩ := stamp_is o ⟨BD.out.1, by have q_ := BD.out; omega⟩
  obtain ⟨n2, k2⟩ := two_put (SA_32 o) (SB_32 o)
  have HK1 := Aside0.mk (k1 (n1 + n2) (by omega))
  have HK2 := Aside0.mk (k2 (n1 + n2) (by omega))
  clear k1 k2
  have q40 : ((40 : Int) ≤ 48) = True := eq_true (by decide)
  have qc1 : (c = 40) = False := eq_false (by have q_ := HCQ.out; omega)
  have qc2 : (48 ≤ c) = True := eq_true HCQ.out
  have qc3 : ((48 : Int) ≤ (c : Int)) = True := eq_true (by have q_ := HCQ.out; omega)
  have BGE := Aside0.mk (show w1.heap.size ≤ ba from Kd.R_base HQ.out ba rfl)
  refine region_inv (T := ?T8) [some 38, some 39, some 40, some 41, some 42, some 43] ?hT8 (fun dn_ X w_ => Below w1.heap.size w1 w_ ∧ (dn_ 5 = false → Kd.R (Kd.int .u8) 5 w_ w1.heap.size (fun _ => True) (.slice (some ⟨ba, 0, none⟩) 48 c) (qL 0 0 9)) ∧ (dn_ 0 = true → X 0 = .slice (some ⟨ba, 0, none⟩) 48 c) ∧ (dn_ 1 = true → X 1 = .slice (some ⟨ba, 40, none⟩) 8 (c - 40)) ∧ (dn_ 2 = true → X 2 = .int .u64 o) ∧ (dn_ 3 = true → X 3 = .agg #[.int .u32 (SA o), .int .u32 (SB o)]) ∧ (dn_ 4 = true → (dn_ 5 = false → ∃ A_ c_, X 4 = .slice A_ 8 c_ ∧ Kd.C (Kd.int .u8) w_ A_ (BE 4 (SA o) ++ BE 4 (SB o)).length (BE 4 (SA o) ++ BE 4 (SB o)))) ∧ (dn_ 5 = true → (Kd.R (Kd.int .u8) 5 w_ w1.heap.size (fun _ => True) (.slice (some ⟨ba, 0, none⟩) 48 c) (sets (qL 0 0 9) 40 (BE 4 (SA o) ++ BE 4 (SB o)))))) (by kernel_rfl) (by kernel_rfl) (by rfl) [0, 1, 2, 3, 4, 5] rfl (.cons (some 38) rfl rfl (fun dn_ X w_ hd0_ hd_ hI_ K hK => ?_) (.cons (some 39) rfl rfl (fun dn_ X w_ hd0_ hd_ hI_ K hK => ?_) (.cons (some 40) rfl rfl (fun dn_ X w_ hd0_ hd_ hI_ K hK => ?_) (.cons (some 41) rfl rfl (fun dn_ X w_ hd0_ hd_ hI_ K hK => ?_) (.cons (some 42) rfl rfl (fun dn_ X w_ hd0_ hd_ hI_ K hK => ?_) (.cons (some 43) rfl rfl (fun dn_ X w_ hd0_ hd_ hI_ K hK => ?_) .nil)))))) ?h08 ?hend8
  case hT8 =>
    intro X
    simp only [fill, Act.put, List.setIfInBounds_toArray, List.set_cons_zero, List.set_cons_succ, Nat.zero_add, Nat.reduceAdd]
    rfl
  case h08 =>
    exact ⟨below_step B2.out (below_drew (Below.refl _ _)), fun _ => Kd.R_below HQ.out (below_drew (Below.refl _ _)), noF_, noF_, noF_, noF_, noF_, noF_⟩
  · -- 0
    refine val_ (w1 := w_) (v := .slice (some ⟨ba, 0, none⟩) 48 c) (by rfl) rfl ?_ (hK.out _ _ _ rfl ⟨hI_.1, hI_.2.1, (fun _ => rfl), hI_.2.2.2.1, hI_.2.2.2.2.1, hI_.2.2.2.2.2.1, hI_.2.2.2.2.2.2.1, hI_.2.2.2.2.2.2.2⟩)
    go_simp
    all_goals (first | decide | rfl)
  · -- 1
    have e0 := hI_.2.2.1 (hd_ 1 0 (by kernel_rfl))
    refine val_ (w1 := w_) (v := .slice (some ⟨ba, 40, none⟩) 8 (c - 40)) (by rfl) rfl ?_ (hK.out _ _ _ rfl ⟨hI_.1, hI_.2.1, hI_.2.2.1, (fun _ => rfl), hI_.2.2.2.2.1, hI_.2.2.2.2.2.1, hI_.2.2.2.2.2.2.1, hI_.2.2.2.2.2.2.2⟩)
    go_simp
    all_goals (first | decide | rfl)
  · -- 2
    refine val_ (w1 := w_) (v := .int .u64 o) (by rfl) rfl ?_ (hK.out _ _ _ rfl ⟨hI_.1, hI_.2.1, hI_.2.2.1, hI_.2.2.2.1, (fun _ => rfl), hI_.2.2.2.2.2.1, hI_.2.2.2.2.2.2.1, hI_.2.2.2.2.2.2.2⟩)
    go_simp
    all_goals (first | decide | rfl)
  · -- 3
    have wB := hI_.1
    have hR := hI_.2.1
    have h0 := hI_.2.2.1
    have h1 := hI_.2.2.2.1
    have h2 := hI_.2.2.2.2.1
    have h3 := hI_.2.2.2.2.2.1
    have h4 := hI_.2.2.2.2.2.2.1
    have h5 := hI_.2.2.2.2.2.2.2
    have e2 := h2 (hd_ 1 2 (by kernel_rfl))
    refine goes_ Try.func13 (by kernel_rfl) rfl #[X 2] (by rfl) rfl rfl (by simp only [List.map_toArray, List.map_cons, List.map_nil]; rfl) ?_
    refine calls_args (args1 e2) ?_
    refine (steady_Stamp.calls (n1 + n2) o (SA o) (SB o) w_ HK1.out).mono ?_
    rintro e_ w' ⟨rfl, hb_⟩
    exact ⟨_, rfl, hK.out _ _ _ rfl ⟨(below_step wB hb_), (fun q_ => Kd.R_below (hR q_) hb_), h0, h1, h2, (fun _ => rfl), (fun d_ q_ => let ⟨A_, c_, x_, y_⟩ := h4 d_ q_; ⟨A_, c_, x_, Kd.C_below y_ hb_⟩), (fun d_ => Kd.R_below (h5 d_) hb_)⟩⟩
  · -- 4
    have wB := hI_.1
    have hR := hI_.2.1
    have h0 := hI_.2.2.1
    have h1 := hI_.2.2.2.1
    have h2 := hI_.2.2.2.2.1
    have h3 := hI_.2.2.2.2.2.1
    have h4 := hI_.2.2.2.2.2.2.1
    have h5 := hI_.2.2.2.2.2.2.2
    have e3 := h3 (hd_ 1 3 (by kernel_rfl))
    refine goes_ Try.func12 (by kernel_rfl) rfl #[X 3] (by rfl) rfl rfl (by simp only [List.map_toArray, List.map_cons, List.map_nil]; rfl) ?_
    refine calls_args (args1 e3) ?_
    refine (stamp_Bytes.calls (n1 + n2) (SA o) (SB o) (BE 4 (SA o) ++ BE 4 (SB o)) w_ HK2.out).mono ?_
    rintro e_ w' ⟨v_, rfl, hr_, hb_⟩
    obtain ⟨A_, c_, rfl⟩ := Kd.R_slice hr_
    have hc_ := (Kd.R_reads' hr_).2.2
    exact ⟨_, rfl, hK.out _ _ _ rfl ⟨(below_step wB hb_), (fun q_ => Kd.R_below (hR q_) hb_), h0, h1, h2, h3, (fun _ _ => ⟨A_, c_, congrArg (fun n_ => Value.slice A_ n_ c_) (two_len _ _), hc_⟩), (fun d_ => Kd.R_below (h5 d_) hb_)⟩⟩
  · -- 5
    have wB := hI_.1
    have hR := hI_.2.1
    have h0 := hI_.2.2.1
    have h1 := hI_.2.2.2.1
    have h2 := hI_.2.2.2.2.1
    have h3 := hI_.2.2.2.2.2.1
    have h4 := hI_.2.2.2.2.2.2.1
    have h5 := hI_.2.2.2.2.2.2.2
    have e1 := h1 (hd_ 1 1 (by kernel_rfl))
    have e4 := h4 (hd_ 1 4 (by kernel_rfl))
    have hz_ : dn_ 5 = false := hd0_
    obtain ⟨A_, c_, e4, hc_⟩ := h4 (hd_ 1 4 (by kernel_rfl)) hz_
    refine copy_step (by rfl) _ _ rfl rfl (v := .slice (some ⟨ba, 40, none⟩) 8 (c - 40)) (u := .slice A_ 8 c_) ?_ ?_ (copy8 w_ ba c _ (qL 0 0 9) (qL_len 0 0 9) (hR hz_) A_ c_ _ hc_ (two_len _ _)) ?_
    · exact e1
    · exact e4
    have hn_ := R_sets (BE 4 (SA o) ++ BE 4 (SB o)) 40 w_ (qL 0 0 9) (qL_len 0 0 9) (hR hz_)
    have hb_ := below_sets wB BGE.out ((BE 4 (SA o) ++ BE 4 (SB o)).map (Value.int .u8)) 40
    exact hK.out _ _ _ rfl ⟨hb_, noT_, h0, h1, h2, h3, (fun _ => noT_), (fun _ => hn_)⟩
  intro dn_ X w3 hdn_ hI_
  clear HQ B2
  obtain ⟨wB, hR, h0, h1, h2, h3, h4, h5⟩ := hI_
  have HQ := Aside0.mk (h5 (hdn_ 5 (by decide)))
  have B3 := Aside0.mk wB
  clear wB hR h0 h1 h2 h3 h4 h5 hdn_
  have sl_ : (sets (qL 0 0 9) 40 (BE 4 (SA o) ++ BE 4 (SB o))) = qL 0 (SA o) (SB o) := by unfold qL; simp only [BE4]; rfl
  rw [sl_] at HQ
  clear sl_ q40 qc1 qc2 qc3
  have z2 := Kd.R_cell (enc := Value.int .u8) (h1 := fun _ => rfl) (0 : Int) (by have q_ := HQ.out; rw [show (48 : Nat) = (qL 0 (SA o) (SB o)).length from (qL_len ..).symm] at q_; exact q_) 2 (by omega) (by rw [qL_len]; omega)
  have y2 : w3.cell? ⟨ba, 2, none⟩ = some (.int .u8 (rdOf (0 : Int) (qL 0 (SA o) (SB o)) 2)) := z2.1
  have f2 : w3.frozen? ⟨ba, 2, none⟩ = false := z2.2
  clear z2
  go_upto_region 10 with (fail)
  clear y2 f2
  have HQ2 := Aside0.mk (R_sets [p] 2 w3 (qL 0 (SA o) (SB o)) (qL_len _ _ _) HQ.out)
  have B4 := Aside0.mk (below_sets B3.out BGE.out ([p].map (Value.int .u8)) 2)
  have sl_ : (sets (qL 0 (SA o) (SB o)) 2 [p]) = qL p (SA o) (SB o) := rfl
  rw [sl_] at HQ2
  clear sl_ HQ B3
  have ew_ : w3.setCell ⟨ba, 2, none⟩ (.int .u8 p) = w3.setCells ba 2 ([p].map (Value.int .u8)) := rfl
  rw [ew_]
  generalize w3.setCells ba 2 ([p].map (Value.int .u8)) = w4 at HQ2 B4 ⊢
  clear ew_
  go_upto_region 11 with (first | (go_at_call 15; refine (new_c _).mono ?_; rintro e_ w5 ⟨g, rfl, hx_, hg_, hb_⟩; have HST := Aside0.mk hx_; have HQ3 := Aside0.mk (Kd.R_below HQ2.out hb_); have B5 := Aside0.mk (below_step B4.out hb_); clear hx_ hg_ hb_) | (go_at_call 14; refine (reply_q _ g ba c p (SA o) (SB o) came goes (SA_32 _) (SB_32 _) HST.out (rowC (qL_len ..) HQ3.out) HCQ.out (by have q_ := BD.out; omega) BD.out.2.2.1 (by have q_ := BD.out; omega)).mono ?_; rintro e_ w6 ⟨v_, rfl, hr_, hb_⟩; have HV := Aside0.mk hr_; have B6 := Aside0.mk (below_step B5.out hb_); clear hr_ hb_) | fail)
  obtain ⟨bb, d, hv_, _⟩ := Kd.R_form HV.out (by rw [aL_len]; omega)
  rw [aL_len] at hv_
  obtain rfl := hv_
  have HD := Aside0.mk (show 48 ≤ d from by have q_ := (Kd.R_reads' HV.out).2.1; exact q_)
  go_wp2_with (first | (go_at_call 16; refine (a_parse _ bb d p (SA o) (SB o) (SA came) (SB came) (SA goes) (SB goes) (SA_32 _) (SB_32 _) (SA_32 _) (SB_32 _) (SA_32 _) (SB_32 _) (rowC (aL_len ..) HV.out) HD.out _ (Below.refl _ _)).mono ?_; rintro e_ w7 ⟨rfl, hb_⟩; have B7 := Aside0.mk (below_step B6.out hb_); clear hb_) | ((with_reducible refine gate_dst (N := 14) rfl ?_); refine box_event ?hg (N := 14) ?hd (cs := Z22) (t := 53) ?hr ?_; (case hd => rfl); (case hg => rfl); (case hr => go_simp; try rfl); intro gh hg_ wh hx_ hb_; have Gh := Aside0.mk hg_; have Hh := Aside0.mk hb_; have Bh := Aside0.mk hx_; clear hg_ hx_ hb_; refine halt_ ?_) | fail)
  unfold Halted
  try apply_assumption
  refine wpList_store_row rfl 53 _ _ rfl gh (aH p (SA o) (SB o) (SA came) (SB came) (SA goes) (SB goes)).cs rfl rfl 53 _ Bh.out (by kernel_rfl) (by rfl) (h22_one ..) ?_
  have E0 := Aside0.mk ((PH.start B7.out Hh.out Gh.out Bh.out).set (aH p (SA o) (SB o) (SA came) (SB came) (SA goes) (SB goes)).cs)
  clear B7 Hh Gh Bh
  generalize wh.setRow gh (aH p (SA o) (SB o) (SA came) (SB came) (SA goes) (SB goes)).cs = w8 at E0 ⊢
  go_wp2_with (fail)
  obtain ⟨n3, k3⟩ := stamp_is en ⟨by have q_ := BD.out; omega, BD.out.2.2.2.2.2⟩
  have HK3 := Aside0.mk (k3 n3 (by omega))
  clear k3
  obtain ⟨off, dl, hrd, d0, d1, d2, d3⟩ := round_is o came goes en BD.out.1 BD.out.2.1 BD.out.2.2.1 BD.out.2.2.2.1 BD.out.2.2.2.2.1 3 4 4 16 (IntKind.i8.wrap p) (-20) 0 0 0 655 76 79 67 76 (SA came) 0
  have HRD := Aside0.mk hrd
  have DD := Aside0.mk (And.intro d0 (And.intro d1 (And.intro d2 d3)))
  clear hrd d0 d1 d2 d3
  refine region_inv (T := ?T14) [some 67, some 68, some 69, some 70, some 66, some 71, some 72, some 16, some 17] ?hT14 (fun dn_ X w_ => PH 53 w1 gh (aH p (SA o) (SB o) (SA came) (SB came) (SA goes) (SB goes)).cs w_ ∧ (dn_ 0 = true → X 0 = .agg (aH p (SA o) (SB o) (SA came) (SB came) (SA goes) (SB goes)).cs) ∧ (dn_ 1 = true → X 1 = .int .u64 en) ∧ (dn_ 2 = true → X 2 = .agg #[.int .u32 (SA en), .int .u32 (SB en)]) ∧ (dn_ 3 = true → X 3 = .tuple #[.int .i64 off, .int .i64 dl]) ∧ (dn_ 4 = true → X 4 = .tuple #[.int .i64 off, .int .i64 dl]) ∧ (dn_ 5 = true → X 5 = .int .i64 off) ∧ (dn_ 6 = true → X 6 = .int .i64 dl) ∧ (dn_ 7 = true → X 7 = .int .i64 off) ∧ (dn_ 8 = true → X 8 = .int .i64 dl)) (by kernel_rfl) (by kernel_rfl) (by rfl) [0, 1, 2, 3, 4, 5, 6, 7, 8] rfl (.cons (some 67) rfl rfl (fun dn_ X w_ hd0_ hd_ hI_ K hK => ?_) (.cons (some 68) rfl rfl (fun dn_ X w_ hd0_ hd_ hI_ K hK => ?_) (.cons (some 69) rfl rfl (fun dn_ X w_ hd0_ hd_ hI_ K hK => ?_) (.cons (some 70) rfl rfl (fun dn_ X w_ hd0_ hd_ hI_ K hK => ?_) (.cons (some 66) rfl rfl (fun dn_ X w_ hd0_ hd_ hI_ K hK => ?_) (.cons (some 71) rfl rfl (fun dn_ X w_ hd0_ hd_ hI_ K hK => ?_) (.cons (some 72) rfl rfl (fun dn_ X w_ hd0_ hd_ hI_ K hK => ?_) (.cons (some 16) rfl rfl (fun dn_ X w_ hd0_ hd_ hI_ K hK => ?_) (.cons (some 17) rfl rfl (fun dn_ X w_ hd0_ hd_ hI_ K hK => ?_) .nil))))))))) ?h014 ?hend14
  case hT14 =>
    intro X
    simp only [fill, Act.put, List.setIfInBounds_toArray, List.set_cons_zero, List.set_cons_succ, Nat.zero_add, Nat.reduceAdd]
    rfl
  case h014 =>
    exact ⟨E0.out.below (below_drew (Below.refl _ _)), noF_, noF_, noF_, noF_, noF_, noF_, noF_, noF_, noF_⟩
  · -- 0
    have wE := hI_.1
    have h0 := hI_.2.1
    have h1 := hI_.2.2.1
    have h2 := hI_.2.2.2.1
    have h3 := hI_.2.2.2.2.1
    have h4 := hI_.2.2.2.2.2.1
    have h5 := hI_.2.2.2.2.2.2.1
    have h6 := hI_.2.2.2.2.2.2.2.1
    have h7 := hI_.2.2.2.2.2.2.2.2.1
    have h8 := hI_.2.2.2.2.2.2.2.2.2
    exact load_step (by rfl) _ rfl gh rfl (aH p (SA o) (SB o) (SA came) (SB came) (SA goes) (SB goes)).cs wE.row rfl (hK.out _ _ _ rfl ⟨wE, (fun _ => rfl), h1, h2, h3, h4, h5, h6, h7, h8⟩)
  · -- 1
    refine val_ (w1 := w_) (v := .int .u64 en) (by rfl) rfl ?_ (hK.out _ _ _ rfl ⟨hI_.1, hI_.2.1, (fun _ => rfl), hI_.2.2.2.1, hI_.2.2.2.2.1, hI_.2.2.2.2.2.1, hI_.2.2.2.2.2.2.1, hI_.2.2.2.2.2.2.2.1, hI_.2.2.2.2.2.2.2.2.1, hI_.2.2.2.2.2.2.2.2.2⟩)
    go_simp
    all_goals (first | decide | rfl)
  · -- 2
    have wE := hI_.1
    have h0 := hI_.2.1
    have h1 := hI_.2.2.1
    have h2 := hI_.2.2.2.1
    have h3 := hI_.2.2.2.2.1
    have h4 := hI_.2.2.2.2.2.1
    have h5 := hI_.2.2.2.2.2.2.1
    have h6 := hI_.2.2.2.2.2.2.2.1
    have h7 := hI_.2.2.2.2.2.2.2.2.1
    have h8 := hI_.2.2.2.2.2.2.2.2.2
    have e1 := h1 (hd_ 1 1 (by kernel_rfl))
    refine goes_ Try.func13 (by kernel_rfl) rfl #[X 1] (by rfl) rfl rfl (by simp only [List.map_toArray, List.map_cons, List.map_nil]; rfl) ?_
    refine calls_args (args1 e1) ?_
    refine (steady_Stamp.calls n3 en (SA en) (SB en) w_ HK3.out).mono ?_
    rintro e_ w' ⟨rfl, hb_⟩
    exact ⟨_, rfl, hK.out _ _ _ rfl ⟨(wE.below hb_), h0, h1, (fun _ => rfl), h3, h4, h5, h6, h7, h8⟩⟩
  · -- 3
    have wE := hI_.1
    have h0 := hI_.2.1
    have h1 := hI_.2.2.1
    have h2 := hI_.2.2.2.1
    have h3 := hI_.2.2.2.2.1
    have h4 := hI_.2.2.2.2.2.1
    have h5 := hI_.2.2.2.2.2.2.1
    have h6 := hI_.2.2.2.2.2.2.2.1
    have h7 := hI_.2.2.2.2.2.2.2.2.1
    have h8 := hI_.2.2.2.2.2.2.2.2.2
    have e0 := h0 (hd_ 1 0 (by kernel_rfl))
    have e2 := h2 (hd_ 1 2 (by kernel_rfl))
    refine goes_ Try.func17 (by kernel_rfl) rfl #[X 0, X 2] (by rfl) rfl rfl (by simp only [List.map_toArray, List.map_cons, List.map_nil]; rfl) ?_
    refine calls_args (args2 e0 e2) ?_
    refine (head_Round.calls 3 4 4 16 (IntKind.i8.wrap p) (-20) 0 0 0 655 76 79 67 76 (SA came) 0 (SA o) (SB o) (SA came) (SB came) (SA goes) (SB goes) (SA en) (SB en) off dl w_ HRD.out).mono ?_
    rintro e_ w' ⟨rfl, hb_⟩
    exact ⟨_, rfl, hK.out _ _ _ rfl ⟨(wE.below hb_), h0, h1, h2, (fun _ => rfl), h4, h5, h6, h7, h8⟩⟩
  · -- 4
    have e3 := hI_.2.2.2.2.1 (hd_ 1 3 (by kernel_rfl))
    refine val_ (w1 := w_) (v := .tuple #[.int .i64 off, .int .i64 dl]) (by rfl) rfl ?_ (hK.out _ _ _ rfl ⟨hI_.1, hI_.2.1, hI_.2.2.1, hI_.2.2.2.1, hI_.2.2.2.2.1, (fun _ => rfl), hI_.2.2.2.2.2.2.1, hI_.2.2.2.2.2.2.2.1, hI_.2.2.2.2.2.2.2.2.1, hI_.2.2.2.2.2.2.2.2.2⟩)
    go_simp
    all_goals (first | decide | rfl)
  · -- 5
    have e4 := hI_.2.2.2.2.2.1 (hd_ 1 4 (by kernel_rfl))
    refine val_ (w1 := w_) (v := .int .i64 off) (by rfl) rfl ?_ (hK.out _ _ _ rfl ⟨hI_.1, hI_.2.1, hI_.2.2.1, hI_.2.2.2.1, hI_.2.2.2.2.1, hI_.2.2.2.2.2.1, (fun _ => rfl), hI_.2.2.2.2.2.2.2.1, hI_.2.2.2.2.2.2.2.2.1, hI_.2.2.2.2.2.2.2.2.2⟩)
    go_simp
    all_goals (first | decide | rfl)
  · -- 6
    have e4 := hI_.2.2.2.2.2.1 (hd_ 1 4 (by kernel_rfl))
    refine val_ (w1 := w_) (v := .int .i64 dl) (by rfl) rfl ?_ (hK.out _ _ _ rfl ⟨hI_.1, hI_.2.1, hI_.2.2.1, hI_.2.2.2.1, hI_.2.2.2.2.1, hI_.2.2.2.2.2.1, hI_.2.2.2.2.2.2.1, (fun _ => rfl), hI_.2.2.2.2.2.2.2.2.1, hI_.2.2.2.2.2.2.2.2.2⟩)
    go_simp
    all_goals (first | decide | rfl)
  · -- 7
    have e5 := hI_.2.2.2.2.2.2.1 (hd_ 1 5 (by kernel_rfl))
    refine val_ (w1 := w_) (v := .int .i64 off) (by rfl) rfl ?_ (hK.out _ _ _ rfl ⟨hI_.1, hI_.2.1, hI_.2.2.1, hI_.2.2.2.1, hI_.2.2.2.2.1, hI_.2.2.2.2.2.1, hI_.2.2.2.2.2.2.1, hI_.2.2.2.2.2.2.2.1, (fun _ => rfl), hI_.2.2.2.2.2.2.2.2.2⟩)
    go_simp
    all_goals (first | decide | rfl)
  · -- 8
    have e6 := hI_.2.2.2.2.2.2.2.1 (hd_ 1 6 (by kernel_rfl))
    refine val_ (w1 := w_) (v := .int .i64 dl) (by rfl) rfl ?_ (hK.out _ _ _ rfl ⟨hI_.1, hI_.2.1, hI_.2.2.1, hI_.2.2.2.1, hI_.2.2.2.2.1, hI_.2.2.2.2.2.1, hI_.2.2.2.2.2.2.1, hI_.2.2.2.2.2.2.2.1, hI_.2.2.2.2.2.2.2.2.1, (fun _ => rfl)⟩)
    go_simp
    all_goals (first | decide | rfl)
  intro dn_ X w9 hdn_ hI_
  clear E0
  obtain ⟨wE, h0, h1, h2, h3, h4, h5, h6, h7, h8⟩ := hI_
  have e7_ := h7 (hdn_ 7 (by decide))
  have e8_ := h8 (hdn_ 8 (by decide))
  have E0 := Aside0.mk wE
  rw [e7_, e8_]
  clear wE h0 h1 h2 h3 h4 h5 h6 h7 h8 e7_ e8_ hdn_
  have u1 : (0 ≤ dl) = True := eq_true DD.out.1
  have u1b : decide (0 ≤ dl) = true := decide_eq_true DD.out.1
  have u2 : wrap64 (2 * off) = 2 * off := wr (by have q_ := DD.out; omega)
  have u3 : wrap64 (dl + 1) = dl + 1 := wr (by have q_ := DD.out; omega)
  have u4 : wrap64 (-dl) = -dl := wr (by have q_ := DD.out; omega)
  have u5 : wrap64 (-dl - 1) = -dl - 1 := wr (by have q_ := DD.out; omega)
  have u6 : (2 * off ≤ dl + 1) = True := eq_true (by have q_ := DD.out; omega)
  have u6b : decide (2 * off ≤ dl + 1) = true := decide_eq_true (by have q_ := DD.out; omega)
  have u7 : (-dl - 1 ≤ 2 * off) = True := eq_true (by have q_ := DD.out; omega)
  have u7b : decide (-dl - 1 ≤ 2 * off) = true := decide_eq_true (by have q_ := DD.out; omega)
  go_wp2_with (fail)
  go_ret
  exact ⟨rfl, below_step B1.out E0.out.bel⟩
end Go.Proofs.Ytlaaofbmnaekoaa.MWholeClient
