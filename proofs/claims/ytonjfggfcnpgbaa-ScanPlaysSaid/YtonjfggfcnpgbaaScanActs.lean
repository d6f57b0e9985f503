import Derived.Test.YtonjfggfcnpgbaaScanCore
/- An act on a scanner and on the document's, kind by kind: the walks that strings and bytes have alike (written by gen_scact3.py). -/
namespace Go.Proofs.Ytonjfggfcnpgbaa.MScanPlays
open Go.RowKit Go.Proofs.YtonjfggfcnpgbaaW.PrintWords Go.Proofs.YtonjfggfcnpgbaaW.PrintLast Go.Proofs.YtonjfggfcnpgbaaW.PrintMore Go.Proofs.Ytonjfggfcnpgbaa.Base
set_option linter.unusedVariables false
set_option linter.unusedSimpArgs false

set_option linter.unusedVariables false
theorem noF_ {p : Prop} : (false = true → p) := fun h => by cases h
theorem actq0 {p : Prop} (h : p := by
  have HR := Aside0.mk href
  have HA := Aside0.mk hact
  have HM := Aside0.mk hm
  clear href hact hm
  subst hkk
  have z50 := c6_0 E0.out.e5
  have z51 := c6_1 E0.out.e5
  have z52 := c6_2 E0.out.e5
  have z53 := c6_3 E0.out.e5
  have z54 := c6_4 E0.out.e5
  have z55 := c6_5 E0.out.e5
  go_wp2_with (first | ((with_reducible refine gate_dst (N := 35) rfl ?_); refine wpList_load_row rfl 31 _ rfl b4 rfl 31 _ (0, 0) _ E0.out.e4 Try.underlying31 rfl (by kernel_rfl) ?_) | (go_at_call 32; refine (HR.out _ E0.out.kp).mono ?_; rintro e_ w2 ⟨rfl, hb_⟩; have E0 := Aside0.mk (E0.out.below hb_); clear hb_; have z50 := c6_0 E0.out.e5; have z51 := c6_1 E0.out.e5; have z52 := c6_2 E0.out.e5; have z53 := c6_3 E0.out.e5; have z54 := c6_4 E0.out.e5; have z55 := c6_5 E0.out.e5) | ((with_reducible refine gate_dst (N := 10) rfl ?_); refine box_event ?hg (N := 10) ?hd (cs := #[.string ⟨#[]⟩, .int .i64 0, .int .i64 0]) (t := 31) ?hr ?_; (case hd => rfl); (case hg => rfl); (case hr => go_simp; try rfl); intro gx hgx_ wx hx_ hb_; have GX := Aside0.mk hgx_; have HX := Aside0.mk hb_; have BX := Aside0.mk hx_; have GG := Aside0.mk (show gx ≠ g ∧ gx ≠ b4 from by (have a_ := blk_lt E0.out.is.1; have b_ := blk_lt E0.out.e4; omega)); have y0_ := (blk_cell hx_ 0).trans rfl; have y1_ := (blk_cell hx_ 1).trans rfl; have y2_ := (blk_cell hx_ 2).trans rfl; have f0_ := blk_frozen hx_ 0; have f1_ := blk_frozen hx_ 1; have f2_ := blk_frozen hx_ 2; clear hgx_ hb_ hx_) | fail)
  rw [set3 BX.out]
  have E0 := Aside0.mk (E0.out.setx HX.out gx GX.out (R3 tm jm' qm'))
  have BX := Aside0.mk (setRow_heap _ _ _ (R3 tm jm' qm') _ _ BX.out)
  rw [show wx.setRow gx #[.string tm, .int .i64 jm', .int .i64 qm'] = wx.setRow gx (R3 tm jm' qm') from rfl]
  generalize wx.setRow gx (R3 tm jm' qm') = wy at E0 BX ⊢
  clear HX GX y0_ y1_ y2_ f0_ f1_ f2_ z50 z51 z52 z53 z54 z55
  refine region_inv (T := ?T7) [some 41, some 42, some 43, some 44, some 45, some 46, some 47, none, some 8] ?hT7 (fun dn_ X w_ => AE T_ w0 w g b4 b5 b6 (C6 kind B wd A n c least most) l (bif dn_ 4 then i' else i) (bif dn_ 4 then e' else e) (bif dn_ 7 then (R3 tm jm' qm') else (R3 tm jm qm)) Z3 w_ ∧ w_.heap[gx]? = some (.cells (R3 tm jm' qm') 31 (0, 0)) ∧ gx ≠ g ∧ gx ≠ b4 ∧ (dn_ 0 = true → X 0 = .agg #[.string tm, .int .i64 jm', .int .i64 qm']) ∧ (dn_ 1 = true → X 1 = .pointer (some ⟨g, 0, none⟩)) ∧ (dn_ 2 = true → X 2 = .pointer (some ⟨b5, 1, none⟩)) ∧ (dn_ 3 = true → X 3 = .int .u8 B) ∧ (dn_ 4 = true → X 4 = .bool sb) ∧ (dn_ 5 = true → X 5 = .bool rb) ∧ (dn_ 6 = true → X 6 = .bool (sb == rb)) ∧ (dn_ 7 = true → True) ∧ (dn_ 8 = true → X 8 = .bool (sb == rb))) (by kernel_rfl) (by kernel_rfl) (by rfl) [0, 1, 2, 3, 4, 5, 6, 7, 8] rfl (.cons (some 41) rfl rfl (fun dn_ X w_ hd0_ hd_ hI_ K hK => ?_) (.cons (some 42) rfl rfl (fun dn_ X w_ hd0_ hd_ hI_ K hK => ?_) (.cons (some 43) rfl rfl (fun dn_ X w_ hd0_ hd_ hI_ K hK => ?_) (.cons (some 44) rfl rfl (fun dn_ X w_ hd0_ hd_ hI_ K hK => ?_) (.cons (some 45) rfl rfl (fun dn_ X w_ hd0_ hd_ hI_ K hK => ?_) (.cons (some 46) rfl rfl (fun dn_ X w_ hd0_ hd_ hI_ K hK => ?_) (.cons (some 47) rfl rfl (fun dn_ X w_ hd0_ hd_ hI_ K hK => ?_) (.cons none rfl rfl (fun dn_ X w_ hd0_ hd_ hI_ K hK => ?_) (.cons (some 8) rfl rfl (fun dn_ X w_ hd0_ hd_ hI_ K hK => ?_) .nil))))))))) ?h07 ?hend7
  case hT7 =>
    intro X
    simp only [fill, Act.put, sl_, Nat.zero_add, Nat.reduceAdd]
    rfl
  case h07 =>
    exact ⟨E0.out.below (below_drew (Below.refl _ _)), blk_below BX.out (below_drew (Below.refl _ _)), GG.out.1, GG.out.2, noF_, noF_, noF_, noF_, noF_, noF_, noF_, noF_, noF_⟩
  · -- 0
    have wX := hI_.2.1
    have z0_ := r3_0 wX
    have z1_ := r3_1 wX
    have z2_ := r3_2 wX
    refine val_ (w1 := w_) (v := .agg #[.string tm, .int .i64 jm', .int .i64 qm']) (by rfl) rfl ?_ (hK.out _ _ _ rfl ⟨hI_.1, hI_.2.1, hI_.2.2.1, hI_.2.2.2.1, (fun _ => rfl), hI_.2.2.2.2.2.1, hI_.2.2.2.2.2.2.1, hI_.2.2.2.2.2.2.2.1, hI_.2.2.2.2.2.2.2.2.1, hI_.2.2.2.2.2.2.2.2.2.1, hI_.2.2.2.2.2.2.2.2.2.2.1, hI_.2.2.2.2.2.2.2.2.2.2.2.1, hI_.2.2.2.2.2.2.2.2.2.2.2.2⟩)
    go_simp
    all_goals (first | decide | rfl)
  · -- 1
    refine val_ (w1 := w_) (v := .pointer (some ⟨g, 0, none⟩)) (by rfl) rfl ?_ (hK.out _ _ _ rfl ⟨hI_.1, hI_.2.1, hI_.2.2.1, hI_.2.2.2.1, hI_.2.2.2.2.1, (fun _ => rfl), hI_.2.2.2.2.2.2.1, hI_.2.2.2.2.2.2.2.1, hI_.2.2.2.2.2.2.2.2.1, hI_.2.2.2.2.2.2.2.2.2.1, hI_.2.2.2.2.2.2.2.2.2.2.1, hI_.2.2.2.2.2.2.2.2.2.2.2.1, hI_.2.2.2.2.2.2.2.2.2.2.2.2⟩)
    go_simp
    all_goals (first | decide | rfl)
  · -- 2
    refine val_ (w1 := w_) (v := .pointer (some ⟨b5, 1, none⟩)) (by rfl) rfl ?_ (hK.out _ _ _ rfl ⟨hI_.1, hI_.2.1, hI_.2.2.1, hI_.2.2.2.1, hI_.2.2.2.2.1, hI_.2.2.2.2.2.1, (fun _ => rfl), hI_.2.2.2.2.2.2.2.1, hI_.2.2.2.2.2.2.2.2.1, hI_.2.2.2.2.2.2.2.2.2.1, hI_.2.2.2.2.2.2.2.2.2.2.1, hI_.2.2.2.2.2.2.2.2.2.2.2.1, hI_.2.2.2.2.2.2.2.2.2.2.2.2⟩)
    go_simp
    all_goals (first | decide | rfl)
  · -- 3
    have wE := hI_.1
    have e2 := hI_.2.2.2.2.2.2.1 (hd_ 1 2 (by kernel_rfl))
    have z0_ := c6_1 wE.e5
    refine val_ (w1 := w_) (v := .int .u8 B) (by rfl) rfl ?_ (hK.out _ _ _ rfl ⟨hI_.1, hI_.2.1, hI_.2.2.1, hI_.2.2.2.1, hI_.2.2.2.2.1, hI_.2.2.2.2.2.1, hI_.2.2.2.2.2.2.1, (fun _ => rfl), hI_.2.2.2.2.2.2.2.2.1, hI_.2.2.2.2.2.2.2.2.2.1, hI_.2.2.2.2.2.2.2.2.2.2.1, hI_.2.2.2.2.2.2.2.2.2.2.2.1, hI_.2.2.2.2.2.2.2.2.2.2.2.2⟩)
    go_simp
    all_goals (first | decide | rfl)
  · -- 4
    have wE := hI_.1
    have wX := hI_.2.1
    have wG := hI_.2.2.1
    have wN := hI_.2.2.2.1
    have h0 := hI_.2.2.2.2.1
    have h1 := hI_.2.2.2.2.2.1
    have h2 := hI_.2.2.2.2.2.2.1
    have h3 := hI_.2.2.2.2.2.2.2.1
    have h4 := hI_.2.2.2.2.2.2.2.2.1
    have h5 := hI_.2.2.2.2.2.2.2.2.2.1
    have h6 := hI_.2.2.2.2.2.2.2.2.2.2.1
    have h7 := hI_.2.2.2.2.2.2.2.2.2.2.2.1
    have h8 := hI_.2.2.2.2.2.2.2.2.2.2.2.2
    have e1 := h1 (hd_ 1 1 (by kernel_rfl))
    have e3 := h3 (hd_ 1 3 (by kernel_rfl))
    have wE0 : AE T_ w0 w g b4 b5 b6 (C6 kind B wd A n c least most) l i e (bif dn_ 7 then (R3 tm jm' qm') else (R3 tm jm qm)) Z3 w_ := by rw [hd0_] at wE; exact wE
    refine goes_ HF_.out (by kernel_rfl) rfl #[X 1, X 3] (by rfl) rfl rfl zq23 ?_
    refine calls_args (args2 e1 e3) ?_
    refine (HA.out w_ wE0.kp wE0.is wE0.bel).mono ?_
    rintro e_ w' ⟨rfl, hi_, hB_, hk_⟩
    have gl_ := wE0.gl
    exact ⟨_, rfl, hK.out _ _ _ rfl ⟨(wE0.call hi_ hB_ hk_), (hk_.blk wX wG (by simp)), wG, wN, h0, h1, h2, h3, (fun _ => rfl), h5, h6, h7, h8⟩⟩
  · -- 5
    refine val_ (w1 := w_) (v := .bool rb) (by rfl) rfl ?_ (hK.out _ _ _ rfl ⟨hI_.1, hI_.2.1, hI_.2.2.1, hI_.2.2.2.1, hI_.2.2.2.2.1, hI_.2.2.2.2.2.1, hI_.2.2.2.2.2.2.1, hI_.2.2.2.2.2.2.2.1, hI_.2.2.2.2.2.2.2.2.1, (fun _ => rfl), hI_.2.2.2.2.2.2.2.2.2.2.1, hI_.2.2.2.2.2.2.2.2.2.2.2.1, hI_.2.2.2.2.2.2.2.2.2.2.2.2⟩)
    go_simp
    all_goals (first | decide | rfl)
  · -- 6
    have e4 := hI_.2.2.2.2.2.2.2.2.1 (hd_ 1 4 (by kernel_rfl))
    have e5 := hI_.2.2.2.2.2.2.2.2.2.1 (hd_ 1 5 (by kernel_rfl))
    refine val_ (w1 := w_) (v := .bool (sb == rb)) (by rfl) rfl ?_ (hK.out _ _ _ rfl ⟨hI_.1, hI_.2.1, hI_.2.2.1, hI_.2.2.2.1, hI_.2.2.2.2.1, hI_.2.2.2.2.2.1, hI_.2.2.2.2.2.2.1, hI_.2.2.2.2.2.2.2.1, hI_.2.2.2.2.2.2.2.2.1, hI_.2.2.2.2.2.2.2.2.2.1, (fun _ => rfl), hI_.2.2.2.2.2.2.2.2.2.2.2.1, hI_.2.2.2.2.2.2.2.2.2.2.2.2⟩)
    go_simp
    all_goals (first | decide | rfl)
  · -- 7
    have wE := hI_.1
    have wX := hI_.2.1
    have wG := hI_.2.2.1
    have wN := hI_.2.2.2.1
    have h0 := hI_.2.2.2.2.1
    have h1 := hI_.2.2.2.2.2.1
    have h2 := hI_.2.2.2.2.2.2.1
    have h3 := hI_.2.2.2.2.2.2.2.1
    have h4 := hI_.2.2.2.2.2.2.2.2.1
    have h5 := hI_.2.2.2.2.2.2.2.2.2.1
    have h6 := hI_.2.2.2.2.2.2.2.2.2.2.1
    have h7 := hI_.2.2.2.2.2.2.2.2.2.2.2.1
    have h8 := hI_.2.2.2.2.2.2.2.2.2.2.2.2
    have e0 := h0 (hd_ 1 0 (by kernel_rfl))
    have dc_ := hd_ 1 4 (by kernel_rfl)
    have wE0 : AE T_ w0 w g b4 b5 b6 (C6 kind B wd A n c least most) l i' e' (R3 tm jm qm) Z3 w_ := by rw [hd0_, dc_] at wE; exact wE
    rw [if_pos (by rfl)]
    refine wp_store_row 31 _ _ rfl b4 (R3 tm jm' qm') rfl ?_ 31 _ wE0.e4 (by kernel_rfl) (by rfl) (one3 _ _ _ _ _) ?_
    · exact e0
    · exact hK.out _ undef _ rfl ⟨(by have q_ := wE0.set4 (R3 tm jm' qm'); have r_ : AE T_ w0 w g b4 b5 b6 (C6 kind B wd A n c least most) l (bif dn_ 4 then i' else i) (bif dn_ 4 then e' else e) (R3 tm jm' qm') Z3 _ := (by rw [dc_]; exact q_); exact r_), ((setRow_ne _ _ _ _ wN).trans wX), wG, wN, h0, h1, h2, h3, h4, h5, h6, (fun _ => trivial), h8⟩
  · -- 8
    have e6 := hI_.2.2.2.2.2.2.2.2.2.2.1 (hd_ 1 6 (by kernel_rfl))
    refine val_ (w1 := w_) (v := .bool (sb == rb)) (by rfl) rfl ?_ (hK.out _ _ _ rfl ⟨hI_.1, hI_.2.1, hI_.2.2.1, hI_.2.2.2.1, hI_.2.2.2.2.1, hI_.2.2.2.2.2.1, hI_.2.2.2.2.2.2.1, hI_.2.2.2.2.2.2.2.1, hI_.2.2.2.2.2.2.2.2.1, hI_.2.2.2.2.2.2.2.2.2.1, hI_.2.2.2.2.2.2.2.2.2.2.1, hI_.2.2.2.2.2.2.2.2.2.2.2.1, (fun _ => rfl)⟩)
    go_simp
    all_goals (first | decide | rfl)
  intro dn_ X w4 hdn_ hI_
  clear E0 BX
  obtain ⟨wE, wX, wG, wN, h0, h1, h2, h3, h4, h5, h6, h7, h8⟩ := hI_
  have e8_ := h8 (hdn_ 8 (by decide))
  rw [hdn_ 4 (by decide), hdn_ 7 (by decide)] at wE
  have E0 := Aside0.mk (show AE T_ w0 w g b4 b5 b6 (C6 kind B wd A n c least most) l i' e' (R3 tm jm' qm') Z3 w4 from wE)
  rw [e8_]
  clear wE wX wG wN h0 h1 h2 h3 h4 h5 h6 h7 h8 e8_ hdn_ HA HR
  go_wp2_with (fail)
  go_meet
  case rel => exact ⟨_, rfl, ⟨fun h_ => by rw [HM.out h_]; simp⟩, E0⟩) : p := h
theorem actq1 {p : Prop} (h : p := by
  have HR := Aside0.mk href
  have HA := Aside0.mk hact
  have HM := Aside0.mk hm
  clear href hact hm
  subst hkk
  have z50 := c6_0 E0.out.e5
  have z51 := c6_1 E0.out.e5
  have z52 := c6_2 E0.out.e5
  have z53 := c6_3 E0.out.e5
  have z54 := c6_4 E0.out.e5
  have z55 := c6_5 E0.out.e5
  go_wp2_with (first | ((with_reducible refine gate_dst (N := 51) rfl ?_); refine wpList_load_row rfl 31 _ rfl b4 rfl 31 _ (0, 0) _ E0.out.e4 Try.underlying31 rfl (by kernel_rfl) ?_) | (go_at_call 33; refine (HR.out _ E0.out.kp).mono ?_; rintro e_ w2 ⟨rfl, hb_⟩; have E0 := Aside0.mk (E0.out.below hb_); clear hb_; have z50 := c6_0 E0.out.e5; have z51 := c6_1 E0.out.e5; have z52 := c6_2 E0.out.e5; have z53 := c6_3 E0.out.e5; have z54 := c6_4 E0.out.e5; have z55 := c6_5 E0.out.e5) | ((with_reducible refine gate_dst (N := 12) rfl ?_); refine box_event ?hg (N := 12) ?hd (cs := #[.string ⟨#[]⟩, .int .i64 0, .int .i64 0]) (t := 31) ?hr ?_; (case hd => rfl); (case hg => rfl); (case hr => go_simp; try rfl); intro gx hgx_ wx hx_ hb_; have GX := Aside0.mk hgx_; have HX := Aside0.mk hb_; have BX := Aside0.mk hx_; have GG := Aside0.mk (show gx ≠ g ∧ gx ≠ b4 from by (have a_ := blk_lt E0.out.is.1; have b_ := blk_lt E0.out.e4; omega)); have y0_ := (blk_cell hx_ 0).trans rfl; have y1_ := (blk_cell hx_ 1).trans rfl; have y2_ := (blk_cell hx_ 2).trans rfl; have f0_ := blk_frozen hx_ 0; have f1_ := blk_frozen hx_ 1; have f2_ := blk_frozen hx_ 2; clear hgx_ hb_ hx_) | fail)
  rw [set3 BX.out]
  have E0 := Aside0.mk (E0.out.setx HX.out gx GX.out (R3 tm jm' qm'))
  have BX := Aside0.mk (setRow_heap _ _ _ (R3 tm jm' qm') _ _ BX.out)
  rw [show wx.setRow gx #[.string tm, .int .i64 jm', .int .i64 qm'] = wx.setRow gx (R3 tm jm' qm') from rfl]
  generalize wx.setRow gx (R3 tm jm' qm') = wy at E0 BX ⊢
  clear HX GX y0_ y1_ y2_ f0_ f1_ f2_ z50 z51 z52 z53 z54 z55
  refine region_inv (T := ?T10) [some 57, some 58, some 59, some 60, some 61, some 62, some 63, none, some 8] ?hT10 (fun dn_ X w_ => AE T_ w0 w g b4 b5 b6 (C6 kind B wd A n c least most) l (bif dn_ 4 then i' else i) (bif dn_ 4 then e' else e) (bif dn_ 7 then (R3 tm jm' qm') else (R3 tm jm qm)) Z3 w_ ∧ w_.heap[gx]? = some (.cells (R3 tm jm' qm') 31 (0, 0)) ∧ gx ≠ g ∧ gx ≠ b4 ∧ (dn_ 0 = true → X 0 = .agg #[.string tm, .int .i64 jm', .int .i64 qm']) ∧ (dn_ 1 = true → X 1 = .pointer (some ⟨g, 0, none⟩)) ∧ (dn_ 2 = true → X 2 = .pointer (some ⟨b5, 2, none⟩)) ∧ (dn_ 3 = true → X 3 = .string wd) ∧ (dn_ 4 = true → X 4 = .bool sb) ∧ (dn_ 5 = true → X 5 = .bool rb) ∧ (dn_ 6 = true → X 6 = .bool (sb == rb)) ∧ (dn_ 7 = true → True) ∧ (dn_ 8 = true → X 8 = .bool (sb == rb))) (by kernel_rfl) (by kernel_rfl) (by rfl) [0, 1, 2, 3, 4, 5, 6, 7, 8] rfl (.cons (some 57) rfl rfl (fun dn_ X w_ hd0_ hd_ hI_ K hK => ?_) (.cons (some 58) rfl rfl (fun dn_ X w_ hd0_ hd_ hI_ K hK => ?_) (.cons (some 59) rfl rfl (fun dn_ X w_ hd0_ hd_ hI_ K hK => ?_) (.cons (some 60) rfl rfl (fun dn_ X w_ hd0_ hd_ hI_ K hK => ?_) (.cons (some 61) rfl rfl (fun dn_ X w_ hd0_ hd_ hI_ K hK => ?_) (.cons (some 62) rfl rfl (fun dn_ X w_ hd0_ hd_ hI_ K hK => ?_) (.cons (some 63) rfl rfl (fun dn_ X w_ hd0_ hd_ hI_ K hK => ?_) (.cons none rfl rfl (fun dn_ X w_ hd0_ hd_ hI_ K hK => ?_) (.cons (some 8) rfl rfl (fun dn_ X w_ hd0_ hd_ hI_ K hK => ?_) .nil))))))))) ?h010 ?hend10
  case hT10 =>
    intro X
    simp only [fill, Act.put, sl_, Nat.zero_add, Nat.reduceAdd]
    rfl
  case h010 =>
    exact ⟨E0.out.below (below_drew (Below.refl _ _)), blk_below BX.out (below_drew (Below.refl _ _)), GG.out.1, GG.out.2, noF_, noF_, noF_, noF_, noF_, noF_, noF_, noF_, noF_⟩
  · -- 0
    have wX := hI_.2.1
    have z0_ := r3_0 wX
    have z1_ := r3_1 wX
    have z2_ := r3_2 wX
    refine val_ (w1 := w_) (v := .agg #[.string tm, .int .i64 jm', .int .i64 qm']) (by rfl) rfl ?_ (hK.out _ _ _ rfl ⟨hI_.1, hI_.2.1, hI_.2.2.1, hI_.2.2.2.1, (fun _ => rfl), hI_.2.2.2.2.2.1, hI_.2.2.2.2.2.2.1, hI_.2.2.2.2.2.2.2.1, hI_.2.2.2.2.2.2.2.2.1, hI_.2.2.2.2.2.2.2.2.2.1, hI_.2.2.2.2.2.2.2.2.2.2.1, hI_.2.2.2.2.2.2.2.2.2.2.2.1, hI_.2.2.2.2.2.2.2.2.2.2.2.2⟩)
    go_simp
    all_goals (first | decide | rfl)
  · -- 1
    refine val_ (w1 := w_) (v := .pointer (some ⟨g, 0, none⟩)) (by rfl) rfl ?_ (hK.out _ _ _ rfl ⟨hI_.1, hI_.2.1, hI_.2.2.1, hI_.2.2.2.1, hI_.2.2.2.2.1, (fun _ => rfl), hI_.2.2.2.2.2.2.1, hI_.2.2.2.2.2.2.2.1, hI_.2.2.2.2.2.2.2.2.1, hI_.2.2.2.2.2.2.2.2.2.1, hI_.2.2.2.2.2.2.2.2.2.2.1, hI_.2.2.2.2.2.2.2.2.2.2.2.1, hI_.2.2.2.2.2.2.2.2.2.2.2.2⟩)
    go_simp
    all_goals (first | decide | rfl)
  · -- 2
    refine val_ (w1 := w_) (v := .pointer (some ⟨b5, 2, none⟩)) (by rfl) rfl ?_ (hK.out _ _ _ rfl ⟨hI_.1, hI_.2.1, hI_.2.2.1, hI_.2.2.2.1, hI_.2.2.2.2.1, hI_.2.2.2.2.2.1, (fun _ => rfl), hI_.2.2.2.2.2.2.2.1, hI_.2.2.2.2.2.2.2.2.1, hI_.2.2.2.2.2.2.2.2.2.1, hI_.2.2.2.2.2.2.2.2.2.2.1, hI_.2.2.2.2.2.2.2.2.2.2.2.1, hI_.2.2.2.2.2.2.2.2.2.2.2.2⟩)
    go_simp
    all_goals (first | decide | rfl)
  · -- 3
    have wE := hI_.1
    have e2 := hI_.2.2.2.2.2.2.1 (hd_ 1 2 (by kernel_rfl))
    have z0_ := c6_2 wE.e5
    refine val_ (w1 := w_) (v := .string wd) (by rfl) rfl ?_ (hK.out _ _ _ rfl ⟨hI_.1, hI_.2.1, hI_.2.2.1, hI_.2.2.2.1, hI_.2.2.2.2.1, hI_.2.2.2.2.2.1, hI_.2.2.2.2.2.2.1, (fun _ => rfl), hI_.2.2.2.2.2.2.2.2.1, hI_.2.2.2.2.2.2.2.2.2.1, hI_.2.2.2.2.2.2.2.2.2.2.1, hI_.2.2.2.2.2.2.2.2.2.2.2.1, hI_.2.2.2.2.2.2.2.2.2.2.2.2⟩)
    go_simp
    all_goals (first | decide | rfl)
  · -- 4
    have wE := hI_.1
    have wX := hI_.2.1
    have wG := hI_.2.2.1
    have wN := hI_.2.2.2.1
    have h0 := hI_.2.2.2.2.1
    have h1 := hI_.2.2.2.2.2.1
    have h2 := hI_.2.2.2.2.2.2.1
    have h3 := hI_.2.2.2.2.2.2.2.1
    have h4 := hI_.2.2.2.2.2.2.2.2.1
    have h5 := hI_.2.2.2.2.2.2.2.2.2.1
    have h6 := hI_.2.2.2.2.2.2.2.2.2.2.1
    have h7 := hI_.2.2.2.2.2.2.2.2.2.2.2.1
    have h8 := hI_.2.2.2.2.2.2.2.2.2.2.2.2
    have e1 := h1 (hd_ 1 1 (by kernel_rfl))
    have e3 := h3 (hd_ 1 3 (by kernel_rfl))
    have wE0 : AE T_ w0 w g b4 b5 b6 (C6 kind B wd A n c least most) l i e (bif dn_ 7 then (R3 tm jm' qm') else (R3 tm jm qm)) Z3 w_ := by rw [hd0_] at wE; exact wE
    refine goes_ HF_.out (by kernel_rfl) rfl #[X 1, X 3] (by rfl) rfl rfl zq23 ?_
    refine calls_args (args2 e1 e3) ?_
    refine (HA.out w_ wE0.kp wE0.is wE0.bel).mono ?_
    rintro e_ w' ⟨rfl, hi_, hB_, hk_⟩
    have gl_ := wE0.gl
    exact ⟨_, rfl, hK.out _ _ _ rfl ⟨(wE0.call hi_ hB_ hk_), (hk_.blk wX wG (by simp)), wG, wN, h0, h1, h2, h3, (fun _ => rfl), h5, h6, h7, h8⟩⟩
  · -- 5
    refine val_ (w1 := w_) (v := .bool rb) (by rfl) rfl ?_ (hK.out _ _ _ rfl ⟨hI_.1, hI_.2.1, hI_.2.2.1, hI_.2.2.2.1, hI_.2.2.2.2.1, hI_.2.2.2.2.2.1, hI_.2.2.2.2.2.2.1, hI_.2.2.2.2.2.2.2.1, hI_.2.2.2.2.2.2.2.2.1, (fun _ => rfl), hI_.2.2.2.2.2.2.2.2.2.2.1, hI_.2.2.2.2.2.2.2.2.2.2.2.1, hI_.2.2.2.2.2.2.2.2.2.2.2.2⟩)
    go_simp
    all_goals (first | decide | rfl)
  · -- 6
    have e4 := hI_.2.2.2.2.2.2.2.2.1 (hd_ 1 4 (by kernel_rfl))
    have e5 := hI_.2.2.2.2.2.2.2.2.2.1 (hd_ 1 5 (by kernel_rfl))
    refine val_ (w1 := w_) (v := .bool (sb == rb)) (by rfl) rfl ?_ (hK.out _ _ _ rfl ⟨hI_.1, hI_.2.1, hI_.2.2.1, hI_.2.2.2.1, hI_.2.2.2.2.1, hI_.2.2.2.2.2.1, hI_.2.2.2.2.2.2.1, hI_.2.2.2.2.2.2.2.1, hI_.2.2.2.2.2.2.2.2.1, hI_.2.2.2.2.2.2.2.2.2.1, (fun _ => rfl), hI_.2.2.2.2.2.2.2.2.2.2.2.1, hI_.2.2.2.2.2.2.2.2.2.2.2.2⟩)
    go_simp
    all_goals (first | decide | rfl)
  · -- 7
    have wE := hI_.1
    have wX := hI_.2.1
    have wG := hI_.2.2.1
    have wN := hI_.2.2.2.1
    have h0 := hI_.2.2.2.2.1
    have h1 := hI_.2.2.2.2.2.1
    have h2 := hI_.2.2.2.2.2.2.1
    have h3 := hI_.2.2.2.2.2.2.2.1
    have h4 := hI_.2.2.2.2.2.2.2.2.1
    have h5 := hI_.2.2.2.2.2.2.2.2.2.1
    have h6 := hI_.2.2.2.2.2.2.2.2.2.2.1
    have h7 := hI_.2.2.2.2.2.2.2.2.2.2.2.1
    have h8 := hI_.2.2.2.2.2.2.2.2.2.2.2.2
    have e0 := h0 (hd_ 1 0 (by kernel_rfl))
    have dc_ := hd_ 1 4 (by kernel_rfl)
    have wE0 : AE T_ w0 w g b4 b5 b6 (C6 kind B wd A n c least most) l i' e' (R3 tm jm qm) Z3 w_ := by rw [hd0_, dc_] at wE; exact wE
    rw [if_pos (by rfl)]
    refine wp_store_row 31 _ _ rfl b4 (R3 tm jm' qm') rfl ?_ 31 _ wE0.e4 (by kernel_rfl) (by rfl) (one3 _ _ _ _ _) ?_
    · exact e0
    · exact hK.out _ undef _ rfl ⟨(by have q_ := wE0.set4 (R3 tm jm' qm'); have r_ : AE T_ w0 w g b4 b5 b6 (C6 kind B wd A n c least most) l (bif dn_ 4 then i' else i) (bif dn_ 4 then e' else e) (R3 tm jm' qm') Z3 _ := (by rw [dc_]; exact q_); exact r_), ((setRow_ne _ _ _ _ wN).trans wX), wG, wN, h0, h1, h2, h3, h4, h5, h6, (fun _ => trivial), h8⟩
  · -- 8
    have e6 := hI_.2.2.2.2.2.2.2.2.2.2.1 (hd_ 1 6 (by kernel_rfl))
    refine val_ (w1 := w_) (v := .bool (sb == rb)) (by rfl) rfl ?_ (hK.out _ _ _ rfl ⟨hI_.1, hI_.2.1, hI_.2.2.1, hI_.2.2.2.1, hI_.2.2.2.2.1, hI_.2.2.2.2.2.1, hI_.2.2.2.2.2.2.1, hI_.2.2.2.2.2.2.2.1, hI_.2.2.2.2.2.2.2.2.1, hI_.2.2.2.2.2.2.2.2.2.1, hI_.2.2.2.2.2.2.2.2.2.2.1, hI_.2.2.2.2.2.2.2.2.2.2.2.1, (fun _ => rfl)⟩)
    go_simp
    all_goals (first | decide | rfl)
  intro dn_ X w4 hdn_ hI_
  clear E0 BX
  obtain ⟨wE, wX, wG, wN, h0, h1, h2, h3, h4, h5, h6, h7, h8⟩ := hI_
  have e8_ := h8 (hdn_ 8 (by decide))
  rw [hdn_ 4 (by decide), hdn_ 7 (by decide)] at wE
  have E0 := Aside0.mk (show AE T_ w0 w g b4 b5 b6 (C6 kind B wd A n c least most) l i' e' (R3 tm jm' qm') Z3 w4 from wE)
  rw [e8_]
  clear wE wX wG wN h0 h1 h2 h3 h4 h5 h6 h7 h8 e8_ hdn_ HA HR
  go_wp2_with (fail)
  go_meet
  case rel => exact ⟨_, rfl, ⟨fun h_ => by rw [HM.out h_]; simp⟩, E0⟩) : p := h
theorem actq2 {p : Prop} (h : p := by
  have HR := Aside0.mk href
  have HA := Aside0.mk hact
  have HM := Aside0.mk hm
  clear href hact hm
  subst hkk
  have z50 := c6_0 E0.out.e5
  have z51 := c6_1 E0.out.e5
  have z52 := c6_2 E0.out.e5
  have z53 := c6_3 E0.out.e5
  have z54 := c6_4 E0.out.e5
  have z55 := c6_5 E0.out.e5
  go_wp2_with (first | ((with_reducible refine gate_dst (N := 67) rfl ?_); refine wpList_load_row rfl 31 _ rfl b4 rfl 31 _ (0, 0) _ E0.out.e4 Try.underlying31 rfl (by kernel_rfl) ?_) | (go_at_call 34; refine (HR.out _ E0.out.kp).mono ?_; rintro e_ w2 ⟨rfl, hb_⟩; have E0 := Aside0.mk (E0.out.below hb_); clear hb_; have z50 := c6_0 E0.out.e5; have z51 := c6_1 E0.out.e5; have z52 := c6_2 E0.out.e5; have z53 := c6_3 E0.out.e5; have z54 := c6_4 E0.out.e5; have z55 := c6_5 E0.out.e5) | ((with_reducible refine gate_dst (N := 14) rfl ?_); refine box_event ?hg (N := 14) ?hd (cs := #[.string ⟨#[]⟩, .int .i64 0, .int .i64 0]) (t := 31) ?hr ?_; (case hd => rfl); (case hg => rfl); (case hr => go_simp; try rfl); intro gx hgx_ wx hx_ hb_; have GX := Aside0.mk hgx_; have HX := Aside0.mk hb_; have BX := Aside0.mk hx_; have GG := Aside0.mk (show gx ≠ g ∧ gx ≠ b4 from by (have a_ := blk_lt E0.out.is.1; have b_ := blk_lt E0.out.e4; omega)); have y0_ := (blk_cell hx_ 0).trans rfl; have y1_ := (blk_cell hx_ 1).trans rfl; have y2_ := (blk_cell hx_ 2).trans rfl; have f0_ := blk_frozen hx_ 0; have f1_ := blk_frozen hx_ 1; have f2_ := blk_frozen hx_ 2; clear hgx_ hb_ hx_) | fail)
  rw [set3 BX.out]
  have E0 := Aside0.mk (E0.out.setx HX.out gx GX.out (R3 tm jm' qm'))
  have BX := Aside0.mk (setRow_heap _ _ _ (R3 tm jm' qm') _ _ BX.out)
  rw [show wx.setRow gx #[.string tm, .int .i64 jm', .int .i64 qm'] = wx.setRow gx (R3 tm jm' qm') from rfl]
  generalize wx.setRow gx (R3 tm jm' qm') = wy at E0 BX ⊢
  clear HX GX y0_ y1_ y2_ f0_ f1_ f2_ z50 z51 z52 z53 z54 z55
  refine region_inv (T := ?T13) [some 73, some 74, some 75, some 76, some 77, some 78, some 79, none, some 8] ?hT13 (fun dn_ X w_ => AE T_ w0 w g b4 b5 b6 (C6 kind B wd A n c least most) l (bif dn_ 4 then i' else i) (bif dn_ 4 then e' else e) (bif dn_ 7 then (R3 tm jm' qm') else (R3 tm jm qm)) Z3 w_ ∧ w_.heap[gx]? = some (.cells (R3 tm jm' qm') 31 (0, 0)) ∧ gx ≠ g ∧ gx ≠ b4 ∧ (dn_ 0 = true → X 0 = .agg #[.string tm, .int .i64 jm', .int .i64 qm']) ∧ (dn_ 1 = true → X 1 = .pointer (some ⟨g, 0, none⟩)) ∧ (dn_ 2 = true → X 2 = .pointer (some ⟨b5, 2, none⟩)) ∧ (dn_ 3 = true → X 3 = .string wd) ∧ (dn_ 4 = true → X 4 = .string sb) ∧ (dn_ 5 = true → X 5 = .string rb) ∧ (dn_ 6 = true → X 6 = .bool (sb.toList == rb.toList)) ∧ (dn_ 7 = true → True) ∧ (dn_ 8 = true → X 8 = .bool (sb.toList == rb.toList))) (by kernel_rfl) (by kernel_rfl) (by rfl) [0, 1, 2, 3, 4, 5, 6, 7, 8] rfl (.cons (some 73) rfl rfl (fun dn_ X w_ hd0_ hd_ hI_ K hK => ?_) (.cons (some 74) rfl rfl (fun dn_ X w_ hd0_ hd_ hI_ K hK => ?_) (.cons (some 75) rfl rfl (fun dn_ X w_ hd0_ hd_ hI_ K hK => ?_) (.cons (some 76) rfl rfl (fun dn_ X w_ hd0_ hd_ hI_ K hK => ?_) (.cons (some 77) rfl rfl (fun dn_ X w_ hd0_ hd_ hI_ K hK => ?_) (.cons (some 78) rfl rfl (fun dn_ X w_ hd0_ hd_ hI_ K hK => ?_) (.cons (some 79) rfl rfl (fun dn_ X w_ hd0_ hd_ hI_ K hK => ?_) (.cons none rfl rfl (fun dn_ X w_ hd0_ hd_ hI_ K hK => ?_) (.cons (some 8) rfl rfl (fun dn_ X w_ hd0_ hd_ hI_ K hK => ?_) .nil))))))))) ?h013 ?hend13
  case hT13 =>
    intro X
    simp only [fill, Act.put, sl_, Nat.zero_add, Nat.reduceAdd]
    rfl
  case h013 =>
    exact ⟨E0.out.below (below_drew (Below.refl _ _)), blk_below BX.out (below_drew (Below.refl _ _)), GG.out.1, GG.out.2, noF_, noF_, noF_, noF_, noF_, noF_, noF_, noF_, noF_⟩
  · -- 0
    have wX := hI_.2.1
    have z0_ := r3_0 wX
    have z1_ := r3_1 wX
    have z2_ := r3_2 wX
    refine val_ (w1 := w_) (v := .agg #[.string tm, .int .i64 jm', .int .i64 qm']) (by rfl) rfl ?_ (hK.out _ _ _ rfl ⟨hI_.1, hI_.2.1, hI_.2.2.1, hI_.2.2.2.1, (fun _ => rfl), hI_.2.2.2.2.2.1, hI_.2.2.2.2.2.2.1, hI_.2.2.2.2.2.2.2.1, hI_.2.2.2.2.2.2.2.2.1, hI_.2.2.2.2.2.2.2.2.2.1, hI_.2.2.2.2.2.2.2.2.2.2.1, hI_.2.2.2.2.2.2.2.2.2.2.2.1, hI_.2.2.2.2.2.2.2.2.2.2.2.2⟩)
    go_simp
    all_goals (first | decide | rfl)
  · -- 1
    refine val_ (w1 := w_) (v := .pointer (some ⟨g, 0, none⟩)) (by rfl) rfl ?_ (hK.out _ _ _ rfl ⟨hI_.1, hI_.2.1, hI_.2.2.1, hI_.2.2.2.1, hI_.2.2.2.2.1, (fun _ => rfl), hI_.2.2.2.2.2.2.1, hI_.2.2.2.2.2.2.2.1, hI_.2.2.2.2.2.2.2.2.1, hI_.2.2.2.2.2.2.2.2.2.1, hI_.2.2.2.2.2.2.2.2.2.2.1, hI_.2.2.2.2.2.2.2.2.2.2.2.1, hI_.2.2.2.2.2.2.2.2.2.2.2.2⟩)
    go_simp
    all_goals (first | decide | rfl)
  · -- 2
    refine val_ (w1 := w_) (v := .pointer (some ⟨b5, 2, none⟩)) (by rfl) rfl ?_ (hK.out _ _ _ rfl ⟨hI_.1, hI_.2.1, hI_.2.2.1, hI_.2.2.2.1, hI_.2.2.2.2.1, hI_.2.2.2.2.2.1, (fun _ => rfl), hI_.2.2.2.2.2.2.2.1, hI_.2.2.2.2.2.2.2.2.1, hI_.2.2.2.2.2.2.2.2.2.1, hI_.2.2.2.2.2.2.2.2.2.2.1, hI_.2.2.2.2.2.2.2.2.2.2.2.1, hI_.2.2.2.2.2.2.2.2.2.2.2.2⟩)
    go_simp
    all_goals (first | decide | rfl)
  · -- 3
    have wE := hI_.1
    have e2 := hI_.2.2.2.2.2.2.1 (hd_ 1 2 (by kernel_rfl))
    have z0_ := c6_2 wE.e5
    refine val_ (w1 := w_) (v := .string wd) (by rfl) rfl ?_ (hK.out _ _ _ rfl ⟨hI_.1, hI_.2.1, hI_.2.2.1, hI_.2.2.2.1, hI_.2.2.2.2.1, hI_.2.2.2.2.2.1, hI_.2.2.2.2.2.2.1, (fun _ => rfl), hI_.2.2.2.2.2.2.2.2.1, hI_.2.2.2.2.2.2.2.2.2.1, hI_.2.2.2.2.2.2.2.2.2.2.1, hI_.2.2.2.2.2.2.2.2.2.2.2.1, hI_.2.2.2.2.2.2.2.2.2.2.2.2⟩)
    go_simp
    all_goals (first | decide | rfl)
  · -- 4
    have wE := hI_.1
    have wX := hI_.2.1
    have wG := hI_.2.2.1
    have wN := hI_.2.2.2.1
    have h0 := hI_.2.2.2.2.1
    have h1 := hI_.2.2.2.2.2.1
    have h2 := hI_.2.2.2.2.2.2.1
    have h3 := hI_.2.2.2.2.2.2.2.1
    have h4 := hI_.2.2.2.2.2.2.2.2.1
    have h5 := hI_.2.2.2.2.2.2.2.2.2.1
    have h6 := hI_.2.2.2.2.2.2.2.2.2.2.1
    have h7 := hI_.2.2.2.2.2.2.2.2.2.2.2.1
    have h8 := hI_.2.2.2.2.2.2.2.2.2.2.2.2
    have e1 := h1 (hd_ 1 1 (by kernel_rfl))
    have e3 := h3 (hd_ 1 3 (by kernel_rfl))
    have wE0 : AE T_ w0 w g b4 b5 b6 (C6 kind B wd A n c least most) l i e (bif dn_ 7 then (R3 tm jm' qm') else (R3 tm jm qm)) Z3 w_ := by rw [hd0_] at wE; exact wE
    refine goes_ HF_.out (by kernel_rfl) rfl #[X 1, X 3] (by rfl) rfl rfl zq23 ?_
    refine calls_args (args2 e1 e3) ?_
    refine (HA.out w_ wE0.kp wE0.is wE0.bel).mono ?_
    rintro e_ w' ⟨rfl, hi_, hB_, hk_⟩
    have gl_ := wE0.gl
    exact ⟨_, rfl, hK.out _ _ _ rfl ⟨(wE0.call hi_ hB_ hk_), (hk_.blk wX wG (by simp)), wG, wN, h0, h1, h2, h3, (fun _ => rfl), h5, h6, h7, h8⟩⟩
  · -- 5
    refine val_ (w1 := w_) (v := .string rb) (by rfl) rfl ?_ (hK.out _ _ _ rfl ⟨hI_.1, hI_.2.1, hI_.2.2.1, hI_.2.2.2.1, hI_.2.2.2.2.1, hI_.2.2.2.2.2.1, hI_.2.2.2.2.2.2.1, hI_.2.2.2.2.2.2.2.1, hI_.2.2.2.2.2.2.2.2.1, (fun _ => rfl), hI_.2.2.2.2.2.2.2.2.2.2.1, hI_.2.2.2.2.2.2.2.2.2.2.2.1, hI_.2.2.2.2.2.2.2.2.2.2.2.2⟩)
    go_simp
    all_goals (first | decide | rfl)
  · -- 6
    have e4 := hI_.2.2.2.2.2.2.2.2.1 (hd_ 1 4 (by kernel_rfl))
    have e5 := hI_.2.2.2.2.2.2.2.2.2.1 (hd_ 1 5 (by kernel_rfl))
    refine val_ (w1 := w_) (v := .bool (sb.toList == rb.toList)) (by rfl) rfl ?_ (hK.out _ _ _ rfl ⟨hI_.1, hI_.2.1, hI_.2.2.1, hI_.2.2.2.1, hI_.2.2.2.2.1, hI_.2.2.2.2.2.1, hI_.2.2.2.2.2.2.1, hI_.2.2.2.2.2.2.2.1, hI_.2.2.2.2.2.2.2.2.1, hI_.2.2.2.2.2.2.2.2.2.1, (fun _ => rfl), hI_.2.2.2.2.2.2.2.2.2.2.2.1, hI_.2.2.2.2.2.2.2.2.2.2.2.2⟩)
    go_simp
    all_goals (first | decide | rfl)
  · -- 7
    have wE := hI_.1
    have wX := hI_.2.1
    have wG := hI_.2.2.1
    have wN := hI_.2.2.2.1
    have h0 := hI_.2.2.2.2.1
    have h1 := hI_.2.2.2.2.2.1
    have h2 := hI_.2.2.2.2.2.2.1
    have h3 := hI_.2.2.2.2.2.2.2.1
    have h4 := hI_.2.2.2.2.2.2.2.2.1
    have h5 := hI_.2.2.2.2.2.2.2.2.2.1
    have h6 := hI_.2.2.2.2.2.2.2.2.2.2.1
    have h7 := hI_.2.2.2.2.2.2.2.2.2.2.2.1
    have h8 := hI_.2.2.2.2.2.2.2.2.2.2.2.2
    have e0 := h0 (hd_ 1 0 (by kernel_rfl))
    have dc_ := hd_ 1 4 (by kernel_rfl)
    have wE0 : AE T_ w0 w g b4 b5 b6 (C6 kind B wd A n c least most) l i' e' (R3 tm jm qm) Z3 w_ := by rw [hd0_, dc_] at wE; exact wE
    rw [if_pos (by rfl)]
    refine wp_store_row 31 _ _ rfl b4 (R3 tm jm' qm') rfl ?_ 31 _ wE0.e4 (by kernel_rfl) (by rfl) (one3 _ _ _ _ _) ?_
    · exact e0
    · exact hK.out _ undef _ rfl ⟨(by have q_ := wE0.set4 (R3 tm jm' qm'); have r_ : AE T_ w0 w g b4 b5 b6 (C6 kind B wd A n c least most) l (bif dn_ 4 then i' else i) (bif dn_ 4 then e' else e) (R3 tm jm' qm') Z3 _ := (by rw [dc_]; exact q_); exact r_), ((setRow_ne _ _ _ _ wN).trans wX), wG, wN, h0, h1, h2, h3, h4, h5, h6, (fun _ => trivial), h8⟩
  · -- 8
    have e6 := hI_.2.2.2.2.2.2.2.2.2.2.1 (hd_ 1 6 (by kernel_rfl))
    refine val_ (w1 := w_) (v := .bool (sb.toList == rb.toList)) (by rfl) rfl ?_ (hK.out _ _ _ rfl ⟨hI_.1, hI_.2.1, hI_.2.2.1, hI_.2.2.2.1, hI_.2.2.2.2.1, hI_.2.2.2.2.2.1, hI_.2.2.2.2.2.2.1, hI_.2.2.2.2.2.2.2.1, hI_.2.2.2.2.2.2.2.2.1, hI_.2.2.2.2.2.2.2.2.2.1, hI_.2.2.2.2.2.2.2.2.2.2.1, hI_.2.2.2.2.2.2.2.2.2.2.2.1, (fun _ => rfl)⟩)
    go_simp
    all_goals (first | decide | rfl)
  intro dn_ X w4 hdn_ hI_
  clear E0 BX
  obtain ⟨wE, wX, wG, wN, h0, h1, h2, h3, h4, h5, h6, h7, h8⟩ := hI_
  have e8_ := h8 (hdn_ 8 (by decide))
  rw [hdn_ 4 (by decide), hdn_ 7 (by decide)] at wE
  have E0 := Aside0.mk (show AE T_ w0 w g b4 b5 b6 (C6 kind B wd A n c least most) l i' e' (R3 tm jm' qm') Z3 w4 from wE)
  rw [e8_]
  clear wE wX wG wN h0 h1 h2 h3 h4 h5 h6 h7 h8 e8_ hdn_ HA HR
  go_wp2_with (fail)
  go_meet
  case rel => exact ⟨_, rfl, ⟨fun h_ => by rw [HM.out h_]; simp⟩, E0⟩) : p := h
theorem actq3 {p : Prop} (h : p := by
  have HR := Aside0.mk href
  have HA := Aside0.mk hact
  have HM := Aside0.mk hm
  clear href hact hm
  subst hkk
  have z50 := c6_0 E0.out.e5
  have z51 := c6_1 E0.out.e5
  have z52 := c6_2 E0.out.e5
  have z53 := c6_3 E0.out.e5
  have z54 := c6_4 E0.out.e5
  have z55 := c6_5 E0.out.e5
  go_wp2_with (first | ((with_reducible refine gate_dst (N := 83) rfl ?_); refine wpList_load_row rfl 31 _ rfl b4 rfl 31 _ (0, 0) _ E0.out.e4 Try.underlying31 rfl (by kernel_rfl) ?_) | (go_at_call 35; refine (HR.out _ E0.out.kp).mono ?_; rintro e_ w2 ⟨rfl, hb_⟩; have E0 := Aside0.mk (E0.out.below hb_); clear hb_; have z50 := c6_0 E0.out.e5; have z51 := c6_1 E0.out.e5; have z52 := c6_2 E0.out.e5; have z53 := c6_3 E0.out.e5; have z54 := c6_4 E0.out.e5; have z55 := c6_5 E0.out.e5) | ((with_reducible refine gate_dst (N := 16) rfl ?_); refine box_event ?hg (N := 16) ?hd (cs := #[.string ⟨#[]⟩, .int .i64 0, .int .i64 0]) (t := 31) ?hr ?_; (case hd => rfl); (case hg => rfl); (case hr => go_simp; try rfl); intro gx hgx_ wx hx_ hb_; have GX := Aside0.mk hgx_; have HX := Aside0.mk hb_; have BX := Aside0.mk hx_; have GG := Aside0.mk (show gx ≠ g ∧ gx ≠ b4 from by (have a_ := blk_lt E0.out.is.1; have b_ := blk_lt E0.out.e4; omega)); have y0_ := (blk_cell hx_ 0).trans rfl; have y1_ := (blk_cell hx_ 1).trans rfl; have y2_ := (blk_cell hx_ 2).trans rfl; have f0_ := blk_frozen hx_ 0; have f1_ := blk_frozen hx_ 1; have f2_ := blk_frozen hx_ 2; clear hgx_ hb_ hx_) | fail)
  rw [set3 BX.out]
  have E0 := Aside0.mk (E0.out.setx HX.out gx GX.out (R3 tm jm' qm'))
  have BX := Aside0.mk (setRow_heap _ _ _ (R3 tm jm' qm') _ _ BX.out)
  rw [show wx.setRow gx #[.string tm, .int .i64 jm', .int .i64 qm'] = wx.setRow gx (R3 tm jm' qm') from rfl]
  generalize wx.setRow gx (R3 tm jm' qm') = wy at E0 BX ⊢
  clear HX GX y0_ y1_ y2_ f0_ f1_ f2_ z50 z51 z52 z53 z54 z55
  refine region_inv (T := ?T16) [some 89, some 90, some 91, some 92, some 93, some 94, some 95, none, some 8] ?hT16 (fun dn_ X w_ => AE T_ w0 w g b4 b5 b6 (C6 kind B wd A n c least most) l (bif dn_ 4 then i' else i) (bif dn_ 4 then e' else e) (bif dn_ 7 then (R3 tm jm' qm') else (R3 tm jm qm)) Z3 w_ ∧ w_.heap[gx]? = some (.cells (R3 tm jm' qm') 31 (0, 0)) ∧ gx ≠ g ∧ gx ≠ b4 ∧ (dn_ 0 = true → X 0 = .agg #[.string tm, .int .i64 jm', .int .i64 qm']) ∧ (dn_ 1 = true → X 1 = .pointer (some ⟨g, 0, none⟩)) ∧ (dn_ 2 = true → X 2 = .pointer (some ⟨b5, 1, none⟩)) ∧ (dn_ 3 = true → X 3 = .int .u8 B) ∧ (dn_ 4 = true → X 4 = .string sb) ∧ (dn_ 5 = true → X 5 = .string rb) ∧ (dn_ 6 = true → X 6 = .bool (sb.toList == rb.toList)) ∧ (dn_ 7 = true → True) ∧ (dn_ 8 = true → X 8 = .bool (sb.toList == rb.toList))) (by kernel_rfl) (by kernel_rfl) (by rfl) [0, 1, 2, 3, 4, 5, 6, 7, 8] rfl (.cons (some 89) rfl rfl (fun dn_ X w_ hd0_ hd_ hI_ K hK => ?_) (.cons (some 90) rfl rfl (fun dn_ X w_ hd0_ hd_ hI_ K hK => ?_) (.cons (some 91) rfl rfl (fun dn_ X w_ hd0_ hd_ hI_ K hK => ?_) (.cons (some 92) rfl rfl (fun dn_ X w_ hd0_ hd_ hI_ K hK => ?_) (.cons (some 93) rfl rfl (fun dn_ X w_ hd0_ hd_ hI_ K hK => ?_) (.cons (some 94) rfl rfl (fun dn_ X w_ hd0_ hd_ hI_ K hK => ?_) (.cons (some 95) rfl rfl (fun dn_ X w_ hd0_ hd_ hI_ K hK => ?_) (.cons none rfl rfl (fun dn_ X w_ hd0_ hd_ hI_ K hK => ?_) (.cons (some 8) rfl rfl (fun dn_ X w_ hd0_ hd_ hI_ K hK => ?_) .nil))))))))) ?h016 ?hend16
  case hT16 =>
    intro X
    simp only [fill, Act.put, sl_, Nat.zero_add, Nat.reduceAdd]
    rfl
  case h016 =>
    exact ⟨E0.out.below (below_drew (Below.refl _ _)), blk_below BX.out (below_drew (Below.refl _ _)), GG.out.1, GG.out.2, noF_, noF_, noF_, noF_, noF_, noF_, noF_, noF_, noF_⟩
  · -- 0
    have wX := hI_.2.1
    have z0_ := r3_0 wX
    have z1_ := r3_1 wX
    have z2_ := r3_2 wX
    refine val_ (w1 := w_) (v := .agg #[.string tm, .int .i64 jm', .int .i64 qm']) (by rfl) rfl ?_ (hK.out _ _ _ rfl ⟨hI_.1, hI_.2.1, hI_.2.2.1, hI_.2.2.2.1, (fun _ => rfl), hI_.2.2.2.2.2.1, hI_.2.2.2.2.2.2.1, hI_.2.2.2.2.2.2.2.1, hI_.2.2.2.2.2.2.2.2.1, hI_.2.2.2.2.2.2.2.2.2.1, hI_.2.2.2.2.2.2.2.2.2.2.1, hI_.2.2.2.2.2.2.2.2.2.2.2.1, hI_.2.2.2.2.2.2.2.2.2.2.2.2⟩)
    go_simp
    all_goals (first | decide | rfl)
  · -- 1
    refine val_ (w1 := w_) (v := .pointer (some ⟨g, 0, none⟩)) (by rfl) rfl ?_ (hK.out _ _ _ rfl ⟨hI_.1, hI_.2.1, hI_.2.2.1, hI_.2.2.2.1, hI_.2.2.2.2.1, (fun _ => rfl), hI_.2.2.2.2.2.2.1, hI_.2.2.2.2.2.2.2.1, hI_.2.2.2.2.2.2.2.2.1, hI_.2.2.2.2.2.2.2.2.2.1, hI_.2.2.2.2.2.2.2.2.2.2.1, hI_.2.2.2.2.2.2.2.2.2.2.2.1, hI_.2.2.2.2.2.2.2.2.2.2.2.2⟩)
    go_simp
    all_goals (first | decide | rfl)
  · -- 2
    refine val_ (w1 := w_) (v := .pointer (some ⟨b5, 1, none⟩)) (by rfl) rfl ?_ (hK.out _ _ _ rfl ⟨hI_.1, hI_.2.1, hI_.2.2.1, hI_.2.2.2.1, hI_.2.2.2.2.1, hI_.2.2.2.2.2.1, (fun _ => rfl), hI_.2.2.2.2.2.2.2.1, hI_.2.2.2.2.2.2.2.2.1, hI_.2.2.2.2.2.2.2.2.2.1, hI_.2.2.2.2.2.2.2.2.2.2.1, hI_.2.2.2.2.2.2.2.2.2.2.2.1, hI_.2.2.2.2.2.2.2.2.2.2.2.2⟩)
    go_simp
    all_goals (first | decide | rfl)
  · -- 3
    have wE := hI_.1
    have e2 := hI_.2.2.2.2.2.2.1 (hd_ 1 2 (by kernel_rfl))
    have z0_ := c6_1 wE.e5
    refine val_ (w1 := w_) (v := .int .u8 B) (by rfl) rfl ?_ (hK.out _ _ _ rfl ⟨hI_.1, hI_.2.1, hI_.2.2.1, hI_.2.2.2.1, hI_.2.2.2.2.1, hI_.2.2.2.2.2.1, hI_.2.2.2.2.2.2.1, (fun _ => rfl), hI_.2.2.2.2.2.2.2.2.1, hI_.2.2.2.2.2.2.2.2.2.1, hI_.2.2.2.2.2.2.2.2.2.2.1, hI_.2.2.2.2.2.2.2.2.2.2.2.1, hI_.2.2.2.2.2.2.2.2.2.2.2.2⟩)
    go_simp
    all_goals (first | decide | rfl)
  · -- 4
    have wE := hI_.1
    have wX := hI_.2.1
    have wG := hI_.2.2.1
    have wN := hI_.2.2.2.1
    have h0 := hI_.2.2.2.2.1
    have h1 := hI_.2.2.2.2.2.1
    have h2 := hI_.2.2.2.2.2.2.1
    have h3 := hI_.2.2.2.2.2.2.2.1
    have h4 := hI_.2.2.2.2.2.2.2.2.1
    have h5 := hI_.2.2.2.2.2.2.2.2.2.1
    have h6 := hI_.2.2.2.2.2.2.2.2.2.2.1
    have h7 := hI_.2.2.2.2.2.2.2.2.2.2.2.1
    have h8 := hI_.2.2.2.2.2.2.2.2.2.2.2.2
    have e1 := h1 (hd_ 1 1 (by kernel_rfl))
    have e3 := h3 (hd_ 1 3 (by kernel_rfl))
    have wE0 : AE T_ w0 w g b4 b5 b6 (C6 kind B wd A n c least most) l i e (bif dn_ 7 then (R3 tm jm' qm') else (R3 tm jm qm)) Z3 w_ := by rw [hd0_] at wE; exact wE
    refine goes_ HF_.out (by kernel_rfl) rfl #[X 1, X 3] (by rfl) rfl rfl zq23 ?_
    refine calls_args (args2 e1 e3) ?_
    refine (HA.out w_ wE0.kp wE0.is wE0.bel).mono ?_
    rintro e_ w' ⟨rfl, hi_, hB_, hk_⟩
    have gl_ := wE0.gl
    exact ⟨_, rfl, hK.out _ _ _ rfl ⟨(wE0.call hi_ hB_ hk_), (hk_.blk wX wG (by simp)), wG, wN, h0, h1, h2, h3, (fun _ => rfl), h5, h6, h7, h8⟩⟩
  · -- 5
    refine val_ (w1 := w_) (v := .string rb) (by rfl) rfl ?_ (hK.out _ _ _ rfl ⟨hI_.1, hI_.2.1, hI_.2.2.1, hI_.2.2.2.1, hI_.2.2.2.2.1, hI_.2.2.2.2.2.1, hI_.2.2.2.2.2.2.1, hI_.2.2.2.2.2.2.2.1, hI_.2.2.2.2.2.2.2.2.1, (fun _ => rfl), hI_.2.2.2.2.2.2.2.2.2.2.1, hI_.2.2.2.2.2.2.2.2.2.2.2.1, hI_.2.2.2.2.2.2.2.2.2.2.2.2⟩)
    go_simp
    all_goals (first | decide | rfl)
  · -- 6
    have e4 := hI_.2.2.2.2.2.2.2.2.1 (hd_ 1 4 (by kernel_rfl))
    have e5 := hI_.2.2.2.2.2.2.2.2.2.1 (hd_ 1 5 (by kernel_rfl))
    refine val_ (w1 := w_) (v := .bool (sb.toList == rb.toList)) (by rfl) rfl ?_ (hK.out _ _ _ rfl ⟨hI_.1, hI_.2.1, hI_.2.2.1, hI_.2.2.2.1, hI_.2.2.2.2.1, hI_.2.2.2.2.2.1, hI_.2.2.2.2.2.2.1, hI_.2.2.2.2.2.2.2.1, hI_.2.2.2.2.2.2.2.2.1, hI_.2.2.2.2.2.2.2.2.2.1, (fun _ => rfl), hI_.2.2.2.2.2.2.2.2.2.2.2.1, hI_.2.2.2.2.2.2.2.2.2.2.2.2⟩)
    go_simp
    all_goals (first | decide | rfl)
  · -- 7
    have wE := hI_.1
    have wX := hI_.2.1
    have wG := hI_.2.2.1
    have wN := hI_.2.2.2.1
    have h0 := hI_.2.2.2.2.1
    have h1 := hI_.2.2.2.2.2.1
    have h2 := hI_.2.2.2.2.2.2.1
    have h3 := hI_.2.2.2.2.2.2.2.1
    have h4 := hI_.2.2.2.2.2.2.2.2.1
    have h5 := hI_.2.2.2.2.2.2.2.2.2.1
    have h6 := hI_.2.2.2.2.2.2.2.2.2.2.1
    have h7 := hI_.2.2.2.2.2.2.2.2.2.2.2.1
    have h8 := hI_.2.2.2.2.2.2.2.2.2.2.2.2
    have e0 := h0 (hd_ 1 0 (by kernel_rfl))
    have dc_ := hd_ 1 4 (by kernel_rfl)
    have wE0 : AE T_ w0 w g b4 b5 b6 (C6 kind B wd A n c least most) l i' e' (R3 tm jm qm) Z3 w_ := by rw [hd0_, dc_] at wE; exact wE
    rw [if_pos (by rfl)]
    refine wp_store_row 31 _ _ rfl b4 (R3 tm jm' qm') rfl ?_ 31 _ wE0.e4 (by kernel_rfl) (by rfl) (one3 _ _ _ _ _) ?_
    · exact e0
    · exact hK.out _ undef _ rfl ⟨(by have q_ := wE0.set4 (R3 tm jm' qm'); have r_ : AE T_ w0 w g b4 b5 b6 (C6 kind B wd A n c least most) l (bif dn_ 4 then i' else i) (bif dn_ 4 then e' else e) (R3 tm jm' qm') Z3 _ := (by rw [dc_]; exact q_); exact r_), ((setRow_ne _ _ _ _ wN).trans wX), wG, wN, h0, h1, h2, h3, h4, h5, h6, (fun _ => trivial), h8⟩
  · -- 8
    have e6 := hI_.2.2.2.2.2.2.2.2.2.2.1 (hd_ 1 6 (by kernel_rfl))
    refine val_ (w1 := w_) (v := .bool (sb.toList == rb.toList)) (by rfl) rfl ?_ (hK.out _ _ _ rfl ⟨hI_.1, hI_.2.1, hI_.2.2.1, hI_.2.2.2.1, hI_.2.2.2.2.1, hI_.2.2.2.2.2.1, hI_.2.2.2.2.2.2.1, hI_.2.2.2.2.2.2.2.1, hI_.2.2.2.2.2.2.2.2.1, hI_.2.2.2.2.2.2.2.2.2.1, hI_.2.2.2.2.2.2.2.2.2.2.1, hI_.2.2.2.2.2.2.2.2.2.2.2.1, (fun _ => rfl)⟩)
    go_simp
    all_goals (first | decide | rfl)
  intro dn_ X w4 hdn_ hI_
  clear E0 BX
  obtain ⟨wE, wX, wG, wN, h0, h1, h2, h3, h4, h5, h6, h7, h8⟩ := hI_
  have e8_ := h8 (hdn_ 8 (by decide))
  rw [hdn_ 4 (by decide), hdn_ 7 (by decide)] at wE
  have E0 := Aside0.mk (show AE T_ w0 w g b4 b5 b6 (C6 kind B wd A n c least most) l i' e' (R3 tm jm' qm') Z3 w4 from wE)
  rw [e8_]
  clear wE wX wG wN h0 h1 h2 h3 h4 h5 h6 h7 h8 e8_ hdn_ HA HR
  go_wp2_with (fail)
  go_meet
  case rel => exact ⟨_, rfl, ⟨fun h_ => by rw [HM.out h_]; simp⟩, E0⟩) : p := h
theorem actq4 {p : Prop} (h : p := by
  have HR := Aside0.mk href
  have HA := Aside0.mk hact
  have HM := Aside0.mk hm
  clear href hact hm
  subst hkk
  have z50 := c6_0 E0.out.e5
  have z51 := c6_1 E0.out.e5
  have z52 := c6_2 E0.out.e5
  have z53 := c6_3 E0.out.e5
  have z54 := c6_4 E0.out.e5
  have z55 := c6_5 E0.out.e5
  go_wp2_with (first | ((with_reducible refine gate_dst (N := 99) rfl ?_); refine wpList_load_row rfl 31 _ rfl b4 rfl 31 _ (0, 0) _ E0.out.e4 Try.underlying31 rfl (by kernel_rfl) ?_) | (go_at_call 36; refine (HR.out _ E0.out.kp).mono ?_; rintro e_ w2 ⟨rfl, hb_⟩; have E0 := Aside0.mk (E0.out.below hb_); clear hb_; have z50 := c6_0 E0.out.e5; have z51 := c6_1 E0.out.e5; have z52 := c6_2 E0.out.e5; have z53 := c6_3 E0.out.e5; have z54 := c6_4 E0.out.e5; have z55 := c6_5 E0.out.e5) | ((with_reducible refine gate_dst (N := 18) rfl ?_); refine box_event ?hg (N := 18) ?hd (cs := #[.string ⟨#[]⟩, .int .i64 0, .int .i64 0]) (t := 31) ?hr ?_; (case hd => rfl); (case hg => rfl); (case hr => go_simp; try rfl); intro gx hgx_ wx hx_ hb_; have GX := Aside0.mk hgx_; have HX := Aside0.mk hb_; have BX := Aside0.mk hx_; have GG := Aside0.mk (show gx ≠ g ∧ gx ≠ b4 from by (have a_ := blk_lt E0.out.is.1; have b_ := blk_lt E0.out.e4; omega)); have y0_ := (blk_cell hx_ 0).trans rfl; have y1_ := (blk_cell hx_ 1).trans rfl; have y2_ := (blk_cell hx_ 2).trans rfl; have f0_ := blk_frozen hx_ 0; have f1_ := blk_frozen hx_ 1; have f2_ := blk_frozen hx_ 2; clear hgx_ hb_ hx_) | fail)
  rw [set3 BX.out]
  have E0 := Aside0.mk (E0.out.setx HX.out gx GX.out (R3 tm jm' qm'))
  have BX := Aside0.mk (setRow_heap _ _ _ (R3 tm jm' qm') _ _ BX.out)
  rw [show wx.setRow gx #[.string tm, .int .i64 jm', .int .i64 qm'] = wx.setRow gx (R3 tm jm' qm') from rfl]
  generalize wx.setRow gx (R3 tm jm' qm') = wy at E0 BX ⊢
  clear HX GX y0_ y1_ y2_ f0_ f1_ f2_ z50 z51 z52 z53 z54 z55
  refine region_inv (T := ?T19) [some 107, some 108, some 109, some 110, some 111, some 112, some 113, some 114, some 115, none, some 8] ?hT19 (fun dn_ X w_ => AE T_ w0 w g b4 b5 b6 (C6 kind B wd A n c least most) l (bif dn_ 6 then i' else i) (bif dn_ 6 then e' else e) (bif dn_ 9 then (R3 tm jm' qm') else (R3 tm jm qm)) Z3 w_ ∧ w_.heap[gx]? = some (.cells (R3 tm jm' qm') 31 (0, 0)) ∧ gx ≠ g ∧ gx ≠ b4 ∧ (dn_ 0 = true → X 0 = .agg #[.string tm, .int .i64 jm', .int .i64 qm']) ∧ (dn_ 1 = true → X 1 = .pointer (some ⟨g, 0, none⟩)) ∧ (dn_ 2 = true → X 2 = .pointer (some ⟨b5, 4, none⟩)) ∧ (dn_ 3 = true → X 3 = .int .i64 least) ∧ (dn_ 4 = true → X 4 = .pointer (some ⟨b5, 5, none⟩)) ∧ (dn_ 5 = true → X 5 = .int .i64 most) ∧ (dn_ 6 = true → X 6 = .int .i64 sb) ∧ (dn_ 7 = true → X 7 = .int .i64 rb) ∧ (dn_ 8 = true → X 8 = .bool (sb == rb)) ∧ (dn_ 9 = true → True) ∧ (dn_ 10 = true → X 10 = .bool (sb == rb))) (by kernel_rfl) (by kernel_rfl) (by rfl) [0, 1, 2, 3, 4, 5, 6, 7, 8, 9, 10] rfl (.cons (some 107) rfl rfl (fun dn_ X w_ hd0_ hd_ hI_ K hK => ?_) (.cons (some 108) rfl rfl (fun dn_ X w_ hd0_ hd_ hI_ K hK => ?_) (.cons (some 109) rfl rfl (fun dn_ X w_ hd0_ hd_ hI_ K hK => ?_) (.cons (some 110) rfl rfl (fun dn_ X w_ hd0_ hd_ hI_ K hK => ?_) (.cons (some 111) rfl rfl (fun dn_ X w_ hd0_ hd_ hI_ K hK => ?_) (.cons (some 112) rfl rfl (fun dn_ X w_ hd0_ hd_ hI_ K hK => ?_) (.cons (some 113) rfl rfl (fun dn_ X w_ hd0_ hd_ hI_ K hK => ?_) (.cons (some 114) rfl rfl (fun dn_ X w_ hd0_ hd_ hI_ K hK => ?_) (.cons (some 115) rfl rfl (fun dn_ X w_ hd0_ hd_ hI_ K hK => ?_) (.cons none rfl rfl (fun dn_ X w_ hd0_ hd_ hI_ K hK => ?_) (.cons (some 8) rfl rfl (fun dn_ X w_ hd0_ hd_ hI_ K hK => ?_) .nil))))))))))) ?h019 ?hend19
  case hT19 =>
    intro X
    simp only [fill, Act.put, sl_, Nat.zero_add, Nat.reduceAdd]
    rfl
  case h019 =>
    exact ⟨E0.out.below (below_drew (Below.refl _ _)), blk_below BX.out (below_drew (Below.refl _ _)), GG.out.1, GG.out.2, noF_, noF_, noF_, noF_, noF_, noF_, noF_, noF_, noF_, noF_, noF_⟩
  · -- 0
    have wX := hI_.2.1
    have z0_ := r3_0 wX
    have z1_ := r3_1 wX
    have z2_ := r3_2 wX
    refine val_ (w1 := w_) (v := .agg #[.string tm, .int .i64 jm', .int .i64 qm']) (by rfl) rfl ?_ (hK.out _ _ _ rfl ⟨hI_.1, hI_.2.1, hI_.2.2.1, hI_.2.2.2.1, (fun _ => rfl), hI_.2.2.2.2.2.1, hI_.2.2.2.2.2.2.1, hI_.2.2.2.2.2.2.2.1, hI_.2.2.2.2.2.2.2.2.1, hI_.2.2.2.2.2.2.2.2.2.1, hI_.2.2.2.2.2.2.2.2.2.2.1, hI_.2.2.2.2.2.2.2.2.2.2.2.1, hI_.2.2.2.2.2.2.2.2.2.2.2.2.1, hI_.2.2.2.2.2.2.2.2.2.2.2.2.2.1, hI_.2.2.2.2.2.2.2.2.2.2.2.2.2.2⟩)
    go_simp
    all_goals (first | decide | rfl)
  · -- 1
    refine val_ (w1 := w_) (v := .pointer (some ⟨g, 0, none⟩)) (by rfl) rfl ?_ (hK.out _ _ _ rfl ⟨hI_.1, hI_.2.1, hI_.2.2.1, hI_.2.2.2.1, hI_.2.2.2.2.1, (fun _ => rfl), hI_.2.2.2.2.2.2.1, hI_.2.2.2.2.2.2.2.1, hI_.2.2.2.2.2.2.2.2.1, hI_.2.2.2.2.2.2.2.2.2.1, hI_.2.2.2.2.2.2.2.2.2.2.1, hI_.2.2.2.2.2.2.2.2.2.2.2.1, hI_.2.2.2.2.2.2.2.2.2.2.2.2.1, hI_.2.2.2.2.2.2.2.2.2.2.2.2.2.1, hI_.2.2.2.2.2.2.2.2.2.2.2.2.2.2⟩)
    go_simp
    all_goals (first | decide | rfl)
  · -- 2
    refine val_ (w1 := w_) (v := .pointer (some ⟨b5, 4, none⟩)) (by rfl) rfl ?_ (hK.out _ _ _ rfl ⟨hI_.1, hI_.2.1, hI_.2.2.1, hI_.2.2.2.1, hI_.2.2.2.2.1, hI_.2.2.2.2.2.1, (fun _ => rfl), hI_.2.2.2.2.2.2.2.1, hI_.2.2.2.2.2.2.2.2.1, hI_.2.2.2.2.2.2.2.2.2.1, hI_.2.2.2.2.2.2.2.2.2.2.1, hI_.2.2.2.2.2.2.2.2.2.2.2.1, hI_.2.2.2.2.2.2.2.2.2.2.2.2.1, hI_.2.2.2.2.2.2.2.2.2.2.2.2.2.1, hI_.2.2.2.2.2.2.2.2.2.2.2.2.2.2⟩)
    go_simp
    all_goals (first | decide | rfl)
  · -- 3
    have wE := hI_.1
    have e2 := hI_.2.2.2.2.2.2.1 (hd_ 1 2 (by kernel_rfl))
    have z0_ := c6_4 wE.e5
    refine val_ (w1 := w_) (v := .int .i64 least) (by rfl) rfl ?_ (hK.out _ _ _ rfl ⟨hI_.1, hI_.2.1, hI_.2.2.1, hI_.2.2.2.1, hI_.2.2.2.2.1, hI_.2.2.2.2.2.1, hI_.2.2.2.2.2.2.1, (fun _ => rfl), hI_.2.2.2.2.2.2.2.2.1, hI_.2.2.2.2.2.2.2.2.2.1, hI_.2.2.2.2.2.2.2.2.2.2.1, hI_.2.2.2.2.2.2.2.2.2.2.2.1, hI_.2.2.2.2.2.2.2.2.2.2.2.2.1, hI_.2.2.2.2.2.2.2.2.2.2.2.2.2.1, hI_.2.2.2.2.2.2.2.2.2.2.2.2.2.2⟩)
    go_simp
    all_goals (first | decide | rfl)
  · -- 4
    refine val_ (w1 := w_) (v := .pointer (some ⟨b5, 5, none⟩)) (by rfl) rfl ?_ (hK.out _ _ _ rfl ⟨hI_.1, hI_.2.1, hI_.2.2.1, hI_.2.2.2.1, hI_.2.2.2.2.1, hI_.2.2.2.2.2.1, hI_.2.2.2.2.2.2.1, hI_.2.2.2.2.2.2.2.1, (fun _ => rfl), hI_.2.2.2.2.2.2.2.2.2.1, hI_.2.2.2.2.2.2.2.2.2.2.1, hI_.2.2.2.2.2.2.2.2.2.2.2.1, hI_.2.2.2.2.2.2.2.2.2.2.2.2.1, hI_.2.2.2.2.2.2.2.2.2.2.2.2.2.1, hI_.2.2.2.2.2.2.2.2.2.2.2.2.2.2⟩)
    go_simp
    all_goals (first | decide | rfl)
  · -- 5
    have wE := hI_.1
    have e4 := hI_.2.2.2.2.2.2.2.2.1 (hd_ 1 4 (by kernel_rfl))
    have z0_ := c6_5 wE.e5
    refine val_ (w1 := w_) (v := .int .i64 most) (by rfl) rfl ?_ (hK.out _ _ _ rfl ⟨hI_.1, hI_.2.1, hI_.2.2.1, hI_.2.2.2.1, hI_.2.2.2.2.1, hI_.2.2.2.2.2.1, hI_.2.2.2.2.2.2.1, hI_.2.2.2.2.2.2.2.1, hI_.2.2.2.2.2.2.2.2.1, (fun _ => rfl), hI_.2.2.2.2.2.2.2.2.2.2.1, hI_.2.2.2.2.2.2.2.2.2.2.2.1, hI_.2.2.2.2.2.2.2.2.2.2.2.2.1, hI_.2.2.2.2.2.2.2.2.2.2.2.2.2.1, hI_.2.2.2.2.2.2.2.2.2.2.2.2.2.2⟩)
    go_simp
    all_goals (first | decide | rfl)
  · -- 6
    have wE := hI_.1
    have wX := hI_.2.1
    have wG := hI_.2.2.1
    have wN := hI_.2.2.2.1
    have h0 := hI_.2.2.2.2.1
    have h1 := hI_.2.2.2.2.2.1
    have h2 := hI_.2.2.2.2.2.2.1
    have h3 := hI_.2.2.2.2.2.2.2.1
    have h4 := hI_.2.2.2.2.2.2.2.2.1
    have h5 := hI_.2.2.2.2.2.2.2.2.2.1
    have h6 := hI_.2.2.2.2.2.2.2.2.2.2.1
    have h7 := hI_.2.2.2.2.2.2.2.2.2.2.2.1
    have h8 := hI_.2.2.2.2.2.2.2.2.2.2.2.2.1
    have h9 := hI_.2.2.2.2.2.2.2.2.2.2.2.2.2.1
    have h10 := hI_.2.2.2.2.2.2.2.2.2.2.2.2.2.2
    have e1 := h1 (hd_ 1 1 (by kernel_rfl))
    have e3 := h3 (hd_ 1 3 (by kernel_rfl))
    have e5 := h5 (hd_ 1 5 (by kernel_rfl))
    have wE0 : AE T_ w0 w g b4 b5 b6 (C6 kind B wd A n c least most) l i e (bif dn_ 9 then (R3 tm jm' qm') else (R3 tm jm qm)) Z3 w_ := by rw [hd0_] at wE; exact wE
    refine goes_ HF_.out (by kernel_rfl) rfl #[X 1, X 3, X 5] (by rfl) rfl rfl zq23 ?_
    refine calls_args (args3 e1 e3 e5) ?_
    refine (HA.out w_ wE0.kp wE0.is wE0.bel).mono ?_
    rintro e_ w' ⟨rfl, hi_, hB_, hk_⟩
    have gl_ := wE0.gl
    exact ⟨_, rfl, hK.out _ _ _ rfl ⟨(wE0.call hi_ hB_ hk_), (hk_.blk wX wG (by simp)), wG, wN, h0, h1, h2, h3, h4, h5, (fun _ => rfl), h7, h8, h9, h10⟩⟩
  · -- 7
    refine val_ (w1 := w_) (v := .int .i64 rb) (by rfl) rfl ?_ (hK.out _ _ _ rfl ⟨hI_.1, hI_.2.1, hI_.2.2.1, hI_.2.2.2.1, hI_.2.2.2.2.1, hI_.2.2.2.2.2.1, hI_.2.2.2.2.2.2.1, hI_.2.2.2.2.2.2.2.1, hI_.2.2.2.2.2.2.2.2.1, hI_.2.2.2.2.2.2.2.2.2.1, hI_.2.2.2.2.2.2.2.2.2.2.1, (fun _ => rfl), hI_.2.2.2.2.2.2.2.2.2.2.2.2.1, hI_.2.2.2.2.2.2.2.2.2.2.2.2.2.1, hI_.2.2.2.2.2.2.2.2.2.2.2.2.2.2⟩)
    go_simp
    all_goals (first | decide | rfl)
  · -- 8
    have e6 := hI_.2.2.2.2.2.2.2.2.2.2.1 (hd_ 1 6 (by kernel_rfl))
    have e7 := hI_.2.2.2.2.2.2.2.2.2.2.2.1 (hd_ 1 7 (by kernel_rfl))
    refine val_ (w1 := w_) (v := .bool (sb == rb)) (by rfl) rfl ?_ (hK.out _ _ _ rfl ⟨hI_.1, hI_.2.1, hI_.2.2.1, hI_.2.2.2.1, hI_.2.2.2.2.1, hI_.2.2.2.2.2.1, hI_.2.2.2.2.2.2.1, hI_.2.2.2.2.2.2.2.1, hI_.2.2.2.2.2.2.2.2.1, hI_.2.2.2.2.2.2.2.2.2.1, hI_.2.2.2.2.2.2.2.2.2.2.1, hI_.2.2.2.2.2.2.2.2.2.2.2.1, (fun _ => rfl), hI_.2.2.2.2.2.2.2.2.2.2.2.2.2.1, hI_.2.2.2.2.2.2.2.2.2.2.2.2.2.2⟩)
    go_simp
    all_goals (first | decide | rfl)
  · -- 9
    have wE := hI_.1
    have wX := hI_.2.1
    have wG := hI_.2.2.1
    have wN := hI_.2.2.2.1
    have h0 := hI_.2.2.2.2.1
    have h1 := hI_.2.2.2.2.2.1
    have h2 := hI_.2.2.2.2.2.2.1
    have h3 := hI_.2.2.2.2.2.2.2.1
    have h4 := hI_.2.2.2.2.2.2.2.2.1
    have h5 := hI_.2.2.2.2.2.2.2.2.2.1
    have h6 := hI_.2.2.2.2.2.2.2.2.2.2.1
    have h7 := hI_.2.2.2.2.2.2.2.2.2.2.2.1
    have h8 := hI_.2.2.2.2.2.2.2.2.2.2.2.2.1
    have h9 := hI_.2.2.2.2.2.2.2.2.2.2.2.2.2.1
    have h10 := hI_.2.2.2.2.2.2.2.2.2.2.2.2.2.2
    have e0 := h0 (hd_ 1 0 (by kernel_rfl))
    have dc_ := hd_ 1 6 (by kernel_rfl)
    have wE0 : AE T_ w0 w g b4 b5 b6 (C6 kind B wd A n c least most) l i' e' (R3 tm jm qm) Z3 w_ := by rw [hd0_, dc_] at wE; exact wE
    rw [if_pos (by rfl)]
    refine wp_store_row 31 _ _ rfl b4 (R3 tm jm' qm') rfl ?_ 31 _ wE0.e4 (by kernel_rfl) (by rfl) (one3 _ _ _ _ _) ?_
    · exact e0
    · exact hK.out _ undef _ rfl ⟨(by have q_ := wE0.set4 (R3 tm jm' qm'); have r_ : AE T_ w0 w g b4 b5 b6 (C6 kind B wd A n c least most) l (bif dn_ 6 then i' else i) (bif dn_ 6 then e' else e) (R3 tm jm' qm') Z3 _ := (by rw [dc_]; exact q_); exact r_), ((setRow_ne _ _ _ _ wN).trans wX), wG, wN, h0, h1, h2, h3, h4, h5, h6, h7, h8, (fun _ => trivial), h10⟩
  · -- 10
    have e8 := hI_.2.2.2.2.2.2.2.2.2.2.2.2.1 (hd_ 1 8 (by kernel_rfl))
    refine val_ (w1 := w_) (v := .bool (sb == rb)) (by rfl) rfl ?_ (hK.out _ _ _ rfl ⟨hI_.1, hI_.2.1, hI_.2.2.1, hI_.2.2.2.1, hI_.2.2.2.2.1, hI_.2.2.2.2.2.1, hI_.2.2.2.2.2.2.1, hI_.2.2.2.2.2.2.2.1, hI_.2.2.2.2.2.2.2.2.1, hI_.2.2.2.2.2.2.2.2.2.1, hI_.2.2.2.2.2.2.2.2.2.2.1, hI_.2.2.2.2.2.2.2.2.2.2.2.1, hI_.2.2.2.2.2.2.2.2.2.2.2.2.1, hI_.2.2.2.2.2.2.2.2.2.2.2.2.2.1, (fun _ => rfl)⟩)
    go_simp
    all_goals (first | decide | rfl)
  intro dn_ X w4 hdn_ hI_
  clear E0 BX
  obtain ⟨wE, wX, wG, wN, h0, h1, h2, h3, h4, h5, h6, h7, h8, h9, h10⟩ := hI_
  have e8_ := h10 (hdn_ 10 (by decide))
  rw [hdn_ 6 (by decide), hdn_ 9 (by decide)] at wE
  have E0 := Aside0.mk (show AE T_ w0 w g b4 b5 b6 (C6 kind B wd A n c least most) l i' e' (R3 tm jm' qm') Z3 w4 from wE)
  rw [e8_]
  clear wE wX wG wN h0 h1 h2 h3 h4 h5 h6 h7 h8 h9 h10 e8_ hdn_ HA HR
  go_wp2_with (fail)
  go_meet
  case rel => exact ⟨_, rfl, ⟨fun h_ => by rw [HM.out h_]; simp⟩, E0⟩) : p := h
theorem actq5 {p : Prop} (h : p := by
  have HR := Aside0.mk href
  have HA := Aside0.mk hact
  clear href hact
  subst hkk
  have z50 := c6_0 E0.out.e5
  have z51 := c6_1 E0.out.e5
  have z52 := c6_2 E0.out.e5
  have z53 := c6_3 E0.out.e5
  have z54 := c6_4 E0.out.e5
  have z55 := c6_5 E0.out.e5
  go_wp2_with (first | ((with_reducible refine gate_dst (N := 119) rfl ?_); refine wpList_load_row rfl 31 _ rfl b4 rfl 31 _ (0, 0) _ E0.out.e4 Try.underlying31 rfl (by kernel_rfl) ?_) | (go_at_call 33; refine (HR.out _ E0.out.kp).mono ?_; rintro e_ w2 ⟨rfl, hb_⟩; have E0 := Aside0.mk (E0.out.below hb_); clear hb_; have z50 := c6_0 E0.out.e5; have z51 := c6_1 E0.out.e5; have z52 := c6_2 E0.out.e5; have z53 := c6_3 E0.out.e5; have z54 := c6_4 E0.out.e5; have z55 := c6_5 E0.out.e5) | ((with_reducible refine gate_dst (N := 20) rfl ?_); refine box_event ?hg (N := 20) ?hd (cs := #[.string ⟨#[]⟩, .int .i64 0, .int .i64 0]) (t := 31) ?hr ?_; (case hd => rfl); (case hg => rfl); (case hr => go_simp; try rfl); intro gx hgx_ wx hx_ hb_; have GX := Aside0.mk hgx_; have HX := Aside0.mk hb_; have BX := Aside0.mk hx_; have GG := Aside0.mk (show gx ≠ g ∧ gx ≠ b4 from by (have a_ := blk_lt E0.out.is.1; have b_ := blk_lt E0.out.e4; omega)); have y0_ := (blk_cell hx_ 0).trans rfl; have y1_ := (blk_cell hx_ 1).trans rfl; have y2_ := (blk_cell hx_ 2).trans rfl; have f0_ := blk_frozen hx_ 0; have f1_ := blk_frozen hx_ 1; have f2_ := blk_frozen hx_ 2; clear hgx_ hb_ hx_) | ((with_reducible refine gate_dst (N := 125) rfl ?_); rw [set3 BX.out]; refine wpList_load_row rfl 31 _ rfl gx rfl 31 _ (0, 0) _ (setRow_heap _ _ _ (R3 tm jm' qm') _ _ BX.out) Try.underlying31 rfl (by kernel_rfl) ?_; refine halt_ ?_) | fail)
  unfold Halted
  rw [show wx.setRow gx #[.string tm, .int .i64 jm', .int .i64 qm'] = wx.setRow gx (R3 tm jm' qm') from rfl]
  have E0 := Aside0.mk (E0.out.setx HX.out gx GX.out (R3 tm jm' qm'))
  generalize wx.setRow gx (R3 tm jm' qm') = wy at E0 ⊢
  clear HX GX BX GG y0_ y1_ y2_ f0_ f1_ f2_ z50 z51 z52 z53 z54 z55
  refine wpList_store_row rfl 31 _ _ rfl b4 (R3 tm jm' qm') rfl rfl 31 _ E0.out.e4 (by kernel_rfl) (by rfl) (one3 _ _ _ _ _) ?_
  have E0 := Aside0.mk (E0.out.set4 (R3 tm jm' qm'))
  generalize wy.setRow b4 (R3 tm jm' qm') = wz at E0 ⊢
  have z50 := c6_0 E0.out.e5
  have z51 := c6_1 E0.out.e5
  have z52 := c6_2 E0.out.e5
  have z53 := c6_3 E0.out.e5
  have z54 := c6_4 E0.out.e5
  have z55 := c6_5 E0.out.e5
  go_wp2_with (first | ((first | go_at_call 19 | go_at_call 45); refine (HA.out _ E0.out.kp E0.out.is E0.out.bel).mono ?_; rintro e_ w5 ⟨rfl, hi_, hB_, hk_⟩; have E0 := Aside0.mk (E0.out.call hi_ hB_ hk_); clear hi_ hB_ hk_) | fail)
  go_meet
  case rel => exact ⟨true, rfl, ⟨fun _ => rfl⟩, E0⟩) : p := h
theorem actq55 {p : Prop} (h : p := by
  have HR := Aside0.mk href
  have HA := Aside0.mk hact
  clear href hact
  have HF := Aside0.mk hfail
  clear hfail
  subst hkk
  have z50 := c6_0 E0.out.e5
  have z51 := c6_1 E0.out.e5
  have z52 := c6_2 E0.out.e5
  have z53 := c6_3 E0.out.e5
  have z54 := c6_4 E0.out.e5
  have z55 := c6_5 E0.out.e5
  go_wp2_with (first | ((with_reducible refine gate_dst (N := 119) rfl ?_); refine wpList_load_row rfl 31 _ rfl b4 rfl 31 _ (0, 0) _ E0.out.e4 Try.underlying31 rfl (by kernel_rfl) ?_) | (go_at_call 33; refine (HR.out _ E0.out.kp).mono ?_; rintro e_ w2 ⟨rfl, hb_⟩; have E0 := Aside0.mk (E0.out.below hb_); clear hb_; have z50 := c6_0 E0.out.e5; have z51 := c6_1 E0.out.e5; have z52 := c6_2 E0.out.e5; have z53 := c6_3 E0.out.e5; have z54 := c6_4 E0.out.e5; have z55 := c6_5 E0.out.e5) | ((with_reducible refine gate_dst (N := 20) rfl ?_); refine box_event ?hg (N := 20) ?hd (cs := #[.string ⟨#[]⟩, .int .i64 0, .int .i64 0]) (t := 31) ?hr ?_; (case hd => rfl); (case hg => rfl); (case hr => go_simp; try rfl); intro gx hgx_ wx hx_ hb_; have GX := Aside0.mk hgx_; have HX := Aside0.mk hb_; have BX := Aside0.mk hx_; have GG := Aside0.mk (show gx ≠ g ∧ gx ≠ b4 from by (have a_ := blk_lt E0.out.is.1; have b_ := blk_lt E0.out.e4; omega)); have y0_ := (blk_cell hx_ 0).trans rfl; have y1_ := (blk_cell hx_ 1).trans rfl; have y2_ := (blk_cell hx_ 2).trans rfl; have f0_ := blk_frozen hx_ 0; have f1_ := blk_frozen hx_ 1; have f2_ := blk_frozen hx_ 2; clear hgx_ hb_ hx_) | ((with_reducible refine gate_dst (N := 125) rfl ?_); rw [set3 BX.out]; refine wpList_load_row rfl 31 _ rfl gx rfl 31 _ (0, 0) _ (setRow_heap _ _ _ (R3 tm jm1 qm1) _ _ BX.out) Try.underlying31 rfl (by kernel_rfl) ?_; refine halt_ ?_) | fail)
  unfold Halted
  rw [show wx.setRow gx #[.string tm, .int .i64 jm1, .int .i64 qm1] = wx.setRow gx (R3 tm jm1 qm1) from rfl]
  have E0 := Aside0.mk (E0.out.setx HX.out gx GX.out (R3 tm jm1 qm1))
  generalize wx.setRow gx (R3 tm jm1 qm1) = wy at E0 ⊢
  clear HX GX BX GG y0_ y1_ y2_ f0_ f1_ f2_ z50 z51 z52 z53 z54 z55
  refine wpList_store_row rfl 31 _ _ rfl b4 (R3 tm jm1 qm1) rfl rfl 31 _ E0.out.e4 (by kernel_rfl) (by rfl) (one3 _ _ _ _ _) ?_
  have E0 := Aside0.mk (E0.out.set4 (R3 tm jm1 qm1))
  generalize wy.setRow b4 (R3 tm jm1 qm1) = wz at E0 ⊢
  have z50 := c6_0 E0.out.e5
  have z51 := c6_1 E0.out.e5
  have z52 := c6_2 E0.out.e5
  have z53 := c6_3 E0.out.e5
  have z54 := c6_4 E0.out.e5
  have z55 := c6_5 E0.out.e5
  go_wp2_with (first | ((with_reducible refine gate_dst (N := 128) rfl ?_); refine wpList_load_row rfl 31 _ rfl b4 rfl 31 _ (0, 0) _ E0.out.e4 Try.underlying31 rfl (by kernel_rfl) ?_) | (go_at_call 37; refine (HF.out _ E0.out.kp).mono ?_; rintro e_ w2 ⟨rfl, hb_⟩; have E0 := Aside0.mk (E0.out.below hb_); clear hb_; refine halt_ ?_) | fail)
  clear z50 z51 z52 z53 z54 z55
  unfold Halted
  apply_assumption
  refine wpList_store_row rfl 31 _ _ rfl b4 (R3 tm jm' qm') rfl rfl 31 _ E0.out.e4 (by kernel_rfl) (by rfl) (one3 _ _ _ _ _) ?_
  have E0 := Aside0.mk (E0.out.set4 (R3 tm jm' qm'))
  generalize w2.setRow b4 (R3 tm jm' qm') = wq at E0 ⊢
  have z50 := c6_0 E0.out.e5
  have z51 := c6_1 E0.out.e5
  have z52 := c6_2 E0.out.e5
  have z53 := c6_3 E0.out.e5
  have z54 := c6_4 E0.out.e5
  have z55 := c6_5 E0.out.e5
  go_wp2_with (first | ((first | go_at_call 19 | go_at_call 45); refine (HA.out _ E0.out.kp E0.out.is E0.out.bel).mono ?_; rintro e_ w5 ⟨rfl, hi_, hB_, hk_⟩; have E0 := Aside0.mk (E0.out.call hi_ hB_ hk_); clear hi_ hB_ hk_) | fail)
  go_meet
  case rel => exact ⟨true, rfl, ⟨fun _ => rfl⟩, E0⟩) : p := h
theorem actq6 {p : Prop} (h : p := by
  have HR := Aside0.mk href
  have HA := Aside0.mk hact
  have HM := Aside0.mk hm
  clear href hact hm
  subst hkk
  have z50 := c6_0 E0.out.e5
  have z51 := c6_1 E0.out.e5
  have z52 := c6_2 E0.out.e5
  have z53 := c6_3 E0.out.e5
  have z54 := c6_4 E0.out.e5
  have z55 := c6_5 E0.out.e5
  go_wp2_with (first | ((with_reducible refine gate_dst (N := 137) rfl ?_); refine wpList_load_row rfl 31 _ rfl b4 rfl 31 _ (0, 0) _ E0.out.e4 Try.underlying31 rfl (by kernel_rfl) ?_) | (go_at_call 38; refine (HR.out _ E0.out.kp).mono ?_; rintro e_ w2 ⟨rfl, hb_⟩; have E0 := Aside0.mk (E0.out.below hb_); clear hb_; have z50 := c6_0 E0.out.e5; have z51 := c6_1 E0.out.e5; have z52 := c6_2 E0.out.e5; have z53 := c6_3 E0.out.e5; have z54 := c6_4 E0.out.e5; have z55 := c6_5 E0.out.e5) | ((with_reducible refine gate_dst (N := 22) rfl ?_); refine box_event ?hg (N := 22) ?hd (cs := #[.string ⟨#[]⟩, .int .i64 0, .int .i64 0]) (t := 31) ?hr ?_; (case hd => rfl); (case hg => rfl); (case hr => go_simp; try rfl); intro gx hgx_ wx hx_ hb_; have GX := Aside0.mk hgx_; have HX := Aside0.mk hb_; have BX := Aside0.mk hx_; have GG := Aside0.mk (show gx ≠ g ∧ gx ≠ b4 from by (have a_ := blk_lt E0.out.is.1; have b_ := blk_lt E0.out.e4; omega)); have y0_ := (blk_cell hx_ 0).trans rfl; have y1_ := (blk_cell hx_ 1).trans rfl; have y2_ := (blk_cell hx_ 2).trans rfl; have f0_ := blk_frozen hx_ 0; have f1_ := blk_frozen hx_ 1; have f2_ := blk_frozen hx_ 2; clear hgx_ hb_ hx_) | fail)
  rw [set3 BX.out]
  have E0 := Aside0.mk (E0.out.setx HX.out gx GX.out (R3 tm jm' qm'))
  have BX := Aside0.mk (setRow_heap _ _ _ (R3 tm jm' qm') _ _ BX.out)
  rw [show wx.setRow gx #[.string tm, .int .i64 jm', .int .i64 qm'] = wx.setRow gx (R3 tm jm' qm') from rfl]
  generalize wx.setRow gx (R3 tm jm' qm') = wy at E0 BX ⊢
  clear HX GX y0_ y1_ y2_ f0_ f1_ f2_ z50 z51 z52 z53 z54 z55
  refine region_inv (T := ?T28) [some 143, some 144, some 145, some 146, some 147, some 148, some 149, none, some 8] ?hT28 (fun dn_ X w_ => AE T_ w0 w g b4 b5 b6 (C6 kind B wd A n c least most) l (bif dn_ 4 then i' else i) (bif dn_ 4 then e' else e) (bif dn_ 7 then (R3 tm jm' qm') else (R3 tm jm qm)) Z3 w_ ∧ w_.heap[gx]? = some (.cells (R3 tm jm' qm') 31 (0, 0)) ∧ gx ≠ g ∧ gx ≠ b4 ∧ (dn_ 0 = true → X 0 = .agg #[.string tm, .int .i64 jm', .int .i64 qm']) ∧ (dn_ 1 = true → X 1 = .pointer (some ⟨g, 0, none⟩)) ∧ (dn_ 2 = true → X 2 = .pointer (some ⟨b5, 3, none⟩)) ∧ (dn_ 3 = true → X 3 = .slice A n c) ∧ (dn_ 4 = true → X 4 = .int .i64 sb) ∧ (dn_ 5 = true → X 5 = .int .i64 rb) ∧ (dn_ 6 = true → X 6 = .bool (sb == rb)) ∧ (dn_ 7 = true → True) ∧ (dn_ 8 = true → X 8 = .bool (sb == rb))) (by kernel_rfl) (by kernel_rfl) (by rfl) [0, 1, 2, 3, 4, 5, 6, 7, 8] rfl (.cons (some 143) rfl rfl (fun dn_ X w_ hd0_ hd_ hI_ K hK => ?_) (.cons (some 144) rfl rfl (fun dn_ X w_ hd0_ hd_ hI_ K hK => ?_) (.cons (some 145) rfl rfl (fun dn_ X w_ hd0_ hd_ hI_ K hK => ?_) (.cons (some 146) rfl rfl (fun dn_ X w_ hd0_ hd_ hI_ K hK => ?_) (.cons (some 147) rfl rfl (fun dn_ X w_ hd0_ hd_ hI_ K hK => ?_) (.cons (some 148) rfl rfl (fun dn_ X w_ hd0_ hd_ hI_ K hK => ?_) (.cons (some 149) rfl rfl (fun dn_ X w_ hd0_ hd_ hI_ K hK => ?_) (.cons none rfl rfl (fun dn_ X w_ hd0_ hd_ hI_ K hK => ?_) (.cons (some 8) rfl rfl (fun dn_ X w_ hd0_ hd_ hI_ K hK => ?_) .nil))))))))) ?h028 ?hend28
  case hT28 =>
    intro X
    simp only [fill, Act.put, sl_, Nat.zero_add, Nat.reduceAdd]
    rfl
  case h028 =>
    exact ⟨E0.out.below (below_drew (Below.refl _ _)), blk_below BX.out (below_drew (Below.refl _ _)), GG.out.1, GG.out.2, noF_, noF_, noF_, noF_, noF_, noF_, noF_, noF_, noF_⟩
  · -- 0
    have wX := hI_.2.1
    have z0_ := r3_0 wX
    have z1_ := r3_1 wX
    have z2_ := r3_2 wX
    refine val_ (w1 := w_) (v := .agg #[.string tm, .int .i64 jm', .int .i64 qm']) (by rfl) rfl ?_ (hK.out _ _ _ rfl ⟨hI_.1, hI_.2.1, hI_.2.2.1, hI_.2.2.2.1, (fun _ => rfl), hI_.2.2.2.2.2.1, hI_.2.2.2.2.2.2.1, hI_.2.2.2.2.2.2.2.1, hI_.2.2.2.2.2.2.2.2.1, hI_.2.2.2.2.2.2.2.2.2.1, hI_.2.2.2.2.2.2.2.2.2.2.1, hI_.2.2.2.2.2.2.2.2.2.2.2.1, hI_.2.2.2.2.2.2.2.2.2.2.2.2⟩)
    go_simp
    all_goals (first | decide | rfl)
  · -- 1
    refine val_ (w1 := w_) (v := .pointer (some ⟨g, 0, none⟩)) (by rfl) rfl ?_ (hK.out _ _ _ rfl ⟨hI_.1, hI_.2.1, hI_.2.2.1, hI_.2.2.2.1, hI_.2.2.2.2.1, (fun _ => rfl), hI_.2.2.2.2.2.2.1, hI_.2.2.2.2.2.2.2.1, hI_.2.2.2.2.2.2.2.2.1, hI_.2.2.2.2.2.2.2.2.2.1, hI_.2.2.2.2.2.2.2.2.2.2.1, hI_.2.2.2.2.2.2.2.2.2.2.2.1, hI_.2.2.2.2.2.2.2.2.2.2.2.2⟩)
    go_simp
    all_goals (first | decide | rfl)
  · -- 2
    refine val_ (w1 := w_) (v := .pointer (some ⟨b5, 3, none⟩)) (by rfl) rfl ?_ (hK.out _ _ _ rfl ⟨hI_.1, hI_.2.1, hI_.2.2.1, hI_.2.2.2.1, hI_.2.2.2.2.1, hI_.2.2.2.2.2.1, (fun _ => rfl), hI_.2.2.2.2.2.2.2.1, hI_.2.2.2.2.2.2.2.2.1, hI_.2.2.2.2.2.2.2.2.2.1, hI_.2.2.2.2.2.2.2.2.2.2.1, hI_.2.2.2.2.2.2.2.2.2.2.2.1, hI_.2.2.2.2.2.2.2.2.2.2.2.2⟩)
    go_simp
    all_goals (first | decide | rfl)
  · -- 3
    have wE := hI_.1
    have e2 := hI_.2.2.2.2.2.2.1 (hd_ 1 2 (by kernel_rfl))
    have z0_ := c6_3 wE.e5
    refine val_ (w1 := w_) (v := .slice A n c) (by rfl) rfl ?_ (hK.out _ _ _ rfl ⟨hI_.1, hI_.2.1, hI_.2.2.1, hI_.2.2.2.1, hI_.2.2.2.2.1, hI_.2.2.2.2.2.1, hI_.2.2.2.2.2.2.1, (fun _ => rfl), hI_.2.2.2.2.2.2.2.2.1, hI_.2.2.2.2.2.2.2.2.2.1, hI_.2.2.2.2.2.2.2.2.2.2.1, hI_.2.2.2.2.2.2.2.2.2.2.2.1, hI_.2.2.2.2.2.2.2.2.2.2.2.2⟩)
    go_simp
    all_goals (first | decide | rfl)
  · -- 4
    have wE := hI_.1
    have wX := hI_.2.1
    have wG := hI_.2.2.1
    have wN := hI_.2.2.2.1
    have h0 := hI_.2.2.2.2.1
    have h1 := hI_.2.2.2.2.2.1
    have h2 := hI_.2.2.2.2.2.2.1
    have h3 := hI_.2.2.2.2.2.2.2.1
    have h4 := hI_.2.2.2.2.2.2.2.2.1
    have h5 := hI_.2.2.2.2.2.2.2.2.2.1
    have h6 := hI_.2.2.2.2.2.2.2.2.2.2.1
    have h7 := hI_.2.2.2.2.2.2.2.2.2.2.2.1
    have h8 := hI_.2.2.2.2.2.2.2.2.2.2.2.2
    have e1 := h1 (hd_ 1 1 (by kernel_rfl))
    have e3 := h3 (hd_ 1 3 (by kernel_rfl))
    have wE0 : AE T_ w0 w g b4 b5 b6 (C6 kind B wd A n c least most) l i e (bif dn_ 7 then (R3 tm jm' qm') else (R3 tm jm qm)) Z3 w_ := by rw [hd0_] at wE; exact wE
    refine goes_ HF_.out (by kernel_rfl) rfl #[X 1, X 3] (by rfl) rfl rfl zq23 ?_
    refine calls_args (args2 e1 e3) ?_
    refine (HA.out w_ wE0.kp wE0.is wE0.bel).mono ?_
    rintro e_ w' ⟨rfl, hi_, hB_, hk_⟩
    have gl_ := wE0.gl
    exact ⟨_, rfl, hK.out _ _ _ rfl ⟨(wE0.call hi_ hB_ hk_), (hk_.blk wX wG (by simp)), wG, wN, h0, h1, h2, h3, (fun _ => rfl), h5, h6, h7, h8⟩⟩
  · -- 5
    refine val_ (w1 := w_) (v := .int .i64 rb) (by rfl) rfl ?_ (hK.out _ _ _ rfl ⟨hI_.1, hI_.2.1, hI_.2.2.1, hI_.2.2.2.1, hI_.2.2.2.2.1, hI_.2.2.2.2.2.1, hI_.2.2.2.2.2.2.1, hI_.2.2.2.2.2.2.2.1, hI_.2.2.2.2.2.2.2.2.1, (fun _ => rfl), hI_.2.2.2.2.2.2.2.2.2.2.1, hI_.2.2.2.2.2.2.2.2.2.2.2.1, hI_.2.2.2.2.2.2.2.2.2.2.2.2⟩)
    go_simp
    all_goals (first | decide | rfl)
  · -- 6
    have e4 := hI_.2.2.2.2.2.2.2.2.1 (hd_ 1 4 (by kernel_rfl))
    have e5 := hI_.2.2.2.2.2.2.2.2.2.1 (hd_ 1 5 (by kernel_rfl))
    refine val_ (w1 := w_) (v := .bool (sb == rb)) (by rfl) rfl ?_ (hK.out _ _ _ rfl ⟨hI_.1, hI_.2.1, hI_.2.2.1, hI_.2.2.2.1, hI_.2.2.2.2.1, hI_.2.2.2.2.2.1, hI_.2.2.2.2.2.2.1, hI_.2.2.2.2.2.2.2.1, hI_.2.2.2.2.2.2.2.2.1, hI_.2.2.2.2.2.2.2.2.2.1, (fun _ => rfl), hI_.2.2.2.2.2.2.2.2.2.2.2.1, hI_.2.2.2.2.2.2.2.2.2.2.2.2⟩)
    go_simp
    all_goals (first | decide | rfl)
  · -- 7
    have wE := hI_.1
    have wX := hI_.2.1
    have wG := hI_.2.2.1
    have wN := hI_.2.2.2.1
    have h0 := hI_.2.2.2.2.1
    have h1 := hI_.2.2.2.2.2.1
    have h2 := hI_.2.2.2.2.2.2.1
    have h3 := hI_.2.2.2.2.2.2.2.1
    have h4 := hI_.2.2.2.2.2.2.2.2.1
    have h5 := hI_.2.2.2.2.2.2.2.2.2.1
    have h6 := hI_.2.2.2.2.2.2.2.2.2.2.1
    have h7 := hI_.2.2.2.2.2.2.2.2.2.2.2.1
    have h8 := hI_.2.2.2.2.2.2.2.2.2.2.2.2
    have e0 := h0 (hd_ 1 0 (by kernel_rfl))
    have dc_ := hd_ 1 4 (by kernel_rfl)
    have wE0 : AE T_ w0 w g b4 b5 b6 (C6 kind B wd A n c least most) l i' e' (R3 tm jm qm) Z3 w_ := by rw [hd0_, dc_] at wE; exact wE
    rw [if_pos (by rfl)]
    refine wp_store_row 31 _ _ rfl b4 (R3 tm jm' qm') rfl ?_ 31 _ wE0.e4 (by kernel_rfl) (by rfl) (one3 _ _ _ _ _) ?_
    · exact e0
    · exact hK.out _ undef _ rfl ⟨(by have q_ := wE0.set4 (R3 tm jm' qm'); have r_ : AE T_ w0 w g b4 b5 b6 (C6 kind B wd A n c least most) l (bif dn_ 4 then i' else i) (bif dn_ 4 then e' else e) (R3 tm jm' qm') Z3 _ := (by rw [dc_]; exact q_); exact r_), ((setRow_ne _ _ _ _ wN).trans wX), wG, wN, h0, h1, h2, h3, h4, h5, h6, (fun _ => trivial), h8⟩
  · -- 8
    have e6 := hI_.2.2.2.2.2.2.2.2.2.2.1 (hd_ 1 6 (by kernel_rfl))
    refine val_ (w1 := w_) (v := .bool (sb == rb)) (by rfl) rfl ?_ (hK.out _ _ _ rfl ⟨hI_.1, hI_.2.1, hI_.2.2.1, hI_.2.2.2.1, hI_.2.2.2.2.1, hI_.2.2.2.2.2.1, hI_.2.2.2.2.2.2.1, hI_.2.2.2.2.2.2.2.1, hI_.2.2.2.2.2.2.2.2.1, hI_.2.2.2.2.2.2.2.2.2.1, hI_.2.2.2.2.2.2.2.2.2.2.1, hI_.2.2.2.2.2.2.2.2.2.2.2.1, (fun _ => rfl)⟩)
    go_simp
    all_goals (first | decide | rfl)
  intro dn_ X w4 hdn_ hI_
  clear E0 BX
  obtain ⟨wE, wX, wG, wN, h0, h1, h2, h3, h4, h5, h6, h7, h8⟩ := hI_
  have e8_ := h8 (hdn_ 8 (by decide))
  rw [hdn_ 4 (by decide), hdn_ 7 (by decide)] at wE
  have E0 := Aside0.mk (show AE T_ w0 w g b4 b5 b6 (C6 kind B wd A n c least most) l i' e' (R3 tm jm' qm') Z3 w4 from wE)
  rw [e8_]
  clear wE wX wG wN h0 h1 h2 h3 h4 h5 h6 h7 h8 e8_ hdn_ HA HR
  go_wp2_with (fail)
  go_meet
  case rel => exact ⟨_, rfl, ⟨fun h_ => by rw [HM.out h_]; simp⟩, E0⟩) : p := h
theorem actq7 {p : Prop} (h : p := by
  have HR := Aside0.mk href
  have HA := Aside0.mk hact
  clear href hact
  subst hkk
  have z50 := c6_0 E0.out.e5
  have z51 := c6_1 E0.out.e5
  have z52 := c6_2 E0.out.e5
  have z53 := c6_3 E0.out.e5
  have z54 := c6_4 E0.out.e5
  have z55 := c6_5 E0.out.e5
  go_wp2_with (first | ((with_reducible refine gate_dst (N := 152) rfl ?_); refine wpList_load_row rfl 31 _ rfl b4 rfl 31 _ (0, 0) _ E0.out.e4 Try.underlying31 rfl (by kernel_rfl) ?_) | (go_at_call 39; refine (HR.out _ E0.out.kp).mono ?_; rintro e_ w2 ⟨rfl, hb_⟩; have E0 := Aside0.mk (E0.out.below hb_); clear hb_; refine halt_ ?_) | fail)
  unfold Halted
  apply_assumption
  refine wpList_store_row rfl 31 _ _ rfl b4 (R3 tm jm' qm') rfl rfl 31 _ E0.out.e4 (by kernel_rfl) (by rfl) (one3 _ _ _ _ _) ?_
  have E0 := Aside0.mk (E0.out.set4 (R3 tm jm' qm'))
  generalize w2.setRow b4 (R3 tm jm' qm') = w3 at E0 ⊢
  clear z50 z51 z52 z53 z54 z55
  have z50 := c6_0 E0.out.e5
  have z51 := c6_1 E0.out.e5
  have z52 := c6_2 E0.out.e5
  have z53 := c6_3 E0.out.e5
  have z54 := c6_4 E0.out.e5
  have z55 := c6_5 E0.out.e5
  go_wp2_with (first | ((first | go_at_call 20 | go_at_call 47); refine (HA.out _ E0.out.kp E0.out.is E0.out.bel).mono ?_; rintro e_ w5 ⟨rfl, hi_, hB_, hk_⟩; have E0 := Aside0.mk (E0.out.call hi_ hB_ hk_); clear hi_ hB_ hk_) | fail)
  go_meet
  case rel => exact ⟨true, rfl, ⟨fun _ => rfl⟩, E0⟩) : p := h
theorem actq8 {p : Prop} (h : p := by
  have HR := Aside0.mk href
  have HA := Aside0.mk hact
  clear href hact
  obtain ⟨k0, k1, k2, k3, k4, k5, k6, k7⟩ := hkk
  have k0b : (kk == 0) = false := beq_eq_false_iff_ne.2 k0
  have k0d : decide (kk = 0) = false := decide_eq_false k0
  have k1b : (kk == 1) = false := beq_eq_false_iff_ne.2 k1
  have k1d : decide (kk = 1) = false := decide_eq_false k1
  have k2b : (kk == 2) = false := beq_eq_false_iff_ne.2 k2
  have k2d : decide (kk = 2) = false := decide_eq_false k2
  have k3b : (kk == 3) = false := beq_eq_false_iff_ne.2 k3
  have k3d : decide (kk = 3) = false := decide_eq_false k3
  have k4b : (kk == 4) = false := beq_eq_false_iff_ne.2 k4
  have k4d : decide (kk = 4) = false := decide_eq_false k4
  have k5b : (kk == 5) = false := beq_eq_false_iff_ne.2 k5
  have k5d : decide (kk = 5) = false := decide_eq_false k5
  have k6b : (kk == 6) = false := beq_eq_false_iff_ne.2 k6
  have k6d : decide (kk = 6) = false := decide_eq_false k6
  have k7b : (kk == 7) = false := beq_eq_false_iff_ne.2 k7
  have k7d : decide (kk = 7) = false := decide_eq_false k7
  go_wp2_with (first | ((with_reducible refine gate_dst (N := 27) rfl ?_); refine wpList_load_row rfl 31 _ rfl b4 rfl 31 _ (0, 0) _ E0.out.e4 Try.underlying31 rfl (by kernel_rfl) ?_) | (go_at_call 37; refine (HR.out _ E0.out.kp).mono ?_; rintro e_ w2 ⟨rfl, hb_⟩; have E0 := Aside0.mk (E0.out.below hb_); clear hb_; refine halt_ ?_) | fail)
  unfold Halted
  apply_assumption
  refine wpList_store_row rfl 31 _ _ rfl b4 (R3 tm jm' qm') rfl rfl 31 _ E0.out.e4 (by kernel_rfl) (by rfl) (one3 _ _ _ _ _) ?_
  have E0 := Aside0.mk (E0.out.set4 (R3 tm jm' qm'))
  generalize w2.setRow b4 (R3 tm jm' qm') = w3 at E0 ⊢
  go_wp2_with (first | ((first | go_at_call 21 | go_at_call 48); refine (HA.out _ E0.out.kp E0.out.is E0.out.bel).mono ?_; rintro e_ w5 ⟨rfl, hi_, hB_, hk_⟩; have E0 := Aside0.mk (E0.out.call hi_ hB_ hk_); clear hi_ hB_ hk_) | fail)
  go_meet
  case rel => exact ⟨true, rfl, ⟨fun _ => rfl⟩, E0⟩) : p := h
theorem actqt {p : Prop} (h : p := by
  go_wp2_with (fail)
  refine region_inv (T := ?T32t) [some 160, some 161, some 162, some 163, some 164, some 165, some 166, none, some 7] ?hT32t (fun dn_ X w_ => AE T_ w0 w g b4 b5 b6 (C6 kind B wd A n c least most) l i' e' (R3 tm jm' qm') (bif dn_ 7 then (R3 tm jm' qm') else Z3) w_ ∧ (dn_ 0 = true → X 0 = .agg #[.string tm, .int .i64 jm', .int .i64 qm']) ∧ (dn_ 1 = true → X 1 = .bool true) ∧ (dn_ 2 = true → X 2 = .bool true) ∧ (dn_ 3 = true → X 3 = .pointer (some ⟨g, 0, none⟩)) ∧ (dn_ 4 = true → X 4 = .agg #[.string tm, .int .i64 jm', .int .i64 qm']) ∧ (dn_ 5 = true → (∃ b_ : Bool, X 5 = .bool b_ ∧ (M → b_ = true))) ∧ (dn_ 6 = true → (∃ b_ : Bool, X 6 = .bool b_ ∧ (M → b_ = true))) ∧ (dn_ 7 = true → True) ∧ (dn_ 8 = true → (∃ b_ : Bool, X 8 = .bool b_ ∧ (M → b_ = true)))) (by kernel_rfl) (by kernel_rfl) (by rfl) [0, 1, 2, 3, 4, 5, 6, 7, 8] rfl (.cons (some 160) rfl rfl (fun dn_ X w_ hd0_ hd_ hI_ K hK => ?_) (.cons (some 161) rfl rfl (fun dn_ X w_ hd0_ hd_ hI_ K hK => ?_) (.cons (some 162) rfl rfl (fun dn_ X w_ hd0_ hd_ hI_ K hK => ?_) (.cons (some 163) rfl rfl (fun dn_ X w_ hd0_ hd_ hI_ K hK => ?_) (.cons (some 164) rfl rfl (fun dn_ X w_ hd0_ hd_ hI_ K hK => ?_) (.cons (some 165) rfl rfl (fun dn_ X w_ hd0_ hd_ hI_ K hK => ?_) (.cons (some 166) rfl rfl (fun dn_ X w_ hd0_ hd_ hI_ K hK => ?_) (.cons none rfl rfl (fun dn_ X w_ hd0_ hd_ hI_ K hK => ?_) (.cons (some 7) rfl rfl (fun dn_ X w_ hd0_ hd_ hI_ K hK => ?_) .nil))))))))) ?h032t ?hend32t
  case hT32t =>
    intro X
    simp only [fill, Act.put, sl_, Nat.zero_add, Nat.reduceAdd]
    rfl
  case h032t =>
    exact ⟨E0.out.below (below_drew (Below.refl _ _)), noF_, noF_, noF_, noF_, noF_, noF_, noF_, noF_, noF_⟩
  · -- 0
    have wE := hI_.1
    have z0_ := r3_0 wE.e4
    have z1_ := r3_1 wE.e4
    have z2_ := r3_2 wE.e4
    refine val_ (w1 := w_) (v := .agg #[.string tm, .int .i64 jm', .int .i64 qm']) (by rfl) rfl ?_ (hK.out _ _ _ rfl ⟨hI_.1, (fun _ => rfl), hI_.2.2.1, hI_.2.2.2.1, hI_.2.2.2.2.1, hI_.2.2.2.2.2.1, hI_.2.2.2.2.2.2.1, hI_.2.2.2.2.2.2.2.1, hI_.2.2.2.2.2.2.2.2.1, hI_.2.2.2.2.2.2.2.2.2⟩)
    go_simp
    all_goals (first | decide | rfl)
  · -- 1
    refine val_ (w1 := w_) (v := .bool true) (by rfl) rfl ?_ (hK.out _ _ _ rfl ⟨hI_.1, hI_.2.1, (fun _ => rfl), hI_.2.2.2.1, hI_.2.2.2.2.1, hI_.2.2.2.2.2.1, hI_.2.2.2.2.2.2.1, hI_.2.2.2.2.2.2.2.1, hI_.2.2.2.2.2.2.2.2.1, hI_.2.2.2.2.2.2.2.2.2⟩)
    go_simp
    all_goals (first | decide | rfl)
  · -- 2
    have e1 := hI_.2.2.1 (hd_ 1 1 (by kernel_rfl))
    refine val_ (w1 := w_) (v := .bool true) (by rfl) rfl ?_ (hK.out _ _ _ rfl ⟨hI_.1, hI_.2.1, hI_.2.2.1, (fun _ => rfl), hI_.2.2.2.2.1, hI_.2.2.2.2.2.1, hI_.2.2.2.2.2.2.1, hI_.2.2.2.2.2.2.2.1, hI_.2.2.2.2.2.2.2.2.1, hI_.2.2.2.2.2.2.2.2.2⟩)
    go_simp
    all_goals (first | decide | rfl)
  · -- 3
    have e2 := hI_.2.2.2.1 (hd_ 1 2 (by kernel_rfl))
    refine val_ (w1 := w_) (v := .pointer (some ⟨g, 0, none⟩)) (wanted_of rfl rfl (congrArg some e2)) rfl ?_ (hK.out _ _ _ rfl ⟨hI_.1, hI_.2.1, hI_.2.2.1, hI_.2.2.2.1, (fun _ => rfl), hI_.2.2.2.2.2.1, hI_.2.2.2.2.2.2.1, hI_.2.2.2.2.2.2.2.1, hI_.2.2.2.2.2.2.2.2.1, hI_.2.2.2.2.2.2.2.2.2⟩)
    go_simp
    all_goals (first | decide | rfl)
  · -- 4
    have wE := hI_.1
    have e2 := hI_.2.2.2.1 (hd_ 1 2 (by kernel_rfl))
    have z0_ := r3_0 wE.e4
    have z1_ := r3_1 wE.e4
    have z2_ := r3_2 wE.e4
    refine val_ (w1 := w_) (v := .agg #[.string tm, .int .i64 jm', .int .i64 qm']) (wanted_of rfl rfl (congrArg some e2)) rfl ?_ (hK.out _ _ _ rfl ⟨hI_.1, hI_.2.1, hI_.2.2.1, hI_.2.2.2.1, hI_.2.2.2.2.1, (fun _ => rfl), hI_.2.2.2.2.2.2.1, hI_.2.2.2.2.2.2.2.1, hI_.2.2.2.2.2.2.2.2.1, hI_.2.2.2.2.2.2.2.2.2⟩)
    go_simp
    all_goals (first | decide | rfl)
  · -- 5
    have wE := hI_.1
    have h0 := hI_.2.1
    have h1 := hI_.2.2.1
    have h2 := hI_.2.2.2.1
    have h3 := hI_.2.2.2.2.1
    have h4 := hI_.2.2.2.2.2.1
    have h5 := hI_.2.2.2.2.2.2.1
    have h6 := hI_.2.2.2.2.2.2.2.1
    have h7 := hI_.2.2.2.2.2.2.2.2.1
    have h8 := hI_.2.2.2.2.2.2.2.2.2
    have e2 := h2 (hd_ 1 2 (by kernel_rfl))
    have e3 := h3 (hd_ 1 3 (by kernel_rfl))
    have e4 := h4 (hd_ 1 4 (by kernel_rfl))
    refine goes_ HSF_.out (by kernel_rfl) rfl #[X 3, X 4] (wanted_of rfl rfl (congrArg some e2)) rfl rfl zq23 ?_
    refine calls_args (args2 e3 e4) ?_
    refine (HS.out w_ wE.is wE.bel).mono ?_
    rintro e_ w' ⟨b_, rfl, hm_, hb_⟩
    exact ⟨_, rfl, hK.out _ _ _ rfl ⟨(wE.below hb_), h0, h1, h2, h3, h4, (fun _ => ⟨b_, rfl, hm_⟩), h6, h7, h8⟩⟩
  · -- 6
    have wE := hI_.1
    have h0 := hI_.2.1
    have h1 := hI_.2.2.1
    have h2 := hI_.2.2.2.1
    have h3 := hI_.2.2.2.2.1
    have h4 := hI_.2.2.2.2.2.1
    have h5 := hI_.2.2.2.2.2.2.1
    have h6 := hI_.2.2.2.2.2.2.2.1
    have h7 := hI_.2.2.2.2.2.2.2.2.1
    have h8 := hI_.2.2.2.2.2.2.2.2.2
    have e2 := h2 (hd_ 1 2 (by kernel_rfl))
    have e5 := h5 (hd_ 1 5 (by kernel_rfl))
    obtain ⟨b_, eb_, hm_⟩ := e5
    refine val_ (w1 := w_) (v := .bool b_) (by rfl) rfl ?_ (hK.out _ _ _ rfl ⟨wE, h0, h1, h2, h3, h4, h5, (fun _ => ⟨b_, rfl, hm_⟩), h7, h8⟩)
    go_simp
  · -- 7
    have wE := hI_.1
    have h0 := hI_.2.1
    have h1 := hI_.2.2.1
    have h2 := hI_.2.2.2.1
    have h3 := hI_.2.2.2.2.1
    have h4 := hI_.2.2.2.2.2.1
    have h5 := hI_.2.2.2.2.2.2.1
    have h6 := hI_.2.2.2.2.2.2.2.1
    have h7 := hI_.2.2.2.2.2.2.2.2.1
    have h8 := hI_.2.2.2.2.2.2.2.2.2
    have e0 := h0 (hd_ 1 0 (by kernel_rfl))
    have wE0 : AE T_ w0 w g b4 b5 b6 (C6 kind B wd A n c least most) l i' e' (R3 tm jm' qm') Z3 w_ := by rw [hd0_] at wE; exact wE
    rw [if_pos (by rfl)]
    refine wp_store_row 31 _ _ rfl b6 (R3 tm jm' qm') rfl ?_ 31 _ wE0.e6 (by kernel_rfl) (by rfl) (one3 _ _ _ _ _) ?_
    · exact e0
    · exact hK.out _ undef _ rfl ⟨(wE0.set6 _), h0, h1, h2, h3, h4, h5, h6, (fun _ => trivial), h8⟩
  · -- 8
    have wE := hI_.1
    have h0 := hI_.2.1
    have h1 := hI_.2.2.1
    have h2 := hI_.2.2.2.1
    have h3 := hI_.2.2.2.2.1
    have h4 := hI_.2.2.2.2.2.1
    have h5 := hI_.2.2.2.2.2.2.1
    have h6 := hI_.2.2.2.2.2.2.2.1
    have h7 := hI_.2.2.2.2.2.2.2.2.1
    have h8 := hI_.2.2.2.2.2.2.2.2.2
    have e6 := h6 (hd_ 1 6 (by kernel_rfl))
    obtain ⟨b_, eb_, hm_⟩ := e6
    refine val_ (w1 := w_) (v := .bool b_) (by rfl) rfl ?_ (hK.out _ _ _ rfl ⟨wE, h0, h1, h2, h3, h4, h5, h6, h7, (fun _ => ⟨b_, rfl, hm_⟩)⟩)
    go_simp
  intro dn_ X wz hdn_ hI_
  clear E0
  obtain ⟨wE, h0, h1, h2, h3, h4, h5, h6, h7, h8⟩ := hI_
  obtain ⟨b8_, e8_, hm8_⟩ := h8 (hdn_ 8 (by decide))
  rw [hdn_ 7 (by decide)] at wE
  have E0 := Aside0.mk (show AE T_ w0 w g b4 b5 b6 (C6 kind B wd A n c least most) l i' e' (R3 tm jm' qm') (R3 tm jm' qm') wz from wE)
  have HM8 := Aside0.mk hm8_
  rw [e8_]
  clear wE h0 h1 h2 h3 h4 h5 h6 h7 h8 e8_ hm8_ hdn_
  go_wp2
  refine bodyPost_ret (results_list (rs := [.cell 6 31, .tmp 7]) rfl (by simp) (.cell b6 31 (R3 tm jm' qm') (0, 0) _ rfl E0.out.e6 Try.underlying31 rfl (by kernel_rfl) (.tmp .nil))) rfl ?_
  exact ⟨b8_, rfl, HM8.out, E0.out.is, E0.out.bel, E0.out.kp⟩) : p := h
theorem actqf {p : Prop} (h : p := by
  have NM : Aside0 (¬ M) := ⟨fun h_ => by cases HM.out h_⟩
  go_wp2_with (fail)
  refine region_inv (T := ?T32f) [some 160, some 161, some 162, some 163, some 164, some 165, some 166, none, some 7] ?hT32f (fun dn_ X w_ => AE T_ w0 w g b4 b5 b6 (C6 kind B wd A n c least most) l i' e' (R3 tm jm' qm') (bif dn_ 7 then (R3 tm jm' qm') else Z3) w_ ∧ (dn_ 0 = true → X 0 = .agg #[.string tm, .int .i64 jm', .int .i64 qm']) ∧ (dn_ 1 = true → X 1 = .bool false) ∧ (dn_ 2 = true → X 2 = .bool false) ∧ (dn_ 3 = true → True) ∧ (dn_ 4 = true → True) ∧ (dn_ 5 = true → True) ∧ (dn_ 6 = true → (∃ b_ : Bool, X 6 = .bool b_ ∧ (M → b_ = true))) ∧ (dn_ 7 = true → True) ∧ (dn_ 8 = true → (∃ b_ : Bool, X 8 = .bool b_ ∧ (M → b_ = true)))) (by kernel_rfl) (by kernel_rfl) (by rfl) [0, 1, 2, 3, 4, 5, 6, 7, 8] rfl (.cons (some 160) rfl rfl (fun dn_ X w_ hd0_ hd_ hI_ K hK => ?_) (.cons (some 161) rfl rfl (fun dn_ X w_ hd0_ hd_ hI_ K hK => ?_) (.cons (some 162) rfl rfl (fun dn_ X w_ hd0_ hd_ hI_ K hK => ?_) (.cons (some 163) rfl rfl (fun dn_ X w_ hd0_ hd_ hI_ K hK => ?_) (.cons (some 164) rfl rfl (fun dn_ X w_ hd0_ hd_ hI_ K hK => ?_) (.cons (some 165) rfl rfl (fun dn_ X w_ hd0_ hd_ hI_ K hK => ?_) (.cons (some 166) rfl rfl (fun dn_ X w_ hd0_ hd_ hI_ K hK => ?_) (.cons none rfl rfl (fun dn_ X w_ hd0_ hd_ hI_ K hK => ?_) (.cons (some 7) rfl rfl (fun dn_ X w_ hd0_ hd_ hI_ K hK => ?_) .nil))))))))) ?h032f ?hend32f
  case hT32f =>
    intro X
    simp only [fill, Act.put, sl_, Nat.zero_add, Nat.reduceAdd]
    rfl
  case h032f =>
    exact ⟨E0.out.below (below_drew (Below.refl _ _)), noF_, noF_, noF_, noF_, noF_, noF_, noF_, noF_, noF_⟩
  · -- 0
    have wE := hI_.1
    have z0_ := r3_0 wE.e4
    have z1_ := r3_1 wE.e4
    have z2_ := r3_2 wE.e4
    refine val_ (w1 := w_) (v := .agg #[.string tm, .int .i64 jm', .int .i64 qm']) (by rfl) rfl ?_ (hK.out _ _ _ rfl ⟨hI_.1, (fun _ => rfl), hI_.2.2.1, hI_.2.2.2.1, hI_.2.2.2.2.1, hI_.2.2.2.2.2.1, hI_.2.2.2.2.2.2.1, hI_.2.2.2.2.2.2.2.1, hI_.2.2.2.2.2.2.2.2.1, hI_.2.2.2.2.2.2.2.2.2⟩)
    go_simp
    all_goals (first | decide | rfl)
  · -- 1
    refine val_ (w1 := w_) (v := .bool false) (by rfl) rfl ?_ (hK.out _ _ _ rfl ⟨hI_.1, hI_.2.1, (fun _ => rfl), hI_.2.2.2.1, hI_.2.2.2.2.1, hI_.2.2.2.2.2.1, hI_.2.2.2.2.2.2.1, hI_.2.2.2.2.2.2.2.1, hI_.2.2.2.2.2.2.2.2.1, hI_.2.2.2.2.2.2.2.2.2⟩)
    go_simp
    all_goals (first | decide | rfl)
  · -- 2
    have e1 := hI_.2.2.1 (hd_ 1 1 (by kernel_rfl))
    refine val_ (w1 := w_) (v := .bool false) (by rfl) rfl ?_ (hK.out _ _ _ rfl ⟨hI_.1, hI_.2.1, hI_.2.2.1, (fun _ => rfl), hI_.2.2.2.2.1, hI_.2.2.2.2.2.1, hI_.2.2.2.2.2.2.1, hI_.2.2.2.2.2.2.2.1, hI_.2.2.2.2.2.2.2.2.1, hI_.2.2.2.2.2.2.2.2.2⟩)
    go_simp
    all_goals (first | decide | rfl)
  · -- 3
    have wE := hI_.1
    have h0 := hI_.2.1
    have h1 := hI_.2.2.1
    have h2 := hI_.2.2.2.1
    have h3 := hI_.2.2.2.2.1
    have h4 := hI_.2.2.2.2.2.1
    have h5 := hI_.2.2.2.2.2.2.1
    have h6 := hI_.2.2.2.2.2.2.2.1
    have h7 := hI_.2.2.2.2.2.2.2.2.1
    have h8 := hI_.2.2.2.2.2.2.2.2.2
    have e2 := h2 (hd_ 1 2 (by kernel_rfl))
    rw [if_neg (by rw [wanted_not rfl rfl (congrArg some e2)]; decide)]
    exact hK.out _ undef _ rfl ⟨wE, h0, h1, h2, (fun _ => trivial), h4, h5, h6, h7, h8⟩
  · -- 4
    have wE := hI_.1
    have h0 := hI_.2.1
    have h1 := hI_.2.2.1
    have h2 := hI_.2.2.2.1
    have h3 := hI_.2.2.2.2.1
    have h4 := hI_.2.2.2.2.2.1
    have h5 := hI_.2.2.2.2.2.2.1
    have h6 := hI_.2.2.2.2.2.2.2.1
    have h7 := hI_.2.2.2.2.2.2.2.2.1
    have h8 := hI_.2.2.2.2.2.2.2.2.2
    have e2 := h2 (hd_ 1 2 (by kernel_rfl))
    rw [if_neg (by rw [wanted_not rfl rfl (congrArg some e2)]; decide)]
    exact hK.out _ undef _ rfl ⟨wE, h0, h1, h2, h3, (fun _ => trivial), h5, h6, h7, h8⟩
  · -- 5
    have wE := hI_.1
    have h0 := hI_.2.1
    have h1 := hI_.2.2.1
    have h2 := hI_.2.2.2.1
    have h3 := hI_.2.2.2.2.1
    have h4 := hI_.2.2.2.2.2.1
    have h5 := hI_.2.2.2.2.2.2.1
    have h6 := hI_.2.2.2.2.2.2.2.1
    have h7 := hI_.2.2.2.2.2.2.2.2.1
    have h8 := hI_.2.2.2.2.2.2.2.2.2
    have e2 := h2 (hd_ 1 2 (by kernel_rfl))
    have e3 := h3 (hd_ 1 3 (by kernel_rfl))
    have e4 := h4 (hd_ 1 4 (by kernel_rfl))
    rw [if_neg (by rw [wanted_not rfl rfl (congrArg some e2)]; decide)]
    exact hK.out _ undef _ rfl ⟨wE, h0, h1, h2, h3, h4, (fun _ => trivial), h6, h7, h8⟩
  · -- 6
    have wE := hI_.1
    have h0 := hI_.2.1
    have h1 := hI_.2.2.1
    have h2 := hI_.2.2.2.1
    have h3 := hI_.2.2.2.2.1
    have h4 := hI_.2.2.2.2.2.1
    have h5 := hI_.2.2.2.2.2.2.1
    have h6 := hI_.2.2.2.2.2.2.2.1
    have h7 := hI_.2.2.2.2.2.2.2.2.1
    have h8 := hI_.2.2.2.2.2.2.2.2.2
    have e2 := h2 (hd_ 1 2 (by kernel_rfl))
    have e5 := h5 (hd_ 1 5 (by kernel_rfl))
    refine val_ (w1 := w_) (v := .bool false) (by rfl) rfl ?_ (hK.out _ _ _ rfl ⟨wE, h0, h1, h2, h3, h4, h5, (fun _ => ⟨false, rfl, fun h_ => absurd h_ NM.out⟩), h7, h8⟩)
    go_simp
  · -- 7
    have wE := hI_.1
    have h0 := hI_.2.1
    have h1 := hI_.2.2.1
    have h2 := hI_.2.2.2.1
    have h3 := hI_.2.2.2.2.1
    have h4 := hI_.2.2.2.2.2.1
    have h5 := hI_.2.2.2.2.2.2.1
    have h6 := hI_.2.2.2.2.2.2.2.1
    have h7 := hI_.2.2.2.2.2.2.2.2.1
    have h8 := hI_.2.2.2.2.2.2.2.2.2
    have e0 := h0 (hd_ 1 0 (by kernel_rfl))
    have wE0 : AE T_ w0 w g b4 b5 b6 (C6 kind B wd A n c least most) l i' e' (R3 tm jm' qm') Z3 w_ := by rw [hd0_] at wE; exact wE
    rw [if_pos (by rfl)]
    refine wp_store_row 31 _ _ rfl b6 (R3 tm jm' qm') rfl ?_ 31 _ wE0.e6 (by kernel_rfl) (by rfl) (one3 _ _ _ _ _) ?_
    · exact e0
    · exact hK.out _ undef _ rfl ⟨(wE0.set6 _), h0, h1, h2, h3, h4, h5, h6, (fun _ => trivial), h8⟩
  · -- 8
    have wE := hI_.1
    have h0 := hI_.2.1
    have h1 := hI_.2.2.1
    have h2 := hI_.2.2.2.1
    have h3 := hI_.2.2.2.2.1
    have h4 := hI_.2.2.2.2.2.1
    have h5 := hI_.2.2.2.2.2.2.1
    have h6 := hI_.2.2.2.2.2.2.2.1
    have h7 := hI_.2.2.2.2.2.2.2.2.1
    have h8 := hI_.2.2.2.2.2.2.2.2.2
    have e6 := h6 (hd_ 1 6 (by kernel_rfl))
    obtain ⟨b_, eb_, hm_⟩ := e6
    refine val_ (w1 := w_) (v := .bool b_) (by rfl) rfl ?_ (hK.out _ _ _ rfl ⟨wE, h0, h1, h2, h3, h4, h5, h6, h7, (fun _ => ⟨b_, rfl, hm_⟩)⟩)
    go_simp
  intro dn_ X wz hdn_ hI_
  clear E0
  obtain ⟨wE, h0, h1, h2, h3, h4, h5, h6, h7, h8⟩ := hI_
  obtain ⟨b8_, e8_, hm8_⟩ := h8 (hdn_ 8 (by decide))
  rw [hdn_ 7 (by decide)] at wE
  have E0 := Aside0.mk (show AE T_ w0 w g b4 b5 b6 (C6 kind B wd A n c least most) l i' e' (R3 tm jm' qm') (R3 tm jm' qm') wz from wE)
  have HM8 := Aside0.mk hm8_
  rw [e8_]
  clear wE h0 h1 h2 h3 h4 h5 h6 h7 h8 e8_ hm8_ hdn_
  go_wp2
  refine bodyPost_ret (results_list (rs := [.cell 6 31, .tmp 7]) rfl (by simp) (.cell b6 31 (R3 tm jm' qm') (0, 0) _ rfl E0.out.e6 Try.underlying31 rfl (by kernel_rfl) (.tmp .nil))) rfl ?_
  exact ⟨b8_, rfl, HM8.out, E0.out.is, E0.out.bel, E0.out.kp⟩) : p := h
end Go.Proofs.Ytonjfggfcnpgbaa.MScanPlays

/- An act on a scanner and on the document's: what is called stands as premises (written by gen_scact3.py). -/
namespace Go.Proofs.Ytonjfggfcnpgbaa.MScanPlays
open Go.RowKit Go.Proofs.YtonjfggfcnpgbaaW.PrintWords Go.Proofs.YtonjfggfcnpgbaaW.PrintLast Go.Proofs.YtonjfggfcnpgbaaW.PrintMore Go.Proofs.Ytonjfggfcnpgbaa.Base
set_option linter.unusedVariables false
set_option linter.unusedSimpArgs false

set_option maxHeartbeats 64000000 in
set_option maxRecDepth 100000 in
theorem string_act (T_ : TypeId) (w0 w : World) (g : Nat) (l : List Int) (i i' : Int) (e e' : Option Int) (tm : ByteArray) (jm qm jm' qm' : Int) (kind B : Int) (wd : ByteArray) (A : Option Addr) (n c : Nat) (least most : Int) (M : Prop)
    (hi : BoxS T_ w0 w g l i e) (hB : Below w0.heap.size w0 w)
    (hk : ((IntKind.u64.wrap kind).tmod 9 = 0 ∧ ∃ sb rb : Bool, RefC w g 32 (.agg #[.string tm, .int .i64 jm, .int .i64 qm]) [.int .u8 B] (.tuple #[.bool rb, .agg #[.string tm, .int .i64 jm', .int .i64 qm']]) ∧ ScanC T_ w0 w g l i e i' e' 23 [.int .u8 B] (.bool sb) ∧ (M → sb = rb))
      ∨ ((IntKind.u64.wrap kind).tmod 9 = 1 ∧ ∃ sb rb : Bool, RefC w g 33 (.agg #[.string tm, .int .i64 jm, .int .i64 qm]) [.string wd] (.tuple #[.bool rb, .agg #[.string tm, .int .i64 jm', .int .i64 qm']]) ∧ ScanC T_ w0 w g l i e i' e' 24 [.string wd] (.bool sb) ∧ (M → sb = rb))
      ∨ ((IntKind.u64.wrap kind).tmod 9 = 2 ∧ ∃ sb rb : ByteArray, RefC w g 34 (.agg #[.string tm, .int .i64 jm, .int .i64 qm]) [.string wd] (.tuple #[.string rb, .agg #[.string tm, .int .i64 jm', .int .i64 qm']]) ∧ ScanC T_ w0 w g l i e i' e' 16 [.string wd] (.string sb) ∧ (M → sb = rb))
      ∨ ((IntKind.u64.wrap kind).tmod 9 = 3 ∧ ∃ sb rb : ByteArray, RefC w g 35 (.agg #[.string tm, .int .i64 jm, .int .i64 qm]) [.int .u8 B] (.tuple #[.string rb, .agg #[.string tm, .int .i64 jm', .int .i64 qm']]) ∧ ScanC T_ w0 w g l i e i' e' 17 [.int .u8 B] (.string sb) ∧ (M → sb = rb))
      ∨ ((IntKind.u64.wrap kind).tmod 9 = 4 ∧ ∃ sb rb : Int, RefC w g 36 (.agg #[.string tm, .int .i64 jm, .int .i64 qm]) [.int .i64 least, .int .i64 most] (.tuple #[.int .i64 rb, .agg #[.string tm, .int .i64 jm', .int .i64 qm']]) ∧ ScanC T_ w0 w g l i e i' e' 25 [.int .i64 least, .int .i64 most] (.int .i64 sb) ∧ (M → sb = rb))
      ∨ ((IntKind.u64.wrap kind).tmod 9 = 5 ∧ RefC w g 33 (.agg #[.string tm, .int .i64 jm, .int .i64 qm]) [.string wd] (.tuple #[.bool true, .agg #[.string tm, .int .i64 jm', .int .i64 qm']]) ∧ ScanC T_ w0 w g l i e i' e' 19 [.string wd] (.tuple #[]))
      ∨ ((IntKind.u64.wrap kind).tmod 9 = 5 ∧ ∃ jm1 qm1, RefC w g 33 (.agg #[.string tm, .int .i64 jm, .int .i64 qm]) [.string wd] (.tuple #[.bool false, .agg #[.string tm, .int .i64 jm1, .int .i64 qm1]]) ∧ RefC w g 37 (.agg #[.string tm, .int .i64 jm1, .int .i64 qm1]) [.int .i64 2] (.agg #[.string tm, .int .i64 jm', .int .i64 qm']) ∧ ScanC T_ w0 w g l i e i' e' 19 [.string wd] (.tuple #[]))
      ∨ ((IntKind.u64.wrap kind).tmod 9 = 6 ∧ ∃ sb rb : Int, RefC w g 38 (.agg #[.string tm, .int .i64 jm, .int .i64 qm]) [.slice A n c] (.tuple #[.int .i64 rb, .agg #[.string tm, .int .i64 jm', .int .i64 qm']]) ∧ ScanC T_ w0 w g l i e i' e' 26 [.slice A n c] (.int .i64 sb) ∧ (M → sb = rb))
      ∨ ((IntKind.u64.wrap kind).tmod 9 = 7 ∧ RefC w g 39 (.agg #[.string tm, .int .i64 jm, .int .i64 qm]) [.int .i64 most] (.agg #[.string tm, .int .i64 jm', .int .i64 qm']) ∧ ScanC T_ w0 w g l i e i' e' 20 [.int .i64 most] (.tuple #[]))
      ∨ (((IntKind.u64.wrap kind).tmod 9 ≠ 0 ∧ (IntKind.u64.wrap kind).tmod 9 ≠ 1 ∧ (IntKind.u64.wrap kind).tmod 9 ≠ 2 ∧ (IntKind.u64.wrap kind).tmod 9 ≠ 3 ∧ (IntKind.u64.wrap kind).tmod 9 ≠ 4 ∧ (IntKind.u64.wrap kind).tmod 9 ≠ 5 ∧ (IntKind.u64.wrap kind).tmod 9 ≠ 6 ∧ (IntKind.u64.wrap kind).tmod 9 ≠ 7) ∧ RefC w g 37 (.agg #[.string tm, .int .i64 jm, .int .i64 qm]) [.int .i64 11] (.agg #[.string tm, .int .i64 jm', .int .i64 qm']) ∧ ScanC T_ w0 w g l i e i' e' 21 [errW (some 11)] (.tuple #[])))
    (hsame : ∀ W, BoxS T_ w0 W g l i' e' → Below w0.heap.size w0 W → Calls Try.prog 10 #[.pointer (some ⟨g, 0, none⟩), .agg #[.string tm, .int .i64 jm', .int .i64 qm']] W fun e_ w' => ∃ b, e_ = .returned (.bool b) ∧ (M → b = true) ∧ Below W.heap.size W w') :
    Calls Try.prog 11 #[.pointer (some ⟨g, 0, none⟩), .agg #[.string tm, .int .i64 jm, .int .i64 qm], .agg #[.int .i64 kind, .int .u8 B, .string wd, .slice A n c, .int .i64 least, .int .i64 most]] w fun e_ w' => ∃ b, e_ = .returned (.tuple #[.agg #[.string tm, .int .i64 jm', .int .i64 qm'], .bool b]) ∧ (M → b = true) ∧ BoxS T_ w0 w' g l i' e' ∧ Below w0.heap.size w0 w' ∧ KeepBut w w' g none := by
  have E0 := Aside0.mk (show AE T_ w0 w g w.heap.size (w.heap.size + 1) (w.heap.size + 1 + 1) (C6 kind B wd A n c least most) l i e (R3 tm jm qm) Z3 (((w.alloc (.cells #[.string tm, .int .i64 jm, .int .i64 qm] 31)).alloc (.cells #[.int .i64 kind, .int .u8 B, .string wd, .slice A n c, .int .i64 least, .int .i64 most] 35)).alloc (.cells #[.string ⟨#[]⟩, .int .i64 0, .int .i64 0] 31)) from ae_start hi hB #[.string tm, .int .i64 jm, .int .i64 qm] #[.int .i64 kind, .int .u8 B, .string wd, .slice A n c, .int .i64 least, .int .i64 most] #[.string ⟨#[]⟩, .int .i64 0, .int .i64 0])
  have HS := Aside0.mk hsame
  have HK := Aside0.mk hk
  clear hsame hi hB hk
  go_enter Try.func11, Try.ntmps11
  go_upto_block 0 with (fail)
  generalize (((w.alloc (.cells #[.string tm, .int .i64 jm, .int .i64 qm] 31)).alloc (.cells #[.int .i64 kind, .int .u8 B, .string wd, .slice A n c, .int .i64 least, .int .i64 most] 35)).alloc (.cells #[.string ⟨#[]⟩, .int .i64 0, .int .i64 0] 31)) = W1 at E0 ⊢
  generalize w.heap.size + 1 + 1 = b6 at E0 ⊢
  generalize w.heap.size + 1 = b5 at E0 ⊢
  generalize w.heap.size = b4 at E0 ⊢
  generalize hkx : (IntKind.u64.wrap kind).tmod 9 = kk at HK ⊢
  clear hkx
  go_cut [8] (fun v8 wc => ∃ b8 : Bool, v8 = .bool b8 ∧ Aside0 (M → b8 = true) ∧ Aside0 (AE T_ w0 w g b4 b5 b6 (C6 kind B wd A n c least most) l i' e' (R3 tm jm' qm') Z3 wc))
  case first =>
    rcases HK.out with ⟨hkk, sb, rb, href, hact, hm⟩ | ⟨hkk, sb, rb, href, hact, hm⟩ | ⟨hkk, sb, rb, href, hact, hm⟩ | ⟨hkk, sb, rb, href, hact, hm⟩ | ⟨hkk, sb, rb, href, hact, hm⟩ | ⟨hkk, href, hact⟩ | ⟨hkk, jm1, qm1, href, hfail, hact⟩ | ⟨hkk, sb, rb, href, hact, hm⟩ | ⟨hkk, href, hact⟩ | ⟨hkk, href, hact⟩
    · clear HK HS
      have HF_ := Aside0.mk Try.func23
      exact actq0
    · clear HK HS
      have HF_ := Aside0.mk Try.func24
      exact actq1
    · clear HK HS
      have HF_ := Aside0.mk Try.func16
      exact actq2
    · clear HK HS
      have HF_ := Aside0.mk Try.func17
      exact actq3
    · clear HK HS
      have HF_ := Aside0.mk Try.func25
      exact actq4
    · clear HK HS
      have HF_ := Aside0.mk Try.func19
      exact actq5
    · clear HK HS
      have HF_ := Aside0.mk Try.func19
      exact actq55
    · clear HK HS
      have HF_ := Aside0.mk Try.func26
      exact actq6
    · clear HK HS
      have HF_ := Aside0.mk Try.func20
      exact actq7
    · clear HK HS
      have HF_ := Aside0.mk Try.func21
      exact actq8
  case rest =>
    clear E0 HK
    have HSF_ := Aside0.mk Try.func10
    obtain ⟨b8, rfl, HM, E0⟩ := hcut
    cases b8 with
    | true =>
      exact actqt
    | false =>
      exact actqf
end Go.Proofs.Ytonjfggfcnpgbaa.MScanPlays

/- An act on a scanner and on the document's: what is called stands as premises (written by gen_scact3.py). -/
namespace Go.Proofs.Ytonjfggfcnpgbaa.MScanPlays
open Go.RowKit Go.Proofs.YtonjfggfcnpgbaaW.PrintWords Go.Proofs.YtonjfggfcnpgbaaW.PrintLast Go.Proofs.YtonjfggfcnpgbaaW.PrintMore Go.Proofs.Ytonjfggfcnpgbaa.Base
set_option linter.unusedVariables false
set_option linter.unusedSimpArgs false

set_option maxHeartbeats 64000000 in
set_option maxRecDepth 100000 in
theorem byte_act (T_ : TypeId) (w0 w : World) (g : Nat) (l : List Int) (i i' : Int) (e e' : Option Int) (tm : ByteArray) (jm qm jm' qm' : Int) (kind B : Int) (wd : ByteArray) (A : Option Addr) (n c : Nat) (least most : Int) (M : Prop)
    (hi : BoxS T_ w0 w g l i e) (hB : Below w0.heap.size w0 w)
    (hk : ((IntKind.u64.wrap kind).tmod 9 = 0 ∧ ∃ sb rb : Bool, RefC w g 32 (.agg #[.string tm, .int .i64 jm, .int .i64 qm]) [.int .u8 B] (.tuple #[.bool rb, .agg #[.string tm, .int .i64 jm', .int .i64 qm']]) ∧ ScanC T_ w0 w g l i e i' e' 40 [.int .u8 B] (.bool sb) ∧ (M → sb = rb))
      ∨ ((IntKind.u64.wrap kind).tmod 9 = 1 ∧ ∃ sb rb : Bool, RefC w g 33 (.agg #[.string tm, .int .i64 jm, .int .i64 qm]) [.string wd] (.tuple #[.bool rb, .agg #[.string tm, .int .i64 jm', .int .i64 qm']]) ∧ ScanC T_ w0 w g l i e i' e' 41 [.string wd] (.bool sb) ∧ (M → sb = rb))
      ∨ ((IntKind.u64.wrap kind).tmod 9 = 2 ∧ ∃ sb rb : ByteArray, RefC w g 34 (.agg #[.string tm, .int .i64 jm, .int .i64 qm]) [.string wd] (.tuple #[.string rb, .agg #[.string tm, .int .i64 jm', .int .i64 qm']]) ∧ ScanC T_ w0 w g l i e i' e' 42 [.string wd] (.string sb) ∧ (M → sb = rb))
      ∨ ((IntKind.u64.wrap kind).tmod 9 = 3 ∧ ∃ sb rb : ByteArray, RefC w g 35 (.agg #[.string tm, .int .i64 jm, .int .i64 qm]) [.int .u8 B] (.tuple #[.string rb, .agg #[.string tm, .int .i64 jm', .int .i64 qm']]) ∧ ScanC T_ w0 w g l i e i' e' 43 [.int .u8 B] (.string sb) ∧ (M → sb = rb))
      ∨ ((IntKind.u64.wrap kind).tmod 9 = 4 ∧ ∃ sb rb : Int, RefC w g 36 (.agg #[.string tm, .int .i64 jm, .int .i64 qm]) [.int .i64 least, .int .i64 most] (.tuple #[.int .i64 rb, .agg #[.string tm, .int .i64 jm', .int .i64 qm']]) ∧ ScanC T_ w0 w g l i e i' e' 44 [.int .i64 least, .int .i64 most] (.int .i64 sb) ∧ (M → sb = rb))
      ∨ ((IntKind.u64.wrap kind).tmod 9 = 5 ∧ RefC w g 33 (.agg #[.string tm, .int .i64 jm, .int .i64 qm]) [.string wd] (.tuple #[.bool true, .agg #[.string tm, .int .i64 jm', .int .i64 qm']]) ∧ ScanC T_ w0 w g l i e i' e' 45 [.string wd] (.tuple #[]))
      ∨ ((IntKind.u64.wrap kind).tmod 9 = 5 ∧ ∃ jm1 qm1, RefC w g 33 (.agg #[.string tm, .int .i64 jm, .int .i64 qm]) [.string wd] (.tuple #[.bool false, .agg #[.string tm, .int .i64 jm1, .int .i64 qm1]]) ∧ RefC w g 37 (.agg #[.string tm, .int .i64 jm1, .int .i64 qm1]) [.int .i64 2] (.agg #[.string tm, .int .i64 jm', .int .i64 qm']) ∧ ScanC T_ w0 w g l i e i' e' 45 [.string wd] (.tuple #[]))
      ∨ ((IntKind.u64.wrap kind).tmod 9 = 6 ∧ ∃ sb rb : Int, RefC w g 38 (.agg #[.string tm, .int .i64 jm, .int .i64 qm]) [.slice A n c] (.tuple #[.int .i64 rb, .agg #[.string tm, .int .i64 jm', .int .i64 qm']]) ∧ ScanC T_ w0 w g l i e i' e' 46 [.slice A n c] (.int .i64 sb) ∧ (M → sb = rb))
      ∨ ((IntKind.u64.wrap kind).tmod 9 = 7 ∧ RefC w g 39 (.agg #[.string tm, .int .i64 jm, .int .i64 qm]) [.int .i64 most] (.agg #[.string tm, .int .i64 jm', .int .i64 qm']) ∧ ScanC T_ w0 w g l i e i' e' 47 [.int .i64 most] (.tuple #[]))
      ∨ (((IntKind.u64.wrap kind).tmod 9 ≠ 0 ∧ (IntKind.u64.wrap kind).tmod 9 ≠ 1 ∧ (IntKind.u64.wrap kind).tmod 9 ≠ 2 ∧ (IntKind.u64.wrap kind).tmod 9 ≠ 3 ∧ (IntKind.u64.wrap kind).tmod 9 ≠ 4 ∧ (IntKind.u64.wrap kind).tmod 9 ≠ 5 ∧ (IntKind.u64.wrap kind).tmod 9 ≠ 6 ∧ (IntKind.u64.wrap kind).tmod 9 ≠ 7) ∧ RefC w g 37 (.agg #[.string tm, .int .i64 jm, .int .i64 qm]) [.int .i64 11] (.agg #[.string tm, .int .i64 jm', .int .i64 qm']) ∧ ScanC T_ w0 w g l i e i' e' 48 [errW (some 11)] (.tuple #[])))
    (hsame : ∀ W, BoxS T_ w0 W g l i' e' → Below w0.heap.size w0 W → Calls Try.prog 49 #[.pointer (some ⟨g, 0, none⟩), .agg #[.string tm, .int .i64 jm', .int .i64 qm']] W fun e_ w' => ∃ b, e_ = .returned (.bool b) ∧ (M → b = true) ∧ Below W.heap.size W w') :
    Calls Try.prog 12 #[.pointer (some ⟨g, 0, none⟩), .agg #[.string tm, .int .i64 jm, .int .i64 qm], .agg #[.int .i64 kind, .int .u8 B, .string wd, .slice A n c, .int .i64 least, .int .i64 most]] w fun e_ w' => ∃ b, e_ = .returned (.tuple #[.agg #[.string tm, .int .i64 jm', .int .i64 qm'], .bool b]) ∧ (M → b = true) ∧ BoxS T_ w0 w' g l i' e' ∧ Below w0.heap.size w0 w' ∧ KeepBut w w' g none := by
  have E0 := Aside0.mk (show AE T_ w0 w g w.heap.size (w.heap.size + 1) (w.heap.size + 1 + 1) (C6 kind B wd A n c least most) l i e (R3 tm jm qm) Z3 (((w.alloc (.cells #[.string tm, .int .i64 jm, .int .i64 qm] 31)).alloc (.cells #[.int .i64 kind, .int .u8 B, .string wd, .slice A n c, .int .i64 least, .int .i64 most] 35)).alloc (.cells #[.string ⟨#[]⟩, .int .i64 0, .int .i64 0] 31)) from ae_start hi hB #[.string tm, .int .i64 jm, .int .i64 qm] #[.int .i64 kind, .int .u8 B, .string wd, .slice A n c, .int .i64 least, .int .i64 most] #[.string ⟨#[]⟩, .int .i64 0, .int .i64 0])
  have HS := Aside0.mk hsame
  have HK := Aside0.mk hk
  clear hsame hi hB hk
  go_enter Try.func12, Try.ntmps12
  go_upto_block 0 with (fail)
  generalize (((w.alloc (.cells #[.string tm, .int .i64 jm, .int .i64 qm] 31)).alloc (.cells #[.int .i64 kind, .int .u8 B, .string wd, .slice A n c, .int .i64 least, .int .i64 most] 35)).alloc (.cells #[.string ⟨#[]⟩, .int .i64 0, .int .i64 0] 31)) = W1 at E0 ⊢
  generalize w.heap.size + 1 + 1 = b6 at E0 ⊢
  generalize w.heap.size + 1 = b5 at E0 ⊢
  generalize w.heap.size = b4 at E0 ⊢
  generalize hkx : (IntKind.u64.wrap kind).tmod 9 = kk at HK ⊢
  clear hkx
  go_cut [8] (fun v8 wc => ∃ b8 : Bool, v8 = .bool b8 ∧ Aside0 (M → b8 = true) ∧ Aside0 (AE T_ w0 w g b4 b5 b6 (C6 kind B wd A n c least most) l i' e' (R3 tm jm' qm') Z3 wc))
  case first =>
    rcases HK.out with ⟨hkk, sb, rb, href, hact, hm⟩ | ⟨hkk, sb, rb, href, hact, hm⟩ | ⟨hkk, sb, rb, href, hact, hm⟩ | ⟨hkk, sb, rb, href, hact, hm⟩ | ⟨hkk, sb, rb, href, hact, hm⟩ | ⟨hkk, href, hact⟩ | ⟨hkk, jm1, qm1, href, hfail, hact⟩ | ⟨hkk, sb, rb, href, hact, hm⟩ | ⟨hkk, href, hact⟩ | ⟨hkk, href, hact⟩
    · clear HK HS
      have HF_ := Aside0.mk Try.func40
      exact actq0
    · clear HK HS
      have HF_ := Aside0.mk Try.func41
      exact actq1
    · clear HK HS
      have HF_ := Aside0.mk Try.func42
      exact actq2
    · clear HK HS
      have HF_ := Aside0.mk Try.func43
      exact actq3
    · clear HK HS
      have HF_ := Aside0.mk Try.func44
      exact actq4
    · clear HK HS
      have HF_ := Aside0.mk Try.func45
      exact actq5
    · clear HK HS
      have HF_ := Aside0.mk Try.func45
      exact actq55
    · clear HK HS
      have HF_ := Aside0.mk Try.func46
      exact actq6
    · clear HK HS
      have HF_ := Aside0.mk Try.func47
      exact actq7
    · clear HK HS
      have HF_ := Aside0.mk Try.func48
      exact actq8
  case rest =>
    clear E0 HK
    have HSF_ := Aside0.mk Try.func49
    obtain ⟨b8, rfl, HM, E0⟩ := hcut
    cases b8 with
    | true =>
      exact actqt
    | false =>
      exact actqf
end Go.Proofs.Ytonjfggfcnpgbaa.MScanPlays

