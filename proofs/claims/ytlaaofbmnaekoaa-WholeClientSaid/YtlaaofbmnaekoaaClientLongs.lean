/- Where a head's stamps lie (written by gen_client.py). -/
import Derived.Test.YtlaaofbmnaekoaaClientHd
namespace Go.Proofs.Ytlaaofbmnaekoaa.MWholeClient
open Go.RowKit Go.Proofs.YtlaaofbmnaekoaaW.PrintWords Go.Proofs.YtlaaofbmnaekoaaW.PrintLast Go.Proofs.YtlaaofbmnaekoaaW.PrintMore Go.Proofs.Ytlaaofbmnaekoaa.Base
set_option linter.unusedVariables false
set_option linter.unusedSimpArgs false

set_option maxHeartbeats 16000000 in
set_option maxRecDepth 100000 in
theorem longs_c (w : World) (g : Nat) : Calls Try.prog 36 #[.pointer (some ⟨g, 0, none⟩)] w fun e w' => e = .returned (.agg #[.pointer (some ⟨g, 14, none⟩), .pointer (some ⟨g, 16, none⟩), .pointer (some ⟨g, 18, none⟩), .pointer (some ⟨g, 20, none⟩)]) ∧ Below w.heap.size w w' := by
  go_enter Try.func36, Try.ntmps36
  go_wp2_with (first | ((with_reducible refine gate_dst (N := 2) rfl ?_); refine box_event ?hg (N := 2) ?hd (cs := #[.pointer none, .pointer none, .pointer none, .pointer none]) (t := 88) ?hr ?_; (case hd => rfl); (case hg => rfl); (case hr => go_simp; try rfl); intro gb hg_ wb hx_ hb_; have Gb := Aside0.mk hg_; have Hb := Aside0.mk hb_; have Bb := Aside0.mk hx_; clear hg_ hx_ hb_; skip) | fail)
  have E0 := Aside0.mk (PH.start (Below.refl _ _) Hb.out Gb.out Bb.out)
  clear Hb Gb Bb
  refine region_inv (T := ?T1) [some 3, some 4, some 5, some 6, some 7, some 8, some 9, some 10, some 11, some 12, some 13, some 14, some 15, none] ?hT1 (fun dn_ X w_ => PH 88 w gb (bif dn_ 13 then #[.pointer (some ⟨g, 14, none⟩), .pointer (some ⟨g, 16, none⟩), .pointer (some ⟨g, 18, none⟩), .pointer (some ⟨g, 20, none⟩)] else #[.pointer none, .pointer none, .pointer none, .pointer none]) w_ ∧ (dn_ 0 = true → X 0 = .pointer (some ⟨g, 0, none⟩)) ∧ (dn_ 1 = true → X 1 = .pointer (some ⟨g, 0, none⟩)) ∧ (dn_ 2 = true → X 2 = .pointer (some ⟨g, 14, none⟩)) ∧ (dn_ 3 = true → X 3 = .pointer (some ⟨g, 0, none⟩)) ∧ (dn_ 4 = true → X 4 = .pointer (some ⟨g, 0, none⟩)) ∧ (dn_ 5 = true → X 5 = .pointer (some ⟨g, 16, none⟩)) ∧ (dn_ 6 = true → X 6 = .pointer (some ⟨g, 0, none⟩)) ∧ (dn_ 7 = true → X 7 = .pointer (some ⟨g, 0, none⟩)) ∧ (dn_ 8 = true → X 8 = .pointer (some ⟨g, 18, none⟩)) ∧ (dn_ 9 = true → X 9 = .pointer (some ⟨g, 0, none⟩)) ∧ (dn_ 10 = true → X 10 = .pointer (some ⟨g, 0, none⟩)) ∧ (dn_ 11 = true → X 11 = .pointer (some ⟨g, 20, none⟩)) ∧ (dn_ 12 = true → X 12 = .agg #[.pointer (some ⟨g, 14, none⟩), .pointer (some ⟨g, 16, none⟩), .pointer (some ⟨g, 18, none⟩), .pointer (some ⟨g, 20, none⟩)]) ∧ (dn_ 13 = true → True)) (by kernel_rfl) (by kernel_rfl) (by rfl) [0, 1, 2, 3, 4, 5, 6, 7, 8, 9, 10, 11, 12, 13] rfl (.cons (some 3) rfl rfl (fun dn_ X w_ hd0_ hd_ hI_ K hK => ?_) (.cons (some 4) rfl rfl (fun dn_ X w_ hd0_ hd_ hI_ K hK => ?_) (.cons (some 5) rfl rfl (fun dn_ X w_ hd0_ hd_ hI_ K hK => ?_) (.cons (some 6) rfl rfl (fun dn_ X w_ hd0_ hd_ hI_ K hK => ?_) (.cons (some 7) rfl rfl (fun dn_ X w_ hd0_ hd_ hI_ K hK => ?_) (.cons (some 8) rfl rfl (fun dn_ X w_ hd0_ hd_ hI_ K hK => ?_) (.cons (some 9) rfl rfl (fun dn_ X w_ hd0_ hd_ hI_ K hK => ?_) (.cons (some 10) rfl rfl (fun dn_ X w_ hd0_ hd_ hI_ K hK => ?_) (.cons (some 11) rfl rfl (fun dn_ X w_ hd0_ hd_ hI_ K hK => ?_) (.cons (some 12) rfl rfl (fun dn_ X w_ hd0_ hd_ hI_ K hK => ?_) (.cons (some 13) rfl rfl (fun dn_ X w_ hd0_ hd_ hI_ K hK => ?_) (.cons (some 14) rfl rfl (fun dn_ X w_ hd0_ hd_ hI_ K hK => ?_) (.cons (some 15) rfl rfl (fun dn_ X w_ hd0_ hd_ hI_ K hK => ?_) (.cons none rfl rfl (fun dn_ X w_ hd0_ hd_ hI_ K hK => ?_) .nil)))))))))))))) ?h01 ?hend1
  case hT1 =>
    intro X
    simp only [fill, Act.put, List.setIfInBounds_toArray, List.set_cons_zero, List.set_cons_succ, Nat.zero_add, Nat.reduceAdd]
    rfl
  case h01 =>
    exact ⟨E0.out.below (below_drew (Below.refl _ _)), noF_, noF_, noF_, noF_, noF_, noF_, noF_, noF_, noF_, noF_, noF_, noF_, noF_, noF_⟩
  · -- 0
    refine val_ (w1 := w_) (v := .pointer (some ⟨g, 0, none⟩)) (by rfl) rfl ?_ (hK.out _ _ _ rfl ⟨hI_.1, (fun _ => rfl), hI_.2.2.1, hI_.2.2.2.1, hI_.2.2.2.2.1, hI_.2.2.2.2.2.1, hI_.2.2.2.2.2.2.1, hI_.2.2.2.2.2.2.2.1, hI_.2.2.2.2.2.2.2.2.1, hI_.2.2.2.2.2.2.2.2.2.1, hI_.2.2.2.2.2.2.2.2.2.2.1, hI_.2.2.2.2.2.2.2.2.2.2.2.1, hI_.2.2.2.2.2.2.2.2.2.2.2.2.1, hI_.2.2.2.2.2.2.2.2.2.2.2.2.2.1, hI_.2.2.2.2.2.2.2.2.2.2.2.2.2.2⟩)
    go_simp
    all_goals (first | decide | rfl)
  · -- 1
    have e0 := hI_.2.1 (hd_ 1 0 (by kernel_rfl))
    refine val_ (w1 := w_) (v := .pointer (some ⟨g, 0, none⟩)) (by rfl) rfl ?_ (hK.out _ _ _ rfl ⟨hI_.1, hI_.2.1, (fun _ => rfl), hI_.2.2.2.1, hI_.2.2.2.2.1, hI_.2.2.2.2.2.1, hI_.2.2.2.2.2.2.1, hI_.2.2.2.2.2.2.2.1, hI_.2.2.2.2.2.2.2.2.1, hI_.2.2.2.2.2.2.2.2.2.1, hI_.2.2.2.2.2.2.2.2.2.2.1, hI_.2.2.2.2.2.2.2.2.2.2.2.1, hI_.2.2.2.2.2.2.2.2.2.2.2.2.1, hI_.2.2.2.2.2.2.2.2.2.2.2.2.2.1, hI_.2.2.2.2.2.2.2.2.2.2.2.2.2.2⟩)
    go_simp
    all_goals (first | decide | rfl)
  · -- 2
    have e1 := hI_.2.2.1 (hd_ 1 1 (by kernel_rfl))
    refine val_ (w1 := w_) (v := .pointer (some ⟨g, 14, none⟩)) (by rfl) rfl ?_ (hK.out _ _ _ rfl ⟨hI_.1, hI_.2.1, hI_.2.2.1, (fun _ => rfl), hI_.2.2.2.2.1, hI_.2.2.2.2.2.1, hI_.2.2.2.2.2.2.1, hI_.2.2.2.2.2.2.2.1, hI_.2.2.2.2.2.2.2.2.1, hI_.2.2.2.2.2.2.2.2.2.1, hI_.2.2.2.2.2.2.2.2.2.2.1, hI_.2.2.2.2.2.2.2.2.2.2.2.1, hI_.2.2.2.2.2.2.2.2.2.2.2.2.1, hI_.2.2.2.2.2.2.2.2.2.2.2.2.2.1, hI_.2.2.2.2.2.2.2.2.2.2.2.2.2.2⟩)
    go_simp
    all_goals (first | decide | rfl)
  · -- 3
    refine val_ (w1 := w_) (v := .pointer (some ⟨g, 0, none⟩)) (by rfl) rfl ?_ (hK.out _ _ _ rfl ⟨hI_.1, hI_.2.1, hI_.2.2.1, hI_.2.2.2.1, (fun _ => rfl), hI_.2.2.2.2.2.1, hI_.2.2.2.2.2.2.1, hI_.2.2.2.2.2.2.2.1, hI_.2.2.2.2.2.2.2.2.1, hI_.2.2.2.2.2.2.2.2.2.1, hI_.2.2.2.2.2.2.2.2.2.2.1, hI_.2.2.2.2.2.2.2.2.2.2.2.1, hI_.2.2.2.2.2.2.2.2.2.2.2.2.1, hI_.2.2.2.2.2.2.2.2.2.2.2.2.2.1, hI_.2.2.2.2.2.2.2.2.2.2.2.2.2.2⟩)
    go_simp
    all_goals (first | decide | rfl)
  · -- 4
    have e3 := hI_.2.2.2.2.1 (hd_ 1 3 (by kernel_rfl))
    refine val_ (w1 := w_) (v := .pointer (some ⟨g, 0, none⟩)) (by rfl) rfl ?_ (hK.out _ _ _ rfl ⟨hI_.1, hI_.2.1, hI_.2.2.1, hI_.2.2.2.1, hI_.2.2.2.2.1, (fun _ => rfl), hI_.2.2.2.2.2.2.1, hI_.2.2.2.2.2.2.2.1, hI_.2.2.2.2.2.2.2.2.1, hI_.2.2.2.2.2.2.2.2.2.1, hI_.2.2.2.2.2.2.2.2.2.2.1, hI_.2.2.2.2.2.2.2.2.2.2.2.1, hI_.2.2.2.2.2.2.2.2.2.2.2.2.1, hI_.2.2.2.2.2.2.2.2.2.2.2.2.2.1, hI_.2.2.2.2.2.2.2.2.2.2.2.2.2.2⟩)
    go_simp
    all_goals (first | decide | rfl)
  · -- 5
    have e4 := hI_.2.2.2.2.2.1 (hd_ 1 4 (by kernel_rfl))
    refine val_ (w1 := w_) (v := .pointer (some ⟨g, 16, none⟩)) (by rfl) rfl ?_ (hK.out _ _ _ rfl ⟨hI_.1, hI_.2.1, hI_.2.2.1, hI_.2.2.2.1, hI_.2.2.2.2.1, hI_.2.2.2.2.2.1, (fun _ => rfl), hI_.2.2.2.2.2.2.2.1, hI_.2.2.2.2.2.2.2.2.1, hI_.2.2.2.2.2.2.2.2.2.1, hI_.2.2.2.2.2.2.2.2.2.2.1, hI_.2.2.2.2.2.2.2.2.2.2.2.1, hI_.2.2.2.2.2.2.2.2.2.2.2.2.1, hI_.2.2.2.2.2.2.2.2.2.2.2.2.2.1, hI_.2.2.2.2.2.2.2.2.2.2.2.2.2.2⟩)
    go_simp
    all_goals (first | decide | rfl)
  · -- 6
    refine val_ (w1 := w_) (v := .pointer (some ⟨g, 0, none⟩)) (by rfl) rfl ?_ (hK.out _ _ _ rfl ⟨hI_.1, hI_.2.1, hI_.2.2.1, hI_.2.2.2.1, hI_.2.2.2.2.1, hI_.2.2.2.2.2.1, hI_.2.2.2.2.2.2.1, (fun _ => rfl), hI_.2.2.2.2.2.2.2.2.1, hI_.2.2.2.2.2.2.2.2.2.1, hI_.2.2.2.2.2.2.2.2.2.2.1, hI_.2.2.2.2.2.2.2.2.2.2.2.1, hI_.2.2.2.2.2.2.2.2.2.2.2.2.1, hI_.2.2.2.2.2.2.2.2.2.2.2.2.2.1, hI_.2.2.2.2.2.2.2.2.2.2.2.2.2.2⟩)
    go_simp
    all_goals (first | decide | rfl)
  · -- 7
    have e6 := hI_.2.2.2.2.2.2.2.1 (hd_ 1 6 (by kernel_rfl))
    refine val_ (w1 := w_) (v := .pointer (some ⟨g, 0, none⟩)) (by rfl) rfl ?_ (hK.out _ _ _ rfl ⟨hI_.1, hI_.2.1, hI_.2.2.1, hI_.2.2.2.1, hI_.2.2.2.2.1, hI_.2.2.2.2.2.1, hI_.2.2.2.2.2.2.1, hI_.2.2.2.2.2.2.2.1, (fun _ => rfl), hI_.2.2.2.2.2.2.2.2.2.1, hI_.2.2.2.2.2.2.2.2.2.2.1, hI_.2.2.2.2.2.2.2.2.2.2.2.1, hI_.2.2.2.2.2.2.2.2.2.2.2.2.1, hI_.2.2.2.2.2.2.2.2.2.2.2.2.2.1, hI_.2.2.2.2.2.2.2.2.2.2.2.2.2.2⟩)
    go_simp
    all_goals (first | decide | rfl)
  · -- 8
    have e7 := hI_.2.2.2.2.2.2.2.2.1 (hd_ 1 7 (by kernel_rfl))
    refine val_ (w1 := w_) (v := .pointer (some ⟨g, 18, none⟩)) (by rfl) rfl ?_ (hK.out _ _ _ rfl ⟨hI_.1, hI_.2.1, hI_.2.2.1, hI_.2.2.2.1, hI_.2.2.2.2.1, hI_.2.2.2.2.2.1, hI_.2.2.2.2.2.2.1, hI_.2.2.2.2.2.2.2.1, hI_.2.2.2.2.2.2.2.2.1, (fun _ => rfl), hI_.2.2.2.2.2.2.2.2.2.2.1, hI_.2.2.2.2.2.2.2.2.2.2.2.1, hI_.2.2.2.2.2.2.2.2.2.2.2.2.1, hI_.2.2.2.2.2.2.2.2.2.2.2.2.2.1, hI_.2.2.2.2.2.2.2.2.2.2.2.2.2.2⟩)
    go_simp
    all_goals (first | decide | rfl)
  · -- 9
    refine val_ (w1 := w_) (v := .pointer (some ⟨g, 0, none⟩)) (by rfl) rfl ?_ (hK.out _ _ _ rfl ⟨hI_.1, hI_.2.1, hI_.2.2.1, hI_.2.2.2.1, hI_.2.2.2.2.1, hI_.2.2.2.2.2.1, hI_.2.2.2.2.2.2.1, hI_.2.2.2.2.2.2.2.1, hI_.2.2.2.2.2.2.2.2.1, hI_.2.2.2.2.2.2.2.2.2.1, (fun _ => rfl), hI_.2.2.2.2.2.2.2.2.2.2.2.1, hI_.2.2.2.2.2.2.2.2.2.2.2.2.1, hI_.2.2.2.2.2.2.2.2.2.2.2.2.2.1, hI_.2.2.2.2.2.2.2.2.2.2.2.2.2.2⟩)
    go_simp
    all_goals (first | decide | rfl)
  · -- 10
    have e9 := hI_.2.2.2.2.2.2.2.2.2.2.1 (hd_ 1 9 (by kernel_rfl))
    refine val_ (w1 := w_) (v := .pointer (some ⟨g, 0, none⟩)) (by rfl) rfl ?_ (hK.out _ _ _ rfl ⟨hI_.1, hI_.2.1, hI_.2.2.1, hI_.2.2.2.1, hI_.2.2.2.2.1, hI_.2.2.2.2.2.1, hI_.2.2.2.2.2.2.1, hI_.2.2.2.2.2.2.2.1, hI_.2.2.2.2.2.2.2.2.1, hI_.2.2.2.2.2.2.2.2.2.1, hI_.2.2.2.2.2.2.2.2.2.2.1, (fun _ => rfl), hI_.2.2.2.2.2.2.2.2.2.2.2.2.1, hI_.2.2.2.2.2.2.2.2.2.2.2.2.2.1, hI_.2.2.2.2.2.2.2.2.2.2.2.2.2.2⟩)
    go_simp
    all_goals (first | decide | rfl)
  · -- 11
    have e10 := hI_.2.2.2.2.2.2.2.2.2.2.2.1 (hd_ 1 10 (by kernel_rfl))
    refine val_ (w1 := w_) (v := .pointer (some ⟨g, 20, none⟩)) (by rfl) rfl ?_ (hK.out _ _ _ rfl ⟨hI_.1, hI_.2.1, hI_.2.2.1, hI_.2.2.2.1, hI_.2.2.2.2.1, hI_.2.2.2.2.2.1, hI_.2.2.2.2.2.2.1, hI_.2.2.2.2.2.2.2.1, hI_.2.2.2.2.2.2.2.2.1, hI_.2.2.2.2.2.2.2.2.2.1, hI_.2.2.2.2.2.2.2.2.2.2.1, hI_.2.2.2.2.2.2.2.2.2.2.2.1, (fun _ => rfl), hI_.2.2.2.2.2.2.2.2.2.2.2.2.2.1, hI_.2.2.2.2.2.2.2.2.2.2.2.2.2.2⟩)
    go_simp
    all_goals (first | decide | rfl)
  · -- 12
    have e2 := hI_.2.2.2.1 (hd_ 1 2 (by kernel_rfl))
    have e5 := hI_.2.2.2.2.2.2.1 (hd_ 1 5 (by kernel_rfl))
    have e8 := hI_.2.2.2.2.2.2.2.2.2.1 (hd_ 1 8 (by kernel_rfl))
    have e11 := hI_.2.2.2.2.2.2.2.2.2.2.2.2.1 (hd_ 1 11 (by kernel_rfl))
    refine val_ (w1 := w_) (v := .agg #[.pointer (some ⟨g, 14, none⟩), .pointer (some ⟨g, 16, none⟩), .pointer (some ⟨g, 18, none⟩), .pointer (some ⟨g, 20, none⟩)]) (by rfl) rfl ?_ (hK.out _ _ _ rfl ⟨hI_.1, hI_.2.1, hI_.2.2.1, hI_.2.2.2.1, hI_.2.2.2.2.1, hI_.2.2.2.2.2.1, hI_.2.2.2.2.2.2.1, hI_.2.2.2.2.2.2.2.1, hI_.2.2.2.2.2.2.2.2.1, hI_.2.2.2.2.2.2.2.2.2.1, hI_.2.2.2.2.2.2.2.2.2.2.1, hI_.2.2.2.2.2.2.2.2.2.2.2.1, hI_.2.2.2.2.2.2.2.2.2.2.2.2.1, (fun _ => rfl), hI_.2.2.2.2.2.2.2.2.2.2.2.2.2.2⟩)
    go_simp
    all_goals (first | decide | rfl)
  · -- 13
    have wB := hI_.1
    have h0 := hI_.2.1
    have h1 := hI_.2.2.1
    have h2 := hI_.2.2.2.1
    have h3 := hI_.2.2.2.2.1
    have h4 := hI_.2.2.2.2.2.1
    have h5 := hI_.2.2.2.2.2.2.1
    have h6 := hI_.2.2.2.2.2.2.2.1
    have h7 := hI_.2.2.2.2.2.2.2.2.1
    have h8 := hI_.2.2.2.2.2.2.2.2.2.1
    have h9 := hI_.2.2.2.2.2.2.2.2.2.2.1
    have h10 := hI_.2.2.2.2.2.2.2.2.2.2.2.1
    have h11 := hI_.2.2.2.2.2.2.2.2.2.2.2.2.1
    have h12 := hI_.2.2.2.2.2.2.2.2.2.2.2.2.2.1
    have h13 := hI_.2.2.2.2.2.2.2.2.2.2.2.2.2.2
    have e12 := h12 (hd_ 1 12 (by kernel_rfl))
    have wB0 : PH 88 w gb #[.pointer none, .pointer none, .pointer none, .pointer none] w_ := by rw [hd0_] at wB; exact wB
    rw [if_pos (by rfl)]
    refine wp_store_row 88 _ _ rfl gb #[.pointer (some ⟨g, 14, none⟩), .pointer (some ⟨g, 16, none⟩), .pointer (some ⟨g, 18, none⟩), .pointer (some ⟨g, 20, none⟩)] rfl ?_ 88 _ wB0.row (by kernel_rfl) (by rfl) (by simp [Value.oneCell']) ?_
    · exact e12
    · exact hK.out _ undef _ rfl ⟨(wB0.set _), h0, h1, h2, h3, h4, h5, h6, h7, h8, h9, h10, h11, h12, (fun _ => trivial)⟩
  intro dn_ X wv hdn_ hI_
  obtain ⟨wB, h0, h1, h2, h3, h4, h5, h6, h7, h8, h9, h10, h11, h12, h13⟩ := hI_
  rw [hdn_ 13 (by decide)] at wB
  have E1 := Aside0.mk (show PH 88 w gb #[.pointer (some ⟨g, 14, none⟩), .pointer (some ⟨g, 16, none⟩), .pointer (some ⟨g, 18, none⟩), .pointer (some ⟨g, 20, none⟩)] wv from wB)
  clear E0 wB h0 h1 h2 h3 h4 h5 h6 h7 h8 h9 h10 h11 h12 h13 hdn_
  go_wp2_with (fail)
  refine bodyPost_ret (results_cell_row rfl _ _ gb 88 #[.pointer (some ⟨g, 14, none⟩), .pointer (some ⟨g, 16, none⟩), .pointer (some ⟨g, 18, none⟩), .pointer (some ⟨g, 20, none⟩)] (0, 0) _ rfl E1.out.row Try.underlying88 rfl (by kernel_rfl)) rfl ?_
  exact ⟨rfl, E1.out.bel⟩
theorem size_one {e : TypeId} (h : (Try.prog.info? e).map (·.size) = some 1) (w : World) : (sizeOf e).run Try.prog w = .ok 1 w := by
  cases hq : Try.prog.info? e with
  | none => rw [hq] at h; cases h
  | some i =>
    rw [hq] at h
    have hz : i.size = 1 := Option.some.inj h
    simp [sizeOf, typeInfo, hq, hz]
theorem agg87 (w : World) : (isAgg 87).run Try.prog w = .ok false w := by
  unfold isAgg
  rw [Sem.run_bind, run_underlying Try.underlying87 w]
  rfl
theorem idx0 (a b c d : Option Addr) (w : World) : (Go.Instr.index 88 (.agg #[.pointer a, .pointer b, .pointer c, .pointer d]) (.int .i64 0)).run Try.prog w = .ok (.pointer a) w := by
  unfold Go.Instr.index
  simp [Sem.run_bind, asIntOf, run_underlying Try.underlying88, size_one (e := 87) (by kernel_rfl), part, agg87]
theorem idx1 (a b c d : Option Addr) (w : World) : (Go.Instr.index 88 (.agg #[.pointer a, .pointer b, .pointer c, .pointer d]) (.int .i64 1)).run Try.prog w = .ok (.pointer b) w := by
  unfold Go.Instr.index
  simp [Sem.run_bind, asIntOf, run_underlying Try.underlying88, size_one (e := 87) (by kernel_rfl), part, agg87]
theorem idx2 (a b c d : Option Addr) (w : World) : (Go.Instr.index 88 (.agg #[.pointer a, .pointer b, .pointer c, .pointer d]) (.int .i64 2)).run Try.prog w = .ok (.pointer c) w := by
  unfold Go.Instr.index
  simp [Sem.run_bind, asIntOf, run_underlying Try.underlying88, size_one (e := 87) (by kernel_rfl), part, agg87]
theorem idx3 (a b c d : Option Addr) (w : World) : (Go.Instr.index 88 (.agg #[.pointer a, .pointer b, .pointer c, .pointer d]) (.int .i64 3)).run Try.prog w = .ok (.pointer d) w := by
  unfold Go.Instr.index
  simp [Sem.run_bind, asIntOf, run_underlying Try.underlying88, size_one (e := 87) (by kernel_rfl), part, agg87]
end Go.Proofs.Ytlaaofbmnaekoaa.MWholeClient
