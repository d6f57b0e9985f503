/- The head of bytes (written by gen_client.py). -/
import Derived.Test.YtlaaofbmnaekoaaClientLongs
namespace Go.Proofs.Ytlaaofbmnaekoaa.MWholeClient
open Go.RowKit Go.Proofs.YtlaaofbmnaekoaaW.PrintWords Go.Proofs.YtlaaofbmnaekoaaW.PrintLast Go.Proofs.YtlaaofbmnaekoaaW.PrintMore Go.Proofs.Ytlaaofbmnaekoaa.Base
set_option linter.unusedVariables false
set_option linter.unusedSimpArgs false

set_option maxHeartbeats 16000000 in
set_option maxRecDepth 100000 in
theorem parse_c (w : World) (A : Option Addr) (c : Nat) (l : List Int) (kk : Nat) (al : List Int) (x : HD) (hC : Kd.C (Kd.int .u8) w A l.length l) (hc : l.length ≤ c)
    (hcut : octets_Cut.f kk l 0 48 = some (al, none)) (hal : al.length = 48) (hf : head_First.f kk al = some (x.lp, x.vn, x.md, none))
    (h1 : rdOf (0 : Int) al 1 = x.st) (h2 : IntKind.i8.wrap (rdOf (0 : Int) al 2) = x.pl) (h3 : IntKind.i8.wrap (rdOf (0 : Int) al 3) = x.pr)
    (hd : stamp_ParseShort.f kk ((al.take 8).drop 4) = some (x.d0, x.d1, none)) (he : stamp_ParseShort.f kk ((al.take 12).drop 8) = some (x.e0, x.e1, none))
    (hr : rdOf (0 : Int) al 12 = x.r0 ∧ rdOf (0 : Int) al 13 = x.r1 ∧ rdOf (0 : Int) al 14 = x.r2 ∧ rdOf (0 : Int) al 15 = x.r3)
    (hs : ∀ k : Nat, k < 4 → stamp_Parse.f kk ((al.take (24 + 8 * k)).drop (16 + 8 * k)) = some ((x.sp k).1, (x.sp k).2, none)) :
    Calls Try.prog 16 #[.slice A l.length c] w fun e w' => e = .returned (.tuple #[.agg x.cs, .nilIface]) ∧ Below w.heap.size w w' := by
  have HC := Aside0.mk hC
  have HCC := Aside0.mk hc
  have HCUT := Aside0.mk hcut
  have HAL := Aside0.mk hal
  have HF := Aside0.mk hf
  have HX1 := Aside0.mk h1
  have HX2 := Aside0.mk h2
  have HX3 := Aside0.mk h3
  have HD_ := Aside0.mk hd
  have HE_ := Aside0.mk he
  have HR := Aside0.mk hr
  have HS := Aside0.mk hs
  clear hC hc hcut hal hf h1 h2 h3 hd he hr hs
  go_enter Try.func16, Try.ntmps16
  go_upto_region 8 with (first | ((with_reducible refine gate_dst (N := 2) rfl ?_); refine box_event ?hg (N := 2) ?hd (cs := Z22) (t := 53) ?hr ?_; (case hd => rfl); (case hg => rfl); (case hr => go_simp; try rfl); intro g0 hg_ w0 hx_ hb_; have G0 := Aside0.mk hg_; have H0 := Aside0.mk hb_; have B0 := Aside0.mk hx_; clear hg_ hx_ hb_; skip) | (go_at_call 33; refine (octets_Cut.calls kk A c l 0 48 al none _ (Kd.C_below HC.out H0.out) HCC.out HCUT.out).mono ?_; rintro e_ w1 ⟨v_, rfl, hv_, hb_⟩; obtain ⟨ba, cp, rfl, hlo_, hhi_, _⟩ := Kd.R_form hv_ (by rw [HAL.out]; omega); have HV := Aside0.mk hv_; have B1 := Aside0.mk (below_step H0.out hb_); have BO := Aside0.mk (blk_below B0.out hb_); have LO := Aside0.mk hhi_; have CQ := Aside0.mk (Kd.R_reads' hv_).2.1; have HC1 := Aside0.mk (Kd.R_reads' hv_).2.2; rw [HAL.out]; clear hv_ hb_ hlo_ hhi_; (try simp only [errW_none])) | ((with_reducible refine gate_dst (N := 6) rfl ?_); refine box_event ?hg (N := 6) ?hd (cs := Z22) (t := 53) ?hr ?_; (case hd => rfl); (case hg => rfl); (case hr => go_simp; try rfl); intro gb hg_ wb hx_ hb_; have Gb := Aside0.mk hg_; have Hb := Aside0.mk hb_; have Bb := Aside0.mk hx_; clear hg_ hx_ hb_; have E0 := Aside0.mk (PH.start (Below.refl _ _) Hb.out Gb.out Bb.out)) | (go_at_call 34; refine calls_of_args (args' := #[.slice (some ⟨ba, 0, none⟩) al.length cp]) (by rw [HAL.out]) ((head_First.calls kk _ cp al x.lp x.vn x.md none _ (Kd.C_below HC1.out E0.out.bel) CQ.out HF.out).mono ?_); rintro e_ w4 ⟨rfl, hb_⟩; have E0 := Aside0.mk (E0.out.below hb_); clear hb_; (try simp only [errW_none])) | ((with_reducible refine gate_store (t := 3) (p := 25) rfl ?_); refine store_part rfl 3 _ _ rfl rfl gb 0 (.int .i64 x.lp) [.int .i64 x.lp] rfl rfl rfl (by simp [Value.oneCell']) 53 (H22 0 0 0 0 0 0 0 0 0 0 0 0 0 0 0 0 0 0 0 0 0 0) (H22 x.lp 0 0 0 0 0 0 0 0 0 0 0 0 0 0 0 0 0 0 0 0 0) E0.out.row (by simp [H22]) (by kernel_rfl) (by rfl) ?_; have E0 := Aside0.mk (E0.out.set (H22 x.lp 0 0 0 0 0 0 0 0 0 0 0 0 0 0 0 0 0 0 0 0 0))) | ((with_reducible refine gate_store (t := 3) (p := 26) rfl ?_); refine store_part rfl 3 _ _ rfl rfl gb 1 (.int .i64 x.vn) [.int .i64 x.vn] rfl rfl rfl (by simp [Value.oneCell']) 53 (H22 x.lp 0 0 0 0 0 0 0 0 0 0 0 0 0 0 0 0 0 0 0 0 0) (H22 x.lp x.vn 0 0 0 0 0 0 0 0 0 0 0 0 0 0 0 0 0 0 0 0) E0.out.row (by simp [H22]) (by kernel_rfl) (by rfl) ?_; have E0 := Aside0.mk (E0.out.set (H22 x.lp x.vn 0 0 0 0 0 0 0 0 0 0 0 0 0 0 0 0 0 0 0 0))) | ((with_reducible refine gate_store (t := 3) (p := 27) rfl ?_); refine store_part rfl 3 _ _ rfl rfl gb 2 (.int .i64 x.md) [.int .i64 x.md] rfl rfl rfl (by simp [Value.oneCell']) 53 (H22 x.lp x.vn 0 0 0 0 0 0 0 0 0 0 0 0 0 0 0 0 0 0 0 0) (H22 x.lp x.vn x.md 0 0 0 0 0 0 0 0 0 0 0 0 0 0 0 0 0 0 0) E0.out.row (by simp [H22]) (by kernel_rfl) (by rfl) ?_; have E0 := Aside0.mk (E0.out.set (H22 x.lp x.vn x.md 0 0 0 0 0 0 0 0 0 0 0 0 0 0 0 0 0 0 0))) | fail)
  have Z1 := Aside0.mk (show w1.cell? ⟨ba, 1, none⟩ = some (.int .u8 (rdOf (0 : Int) al 1)) from (Kd.R_cell (0 : Int) HV.out 1 (by omega) (by rw [HAL.out]; omega)).1)
  have Z2 := Aside0.mk (show w1.cell? ⟨ba, 2, none⟩ = some (.int .u8 (rdOf (0 : Int) al 2)) from (Kd.R_cell (0 : Int) HV.out 2 (by omega) (by rw [HAL.out]; omega)).1)
  have Z3 := Aside0.mk (show w1.cell? ⟨ba, 3, none⟩ = some (.int .u8 (rdOf (0 : Int) al 3)) from (Kd.R_cell (0 : Int) HV.out 3 (by omega) (by rw [HAL.out]; omega)).1)
  have Z12 := Aside0.mk (show w1.cell? ⟨ba, 12, none⟩ = some (.int .u8 (rdOf (0 : Int) al 12)) from (Kd.R_cell (0 : Int) HV.out 12 (by omega) (by rw [HAL.out]; omega)).1)
  have Z13 := Aside0.mk (show w1.cell? ⟨ba, 13, none⟩ = some (.int .u8 (rdOf (0 : Int) al 13)) from (Kd.R_cell (0 : Int) HV.out 13 (by omega) (by rw [HAL.out]; omega)).1)
  have Z14 := Aside0.mk (show w1.cell? ⟨ba, 14, none⟩ = some (.int .u8 (rdOf (0 : Int) al 14)) from (Kd.R_cell (0 : Int) HV.out 14 (by omega) (by rw [HAL.out]; omega)).1)
  have Z15 := Aside0.mk (show w1.cell? ⟨ba, 15, none⟩ = some (.int .u8 (rdOf (0 : Int) al 15)) from (Kd.R_cell (0 : Int) HV.out 15 (by omega) (by rw [HAL.out]; omega)).1)
  obtain ⟨hr0, hr1, hr2, hr3⟩ := HR.out
  rw [hr0] at Z12
  rw [hr1] at Z13
  rw [hr2] at Z14
  rw [hr3] at Z15
  rw [HX1.out] at Z1
  clear hr0 hr1 hr2 hr3
  refine region_inv (T := ?T8) [some 32, some 33, some 34, some 35, some 36, some 37, some 38, some 39, some 40, some 41, some 42, some 43, none, some 44, none, some 45, none] ?hT8 (fun dn_ X w_ => PH 53 w1 gb (H22 x.lp x.vn x.md (bif dn_ 12 then x.st else 0) (bif dn_ 14 then x.pl else 0) (bif dn_ 16 then x.pr else 0) 0 0 0 0 0 0 0 0 0 0 0 0 0 0 0 0) w_ ∧ (dn_ 0 = true → X 0 = .slice (some ⟨ba, 0, none⟩) 48 cp) ∧ (dn_ 1 = true → X 1 = .pointer (some ⟨ba, 1, none⟩)) ∧ (dn_ 2 = true → X 2 = .int .u8 x.st) ∧ (dn_ 3 = true → X 3 = .slice (some ⟨ba, 0, none⟩) 48 cp) ∧ (dn_ 4 = true → X 4 = .pointer (some ⟨ba, 2, none⟩)) ∧ (dn_ 5 = true → X 5 = .int .u8 (rdOf (0 : Int) al 2)) ∧ (dn_ 6 = true → X 6 = .int .i8 x.pl) ∧ (dn_ 7 = true → X 7 = .slice (some ⟨ba, 0, none⟩) 48 cp) ∧ (dn_ 8 = true → X 8 = .pointer (some ⟨ba, 3, none⟩)) ∧ (dn_ 9 = true → X 9 = .int .u8 (rdOf (0 : Int) al 3)) ∧ (dn_ 10 = true → X 10 = .int .i8 x.pr) ∧ (dn_ 11 = true → X 11 = .pointer (some ⟨gb, 3, none⟩)) ∧ (dn_ 12 = true → True) ∧ (dn_ 13 = true → X 13 = .pointer (some ⟨gb, 4, none⟩)) ∧ (dn_ 14 = true → True) ∧ (dn_ 15 = true → X 15 = .pointer (some ⟨gb, 5, none⟩)) ∧ (dn_ 16 = true → True)) (by kernel_rfl) (by kernel_rfl) (by rfl) [0, 1, 2, 3, 4, 5, 6, 7, 8, 9, 10, 11, 12, 13, 14, 15, 16] rfl (.cons (some 32) rfl rfl (fun dn_ X w_ hd0_ hd_ hI_ K hK => ?_) (.cons (some 33) rfl rfl (fun dn_ X w_ hd0_ hd_ hI_ K hK => ?_) (.cons (some 34) rfl rfl (fun dn_ X w_ hd0_ hd_ hI_ K hK => ?_) (.cons (some 35) rfl rfl (fun dn_ X w_ hd0_ hd_ hI_ K hK => ?_) (.cons (some 36) rfl rfl (fun dn_ X w_ hd0_ hd_ hI_ K hK => ?_) (.cons (some 37) rfl rfl (fun dn_ X w_ hd0_ hd_ hI_ K hK => ?_) (.cons (some 38) rfl rfl (fun dn_ X w_ hd0_ hd_ hI_ K hK => ?_) (.cons (some 39) rfl rfl (fun dn_ X w_ hd0_ hd_ hI_ K hK => ?_) (.cons (some 40) rfl rfl (fun dn_ X w_ hd0_ hd_ hI_ K hK => ?_) (.cons (some 41) rfl rfl (fun dn_ X w_ hd0_ hd_ hI_ K hK => ?_) (.cons (some 42) rfl rfl (fun dn_ X w_ hd0_ hd_ hI_ K hK => ?_) (.cons (some 43) rfl rfl (fun dn_ X w_ hd0_ hd_ hI_ K hK => ?_) (.cons none rfl rfl (fun dn_ X w_ hd0_ hd_ hI_ K hK => ?_) (.cons (some 44) rfl rfl (fun dn_ X w_ hd0_ hd_ hI_ K hK => ?_) (.cons none rfl rfl (fun dn_ X w_ hd0_ hd_ hI_ K hK => ?_) (.cons (some 45) rfl rfl (fun dn_ X w_ hd0_ hd_ hI_ K hK => ?_) (.cons none rfl rfl (fun dn_ X w_ hd0_ hd_ hI_ K hK => ?_) .nil))))))))))))))))) ?h08 ?hend8
  case hT8 =>
    intro X
    simp only [fill, Act.put, List.setIfInBounds_toArray, List.set_cons_zero, List.set_cons_succ, Nat.zero_add, Nat.reduceAdd]
    rfl
  case h08 =>
    exact ⟨E0.out.below (below_drew (Below.refl _ _)), noF_, noF_, noF_, noF_, noF_, noF_, noF_, noF_, noF_, noF_, noF_, noF_, noF_, noF_, noF_, noF_, noF_⟩
  · -- 0
    refine val_ (w1 := w_) (v := .slice (some ⟨ba, 0, none⟩) 48 cp) (by rfl) rfl ?_ (hK.out _ _ _ rfl ⟨hI_.1, (fun _ => rfl), hI_.2.2.1, hI_.2.2.2.1, hI_.2.2.2.2.1, hI_.2.2.2.2.2.1, hI_.2.2.2.2.2.2.1, hI_.2.2.2.2.2.2.2.1, hI_.2.2.2.2.2.2.2.2.1, hI_.2.2.2.2.2.2.2.2.2.1, hI_.2.2.2.2.2.2.2.2.2.2.1, hI_.2.2.2.2.2.2.2.2.2.2.2.1, hI_.2.2.2.2.2.2.2.2.2.2.2.2.1, hI_.2.2.2.2.2.2.2.2.2.2.2.2.2.1, hI_.2.2.2.2.2.2.2.2.2.2.2.2.2.2.1, hI_.2.2.2.2.2.2.2.2.2.2.2.2.2.2.2.1, hI_.2.2.2.2.2.2.2.2.2.2.2.2.2.2.2.2.1, hI_.2.2.2.2.2.2.2.2.2.2.2.2.2.2.2.2.2⟩)
    go_simp
    all_goals (first | decide | rfl)
  · -- 1
    have e0 := hI_.2.1 (hd_ 1 0 (by kernel_rfl))
    refine val_ (w1 := w_) (v := .pointer (some ⟨ba, 1, none⟩)) (by rfl) rfl ?_ (hK.out _ _ _ rfl ⟨hI_.1, hI_.2.1, (fun _ => rfl), hI_.2.2.2.1, hI_.2.2.2.2.1, hI_.2.2.2.2.2.1, hI_.2.2.2.2.2.2.1, hI_.2.2.2.2.2.2.2.1, hI_.2.2.2.2.2.2.2.2.1, hI_.2.2.2.2.2.2.2.2.2.1, hI_.2.2.2.2.2.2.2.2.2.2.1, hI_.2.2.2.2.2.2.2.2.2.2.2.1, hI_.2.2.2.2.2.2.2.2.2.2.2.2.1, hI_.2.2.2.2.2.2.2.2.2.2.2.2.2.1, hI_.2.2.2.2.2.2.2.2.2.2.2.2.2.2.1, hI_.2.2.2.2.2.2.2.2.2.2.2.2.2.2.2.1, hI_.2.2.2.2.2.2.2.2.2.2.2.2.2.2.2.2.1, hI_.2.2.2.2.2.2.2.2.2.2.2.2.2.2.2.2.2⟩)
    go_simp
    all_goals (first | decide | rfl)
  · -- 2
    have wE := hI_.1
    have e1 := hI_.2.2.1 (hd_ 1 1 (by kernel_rfl))
    have z1_ := (wE.bel.cell (World.block_lt_of_cell? w1 _ Z1.out)).trans Z1.out
    refine val_ (w1 := w_) (v := .int .u8 x.st) (by rfl) rfl ?_ (hK.out _ _ _ rfl ⟨hI_.1, hI_.2.1, hI_.2.2.1, (fun _ => rfl), hI_.2.2.2.2.1, hI_.2.2.2.2.2.1, hI_.2.2.2.2.2.2.1, hI_.2.2.2.2.2.2.2.1, hI_.2.2.2.2.2.2.2.2.1, hI_.2.2.2.2.2.2.2.2.2.1, hI_.2.2.2.2.2.2.2.2.2.2.1, hI_.2.2.2.2.2.2.2.2.2.2.2.1, hI_.2.2.2.2.2.2.2.2.2.2.2.2.1, hI_.2.2.2.2.2.2.2.2.2.2.2.2.2.1, hI_.2.2.2.2.2.2.2.2.2.2.2.2.2.2.1, hI_.2.2.2.2.2.2.2.2.2.2.2.2.2.2.2.1, hI_.2.2.2.2.2.2.2.2.2.2.2.2.2.2.2.2.1, hI_.2.2.2.2.2.2.2.2.2.2.2.2.2.2.2.2.2⟩)
    go_simp
    all_goals (first | decide | rfl)
  · -- 3
    refine val_ (w1 := w_) (v := .slice (some ⟨ba, 0, none⟩) 48 cp) (by rfl) rfl ?_ (hK.out _ _ _ rfl ⟨hI_.1, hI_.2.1, hI_.2.2.1, hI_.2.2.2.1, (fun _ => rfl), hI_.2.2.2.2.2.1, hI_.2.2.2.2.2.2.1, hI_.2.2.2.2.2.2.2.1, hI_.2.2.2.2.2.2.2.2.1, hI_.2.2.2.2.2.2.2.2.2.1, hI_.2.2.2.2.2.2.2.2.2.2.1, hI_.2.2.2.2.2.2.2.2.2.2.2.1, hI_.2.2.2.2.2.2.2.2.2.2.2.2.1, hI_.2.2.2.2.2.2.2.2.2.2.2.2.2.1, hI_.2.2.2.2.2.2.2.2.2.2.2.2.2.2.1, hI_.2.2.2.2.2.2.2.2.2.2.2.2.2.2.2.1, hI_.2.2.2.2.2.2.2.2.2.2.2.2.2.2.2.2.1, hI_.2.2.2.2.2.2.2.2.2.2.2.2.2.2.2.2.2⟩)
    go_simp
    all_goals (first | decide | rfl)
  · -- 4
    have e3 := hI_.2.2.2.2.1 (hd_ 1 3 (by kernel_rfl))
    refine val_ (w1 := w_) (v := .pointer (some ⟨ba, 2, none⟩)) (by rfl) rfl ?_ (hK.out _ _ _ rfl ⟨hI_.1, hI_.2.1, hI_.2.2.1, hI_.2.2.2.1, hI_.2.2.2.2.1, (fun _ => rfl), hI_.2.2.2.2.2.2.1, hI_.2.2.2.2.2.2.2.1, hI_.2.2.2.2.2.2.2.2.1, hI_.2.2.2.2.2.2.2.2.2.1, hI_.2.2.2.2.2.2.2.2.2.2.1, hI_.2.2.2.2.2.2.2.2.2.2.2.1, hI_.2.2.2.2.2.2.2.2.2.2.2.2.1, hI_.2.2.2.2.2.2.2.2.2.2.2.2.2.1, hI_.2.2.2.2.2.2.2.2.2.2.2.2.2.2.1, hI_.2.2.2.2.2.2.2.2.2.2.2.2.2.2.2.1, hI_.2.2.2.2.2.2.2.2.2.2.2.2.2.2.2.2.1, hI_.2.2.2.2.2.2.2.2.2.2.2.2.2.2.2.2.2⟩)
    go_simp
    all_goals (first | decide | rfl)
  · -- 5
    have wE := hI_.1
    have e4 := hI_.2.2.2.2.2.1 (hd_ 1 4 (by kernel_rfl))
    have z2_ := (wE.bel.cell (World.block_lt_of_cell? w1 _ Z2.out)).trans Z2.out
    refine val_ (w1 := w_) (v := .int .u8 (rdOf (0 : Int) al 2)) (by rfl) rfl ?_ (hK.out _ _ _ rfl ⟨hI_.1, hI_.2.1, hI_.2.2.1, hI_.2.2.2.1, hI_.2.2.2.2.1, hI_.2.2.2.2.2.1, (fun _ => rfl), hI_.2.2.2.2.2.2.2.1, hI_.2.2.2.2.2.2.2.2.1, hI_.2.2.2.2.2.2.2.2.2.1, hI_.2.2.2.2.2.2.2.2.2.2.1, hI_.2.2.2.2.2.2.2.2.2.2.2.1, hI_.2.2.2.2.2.2.2.2.2.2.2.2.1, hI_.2.2.2.2.2.2.2.2.2.2.2.2.2.1, hI_.2.2.2.2.2.2.2.2.2.2.2.2.2.2.1, hI_.2.2.2.2.2.2.2.2.2.2.2.2.2.2.2.1, hI_.2.2.2.2.2.2.2.2.2.2.2.2.2.2.2.2.1, hI_.2.2.2.2.2.2.2.2.2.2.2.2.2.2.2.2.2⟩)
    go_simp
    all_goals (first | decide | rfl)
  · -- 6
    have e5 := hI_.2.2.2.2.2.2.1 (hd_ 1 5 (by kernel_rfl))
    have c_ := HX2.out
    refine val_ (w1 := w_) (v := .int .i8 x.pl) (by rfl) rfl ?_ (hK.out _ _ _ rfl ⟨hI_.1, hI_.2.1, hI_.2.2.1, hI_.2.2.2.1, hI_.2.2.2.2.1, hI_.2.2.2.2.2.1, hI_.2.2.2.2.2.2.1, (fun _ => rfl), hI_.2.2.2.2.2.2.2.2.1, hI_.2.2.2.2.2.2.2.2.2.1, hI_.2.2.2.2.2.2.2.2.2.2.1, hI_.2.2.2.2.2.2.2.2.2.2.2.1, hI_.2.2.2.2.2.2.2.2.2.2.2.2.1, hI_.2.2.2.2.2.2.2.2.2.2.2.2.2.1, hI_.2.2.2.2.2.2.2.2.2.2.2.2.2.2.1, hI_.2.2.2.2.2.2.2.2.2.2.2.2.2.2.2.1, hI_.2.2.2.2.2.2.2.2.2.2.2.2.2.2.2.2.1, hI_.2.2.2.2.2.2.2.2.2.2.2.2.2.2.2.2.2⟩)
    go_simp
    all_goals (first | decide | rfl)
  · -- 7
    refine val_ (w1 := w_) (v := .slice (some ⟨ba, 0, none⟩) 48 cp) (by rfl) rfl ?_ (hK.out _ _ _ rfl ⟨hI_.1, hI_.2.1, hI_.2.2.1, hI_.2.2.2.1, hI_.2.2.2.2.1, hI_.2.2.2.2.2.1, hI_.2.2.2.2.2.2.1, hI_.2.2.2.2.2.2.2.1, (fun _ => rfl), hI_.2.2.2.2.2.2.2.2.2.1, hI_.2.2.2.2.2.2.2.2.2.2.1, hI_.2.2.2.2.2.2.2.2.2.2.2.1, hI_.2.2.2.2.2.2.2.2.2.2.2.2.1, hI_.2.2.2.2.2.2.2.2.2.2.2.2.2.1, hI_.2.2.2.2.2.2.2.2.2.2.2.2.2.2.1, hI_.2.2.2.2.2.2.2.2.2.2.2.2.2.2.2.1, hI_.2.2.2.2.2.2.2.2.2.2.2.2.2.2.2.2.1, hI_.2.2.2.2.2.2.2.2.2.2.2.2.2.2.2.2.2⟩)
    go_simp
    all_goals (first | decide | rfl)
  · -- 8
    have e7 := hI_.2.2.2.2.2.2.2.2.1 (hd_ 1 7 (by kernel_rfl))
    refine val_ (w1 := w_) (v := .pointer (some ⟨ba, 3, none⟩)) (by rfl) rfl ?_ (hK.out _ _ _ rfl ⟨hI_.1, hI_.2.1, hI_.2.2.1, hI_.2.2.2.1, hI_.2.2.2.2.1, hI_.2.2.2.2.2.1, hI_.2.2.2.2.2.2.1, hI_.2.2.2.2.2.2.2.1, hI_.2.2.2.2.2.2.2.2.1, (fun _ => rfl), hI_.2.2.2.2.2.2.2.2.2.2.1, hI_.2.2.2.2.2.2.2.2.2.2.2.1, hI_.2.2.2.2.2.2.2.2.2.2.2.2.1, hI_.2.2.2.2.2.2.2.2.2.2.2.2.2.1, hI_.2.2.2.2.2.2.2.2.2.2.2.2.2.2.1, hI_.2.2.2.2.2.2.2.2.2.2.2.2.2.2.2.1, hI_.2.2.2.2.2.2.2.2.2.2.2.2.2.2.2.2.1, hI_.2.2.2.2.2.2.2.2.2.2.2.2.2.2.2.2.2⟩)
    go_simp
    all_goals (first | decide | rfl)
  · -- 9
    have wE := hI_.1
    have e8 := hI_.2.2.2.2.2.2.2.2.2.1 (hd_ 1 8 (by kernel_rfl))
    have z3_ := (wE.bel.cell (World.block_lt_of_cell? w1 _ Z3.out)).trans Z3.out
    refine val_ (w1 := w_) (v := .int .u8 (rdOf (0 : Int) al 3)) (by rfl) rfl ?_ (hK.out _ _ _ rfl ⟨hI_.1, hI_.2.1, hI_.2.2.1, hI_.2.2.2.1, hI_.2.2.2.2.1, hI_.2.2.2.2.2.1, hI_.2.2.2.2.2.2.1, hI_.2.2.2.2.2.2.2.1, hI_.2.2.2.2.2.2.2.2.1, hI_.2.2.2.2.2.2.2.2.2.1, (fun _ => rfl), hI_.2.2.2.2.2.2.2.2.2.2.2.1, hI_.2.2.2.2.2.2.2.2.2.2.2.2.1, hI_.2.2.2.2.2.2.2.2.2.2.2.2.2.1, hI_.2.2.2.2.2.2.2.2.2.2.2.2.2.2.1, hI_.2.2.2.2.2.2.2.2.2.2.2.2.2.2.2.1, hI_.2.2.2.2.2.2.2.2.2.2.2.2.2.2.2.2.1, hI_.2.2.2.2.2.2.2.2.2.2.2.2.2.2.2.2.2⟩)
    go_simp
    all_goals (first | decide | rfl)
  · -- 10
    have e9 := hI_.2.2.2.2.2.2.2.2.2.2.1 (hd_ 1 9 (by kernel_rfl))
    have c_ := HX3.out
    refine val_ (w1 := w_) (v := .int .i8 x.pr) (by rfl) rfl ?_ (hK.out _ _ _ rfl ⟨hI_.1, hI_.2.1, hI_.2.2.1, hI_.2.2.2.1, hI_.2.2.2.2.1, hI_.2.2.2.2.2.1, hI_.2.2.2.2.2.2.1, hI_.2.2.2.2.2.2.2.1, hI_.2.2.2.2.2.2.2.2.1, hI_.2.2.2.2.2.2.2.2.2.1, hI_.2.2.2.2.2.2.2.2.2.2.1, (fun _ => rfl), hI_.2.2.2.2.2.2.2.2.2.2.2.2.1, hI_.2.2.2.2.2.2.2.2.2.2.2.2.2.1, hI_.2.2.2.2.2.2.2.2.2.2.2.2.2.2.1, hI_.2.2.2.2.2.2.2.2.2.2.2.2.2.2.2.1, hI_.2.2.2.2.2.2.2.2.2.2.2.2.2.2.2.2.1, hI_.2.2.2.2.2.2.2.2.2.2.2.2.2.2.2.2.2⟩)
    go_simp
    all_goals (first | decide | rfl)
  · -- 11
    refine val_ (w1 := w_) (v := .pointer (some ⟨gb, 3, none⟩)) (by rfl) rfl ?_ (hK.out _ _ _ rfl ⟨hI_.1, hI_.2.1, hI_.2.2.1, hI_.2.2.2.1, hI_.2.2.2.2.1, hI_.2.2.2.2.2.1, hI_.2.2.2.2.2.2.1, hI_.2.2.2.2.2.2.2.1, hI_.2.2.2.2.2.2.2.2.1, hI_.2.2.2.2.2.2.2.2.2.1, hI_.2.2.2.2.2.2.2.2.2.2.1, hI_.2.2.2.2.2.2.2.2.2.2.2.1, (fun _ => rfl), hI_.2.2.2.2.2.2.2.2.2.2.2.2.2.1, hI_.2.2.2.2.2.2.2.2.2.2.2.2.2.2.1, hI_.2.2.2.2.2.2.2.2.2.2.2.2.2.2.2.1, hI_.2.2.2.2.2.2.2.2.2.2.2.2.2.2.2.2.1, hI_.2.2.2.2.2.2.2.2.2.2.2.2.2.2.2.2.2⟩)
    go_simp
    all_goals (first | decide | rfl)
  · -- 12
    have wE := hI_.1
    have h0 := hI_.2.1
    have h1 := hI_.2.2.1
    have h2 := hI_.2.2.2.1
    have h3 := hI_.2.2.2.2.1
    have h4 := hI_.2.2.2.2.2.1
    have h5 := hI_.2.2.2.2.2.2.1
    have h6 := hI_.2.2.2.2.2.2.2.1
    have h7 := hI_.2.2.2.2.2.2.2.2.1
    have h8 := hI_.2.2.2.2.2.2.2.2.2.1
    have h9 := hI_.2.2.2.2.2.2.2.2.2.2.1
    have h10 := hI_.2.2.2.2.2.2.2.2.2.2.2.1
    have h11 := hI_.2.2.2.2.2.2.2.2.2.2.2.2.1
    have h12 := hI_.2.2.2.2.2.2.2.2.2.2.2.2.2.1
    have h13 := hI_.2.2.2.2.2.2.2.2.2.2.2.2.2.2.1
    have h14 := hI_.2.2.2.2.2.2.2.2.2.2.2.2.2.2.2.1
    have h15 := hI_.2.2.2.2.2.2.2.2.2.2.2.2.2.2.2.2.1
    have h16 := hI_.2.2.2.2.2.2.2.2.2.2.2.2.2.2.2.2.2
    have e2 := h2 (hd_ 1 2 (by kernel_rfl))
    have e11 := h11 (hd_ 1 11 (by kernel_rfl))
    have wE0 : PH 53 w1 gb (H22 x.lp x.vn x.md 0 (bif dn_ 14 then x.pl else 0) (bif dn_ 16 then x.pr else 0) 0 0 0 0 0 0 0 0 0 0 0 0 0 0 0 0) w_ := by rw [hd0_] at wE; exact wE
    rw [if_pos (by rfl)]
    refine wp_store_part 5 _ _ rfl gb 3 (.int .u8 x.st) [.int .u8 x.st] ?_ ?_ rfl (by simp [Value.oneCell']) 53 _ (H22 x.lp x.vn x.md x.st (bif dn_ 14 then x.pl else 0) (bif dn_ 16 then x.pr else 0) 0 0 0 0 0 0 0 0 0 0 0 0 0 0 0 0) wE0.row (by simp [H22]) (by kernel_rfl) (by rfl) ?_
    · exact e11
    · exact e2
    · exact hK.out _ undef _ rfl ⟨(wE0.set _), h0, h1, h2, h3, h4, h5, h6, h7, h8, h9, h10, h11, (fun _ => trivial), h13, h14, h15, h16⟩
  · -- 13
    refine val_ (w1 := w_) (v := .pointer (some ⟨gb, 4, none⟩)) (by rfl) rfl ?_ (hK.out _ _ _ rfl ⟨hI_.1, hI_.2.1, hI_.2.2.1, hI_.2.2.2.1, hI_.2.2.2.2.1, hI_.2.2.2.2.2.1, hI_.2.2.2.2.2.2.1, hI_.2.2.2.2.2.2.2.1, hI_.2.2.2.2.2.2.2.2.1, hI_.2.2.2.2.2.2.2.2.2.1, hI_.2.2.2.2.2.2.2.2.2.2.1, hI_.2.2.2.2.2.2.2.2.2.2.2.1, hI_.2.2.2.2.2.2.2.2.2.2.2.2.1, hI_.2.2.2.2.2.2.2.2.2.2.2.2.2.1, (fun _ => rfl), hI_.2.2.2.2.2.2.2.2.2.2.2.2.2.2.2.1, hI_.2.2.2.2.2.2.2.2.2.2.2.2.2.2.2.2.1, hI_.2.2.2.2.2.2.2.2.2.2.2.2.2.2.2.2.2⟩)
    go_simp
    all_goals (first | decide | rfl)
  · -- 14
    have wE := hI_.1
    have h0 := hI_.2.1
    have h1 := hI_.2.2.1
    have h2 := hI_.2.2.2.1
    have h3 := hI_.2.2.2.2.1
    have h4 := hI_.2.2.2.2.2.1
    have h5 := hI_.2.2.2.2.2.2.1
    have h6 := hI_.2.2.2.2.2.2.2.1
    have h7 := hI_.2.2.2.2.2.2.2.2.1
    have h8 := hI_.2.2.2.2.2.2.2.2.2.1
    have h9 := hI_.2.2.2.2.2.2.2.2.2.2.1
    have h10 := hI_.2.2.2.2.2.2.2.2.2.2.2.1
    have h11 := hI_.2.2.2.2.2.2.2.2.2.2.2.2.1
    have h12 := hI_.2.2.2.2.2.2.2.2.2.2.2.2.2.1
    have h13 := hI_.2.2.2.2.2.2.2.2.2.2.2.2.2.2.1
    have h14 := hI_.2.2.2.2.2.2.2.2.2.2.2.2.2.2.2.1
    have h15 := hI_.2.2.2.2.2.2.2.2.2.2.2.2.2.2.2.2.1
    have h16 := hI_.2.2.2.2.2.2.2.2.2.2.2.2.2.2.2.2.2
    have e6 := h6 (hd_ 1 6 (by kernel_rfl))
    have e13 := h13 (hd_ 1 13 (by kernel_rfl))
    have wE0 : PH 53 w1 gb (H22 x.lp x.vn x.md (bif dn_ 12 then x.st else 0) 0 (bif dn_ 16 then x.pr else 0) 0 0 0 0 0 0 0 0 0 0 0 0 0 0 0 0) w_ := by rw [hd0_] at wE; exact wE
    rw [if_pos (by rfl)]
    refine wp_store_part 47 _ _ rfl gb 4 (.int .i8 x.pl) [.int .i8 x.pl] ?_ ?_ rfl (by simp [Value.oneCell']) 53 _ (H22 x.lp x.vn x.md (bif dn_ 12 then x.st else 0) x.pl (bif dn_ 16 then x.pr else 0) 0 0 0 0 0 0 0 0 0 0 0 0 0 0 0 0) wE0.row (by simp [H22]) (by kernel_rfl) (by rfl) ?_
    · exact e13
    · exact e6
    · exact hK.out _ undef _ rfl ⟨(wE0.set _), h0, h1, h2, h3, h4, h5, h6, h7, h8, h9, h10, h11, h12, h13, (fun _ => trivial), h15, h16⟩
  · -- 15
    refine val_ (w1 := w_) (v := .pointer (some ⟨gb, 5, none⟩)) (by rfl) rfl ?_ (hK.out _ _ _ rfl ⟨hI_.1, hI_.2.1, hI_.2.2.1, hI_.2.2.2.1, hI_.2.2.2.2.1, hI_.2.2.2.2.2.1, hI_.2.2.2.2.2.2.1, hI_.2.2.2.2.2.2.2.1, hI_.2.2.2.2.2.2.2.2.1, hI_.2.2.2.2.2.2.2.2.2.1, hI_.2.2.2.2.2.2.2.2.2.2.1, hI_.2.2.2.2.2.2.2.2.2.2.2.1, hI_.2.2.2.2.2.2.2.2.2.2.2.2.1, hI_.2.2.2.2.2.2.2.2.2.2.2.2.2.1, hI_.2.2.2.2.2.2.2.2.2.2.2.2.2.2.1, hI_.2.2.2.2.2.2.2.2.2.2.2.2.2.2.2.1, (fun _ => rfl), hI_.2.2.2.2.2.2.2.2.2.2.2.2.2.2.2.2.2⟩)
    go_simp
    all_goals (first | decide | rfl)
  · -- 16
    have wE := hI_.1
    have h0 := hI_.2.1
    have h1 := hI_.2.2.1
    have h2 := hI_.2.2.2.1
    have h3 := hI_.2.2.2.2.1
    have h4 := hI_.2.2.2.2.2.1
    have h5 := hI_.2.2.2.2.2.2.1
    have h6 := hI_.2.2.2.2.2.2.2.1
    have h7 := hI_.2.2.2.2.2.2.2.2.1
    have h8 := hI_.2.2.2.2.2.2.2.2.2.1
    have h9 := hI_.2.2.2.2.2.2.2.2.2.2.1
    have h10 := hI_.2.2.2.2.2.2.2.2.2.2.2.1
    have h11 := hI_.2.2.2.2.2.2.2.2.2.2.2.2.1
    have h12 := hI_.2.2.2.2.2.2.2.2.2.2.2.2.2.1
    have h13 := hI_.2.2.2.2.2.2.2.2.2.2.2.2.2.2.1
    have h14 := hI_.2.2.2.2.2.2.2.2.2.2.2.2.2.2.2.1
    have h15 := hI_.2.2.2.2.2.2.2.2.2.2.2.2.2.2.2.2.1
    have h16 := hI_.2.2.2.2.2.2.2.2.2.2.2.2.2.2.2.2.2
    have e10 := h10 (hd_ 1 10 (by kernel_rfl))
    have e15 := h15 (hd_ 1 15 (by kernel_rfl))
    have wE0 : PH 53 w1 gb (H22 x.lp x.vn x.md (bif dn_ 12 then x.st else 0) (bif dn_ 14 then x.pl else 0) 0 0 0 0 0 0 0 0 0 0 0 0 0 0 0 0 0) w_ := by rw [hd0_] at wE; exact wE
    rw [if_pos (by rfl)]
    refine wp_store_part 47 _ _ rfl gb 5 (.int .i8 x.pr) [.int .i8 x.pr] ?_ ?_ rfl (by simp [Value.oneCell']) 53 _ (H22 x.lp x.vn x.md (bif dn_ 12 then x.st else 0) (bif dn_ 14 then x.pl else 0) x.pr 0 0 0 0 0 0 0 0 0 0 0 0 0 0 0 0) wE0.row (by simp [H22]) (by kernel_rfl) (by rfl) ?_
    · exact e15
    · exact e10
    · exact hK.out _ undef _ rfl ⟨(wE0.set _), h0, h1, h2, h3, h4, h5, h6, h7, h8, h9, h10, h11, h12, h13, h14, h15, (fun _ => trivial)⟩
  intro dn_ X wv hdn_ hI_
  clear E0
  obtain ⟨wE, h0, h1, h2, h3, h4, h5, h6, h7, h8, h9, h10, h11, h12, h13, h14, h15, h16⟩ := hI_
  rw [hdn_ 12 (by decide), hdn_ 14 (by decide), hdn_ 16 (by decide)] at wE
  have E0 := Aside0.mk (show PH 53 w1 gb (H22 x.lp x.vn x.md x.st x.pl x.pr 0 0 0 0 0 0 0 0 0 0 0 0 0 0 0 0) wv from wE)
  clear wE h0 h1 h2 h3 h4 h5 h6 h7 h8 h9 h10 h11 h12 h13 h14 h15 h16 hdn_
  have q4 : ((4 : Int) ≤ (cp : Int)) = True := eq_true (by have a_ := CQ.out; rw [HAL.out] at a_; omega)
  have qb4 : (4 ≤ cp) = True := eq_true (by have a_ := CQ.out; rw [HAL.out] at a_; omega)
  have q8 : ((8 : Int) ≤ (cp : Int)) = True := eq_true (by have a_ := CQ.out; rw [HAL.out] at a_; omega)
  have qb8 : (8 ≤ cp) = True := eq_true (by have a_ := CQ.out; rw [HAL.out] at a_; omega)
  have q12 : ((12 : Int) ≤ (cp : Int)) = True := eq_true (by have a_ := CQ.out; rw [HAL.out] at a_; omega)
  have qb12 : (12 ≤ cp) = True := eq_true (by have a_ := CQ.out; rw [HAL.out] at a_; omega)
  have q16 : ((16 : Int) ≤ (cp : Int)) = True := eq_true (by have a_ := CQ.out; rw [HAL.out] at a_; omega)
  have qb16 : (16 ≤ cp) = True := eq_true (by have a_ := CQ.out; rw [HAL.out] at a_; omega)
  have q24 : ((24 : Int) ≤ (cp : Int)) = True := eq_true (by have a_ := CQ.out; rw [HAL.out] at a_; omega)
  have qb24 : (24 ≤ cp) = True := eq_true (by have a_ := CQ.out; rw [HAL.out] at a_; omega)
  have q32 : ((32 : Int) ≤ (cp : Int)) = True := eq_true (by have a_ := CQ.out; rw [HAL.out] at a_; omega)
  have qb32 : (32 ≤ cp) = True := eq_true (by have a_ := CQ.out; rw [HAL.out] at a_; omega)
  have q40 : ((40 : Int) ≤ (cp : Int)) = True := eq_true (by have a_ := CQ.out; rw [HAL.out] at a_; omega)
  have qb40 : (40 ≤ cp) = True := eq_true (by have a_ := CQ.out; rw [HAL.out] at a_; omega)
  have q48 : ((48 : Int) ≤ (cp : Int)) = True := eq_true (by have a_ := CQ.out; rw [HAL.out] at a_; omega)
  have qb48 : (48 ≤ cp) = True := eq_true (by have a_ := CQ.out; rw [HAL.out] at a_; omega)
  have qn4 : (cp = 4) = False := eq_false (by have a_ := CQ.out; rw [HAL.out] at a_; omega)
  have qn8 : (cp = 8) = False := eq_false (by have a_ := CQ.out; rw [HAL.out] at a_; omega)
  have qn12 : (cp = 12) = False := eq_false (by have a_ := CQ.out; rw [HAL.out] at a_; omega)
  have qn16 : (cp = 16) = False := eq_false (by have a_ := CQ.out; rw [HAL.out] at a_; omega)
  have qn24 : (cp = 24) = False := eq_false (by have a_ := CQ.out; rw [HAL.out] at a_; omega)
  have qn32 : (cp = 32) = False := eq_false (by have a_ := CQ.out; rw [HAL.out] at a_; omega)
  have qn40 : (cp = 40) = False := eq_false (by have a_ := CQ.out; rw [HAL.out] at a_; omega)
  have hca := fun (W : World) (a : Addr) (c_ : Nat) => arr_lit W a 4 c_ (Nat.le_refl _)
  go_upto_region 12 with (first | (go_at_call 35; refine (short_mid kk HC1.out HAL.out CQ.out E0.out.bel 4 8 4 rfl (by omega) (by omega) HD_.out).mono ?_; rintro e_ w4 ⟨rfl, hb_⟩; have E0 := Aside0.mk (E0.out.below hb_); clear hb_) | ((with_reducible refine gate_store (t := 50) (p := 52) rfl ?_); refine store_part rfl 50 _ _ rfl rfl gb 6 (.agg #[.int .u16 x.d0, .int .u16 x.d1]) [.int .u16 x.d0, .int .u16 x.d1] rfl rfl rfl (by simp [Value.oneCell']) 53 (H22 x.lp x.vn x.md x.st x.pl x.pr 0 0 0 0 0 0 0 0 0 0 0 0 0 0 0 0) (H22 x.lp x.vn x.md x.st x.pl x.pr x.d0 x.d1 0 0 0 0 0 0 0 0 0 0 0 0 0 0) E0.out.row (by simp [H22]) (by kernel_rfl) (by rfl) ?_; have E0 := Aside0.mk (E0.out.set (H22 x.lp x.vn x.md x.st x.pl x.pr x.d0 x.d1 0 0 0 0 0 0 0 0 0 0 0 0 0 0))) | fail)
  go_upto_region 15 with (first | (go_at_call 35; refine (short_mid kk HC1.out HAL.out CQ.out E0.out.bel 8 12 4 rfl (by omega) (by omega) HE_.out).mono ?_; rintro e_ w4 ⟨rfl, hb_⟩; have E0 := Aside0.mk (E0.out.below hb_); clear hb_) | ((with_reducible refine gate_store (t := 50) (p := 63) rfl ?_); refine store_part rfl 50 _ _ rfl rfl gb 8 (.agg #[.int .u16 x.e0, .int .u16 x.e1]) [.int .u16 x.e0, .int .u16 x.e1] rfl rfl rfl (by simp [Value.oneCell']) 53 (H22 x.lp x.vn x.md x.st x.pl x.pr x.d0 x.d1 0 0 0 0 0 0 0 0 0 0 0 0 0 0) (H22 x.lp x.vn x.md x.st x.pl x.pr x.d0 x.d1 x.e0 x.e1 0 0 0 0 0 0 0 0 0 0 0 0) E0.out.row (by simp [H22]) (by kernel_rfl) (by rfl) ?_; have E0 := Aside0.mk (E0.out.set (H22 x.lp x.vn x.md x.st x.pl x.pr x.d0 x.d1 x.e0 x.e1 0 0 0 0 0 0 0 0 0 0 0 0)); have z12_ := (E0.out.bel.cell (World.block_lt_of_cell? w1 _ Z12.out)).trans Z12.out; have z13_ := (E0.out.bel.cell (World.block_lt_of_cell? w1 _ Z13.out)).trans Z13.out; have z14_ := (E0.out.bel.cell (World.block_lt_of_cell? w1 _ Z14.out)).trans Z14.out; have z15_ := (E0.out.bel.cell (World.block_lt_of_cell? w1 _ Z15.out)).trans Z15.out) | fail)
  go_wp2_with (first | ((with_reducible refine gate_store (t := 51) (p := 72) rfl ?_); refine store_part rfl 51 _ _ rfl rfl gb 10 (.agg #[.int .u8 x.r0, .int .u8 x.r1, .int .u8 x.r2, .int .u8 x.r3]) [.int .u8 x.r0, .int .u8 x.r1, .int .u8 x.r2, .int .u8 x.r3] rfl rfl rfl (by simp [Value.oneCell']) 53 (H22 x.lp x.vn x.md x.st x.pl x.pr x.d0 x.d1 x.e0 x.e1 0 0 0 0 0 0 0 0 0 0 0 0) (H22 x.lp x.vn x.md x.st x.pl x.pr x.d0 x.d1 x.e0 x.e1 x.r0 x.r1 x.r2 x.r3 0 0 0 0 0 0 0 0) E0.out.row (by simp [H22]) (by kernel_rfl) (by rfl) ?_; have E0 := Aside0.mk (E0.out.set (H22 x.lp x.vn x.md x.st x.pl x.pr x.d0 x.d1 x.e0 x.e1 x.r0 x.r1 x.r2 x.r3 0 0 0 0 0 0 0 0)); clear z12_ z13_ z14_ z15_) | (go_at_call 36; refine (longs_c _ gb).mono ?_; rintro e_ w5 ⟨rfl, hb_⟩; have E0 := Aside0.mk (E0.out.below hb_); clear hb_) | fail)
  have ix0 := idx0 (some ⟨gb, 14, none⟩) (some ⟨gb, 16, none⟩) (some ⟨gb, 18, none⟩) (some ⟨gb, 20, none⟩)
  have ix1 := idx1 (some ⟨gb, 14, none⟩) (some ⟨gb, 16, none⟩) (some ⟨gb, 18, none⟩) (some ⟨gb, 20, none⟩)
  have ix2 := idx2 (some ⟨gb, 14, none⟩) (some ⟨gb, 16, none⟩) (some ⟨gb, 18, none⟩) (some ⟨gb, 20, none⟩)
  have ix3 := idx3 (some ⟨gb, 14, none⟩) (some ⟨gb, 16, none⟩) (some ⟨gb, 18, none⟩) (some ⟨gb, 20, none⟩)
  go_loopw [74] (fun v74 wr => ∃ (z : Int) (k : Nat), v74 = .int .i64 z ∧ z = k ∧ k ≤ 4 ∧ Aside0 (PH 53 w1 gb (x.upto k) wr)) (fun v74 _ => 4 - (intOf v74).toNat)
  case atStart => exact ⟨0, 0, rfl, rfl, by omega, E0⟩
  case round =>
    clear E0 Z1 Z2 Z3 Z12 Z13 Z14 Z15 HF HX1 HX2 HX3 HD_ HE_ HR HCUT HC
    obtain ⟨z, k, rfl, hz, hk, E0⟩ := hrel
    have hk5 : k = 0 ∨ k = 1 ∨ k = 2 ∨ k = 3 ∨ k = 4 := by omega
    rcases hk5 with rfl | rfl | rfl | rfl | rfl
    · obtain rfl : z = 0 := hz
      clear hk
      go_wp2_with (first | (go_at_call 37; refine (long_mid kk HC1.out HAL.out CQ.out E0.out.bel 16 24 8 rfl (by omega) (by omega) (show stamp_Parse.f kk ((al.take 24).drop 16) = some ((x.sp 0).1, (x.sp 0).2, none) from HS.out 0 (by omega))).mono ?_; rintro e_ w4 ⟨rfl, hb_⟩; have E0 := Aside0.mk (E0.out.below hb_); clear hb_) | ((with_reducible refine gate_store (t := 25) (p := 92) rfl ?_); refine store_part rfl 25 _ _ rfl rfl gb 14 (.agg #[.int .u32 (x.sp 0).1, .int .u32 (x.sp 0).2]) [.int .u32 (x.sp 0).1, .int .u32 (x.sp 0).2] rfl rfl rfl (by simp [Value.oneCell']) 53 (x.upto 0) (x.upto 1) E0.out.row (by rw [upto_size]; simp) (by kernel_rfl) (by rfl) ?_; have E0 := Aside0.mk (E0.out.set (x.upto 1))) | fail)
      go_roundw
      case rel => exact ⟨1, 1, by go_num, rfl, by omega, E0⟩
      case measure => simp [intOf]
    · obtain rfl : z = 1 := hz
      clear hk
      go_wp2_with (first | (go_at_call 37; refine (long_mid kk HC1.out HAL.out CQ.out E0.out.bel 24 32 8 rfl (by omega) (by omega) (show stamp_Parse.f kk ((al.take 32).drop 24) = some ((x.sp 1).1, (x.sp 1).2, none) from HS.out 1 (by omega))).mono ?_; rintro e_ w4 ⟨rfl, hb_⟩; have E0 := Aside0.mk (E0.out.below hb_); clear hb_) | ((with_reducible refine gate_store (t := 25) (p := 92) rfl ?_); refine store_part rfl 25 _ _ rfl rfl gb 16 (.agg #[.int .u32 (x.sp 1).1, .int .u32 (x.sp 1).2]) [.int .u32 (x.sp 1).1, .int .u32 (x.sp 1).2] rfl rfl rfl (by simp [Value.oneCell']) 53 (x.upto 1) (x.upto 2) E0.out.row (by rw [upto_size]; simp) (by kernel_rfl) (by rfl) ?_; have E0 := Aside0.mk (E0.out.set (x.upto 2))) | fail)
      go_roundw
      case rel => exact ⟨2, 2, by go_num, rfl, by omega, E0⟩
      case measure => simp [intOf]
    · obtain rfl : z = 2 := hz
      clear hk
      go_wp2_with (first | (go_at_call 37; refine (long_mid kk HC1.out HAL.out CQ.out E0.out.bel 32 40 8 rfl (by omega) (by omega) (show stamp_Parse.f kk ((al.take 40).drop 32) = some ((x.sp 2).1, (x.sp 2).2, none) from HS.out 2 (by omega))).mono ?_; rintro e_ w4 ⟨rfl, hb_⟩; have E0 := Aside0.mk (E0.out.below hb_); clear hb_) | ((with_reducible refine gate_store (t := 25) (p := 92) rfl ?_); refine store_part rfl 25 _ _ rfl rfl gb 18 (.agg #[.int .u32 (x.sp 2).1, .int .u32 (x.sp 2).2]) [.int .u32 (x.sp 2).1, .int .u32 (x.sp 2).2] rfl rfl rfl (by simp [Value.oneCell']) 53 (x.upto 2) (x.upto 3) E0.out.row (by rw [upto_size]; simp) (by kernel_rfl) (by rfl) ?_; have E0 := Aside0.mk (E0.out.set (x.upto 3))) | fail)
      go_roundw
      case rel => exact ⟨3, 3, by go_num, rfl, by omega, E0⟩
      case measure => simp [intOf]
    · obtain rfl : z = 3 := hz
      clear hk
      go_wp2_with (first | (go_at_call 37; refine (long_mid kk HC1.out HAL.out CQ.out E0.out.bel 40 48 8 rfl (by omega) (by omega) (show stamp_Parse.f kk ((al.take 48).drop 40) = some ((x.sp 3).1, (x.sp 3).2, none) from HS.out 3 (by omega))).mono ?_; rintro e_ w4 ⟨rfl, hb_⟩; have E0 := Aside0.mk (E0.out.below hb_); clear hb_) | ((with_reducible refine gate_store (t := 25) (p := 92) rfl ?_); refine store_part rfl 25 _ _ rfl rfl gb 20 (.agg #[.int .u32 (x.sp 3).1, .int .u32 (x.sp 3).2]) [.int .u32 (x.sp 3).1, .int .u32 (x.sp 3).2] rfl rfl rfl (by simp [Value.oneCell']) 53 (x.upto 3) (x.upto 4) E0.out.row (by rw [upto_size]; simp) (by kernel_rfl) (by rfl) ?_; have E0 := Aside0.mk (E0.out.set (x.upto 4))) | fail)
      go_roundw
      case rel => exact ⟨4, 4, by go_num, rfl, by omega, E0⟩
      case measure => simp [intOf]
    · obtain rfl : z = 4 := hz
      clear hk
      have BO0 := Aside0.mk (blk_below BO.out E0.out.bel)
      go_wp2_with (first | ((with_reducible refine gate_dst (N := 98) rfl ?_); refine load_part rfl 53 _ rfl gb 0 rfl x.cs 53 x.cs E0.out.row (by rfl) _ Try.underlying53 rfl (by kernel_rfl) ?_) | ((with_reducible refine gate_store (t := 53) (p := 2) rfl ?_); refine wpList_store_row rfl 53 _ _ rfl g0 x.cs rfl rfl 53 _ BO0.out (by kernel_rfl) (by rfl) (h22_one ..) ?_) | fail)
      refine bodyPost_ret (results_list (rs := [.cell 2 53, .tmp 3]) rfl (by simp) (.cell g0 53 x.cs (0, 0) _ rfl (setRow_heap _ _ _ _ _ _ BO0.out) Try.underlying53 rfl (by kernel_rfl) (.tmp .nil))) rfl ?_
      have h1 := H0.out.size
      have h2 := G0.out
      have h3 := E0.out.bel
      have h4 := below_step B1.out h3
      exact ⟨rfl, h4.os, h4.tape, h4.output, by simpa using h4.size, fun q hq => (setRow_ne _ _ _ _ (by omega)).trans (h4.block q hq)⟩
end Go.Proofs.Ytlaaofbmnaekoaa.MWholeClient
