/- Whether an answer is one to a question (written by gen_match.py). -/
import Derived.Test.YtlaaofbmnaekoaaClientMsg
namespace Go.Proofs.Ytlaaofbmnaekoaa.MWholeClient
open Go.RowKit Go.Proofs.YtlaaofbmnaekoaaW.PrintWords Go.Proofs.YtlaaofbmnaekoaaW.PrintLast Go.Proofs.YtlaaofbmnaekoaaW.PrintMore Go.Proofs.Ytlaaofbmnaekoaa.Base
set_option linter.unusedVariables false
set_option linter.unusedSimpArgs false

set_option maxHeartbeats 16000000 in
set_option maxRecDepth 100000 in
theorem match_c (w : World) (ba c bb d : Nat) (x y : HD) (e2 : x.vn = 4) (e3 : x.md = 3) (f2 : y.vn = 4) (f3 : y.md = 4) (f4 : y.b0 = x.t0) (f5 : y.b1 = x.t1)
    (hA : ∀ W, Below w.heap.size w W → Calls Try.prog 44 #[.slice (some ⟨ba, 0, none⟩) 48 c] W fun e w' => e = .returned (.tuple #[.agg x.cs, .nilIface]) ∧ Below W.heap.size W w')
    (hP : ∀ W, Below w.heap.size w W → Calls Try.prog 16 #[.slice (some ⟨bb, 0, none⟩) 48 d] W fun e w' => e = .returned (.tuple #[.agg y.cs, .nilIface]) ∧ Below W.heap.size W w') :
    Calls Try.prog 23 #[.slice (some ⟨ba, 0, none⟩) 48 c, .slice (some ⟨bb, 0, none⟩) 48 d] w fun e w' => e = .returned .nilIface ∧ Below w.heap.size w w' := by
  have HA := Aside0.mk hA
  have HP := Aside0.mk hP
  have E2 := Aside0.mk e2
  have E3 := Aside0.mk e3
  have F2 := Aside0.mk f2
  have F3 := Aside0.mk f3
  have F4 := Aside0.mk f4
  have F5 := Aside0.mk f5
  clear hA hP e2 e3 f2 f3 f4 f5
  go_enter Try.func23, Try.ntmps23
  go_wp2_with (first | (go_at_call 44; refine (HA.out _ (Below.refl _ _)).mono ?_; rintro e_ w1 ⟨rfl, hb_⟩; have K1 := Aside0.mk hb_; clear hb_) | ((with_reducible refine gate_dst (N := 5) rfl ?_); refine box_event ?hg (N := 5) ?hd (cs := Z22) (t := 53) ?hr ?_; (case hd => rfl); (case hg => rfl); (case hr => go_simp; try rfl); intro gq hg_ wq hx_ hb_; have Gq := Aside0.mk hg_; have Hq := Aside0.mk hb_; have Bq := Aside0.mk hx_; clear hg_ hx_ hb_; refine halt_ ?_) | fail)
  unfold Halted
  try apply_assumption
  refine wpList_store_row rfl 53 _ _ rfl gq x.cs rfl rfl 53 _ Bq.out (by kernel_rfl) (by rfl) (h22_one ..) ?_
  have E0 := Aside0.mk ((PH.start K1.out Hq.out Gq.out Bq.out).set x.cs)
  clear K1 Hq Gq Bq
  generalize wq.setRow gq x.cs = w2 at E0 ⊢
  go_wp2_with (first | (go_at_call 16; refine (HP.out _ E0.out.bel).mono ?_; rintro e_ w3 ⟨rfl, hb_⟩; have E0 := Aside0.mk (E0.out.below hb_); clear hb_) | ((with_reducible refine gate_dst (N := 7) rfl ?_); refine box_event ?hg (N := 7) ?hd (cs := Z22) (t := 53) ?hr ?_; (case hd => rfl); (case hg => rfl); (case hr => go_simp; try rfl); intro ga hg_ wa hx_ hb_; have Ga := Aside0.mk hg_; have Ha := Aside0.mk hb_; have Ba := Aside0.mk hx_; clear hg_ hx_ hb_; refine halt_ ?_) | fail)
  unfold Halted
  try apply_assumption
  refine wpList_store_row rfl 53 _ _ rfl ga y.cs rfl rfl 53 _ Ba.out (by kernel_rfl) (by rfl) (h22_one ..) ?_
  have GN := Aside0.mk (show gq ≠ ga ∧ w.heap.size ≤ ga from by have a_ := blk_lt E0.out.row; have b_ := Ga.out; have c_ := E0.out.new; omega)
  have E0 := Aside0.mk ((E0.out.below Ha.out).setx (cs' := y.cs) GN.out.2 GN.out.1)
  have BA := Aside0.mk (setRow_heap _ _ _ y.cs _ _ Ba.out)
  clear Ha Ga Ba
  generalize wa.setRow ga y.cs = w4 at E0 BA ⊢
  have y1 := (blk_cell E0.out.row 1).trans (show x.cs[1]? = some (.int .i64 x.vn) from rfl)
  have y2 := (blk_cell E0.out.row 2).trans (show x.cs[2]? = some (.int .i64 x.md) from rfl)
  rw [E2.out] at y1
  rw [E3.out] at y2
  go_upto_region 8 with (first | (go_at_call 45; refine (answer_Mode.calls 9 4 3 4 true _ mode43).mono ?_; rintro e_ w6 ⟨rfl, n_, rfl⟩) | fail)
  have E0 := Aside0.mk (E0.out.below (pw_below_drewN (Below.refl _ _) n_))
  have BA := Aside0.mk (blk_below BA.out (pw_below_drewN (Below.refl _ _) n_))
  generalize w4.drewN n_ = w6 at E0 BA ⊢
  clear y1 y2
  have y1 := (blk_cell E0.out.row 1).trans (show x.cs[1]? = some (.int .i64 x.vn) from rfl)
  rw [E2.out] at y1
  have y20 := (blk_cell E0.out.row 20).trans (show x.cs[20]? = some (.int .u32 x.t0) from rfl)
  have y21 := (blk_cell E0.out.row 21).trans (show x.cs[21]? = some (.int .u32 x.t1) from rfl)
  have z1 := (blk_cell BA.out 1).trans (show y.cs[1]? = some (.int .i64 y.vn) from rfl)
  rw [F2.out] at z1
  have z2 := (blk_cell BA.out 2).trans (show y.cs[2]? = some (.int .i64 y.md) from rfl)
  rw [F3.out] at z2
  have z16 := (blk_cell BA.out 16).trans (show y.cs[16]? = some (.int .u32 y.b0) from rfl)
  rw [F4.out] at z16
  have z17 := (blk_cell BA.out 17).trans (show y.cs[17]? = some (.int .u32 y.b1) from rfl)
  rw [F5.out] at z17
  go_wp2_with (fail)
  go_ret
  exact ⟨rfl, E0.out.bel⟩
end Go.Proofs.Ytlaaofbmnaekoaa.MWholeClient
