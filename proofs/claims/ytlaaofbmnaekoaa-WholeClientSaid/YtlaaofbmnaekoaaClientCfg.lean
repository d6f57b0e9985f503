/- The settings at first, a store that was just made, and what it answers. -/
import Derived.Test.YtlaaofbmnaekoaaClientBase
namespace Go.Proofs.Ytlaaofbmnaekoaa.MWholeClient
open Go.RowKit Go.Proofs.YtlaaofbmnaekoaaW.PrintWords Go.Proofs.YtlaaofbmnaekoaaW.PrintLast Go.Proofs.YtlaaofbmnaekoaaW.PrintMore Go.Proofs.Ytlaaofbmnaekoaa.Base
set_option linter.unusedVariables false
set_option linter.unusedSimpArgs false

def S14 : Array Value := #[.int .i64 1, .int .i64 1000, .int .i64 64, .int .i64 2, .int .u8 76, .int .u8 79, .int .u8 67, .int .u8 76, .int .i64 (-20), .int .i64 6, .int .i64 0, .int .i64 10, .int .i64 500, .int .i64 0]
def S18 : Array Value := #[.int .i64 1, .int .i64 1000, .int .i64 64, .int .i64 2, .int .u8 76, .int .u8 79, .int .u8 67, .int .u8 76, .int .i64 (-20), .int .i64 6, .int .i64 0, .int .i64 10, .int .i64 500, .int .i64 0, .pointer none, .pointer none, .int .i64 0, .int .i64 0]
def Z14 : Array Value := #[.int .i64 0, .int .i64 0, .int .i64 0, .int .i64 0, .int .u8 0, .int .u8 0, .int .u8 0, .int .u8 0, .int .i64 0, .int .i64 0, .int .i64 0, .int .i64 0, .int .i64 0, .int .i64 0]
theorem s14_one : S14.all (·.oneCell') = true := by simp [S14, Value.oneCell']
set_option maxHeartbeats 4000000 in
set_option maxRecDepth 100000 in
theorem default_c (w : World) : Calls Try.prog 32 #[] w fun e w' => e = .returned (.agg S14) ∧ Below w.heap.size w w' := by
  have hcv := conv_locl
  have hca := fun (W : World) (a : Addr) => arr_lit W a 4 4 (Nat.le_refl _)
  go_enter Try.func32, Try.ntmps32
  go_upto_region 1 with (fail)
  generalize hw1 : w.alloc _ = w1
  have HB := Aside0.mk (show w1.heap[w.heap.size]? = some (.cells Z14 73 (0, 0)) by rw [← hw1]; exact blk_new _ _)
  have B1 := Aside0.mk (show Below w.heap.size w w1 by rw [← hw1]; exact below_alloc (Below.refl _ _) _)
  have hlt := blk_lt HB.out
  clear hw1
  have z0 : (litW w1).cell? ⟨w1.heap.size, 0, none⟩ = some (.int .u8 76) := (litW_cell w1 0).trans rfl
  have z1 : (litW w1).cell? ⟨w1.heap.size, 1, none⟩ = some (.int .u8 79) := (litW_cell w1 1).trans rfl
  have z2 : (litW w1).cell? ⟨w1.heap.size, 2, none⟩ = some (.int .u8 67) := (litW_cell w1 2).trans rfl
  have z3 : (litW w1).cell? ⟨w1.heap.size, 3, none⟩ = some (.int .u8 76) := (litW_cell w1 3).trans rfl
  have H2 := Aside0.mk (blk_below HB.out (litW_below w1))
  have B2 := Aside0.mk (below_step B1.out (litW_below w1))
  generalize hk : w.heap.size = k at HB H2 ⊢
  go_wp2_with (first | ((with_reducible refine gate_store (t := 73) (p := 0) rfl ?_); refine wpList_store_row rfl 73 _ _ rfl k S14 rfl rfl 73 _ H2.out (by kernel_rfl) (by rfl) s14_one ?_) | fail)
  refine bodyPost_ret (results_cell_row rfl _ _ k 73 S14 (0, 0) _ rfl (setRow_heap _ _ _ _ _ _ H2.out) Try.underlying73 rfl (by kernel_rfl)) rfl ?_
  have h := B2.out
  rw [hk] at h ⊢
  exact ⟨rfl, h.os, h.tape, h.output, by simpa using h.size, fun q hq => (setRow_ne _ _ _ _ (by omega)).trans (h.block q hq)⟩
theorem new_c (w : World) : Calls Try.prog 15 #[] w fun e w' => ∃ g, e = .returned (.pointer (some ⟨g, 0, none⟩)) ∧ w'.heap[g]? = some (.cells S18 82 (0, 0)) ∧ w.heap.size ≤ g ∧ Below w.heap.size w w' := by
  go_enter Try.func15, Try.ntmps15
  go_wp2_with (first | (go_at_call 32; refine (default_c _).mono ?_; rintro e_ w1 ⟨rfl, hb_⟩; have B1 := Aside0.mk hb_; clear hb_) | ((with_reducible refine gate_dst (N := 3) rfl ?_); refine box_event ?hg (N := 3) ?hd (cs := S18) (t := 82) ?hr ?_; (case hd => rfl); (case hg => rfl); (case hr => go_simp; try rfl); intro g hg_ w2 hx_ hb_; have HX := Aside0.mk hx_; have HB := Aside0.mk hb_; have HG := Aside0.mk hg_; clear hg_ hx_ hb_) | fail)
  go_ret
  exact ⟨g, rfl, HX.out, by have h1 := HG.out; have h2 := B1.out.size; omega, below_step B1.out HB.out⟩
theorem settings_c (w : World) (g : Nat) (h : w.heap[g]? = some (.cells S18 82 (0, 0))) : Calls Try.prog 28 #[.pointer (some ⟨g, 0, none⟩)] w fun e w' => e = .returned (.agg S14) ∧ Below w.heap.size w w' := by
  have H0 := Aside0.mk h
  clear h
  go_enter Try.func28, Try.ntmps28
  go_wp2_with (first | ((with_reducible refine gate_dst (N := 2) rfl ?_); refine box_event ?hg (N := 2) ?hd (cs := Z14) (t := 73) ?hr ?_; (case hd => rfl); (case hg => rfl); (case hr => go_simp; try rfl); intro k hg_ w2 hx_ hb_; have HX := Aside0.mk hx_; have HB := Aside0.mk hb_; have HG := Aside0.mk hg_; have H1 := Aside0.mk (blk_below H0.out hb_); clear hg_ hx_ hb_) | ((with_reducible refine gate_dst (N := 9) rfl ?_); refine load_part rfl 73 _ rfl g 0 rfl S14 82 S18 H1.out (by rfl) _ Try.underlying73 rfl (by kernel_rfl) ?_) | ((with_reducible refine gate_store (t := 73) (p := 2) rfl ?_); refine wpList_store_row rfl 73 _ _ rfl k S14 rfl rfl 73 _ HX.out (by kernel_rfl) (by rfl) s14_one ?_) | fail)
  refine bodyPost_ret (results_cell_row rfl _ _ k 73 S14 (0, 0) _ rfl (setRow_heap _ _ _ _ _ _ HX.out) Try.underlying73 rfl (by kernel_rfl)) rfl ?_
  have h := HB.out
  have hk := HG.out
  exact ⟨rfl, h.os, h.tape, h.output, by simpa using h.size, fun q hq => (setRow_ne _ _ _ _ (by omega)).trans (h.block q hq)⟩
theorem table_c (w : World) (g : Nat) (h : w.heap[g]? = some (.cells S18 82 (0, 0))) : Calls Try.prog 48 #[.pointer (some ⟨g, 0, none⟩)] w fun e w' => e = .returned (.pointer none) ∧ w' = w := by
  have z := (blk_cell h 14).trans (show S18[14]? = some (.pointer none) from rfl)
  clear h
  go_enter Try.func48, Try.ntmps48
  go_wp2
  go_ret
  exact ⟨rfl, rfl⟩
theorem expired_c (w : World) (s : Int) : Calls Try.prog 49 #[.pointer none, .int .i64 s] w fun e w' => e = .returned (.bool true) ∧ ∃ n, w' = w.drewN n := by
  go_enter Try.func49, Try.ntmps49
  go_wp2
  go_ret
  exact ⟨rfl, 0, rfl⟩
theorem sign_c (w : World) (g : Nat) (k : Nat) (u s : Int) (h : w.heap[g]? = some (.cells S18 82 (0, 0))) (hs : steady_Seconds.f k u = some s) : Calls Try.prog 29 #[.pointer (some ⟨g, 0, none⟩), .int .u64 u] w fun e w' => e = .returned (.int .i64 3) ∧ ∃ n, w' = w.drewN n := by
  have H0 := Aside0.mk h
  have HS := Aside0.mk hs
  clear h hs
  go_enter Try.func29, Try.ntmps29
  go_wp2_with (first | (go_at_call 48; refine (table_c _ g H0.out).mono ?_; rintro e_ w1 ⟨rfl, rfl⟩) | (go_at_call 26; refine (steady_Seconds.calls k u s _ HS.out).mono ?_; rintro e_ w1 ⟨rfl, ⟨n1, rfl⟩⟩) | (go_at_call 49; refine (expired_c _ s).mono ?_; rintro e_ w1 ⟨rfl, n2, rfl⟩) | fail)
  go_ret
  exact ⟨rfl, _, rfl⟩
end Go.Proofs.Ytlaaofbmnaekoaa.MWholeClient
