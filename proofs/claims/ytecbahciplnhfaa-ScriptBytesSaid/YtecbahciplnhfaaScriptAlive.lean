/-
  The chapter's example: a fixed fact.
-/
import Derived.Test.YtecbahciplnhfaaScriptPure
import Derived.Lib.SlBytesConst
namespace Go.Proofs.Ytecbahciplnhfaa
set_option linter.unusedVariables false
set_option linter.unusedSimpArgs false
set_option linter.unnecessarySimpa false
open Go.RowKit Go.Proofs.YtecbahciplnhfaaW.PrintWords Go.Proofs.YtecbahciplnhfaaW.PrintLast Go.Proofs.YtecbahciplnhfaaW.PrintMore Go.Proofs.Ytecbahciplnhfaa.MScriptBytes Go.Proofs.Ytecbahciplnhfaa.Base
theorem row_1 (w : World) (x : Int) (fr : Nat × Nat) : Kd.C (Kd.int .u8) (w.alloc (.cells #[.int .u8 x] 5 fr)) (some ⟨w.heap.size, 0, none⟩) 1 [x] := by
  refine ⟨rfl, by omega, fun _ => ⟨_, rfl, fun j p hp => ?_⟩⟩
  cases j with
  | succ j => simp at hp
  | zero =>
    obtain rfl : x = p := by simpa using hp
    refine ⟨[.int .u8 x], rfl, rfl, fun i u hu => ?_⟩
    cases i with
    | succ i => simp at hu
    | zero =>
      obtain rfl : Value.int .u8 x = u := by simpa using hu
      exact (cell_of_row _ w.heap.size 0 #[.int .u8 x] 5 fr (blk_new w (.cells #[.int .u8 x] 5 fr))).trans rfl
def x1 : S33 := ⟨4, 0, 0, 0, 0, 0, []⟩
def x2 : S33 := ⟨1, 3, 0, 0, 0, 0, [120]⟩
theorem ok_x1 : okA x1 ∧ wfA x1 := by
  have e : (decA [3]).1 = x1 := by unfold decA NV tx; simp [NV, x1]
  rw [← e]
  exact decA_ok (fun x hx => by simp at hx; rw [hx]; exact ⟨by decide, by decide⟩)
theorem ok_x2 : okA x2 ∧ wfA x2 :=
  ⟨⟨by decide, by decide, by decide, by decide, by decide, by decide, fun h => absurd rfl h, fun _ => rfl, fun _ => ⟨rfl, rfl, rfl⟩, fun h => absurd rfl h⟩, ⟨by decide, by decide, fun x hx => by simp [x2] at hx; rw [hx]; exact ⟨by decide, by decide⟩⟩⟩
theorem row_2 (w : World) (A : Option Addr) (h : Kd.C (Kd.int .u8) w A 1 [120]) : Kd.C k33 (w.alloc (.cells #[.int .i64 4, .int .i64 0, .int .u64 0, .int .u32 0, .int .i64 0, .int .i64 0, .slice none 0 0, .int .i64 1, .int .i64 3, .int .u64 0, .int .u32 0, .int .i64 0, .int .i64 0, .slice A 1 1] 33 (0, 0))) (some ⟨w.heap.size, 0, none⟩) 2 [x1, x2] := by
  refine ⟨rfl, by omega, fun _ => ⟨_, rfl, fun j p hp => ?_⟩⟩
  have hb := blk_new w (.cells #[.int .i64 4, .int .i64 0, .int .u64 0, .int .u32 0, .int .i64 0, .int .i64 0, .slice none 0 0, .int .i64 1, .int .i64 3, .int .u64 0, .int .u32 0, .int .i64 0, .int .i64 0, .slice A 1 1] 33 (0, 0))
  have e : ∀ i, (⟨w.heap.size, 0, none⟩ : Addr).add i = ⟨w.heap.size, i, none⟩ := fun i => by simp [Addr.add]; exact fun h => h.symm
  rcases j with _ | _ | j
  · obtain rfl : x1 = p := by simpa using hp
    refine ⟨_, rfl, k33_mk _ x1 (A6 := none) (c6 := 0) (Nat.le_refl 0) (Kd.C_nil _ _), fun i u hu => ?_⟩
    rw [e, blk_cell hb]
    rcases i with _ | _ | _ | _ | _ | _ | _ | i <;> first | (simpa [x1, k33, Kd.iso, Kd.pair, Kd.int, Kd.scalar] using hu) | (simp at hu)
  · obtain rfl : x2 = p := by simpa using hp
    refine ⟨_, rfl, k33_mk _ x2 (A6 := A) (c6 := 1) (Nat.le_refl 1) (Kd.C_alloc h _), fun i u hu => ?_⟩
    have e7 : (0 + 1) * k33.sz = 7 := rfl
    rw [e, blk_cell hb, e7]
    rcases i with _ | _ | _ | _ | _ | _ | _ | i <;> first | (simpa [x2] using hu) | (simp at hu)
  · simp at hp
theorem encode_c (w : World) (A : Option Addr) (c : Nat) (l : List S33) (hr : Kd.C k33 w A l.length l) (hc : l.length ≤ c) (hw : ∀ y ∈ l, wfA y) (hn : l.length ≤ 3000) :
    ∃ r : List Int × Option Int, ((∀ y ∈ l, okA y) → r = (encs l, none)) ∧ (r.2 = none → ∀ y ∈ l, okA y) ∧ Calls Try.prog 16 #[.slice A l.length c] w fun e w' => ∃ A' c', e = .returned (.tuple #[.slice A' r.1.length c', errW r.2]) ∧ Kd.C (Kd.int .u8) w' A' r.1.length r.1 ∧ r.1.length ≤ c' ∧ Below w.heap.size w w' := by
  obtain ⟨k, r, h, h1, h2⟩ := encode_all l hw hn
  refine ⟨r, h1, h2, (script_Encode.calls k A c l r.1 r.2 w hr hc h).mono ?_⟩
  rintro e w' ⟨v, rfl, hv, hb⟩
  obtain ⟨A', c', rfl⟩ := Kd.R_slice hv
  exact ⟨A', c', rfl, (Kd.R_reads' hv).2.2, (Kd.R_reads' hv).2.1, hb⟩
theorem dec_3 : dec [3] = [x1] := by
  rw [dec_step (by simp)]
  have e : decA [3] = (x1, []) := by unfold decA NV tx; simp [NV, x1]
  rw [e]
  rfl
theorem encs_12 : encs [x1, x2] = [3, 0, 3, 0, 1, 120] := by kernel_rfl
set_option maxHeartbeats 8000000 in
set_option maxRecDepth 100000 in
theorem alive_c (w : World) : Calls Try.prog 6 #[] w fun e w' => e = .returned (.bool true) ∧ Below w.heap.size w w' := by
  go_enter Try.func6, Try.ntmps6
  go_wp2_with (fail)
  have hdec := decode_c (w.alloc (.cells #[.int .u8 3] 5 (0, 0))) (some ⟨w.heap.size, 0, none⟩) 1 [3] (fun x hx => by simp at hx; rw [hx]; exact ⟨by decide, by decide⟩) (by simp) (row_1 w 3 (0, 0)) (Nat.le_refl 1)
  rw [dec_3] at hdec
  simp only [List.length_cons, List.length_nil, Nat.zero_add] at hdec
  with_reducible refine hdec.mono ?_
  rintro e w1 ⟨A1, c1, rfl, hC, hle, hb⟩
  have C1 := Aside0.mk hC
  have B1 := Aside0.mk (below_step (below_alloc (Below.refl w.heap.size w) _) hb)
  have hcv := Go.Lib.run_convert_bytes_const (P := Try.prog) w1 22 5 #[.int .u8 120] 1 1 Try.underlying22 Try.underlying5
  clear hdec hC hle hb
  go_wp2_with (fail)
  obtain ⟨r, hr, _, henc⟩ := encode_c ((w1.alloc (.cells #[.int .u8 120] 5 (1, 2))).alloc (.cells #[.int .i64 4, .int .i64 0, .int .u64 0, .int .u32 0, .int .i64 0, .int .i64 0, .slice none 0 0, .int .i64 1, .int .i64 3, .int .u64 0, .int .u32 0, .int .i64 0, .int .i64 0, .slice (some ⟨w1.heap.size, 0, none⟩) 1 1] 33 (0, 0))) (some ⟨(w1.alloc (.cells #[.int .u8 120] 5 (1, 2))).heap.size, 0, none⟩) 2 [x1, x2] (row_2 _ _ (row_1 w1 120 (1, 2))) (Nat.le_refl 2) (fun y hy => by simp at hy; rcases hy with rfl | rfl; exact ok_x1.2; exact ok_x2.2) (by simp)
  rw [hr (fun y hy => by simp at hy; rcases hy with rfl | rfl; exact ok_x1.1; exact ok_x2.1), encs_12] at henc
  simp only [List.length_cons, List.length_nil, Nat.zero_add, Nat.reduceAdd] at henc
  rw [show (w1.alloc (.cells #[.int .u8 120] 5 (1, 2))).heap.size = w1.heap.size + 1 from World.size_alloc _ _] at henc
  with_reducible refine henc.mono ?_
  rintro e w2 ⟨A2, c2, rfl, hC, hle, hb⟩
  have B2 := Aside0.mk (below_step (below_alloc (below_alloc B1.out (.cells #[.int .u8 120] 5 (1, 2))) _) hb)
  have C2 := Aside0.mk (Kd.C_below C1.out (below_step (below_alloc (below_alloc (Below.refl w1.heap.size w1) (.cells #[.int .u8 120] 5 (1, 2))) _) hb))
  have hcs := Kd.C_string (P := Try.prog) (A := A2) (c := c2) Try.underlying22 Try.underlying5 Try.underlying9 hC
  obtain ⟨ad0, A3, c3, hA, z0, _⟩ := at_T33 C2.out 0 (by omega) (by simp)
  subst hA
  have z0 : w2.cell? ad0 = some (.int .i64 4) := by
    have h := z0
    simp only [Int.toNat_zero, Nat.zero_mul] at h
    rw [show ad0.add 0 = ad0 from (by cases ad0; rfl)] at h
    exact h
  have hstr : ((strOfNums [3, 0, 3, 0, 1, 120]).toList == [3, 0, 3, 0, 1, 120]) = true := by first | kernel_rfl | decide +kernel | simp [strOfNums]
  clear henc hr hC hle hb
  simp only [errW_none]
  go_wp2
  go_ret
  exact ⟨rfl, B2.out⟩
end Go.Proofs.Ytecbahciplnhfaa
