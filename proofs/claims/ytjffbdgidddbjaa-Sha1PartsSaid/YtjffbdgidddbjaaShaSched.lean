/-
  SHA-1: the words of a block as the program makes them, walked by hand.
-/
import Derived.Test.YtjffbdgidddbjaaShaCore
import Derived.Laws.CopyOwn
namespace Go.Proofs.Ytjffbdgidddbjaa
set_option linter.unusedVariables false
set_option linter.unusedSimpArgs false
set_option linter.unnecessarySimpa false
open Go.RowKit Go.Proofs.YtjffbdgidddbjaaW.PrintWords Go.Proofs.YtjffbdgidddbjaaW.PrintLast Go.Proofs.YtjffbdgidddbjaaW.PrintMore Go.Proofs.Ytjffbdgidddbjaa.MSha1Sums Go.Proofs.Ytjffbdgidddbjaa.Base
theorem cell_k (kk : IntKind) (l : List Int) (i : Nat) (h : i < l.length) : (l.map (Value.int kk)).toArray[i]? = some (.int kk (l.getD i 0)) := by
  simp [h]
theorem cell_u8 (l : List Int) (i : Nat) (h : i < l.length) : (l.map (Value.int .u8)).toArray[i]? = some (.int .u8 (l.getD i 0)) := cell_k .u8 l i h
theorem cell_u32 (s : List Int) (k i : Nat) (hs : s.length = k) (h : i < k) : ((s ++ List.replicate (80 - k) 0).map (Value.int .u32)).toArray[i]? = some (.int .u32 (s.getD i 0)) := by
  rw [cell_k .u32 _ i (by simp; omega)]
  congr 2
  rw [List.getD_eq_getElem?_getD, List.getD_eq_getElem?_getD, List.getElem?_append_left (by omega)]
theorem set_u32 (s : List Int) (k : Nat) (x : Int) (hs : s.length = k) (hk : k < 80) : (((s ++ List.replicate (80 - k) 0).map (Value.int .u32)).toArray).setIfInBounds k (.int .u32 x) = (((s ++ [x]) ++ List.replicate (80 - (k + 1)) 0).map (Value.int .u32)).toArray := by
  rw [List.setIfInBounds_toArray]
  congr 1
  rw [show 80 - k = (80 - (k + 1)) + 1 by omega, List.replicate_succ, List.append_assoc, ← List.map_set]
  congr 1
  rw [List.set_append_right _ _ (by omega), hs]
  simp
def V7 (g1 g3 : Nat) (b : List Int) (k : Nat) : Nat → Value
  | 0 => .int .i64 (k : Int)
  | 1 => .int .i64 ((4 * k : Nat) : Int)
  | 2 => .pointer (some ⟨g1, 4 * k, none⟩)
  | 3 => .int .u8 (b.getD (4 * k) 0)
  | 4 => .int .u32 (b.getD (4 * k) 0)
  | 5 => .int .u32 (shl .u32 (b.getD (4 * k) 0) 24)
  | 6 => .int .i64 ((4 * k : Nat) : Int)
  | 7 => .int .i64 ((4 * k + 1 : Nat) : Int)
  | 8 => .pointer (some ⟨g1, 4 * k + 1, none⟩)
  | 9 => .int .u8 (b.getD (4 * k + 1) 0)
  | 10 => .int .u32 (b.getD (4 * k + 1) 0)
  | 11 => .int .u32 (shl .u32 (b.getD (4 * k + 1) 0) 16)
  | 12 => .int .u32 (Go.bits .or .u32 (shl .u32 (b.getD (4 * k) 0) 24) (shl .u32 (b.getD (4 * k + 1) 0) 16))
  | 13 => .int .i64 ((4 * k : Nat) : Int)
  | 14 => .int .i64 ((4 * k + 2 : Nat) : Int)
  | 15 => .pointer (some ⟨g1, 4 * k + 2, none⟩)
  | 16 => .int .u8 (b.getD (4 * k + 2) 0)
  | 17 => .int .u32 (b.getD (4 * k + 2) 0)
  | 18 => .int .u32 (shl .u32 (b.getD (4 * k + 2) 0) 8)
  | 19 => .int .u32 (Go.bits .or .u32 (Go.bits .or .u32 (shl .u32 (b.getD (4 * k) 0) 24) (shl .u32 (b.getD (4 * k + 1) 0) 16)) (shl .u32 (b.getD (4 * k + 2) 0) 8))
  | 20 => .int .i64 ((4 * k : Nat) : Int)
  | 21 => .int .i64 ((4 * k + 3 : Nat) : Int)
  | 22 => .pointer (some ⟨g1, 4 * k + 3, none⟩)
  | 23 => .int .u8 (b.getD (4 * k + 3) 0)
  | 24 => .int .u32 (b.getD (4 * k + 3) 0)
  | 25 => .int .u32 (Go.bits .or .u32 (Go.bits .or .u32 (Go.bits .or .u32 (shl .u32 (b.getD (4 * k) 0) 24) (shl .u32 (b.getD (4 * k + 1) 0) 16)) (shl .u32 (b.getD (4 * k + 2) 0) 8)) (b.getD (4 * k + 3) 0))
  | _ => .pointer (some ⟨g3, k, none⟩)
def V8 (g3 : Nat) (s : List Int) (k : Nat) : Nat → Value
  | 0 => .int .i64 (k : Int)
  | 1 => .int .i64 (k : Int)
  | 2 => .int .i64 ((k - 3 : Nat) : Int)
  | 3 => .pointer (some ⟨g3, k - 3, none⟩)
  | 4 => .int .u32 (s.getD (k - 3) 0)
  | 5 => .int .i64 (k : Int)
  | 6 => .int .i64 ((k - 8 : Nat) : Int)
  | 7 => .pointer (some ⟨g3, k - 8, none⟩)
  | 8 => .int .u32 (s.getD (k - 8) 0)
  | 9 => .int .u32 (Go.bits .xor .u32 (s.getD (k - 3) 0) (s.getD (k - 8) 0))
  | 10 => .int .i64 (k : Int)
  | 11 => .int .i64 ((k - 14 : Nat) : Int)
  | 12 => .pointer (some ⟨g3, k - 14, none⟩)
  | 13 => .int .u32 (s.getD (k - 14) 0)
  | 14 => .int .u32 (Go.bits .xor .u32 (Go.bits .xor .u32 (s.getD (k - 3) 0) (s.getD (k - 8) 0)) (s.getD (k - 14) 0))
  | 15 => .int .i64 (k : Int)
  | 16 => .int .i64 ((k - 16 : Nat) : Int)
  | 17 => .pointer (some ⟨g3, k - 16, none⟩)
  | 18 => .int .u32 (s.getD (k - 16) 0)
  | 19 => .int .u32 (Go.bits .xor .u32 (Go.bits .xor .u32 (Go.bits .xor .u32 (s.getD (k - 3) 0) (s.getD (k - 8) 0)) (s.getD (k - 14) 0)) (s.getD (k - 16) 0))
  | 20 => .int .u32 (nx s k)
  | _ => .pointer (some ⟨g3, k, none⟩)
theorem zeros80 : Array.replicate 80 (Value.int .u32 0) = ((List.replicate 80 (0 : Int)).map (.int .u32)).toArray := by simp only [List.map_replicate, List.toArray_replicate]
theorem wb {x : Int} (h : Byte x) : IntKind.u32.wrap x = x := by unfold Byte at h; rw [IntKind.wrap_u32]; omega
theorem sh24 (x : Int) : IntKind.u32.wrap (x * 16777216) = shl .u32 x 24 := by unfold shl; rw [show min (24 : Int).toNat IntKind.u32.bits = 24 from by decide, show (2 : Int) ^ 24 = 16777216 from by decide]
theorem sh16 (x : Int) : IntKind.u32.wrap (x * 65536) = shl .u32 x 16 := by unfold shl; rw [show min (16 : Int).toNat IntKind.u32.bits = 16 from by decide, show (2 : Int) ^ 16 = 65536 from by decide]
theorem sh8 (x : Int) : IntKind.u32.wrap (x * 256) = shl .u32 x 8 := by unfold shl; rw [show min (8 : Int).toNat IntKind.u32.bits = 8 from by decide, show (2 : Int) ^ 8 = 256 from by decide]
theorem sw_lo (b : List Int) (k : Nat) (h : k < 16) : SW b (k + 1) = SW b k ++ [wv b k] := by simp only [SW, if_pos h]
theorem sw_hi (b : List Int) (k : Nat) (h : ¬ k < 16) : SW b (k + 1) = SW b k ++ [nx (SW b k) k] := by simp only [SW, if_neg h]
theorem size80 (l : List Int) (h : l.length = 80) : (l.map (Value.int .u32)).toArray.size = 80 := by simp [h]
theorem one_cells {kk : IntKind} (l : List Int) : (l.map (Value.int kk)).toArray.all (·.oneCell') = true := by simp [Value.oneCell']
theorem agg_cells (l : List Value) : Value.cells (.agg l.toArray) = l.toArray := by simp [Value.cells]
set_option maxHeartbeats 4000000 in
set_option maxRecDepth 100000 in
theorem schedule_c (b : List Int) (hb : b.length = 64) (hy : ∀ i, Byte (b.getD i 0)) (w : World) :
    Calls Try.prog 27 #[.agg (b.map (.int .u8)).toArray] w fun e w' => e = .returned (.agg ((SW b 80).map (.int .u32)).toArray) ∧ Below w.heap.size w w' := by
  have hu38 := Try.underlying38
  have hu62 := Try.underlying62
  have HB := Aside0.mk (Below.refl w.heap.size w)
  have hby := Aside0.mk hy
  clear hy
  have z62 : ∀ W : World, Sem.run Try.prog (zeroValue 62) W = .ok (.agg (Array.replicate 80 (.int .u32 0))) W := by
    intro W
    have hi : (Try.prog.info? 62).map (·.zero) = some (some (.agg (Array.replicate 80 (.int .u32 0)))) := by kernel_rfl
    cases hq : Try.prog.info? 62 with
    | none => rw [hq] at hi; cases hi
    | some i =>
      rw [hq] at hi
      have hz : i.zero = some (.agg (Array.replicate 80 (.int .u32 0))) := Option.some.inj hi
      simp [zeroValue, typeInfo, hq, hz]
  go_enter Try.func27, Try.ntmps27
  go_wp2_with (first | ((with_reducible refine gate_dst (N := 1) rfl ?_); refine box_event ?hg (N := 1) ?hd (cs := (b.map (.int .u8)).toArray) (t := 38) ?hr ?_; (case hd => rfl); (case hg => rfl); (case hr => go_simp); intro g1 hg1_ w1 hx1 hb1; have hg1 := Aside0.mk hg1_; clear hg1_) | ((with_reducible refine gate_dst (N := 2) rfl ?_); refine box_event ?hg (N := 2) ?hd (cs := Array.replicate 80 (.int .u32 0)) (t := 62) ?hr ?_; (case hd => rfl); (case hg => rfl); (case hr => go_simp); intro g2 hg2_ w2 hx2 hb2; have hg2 := Aside0.mk hg2_; clear hg2_) | ((with_reducible refine gate_dst (N := 3) rfl ?_); refine box_event ?hg (N := 3) ?hd (cs := Array.replicate 80 (.int .u32 0)) (t := 62) ?hr ?_; (case hd => rfl); (case hg => rfl); (case hr => go_simp); intro g3 hg3_ w3 hx3 hb3; have hg3 := Aside0.mk hg3_; clear hg3_))
  have hg1 := hg1.out
  have hg2 := hg2.out
  have hg3 := hg3.out
  have n12 : g1 ≠ g2 := by have := blk_lt hx1; omega
  have n13 : g1 ≠ g3 := by have := blk_lt (blk_below hx1 hb2); omega
  have n23 : g2 ≠ g3 := by have := blk_lt hx2; omega
  have gw3 : w.heap.size ≤ g3 := by have := below_size (below_step hb1 hb2); omega
  have gw2 : w.heap.size ≤ g2 := by have := below_size hb1; omega
  have B1 := Aside0.mk (blk_below (blk_below hx1 hb2) hb3)
  rw [zeros80] at hx2 hx3
  have B2 := Aside0.mk (blk_below hx2 hb3)
  have B3 := Aside0.mk hx3
  have HW := Aside0.mk (below_step (below_step hb1 hb2) hb3)
  clear hx1 hx2 hx3 hb1 hb2 hb3 hg1 hg2 hg3 HB
  go_loopw [6] (fun v6 wr => ∃ k : Nat, k ≤ 80 ∧ v6 = .int .i64 k ∧ Aside0 (wr.heap[g1]? = some (Obj.cells (b.map (Value.int .u8)).toArray 38 (0, 0))) ∧ Aside0 (wr.heap[g2]? = some (Obj.cells ((List.replicate 80 (0 : Int)).map (Value.int .u32)).toArray 62 (0, 0))) ∧ Aside0 (wr.heap[g3]? = some (Obj.cells ((SW b k ++ List.replicate (80 - k) 0).map (Value.int .u32)).toArray 62 (0, 0))) ∧ Aside0 (Below w.heap.size w wr)) (fun v6 _ => 80 - (intOf v6).toNat)
  case atStart => exact ⟨0, by omega, rfl, B1, B2, B3, HW⟩
  case round =>
    clear B1 B2 B3 HW
    obtain ⟨k, hk, rfl, BK1, BK2, BK3, HB⟩ := hrel
    have hsl := Aside0.mk (SW_length b k)
    by_cases h80 : k < 80
    · have d0 : decide ((k : Int) < 80) = true := by simp; omega
      have q0 : wrap64 ((k : Int) + 1) = ((k + 1 : Nat) : Int) := by unfold wrap64; omega
      by_cases h16 : k < 16
      · have d1 : decide ((k : Int) < 16) = true := by simp; omega
        have q1 : wrap64 (4 * (k : Int)) = ((4 * k : Nat) : Int) := by unfold wrap64; omega
        go_wp2
        refine region_below (T := ?T7) (n := 1) [some 13, some 14, some 15, some 16, some 17, some 18, some 19, some 20, some 21, some 22, some 23, some 24, some 25, some 26, some 27, some 28, some 29, some 30, some 31, some 32, some 33, some 34, some 35, some 36, some 37, some 38, some 39] ?hT7 (fun i_ v_ _ => v_ = V7 g1 g3 b k i_) (by kernel_rfl) (by kernel_rfl) (fun i_ v_ w_ w1_ _ h_ _ => h_) [0, 1, 2, 3, 4, 5, 6, 7, 8, 9, 10, 11, 12, 13, 14, 15, 16, 17, 18, 19, 20, 21, 22, 23, 24, 25, 26] rfl (.cons (some 13) rfl rfl (fun X wx hG hX K hK => ?_) (.cons (some 14) rfl rfl (fun X wx hG hX K hK => ?_) (.cons (some 15) rfl rfl (fun X wx hG hX K hK => ?_) (.cons (some 16) rfl rfl (fun X wx hG hX K hK => ?_) (.cons (some 17) rfl rfl (fun X wx hG hX K hK => ?_) (.cons (some 18) rfl rfl (fun X wx hG hX K hK => ?_) (.cons (some 19) rfl rfl (fun X wx hG hX K hK => ?_) (.cons (some 20) rfl rfl (fun X wx hG hX K hK => ?_) (.cons (some 21) rfl rfl (fun X wx hG hX K hK => ?_) (.cons (some 22) rfl rfl (fun X wx hG hX K hK => ?_) (.cons (some 23) rfl rfl (fun X wx hG hX K hK => ?_) (.cons (some 24) rfl rfl (fun X wx hG hX K hK => ?_) (.cons (some 25) rfl rfl (fun X wx hG hX K hK => ?_) (.cons (some 26) rfl rfl (fun X wx hG hX K hK => ?_) (.cons (some 27) rfl rfl (fun X wx hG hX K hK => ?_) (.cons (some 28) rfl rfl (fun X wx hG hX K hK => ?_) (.cons (some 29) rfl rfl (fun X wx hG hX K hK => ?_) (.cons (some 30) rfl rfl (fun X wx hG hX K hK => ?_) (.cons (some 31) rfl rfl (fun X wx hG hX K hK => ?_) (.cons (some 32) rfl rfl (fun X wx hG hX K hK => ?_) (.cons (some 33) rfl rfl (fun X wx hG hX K hK => ?_) (.cons (some 34) rfl rfl (fun X wx hG hX K hK => ?_) (.cons (some 35) rfl rfl (fun X wx hG hX K hK => ?_) (.cons (some 36) rfl rfl (fun X wx hG hX K hK => ?_) (.cons (some 37) rfl rfl (fun X wx hG hX K hK => ?_) (.cons (some 38) rfl rfl (fun X wx hG hX K hK => ?_) (.cons (some 39) rfl rfl (fun X wx hG hX K hK => ?_) .nil))))))))))))))))))))))))))) (by kernel_rfl) #[true, true, true, true, true, true, true, true, true, true, true, true, true, true, true, true, true, true, true, true, true, true, true, true, true, true, true, false] (by kernel_rfl) ?_
        case hT7 =>
          intro X
          simp only [fill, Act.put, List.setIfInBounds_toArray, List.set_cons_zero, List.set_cons_succ, Nat.zero_add, Nat.reduceAdd]
          rfl
        · refine val_ (w1 := wx) (v := .int .i64 (k : Int)) (by rfl) rfl ?_ (hK.out _ _ _ rfl (Below.refl _ _) rfl)
          go_simp
        · refine val_ (w1 := wx) (v := .int .i64 ((4 * k : Nat) : Int)) (by rfl) rfl ?_ (hK.out _ _ _ rfl (Below.refl _ _) rfl)
          go_simp
        · have e1 : X 1 = .int .i64 ((4 * k : Nat) : Int) := hX 2 1 (by kernel_rfl)
          have r_ : ((4 * k : Nat) : Int) < 64 := by omega
          refine val_ (w1 := wx) (v := .pointer (some ⟨g1, 4 * k, none⟩)) (by rfl) rfl ?_ (hK.out _ _ _ rfl (Below.refl _ _) rfl)
          go_simp
          rw [if_pos (by omega), show (4 * (k : Int)).toNat = 4 * k by omega]
        · have e2 : X 2 = .pointer (some ⟨g1, 4 * k, none⟩) := hX 2 2 (by kernel_rfl)
          have z_ : wx.cell? ⟨g1, 4 * k, none⟩ = some (.int .u8 (b.getD (4 * k) 0)) := (blk_cell (blk_below (blk_drew BK1.out) hG) _).trans (cell_u8 b _ (by omega))
          refine val_ (w1 := wx) (v := .int .u8 (b.getD (4 * k) 0)) (by rfl) rfl ?_ (hK.out _ _ _ rfl (Below.refl _ _) rfl)
          go_simp
        · have e3 : X 3 = .int .u8 (b.getD (4 * k) 0) := hX 2 3 (by kernel_rfl)
          have q_ := hby.out (4 * k)
          refine val_ (w1 := wx) (v := .int .u32 (b.getD (4 * k) 0)) (by rfl) rfl ?_ (hK.out _ _ _ rfl (Below.refl _ _) rfl)
          go_simp
          exact wb q_
        · have e4 : X 4 = .int .u32 (b.getD (4 * k) 0) := hX 2 4 (by kernel_rfl)
          refine val_ (w1 := wx) (v := .int .u32 (shl .u32 (b.getD (4 * k) 0) 24)) (by rfl) rfl ?_ (hK.out _ _ _ rfl (Below.refl _ _) rfl)
          go_simp
          exact sh24 _
        · refine val_ (w1 := wx) (v := .int .i64 ((4 * k : Nat) : Int)) (by rfl) rfl ?_ (hK.out _ _ _ rfl (Below.refl _ _) rfl)
          go_simp
        · have e6 : X 6 = .int .i64 ((4 * k : Nat) : Int) := hX 2 6 (by kernel_rfl)
          have w_ : wrap64 (((4 * k : Nat) : Int) + 1) = ((4 * k + 1 : Nat) : Int) := by unfold wrap64; omega
          refine val_ (w1 := wx) (v := .int .i64 ((4 * k + 1 : Nat) : Int)) (by rfl) rfl ?_ (hK.out _ _ _ rfl (Below.refl _ _) rfl)
          go_simp
          rw [IntKind.wrap_i64]; omega
        · have e7 : X 7 = .int .i64 ((4 * k + 1 : Nat) : Int) := hX 2 7 (by kernel_rfl)
          have r_ : ((4 * k + 1 : Nat) : Int) < 64 := by omega
          refine val_ (w1 := wx) (v := .pointer (some ⟨g1, 4 * k + 1, none⟩)) (by rfl) rfl ?_ (hK.out _ _ _ rfl (Below.refl _ _) rfl)
          go_simp
          rw [if_pos (by omega), show (4 * (k : Int) + 1).toNat = 4 * k + 1 by omega]
        · have e8 : X 8 = .pointer (some ⟨g1, 4 * k + 1, none⟩) := hX 2 8 (by kernel_rfl)
          have z_ : wx.cell? ⟨g1, 4 * k + 1, none⟩ = some (.int .u8 (b.getD (4 * k + 1) 0)) := (blk_cell (blk_below (blk_drew BK1.out) hG) _).trans (cell_u8 b _ (by omega))
          refine val_ (w1 := wx) (v := .int .u8 (b.getD (4 * k + 1) 0)) (by rfl) rfl ?_ (hK.out _ _ _ rfl (Below.refl _ _) rfl)
          go_simp
        · have e9 : X 9 = .int .u8 (b.getD (4 * k + 1) 0) := hX 2 9 (by kernel_rfl)
          have q_ := hby.out (4 * k + 1)
          refine val_ (w1 := wx) (v := .int .u32 (b.getD (4 * k + 1) 0)) (by rfl) rfl ?_ (hK.out _ _ _ rfl (Below.refl _ _) rfl)
          go_simp
          exact wb q_
        · have e10 : X 10 = .int .u32 (b.getD (4 * k + 1) 0) := hX 2 10 (by kernel_rfl)
          refine val_ (w1 := wx) (v := .int .u32 (shl .u32 (b.getD (4 * k + 1) 0) 16)) (by rfl) rfl ?_ (hK.out _ _ _ rfl (Below.refl _ _) rfl)
          go_simp
          exact sh16 _
        · have e5 : X 5 = .int .u32 (shl .u32 (b.getD (4 * k) 0) 24) := hX 2 5 (by kernel_rfl)
          have e11 : X 11 = .int .u32 (shl .u32 (b.getD (4 * k + 1) 0) 16) := hX 2 11 (by kernel_rfl)
          refine val_ (w1 := wx) (v := .int .u32 (Go.bits .or .u32 (shl .u32 (b.getD (4 * k) 0) 24) (shl .u32 (b.getD (4 * k + 1) 0) 16))) (by rfl) rfl ?_ (hK.out _ _ _ rfl (Below.refl _ _) rfl)
          go_simp
        · refine val_ (w1 := wx) (v := .int .i64 ((4 * k : Nat) : Int)) (by rfl) rfl ?_ (hK.out _ _ _ rfl (Below.refl _ _) rfl)
          go_simp
        · have e13 : X 13 = .int .i64 ((4 * k : Nat) : Int) := hX 2 13 (by kernel_rfl)
          have w_ : wrap64 (((4 * k : Nat) : Int) + 2) = ((4 * k + 2 : Nat) : Int) := by unfold wrap64; omega
          refine val_ (w1 := wx) (v := .int .i64 ((4 * k + 2 : Nat) : Int)) (by rfl) rfl ?_ (hK.out _ _ _ rfl (Below.refl _ _) rfl)
          go_simp
          rw [IntKind.wrap_i64]; omega
        · have e14 : X 14 = .int .i64 ((4 * k + 2 : Nat) : Int) := hX 2 14 (by kernel_rfl)
          have r_ : ((4 * k + 2 : Nat) : Int) < 64 := by omega
          refine val_ (w1 := wx) (v := .pointer (some ⟨g1, 4 * k + 2, none⟩)) (by rfl) rfl ?_ (hK.out _ _ _ rfl (Below.refl _ _) rfl)
          go_simp
          rw [if_pos (by omega), show (4 * (k : Int) + 2).toNat = 4 * k + 2 by omega]
        · have e15 : X 15 = .pointer (some ⟨g1, 4 * k + 2, none⟩) := hX 2 15 (by kernel_rfl)
          have z_ : wx.cell? ⟨g1, 4 * k + 2, none⟩ = some (.int .u8 (b.getD (4 * k + 2) 0)) := (blk_cell (blk_below (blk_drew BK1.out) hG) _).trans (cell_u8 b _ (by omega))
          refine val_ (w1 := wx) (v := .int .u8 (b.getD (4 * k + 2) 0)) (by rfl) rfl ?_ (hK.out _ _ _ rfl (Below.refl _ _) rfl)
          go_simp
        · have e16 : X 16 = .int .u8 (b.getD (4 * k + 2) 0) := hX 2 16 (by kernel_rfl)
          have q_ := hby.out (4 * k + 2)
          refine val_ (w1 := wx) (v := .int .u32 (b.getD (4 * k + 2) 0)) (by rfl) rfl ?_ (hK.out _ _ _ rfl (Below.refl _ _) rfl)
          go_simp
          exact wb q_
        · have e17 : X 17 = .int .u32 (b.getD (4 * k + 2) 0) := hX 2 17 (by kernel_rfl)
          refine val_ (w1 := wx) (v := .int .u32 (shl .u32 (b.getD (4 * k + 2) 0) 8)) (by rfl) rfl ?_ (hK.out _ _ _ rfl (Below.refl _ _) rfl)
          go_simp
          exact sh8 _
        · have e12 : X 12 = .int .u32 (Go.bits .or .u32 (shl .u32 (b.getD (4 * k) 0) 24) (shl .u32 (b.getD (4 * k + 1) 0) 16)) := hX 2 12 (by kernel_rfl)
          have e18 : X 18 = .int .u32 (shl .u32 (b.getD (4 * k + 2) 0) 8) := hX 2 18 (by kernel_rfl)
          refine val_ (w1 := wx) (v := .int .u32 (Go.bits .or .u32 (Go.bits .or .u32 (shl .u32 (b.getD (4 * k) 0) 24) (shl .u32 (b.getD (4 * k + 1) 0) 16)) (shl .u32 (b.getD (4 * k + 2) 0) 8))) (by rfl) rfl ?_ (hK.out _ _ _ rfl (Below.refl _ _) rfl)
          go_simp
        · refine val_ (w1 := wx) (v := .int .i64 ((4 * k : Nat) : Int)) (by rfl) rfl ?_ (hK.out _ _ _ rfl (Below.refl _ _) rfl)
          go_simp
        · have e20 : X 20 = .int .i64 ((4 * k : Nat) : Int) := hX 2 20 (by kernel_rfl)
          have w_ : wrap64 (((4 * k : Nat) : Int) + 3) = ((4 * k + 3 : Nat) : Int) := by unfold wrap64; omega
          refine val_ (w1 := wx) (v := .int .i64 ((4 * k + 3 : Nat) : Int)) (by rfl) rfl ?_ (hK.out _ _ _ rfl (Below.refl _ _) rfl)
          go_simp
          rw [IntKind.wrap_i64]; omega
        · have e21 : X 21 = .int .i64 ((4 * k + 3 : Nat) : Int) := hX 2 21 (by kernel_rfl)
          have r_ : ((4 * k + 3 : Nat) : Int) < 64 := by omega
          refine val_ (w1 := wx) (v := .pointer (some ⟨g1, 4 * k + 3, none⟩)) (by rfl) rfl ?_ (hK.out _ _ _ rfl (Below.refl _ _) rfl)
          go_simp
          rw [if_pos (by omega), show (4 * (k : Int) + 3).toNat = 4 * k + 3 by omega]
        · have e22 : X 22 = .pointer (some ⟨g1, 4 * k + 3, none⟩) := hX 2 22 (by kernel_rfl)
          have z_ : wx.cell? ⟨g1, 4 * k + 3, none⟩ = some (.int .u8 (b.getD (4 * k + 3) 0)) := (blk_cell (blk_below (blk_drew BK1.out) hG) _).trans (cell_u8 b _ (by omega))
          refine val_ (w1 := wx) (v := .int .u8 (b.getD (4 * k + 3) 0)) (by rfl) rfl ?_ (hK.out _ _ _ rfl (Below.refl _ _) rfl)
          go_simp
        · have e23 : X 23 = .int .u8 (b.getD (4 * k + 3) 0) := hX 2 23 (by kernel_rfl)
          have q_ := hby.out (4 * k + 3)
          refine val_ (w1 := wx) (v := .int .u32 (b.getD (4 * k + 3) 0)) (by rfl) rfl ?_ (hK.out _ _ _ rfl (Below.refl _ _) rfl)
          go_simp
          exact wb q_
        · have e19 : X 19 = .int .u32 (Go.bits .or .u32 (Go.bits .or .u32 (shl .u32 (b.getD (4 * k) 0) 24) (shl .u32 (b.getD (4 * k + 1) 0) 16)) (shl .u32 (b.getD (4 * k + 2) 0) 8)) := hX 2 19 (by kernel_rfl)
          have e24 : X 24 = .int .u32 (b.getD (4 * k + 3) 0) := hX 2 24 (by kernel_rfl)
          refine val_ (w1 := wx) (v := .int .u32 (Go.bits .or .u32 (Go.bits .or .u32 (Go.bits .or .u32 (shl .u32 (b.getD (4 * k) 0) 24) (shl .u32 (b.getD (4 * k + 1) 0) 16)) (shl .u32 (b.getD (4 * k + 2) 0) 8)) (b.getD (4 * k + 3) 0))) (by rfl) rfl ?_ (hK.out _ _ _ rfl (Below.refl _ _) rfl)
          go_simp
        · have e0 : X 0 = .int .i64 (k : Int) := hX 2 0 (by kernel_rfl)
          have r_ : ((k : Nat) : Int) < 80 := by omega
          refine val_ (w1 := wx) (v := .pointer (some ⟨g3, k, none⟩)) (by rfl) rfl ?_ (hK.out _ _ _ rfl (Below.refl _ _) rfl)
          go_simp
        intro X wx hG hX
        have e26 : X 26 = .pointer (some ⟨g3, k, none⟩) := hX 26 (by decide)
        have e25 : X 25 = .int .u32 (Go.bits .or .u32 (Go.bits .or .u32 (Go.bits .or .u32 (shl .u32 (b.getD (4 * k) 0) 24) (shl .u32 (b.getD (4 * k + 1) 0) 16)) (shl .u32 (b.getD (4 * k + 2) 0) 8)) (b.getD (4 * k + 3) 0)) := hX 25 (by decide)
        refine tail_ (i := 27) (N := none) #[true, true, true, true, true, true, true, true, true, true, true, true, true, true, true, true, true, true, true, true, true, true, true, true, true, true, true, true] rfl rfl (by kernel_rfl) (fun K hK => ?_)
        have s0 : wx.cell? ⟨g3, k, none⟩ = some (.int .u32 ((SW b k ++ List.replicate (80 - k) 0).getD k 0)) := (blk_cell (blk_below BK3.out hG) _).trans (cell_k .u32 _ _ (by simp [hsl.out]; omega))
        have f0 : wx.frozen? ⟨g3, k, none⟩ = false := blk_frozen (blk_below BK3.out hG) _
        clear hX
        refine skip_ (w1 := wx.setCell ⟨g3, k, none⟩ (.int .u32 (wv b k))) (by rfl) rfl ?_ ?_
        · go_simp
          try rfl
        have Z1 := Aside0.mk (blk_far (blk_below BK1.out hG) (p := ⟨g3, k, none⟩) n13 (.int .u32 (wv b k)))
        have Z2 := Aside0.mk (blk_far (blk_below BK2.out hG) (p := ⟨g3, k, none⟩) n23 (.int .u32 (wv b k)))
        have Z3 := Aside0.mk (blk_put (blk_below BK3.out hG) k (.int .u32 (wv b k)) (set_u32 (SW b k) k (wv b k) hsl.out h80))
        have ZW := Aside0.mk (below_set (j := k) (v := .int .u32 (wv b k)) (below_step HB.out hG) gw3)
        refine hK.out _ _ (tail_done (by kernel_rfl) ?_)
        clear hK K hG s0 f0 BK1 BK2 BK3 HB
        generalize wx.setCell ⟨g3, k, none⟩ (.int .u32 (wv b k)) = Z at Z1 Z2 Z3 ZW ⊢
        clear wx wr
        go_wp2
        go_roundw
        case rel => exact ⟨k + 1, by omega, rfl, Z1, Z2, Aside0.mk (Z3.out.trans (by rw [sw_lo b k h16])), ZW⟩
        case measure => simp [intOf]; omega
      · have d1 : decide ((k : Int) < 16) = false := by simp; omega
        go_wp2
        refine region_below (T := ?T8) (n := 1) [some 40, some 41, some 42, some 43, some 44, some 45, some 46, some 47, some 48, some 49, some 50, some 51, some 52, some 53, some 54, some 55, some 56, some 57, some 58, some 59, some 60, some 61] ?hT8 (fun i_ v_ _ => v_ = V8 g3 (SW b k) k i_) (by kernel_rfl) (by kernel_rfl) (fun i_ v_ w_ w1_ _ h_ _ => h_) [0, 1, 2, 3, 4, 5, 6, 7, 8, 9, 10, 11, 12, 13, 14, 15, 16, 17, 18, 19, 20, 21] rfl (.cons (some 40) rfl rfl (fun X wx hG hX K hK => ?_) (.cons (some 41) rfl rfl (fun X wx hG hX K hK => ?_) (.cons (some 42) rfl rfl (fun X wx hG hX K hK => ?_) (.cons (some 43) rfl rfl (fun X wx hG hX K hK => ?_) (.cons (some 44) rfl rfl (fun X wx hG hX K hK => ?_) (.cons (some 45) rfl rfl (fun X wx hG hX K hK => ?_) (.cons (some 46) rfl rfl (fun X wx hG hX K hK => ?_) (.cons (some 47) rfl rfl (fun X wx hG hX K hK => ?_) (.cons (some 48) rfl rfl (fun X wx hG hX K hK => ?_) (.cons (some 49) rfl rfl (fun X wx hG hX K hK => ?_) (.cons (some 50) rfl rfl (fun X wx hG hX K hK => ?_) (.cons (some 51) rfl rfl (fun X wx hG hX K hK => ?_) (.cons (some 52) rfl rfl (fun X wx hG hX K hK => ?_) (.cons (some 53) rfl rfl (fun X wx hG hX K hK => ?_) (.cons (some 54) rfl rfl (fun X wx hG hX K hK => ?_) (.cons (some 55) rfl rfl (fun X wx hG hX K hK => ?_) (.cons (some 56) rfl rfl (fun X wx hG hX K hK => ?_) (.cons (some 57) rfl rfl (fun X wx hG hX K hK => ?_) (.cons (some 58) rfl rfl (fun X wx hG hX K hK => ?_) (.cons (some 59) rfl rfl (fun X wx hG hX K hK => ?_) (.cons (some 60) rfl rfl (fun X wx hG hX K hK => ?_) (.cons (some 61) rfl rfl (fun X wx hG hX K hK => ?_) .nil)))))))))))))))))))))) (by kernel_rfl) #[true, true, true, true, true, true, true, true, true, true, true, true, true, true, true, true, true, true, true, true, true, true, false] (by kernel_rfl) ?_
        case hT8 =>
          intro X
          simp only [fill, Act.put, List.setIfInBounds_toArray, List.set_cons_zero, List.set_cons_succ, Nat.zero_add, Nat.reduceAdd]
          rfl
        · refine val_ (w1 := wx) (v := .int .i64 (k : Int)) (by rfl) rfl ?_ (hK.out _ _ _ rfl (Below.refl _ _) rfl)
          go_simp
        · refine val_ (w1 := wx) (v := .int .i64 (k : Int)) (by rfl) rfl ?_ (hK.out _ _ _ rfl (Below.refl _ _) rfl)
          go_simp
        · have e1 : X 1 = .int .i64 (k : Int) := hX 2 1 (by kernel_rfl)
          have w_ : wrap64 ((k : Int) - 3) = ((k - 3 : Nat) : Int) := by unfold wrap64; omega
          refine val_ (w1 := wx) (v := .int .i64 ((k - 3 : Nat) : Int)) (by rfl) rfl ?_ (hK.out _ _ _ rfl (Below.refl _ _) rfl)
          go_simp
          rw [IntKind.wrap_i64]; omega
        · have e2 : X 2 = .int .i64 ((k - 3 : Nat) : Int) := hX 2 2 (by kernel_rfl)
          have r_ : ((k - 3 : Nat) : Int) < 80 := by omega
          refine val_ (w1 := wx) (v := .pointer (some ⟨g3, k - 3, none⟩)) (by rfl) rfl ?_ (hK.out _ _ _ rfl (Below.refl _ _) rfl)
          go_simp
        · have e3 : X 3 = .pointer (some ⟨g3, k - 3, none⟩) := hX 2 3 (by kernel_rfl)
          have z_ : wx.cell? ⟨g3, k - 3, none⟩ = some (.int .u32 ((SW b k).getD (k - 3) 0)) := (blk_cell (blk_below (blk_drew BK3.out) hG) _).trans (cell_u32 (SW b k) k _ hsl.out (by omega))
          refine val_ (w1 := wx) (v := .int .u32 ((SW b k).getD (k - 3) 0)) (by rfl) rfl ?_ (hK.out _ _ _ rfl (Below.refl _ _) rfl)
          go_simp
        · refine val_ (w1 := wx) (v := .int .i64 (k : Int)) (by rfl) rfl ?_ (hK.out _ _ _ rfl (Below.refl _ _) rfl)
          go_simp
        · have e5 : X 5 = .int .i64 (k : Int) := hX 2 5 (by kernel_rfl)
          have w_ : wrap64 ((k : Int) - 8) = ((k - 8 : Nat) : Int) := by unfold wrap64; omega
          refine val_ (w1 := wx) (v := .int .i64 ((k - 8 : Nat) : Int)) (by rfl) rfl ?_ (hK.out _ _ _ rfl (Below.refl _ _) rfl)
          go_simp
          rw [IntKind.wrap_i64]; omega
        · have e6 : X 6 = .int .i64 ((k - 8 : Nat) : Int) := hX 2 6 (by kernel_rfl)
          have r_ : ((k - 8 : Nat) : Int) < 80 := by omega
          refine val_ (w1 := wx) (v := .pointer (some ⟨g3, k - 8, none⟩)) (by rfl) rfl ?_ (hK.out _ _ _ rfl (Below.refl _ _) rfl)
          go_simp
        · have e7 : X 7 = .pointer (some ⟨g3, k - 8, none⟩) := hX 2 7 (by kernel_rfl)
          have z_ : wx.cell? ⟨g3, k - 8, none⟩ = some (.int .u32 ((SW b k).getD (k - 8) 0)) := (blk_cell (blk_below (blk_drew BK3.out) hG) _).trans (cell_u32 (SW b k) k _ hsl.out (by omega))
          refine val_ (w1 := wx) (v := .int .u32 ((SW b k).getD (k - 8) 0)) (by rfl) rfl ?_ (hK.out _ _ _ rfl (Below.refl _ _) rfl)
          go_simp
        · have e4 : X 4 = .int .u32 ((SW b k).getD (k - 3) 0) := hX 2 4 (by kernel_rfl)
          have e8 : X 8 = .int .u32 ((SW b k).getD (k - 8) 0) := hX 2 8 (by kernel_rfl)
          refine val_ (w1 := wx) (v := .int .u32 (Go.bits .xor .u32 ((SW b k).getD (k - 3) 0) ((SW b k).getD (k - 8) 0))) (by rfl) rfl ?_ (hK.out _ _ _ rfl (Below.refl _ _) rfl)
          go_simp
        · refine val_ (w1 := wx) (v := .int .i64 (k : Int)) (by rfl) rfl ?_ (hK.out _ _ _ rfl (Below.refl _ _) rfl)
          go_simp
        · have e10 : X 10 = .int .i64 (k : Int) := hX 2 10 (by kernel_rfl)
          have w_ : wrap64 ((k : Int) - 14) = ((k - 14 : Nat) : Int) := by unfold wrap64; omega
          refine val_ (w1 := wx) (v := .int .i64 ((k - 14 : Nat) : Int)) (by rfl) rfl ?_ (hK.out _ _ _ rfl (Below.refl _ _) rfl)
          go_simp
          rw [IntKind.wrap_i64]; omega
        · have e11 : X 11 = .int .i64 ((k - 14 : Nat) : Int) := hX 2 11 (by kernel_rfl)
          have r_ : ((k - 14 : Nat) : Int) < 80 := by omega
          refine val_ (w1 := wx) (v := .pointer (some ⟨g3, k - 14, none⟩)) (by rfl) rfl ?_ (hK.out _ _ _ rfl (Below.refl _ _) rfl)
          go_simp
        · have e12 : X 12 = .pointer (some ⟨g3, k - 14, none⟩) := hX 2 12 (by kernel_rfl)
          have z_ : wx.cell? ⟨g3, k - 14, none⟩ = some (.int .u32 ((SW b k).getD (k - 14) 0)) := (blk_cell (blk_below (blk_drew BK3.out) hG) _).trans (cell_u32 (SW b k) k _ hsl.out (by omega))
          refine val_ (w1 := wx) (v := .int .u32 ((SW b k).getD (k - 14) 0)) (by rfl) rfl ?_ (hK.out _ _ _ rfl (Below.refl _ _) rfl)
          go_simp
        · have e9 : X 9 = .int .u32 (Go.bits .xor .u32 ((SW b k).getD (k - 3) 0) ((SW b k).getD (k - 8) 0)) := hX 2 9 (by kernel_rfl)
          have e13 : X 13 = .int .u32 ((SW b k).getD (k - 14) 0) := hX 2 13 (by kernel_rfl)
          refine val_ (w1 := wx) (v := .int .u32 (Go.bits .xor .u32 (Go.bits .xor .u32 ((SW b k).getD (k - 3) 0) ((SW b k).getD (k - 8) 0)) ((SW b k).getD (k - 14) 0))) (by rfl) rfl ?_ (hK.out _ _ _ rfl (Below.refl _ _) rfl)
          go_simp
        · refine val_ (w1 := wx) (v := .int .i64 (k : Int)) (by rfl) rfl ?_ (hK.out _ _ _ rfl (Below.refl _ _) rfl)
          go_simp
        · have e15 : X 15 = .int .i64 (k : Int) := hX 2 15 (by kernel_rfl)
          have w_ : wrap64 ((k : Int) - 16) = ((k - 16 : Nat) : Int) := by unfold wrap64; omega
          refine val_ (w1 := wx) (v := .int .i64 ((k - 16 : Nat) : Int)) (by rfl) rfl ?_ (hK.out _ _ _ rfl (Below.refl _ _) rfl)
          go_simp
          rw [IntKind.wrap_i64]; omega
        · have e16 : X 16 = .int .i64 ((k - 16 : Nat) : Int) := hX 2 16 (by kernel_rfl)
          have r_ : ((k - 16 : Nat) : Int) < 80 := by omega
          refine val_ (w1 := wx) (v := .pointer (some ⟨g3, k - 16, none⟩)) (by rfl) rfl ?_ (hK.out _ _ _ rfl (Below.refl _ _) rfl)
          go_simp
        · have e17 : X 17 = .pointer (some ⟨g3, k - 16, none⟩) := hX 2 17 (by kernel_rfl)
          have z_ : wx.cell? ⟨g3, k - 16, none⟩ = some (.int .u32 ((SW b k).getD (k - 16) 0)) := (blk_cell (blk_below (blk_drew BK3.out) hG) _).trans (cell_u32 (SW b k) k _ hsl.out (by omega))
          refine val_ (w1 := wx) (v := .int .u32 ((SW b k).getD (k - 16) 0)) (by rfl) rfl ?_ (hK.out _ _ _ rfl (Below.refl _ _) rfl)
          go_simp
        · have e14 : X 14 = .int .u32 (Go.bits .xor .u32 (Go.bits .xor .u32 ((SW b k).getD (k - 3) 0) ((SW b k).getD (k - 8) 0)) ((SW b k).getD (k - 14) 0)) := hX 2 14 (by kernel_rfl)
          have e18 : X 18 = .int .u32 ((SW b k).getD (k - 16) 0) := hX 2 18 (by kernel_rfl)
          refine val_ (w1 := wx) (v := .int .u32 (Go.bits .xor .u32 (Go.bits .xor .u32 (Go.bits .xor .u32 ((SW b k).getD (k - 3) 0) ((SW b k).getD (k - 8) 0)) ((SW b k).getD (k - 14) 0)) ((SW b k).getD (k - 16) 0))) (by rfl) rfl ?_ (hK.out _ _ _ rfl (Below.refl _ _) rfl)
          go_simp
        · have e19 : X 19 = .int .u32 (Go.bits .xor .u32 (Go.bits .xor .u32 (Go.bits .xor .u32 ((SW b k).getD (k - 3) 0) ((SW b k).getD (k - 8) 0)) ((SW b k).getD (k - 14) 0)) ((SW b k).getD (k - 16) 0)) := hX 2 19 (by kernel_rfl)
          refine goes_ Try.func29 (by kernel_rfl) rfl #[X 19, .int .i64 1] (by rfl) rfl rfl (by simp only [List.map_toArray, List.map_cons, List.map_nil]; rfl) ?_
          refine calls_args (as' := #[.int .u32 (Go.bits .xor .u32 (Go.bits .xor .u32 (Go.bits .xor .u32 ((SW b k).getD (k - 3) 0) ((SW b k).getD (k - 8) 0)) ((SW b k).getD (k - 14) 0)) ((SW b k).getD (k - 16) 0)), .int .i64 1]) (by rw [e19]) ?_
          refine (bits_RotateLeft32.calls _ 1 _ wx (rol_1 _)).mono ?_
          rintro e w' ⟨rfl, ⟨⟨m_, rfl⟩⟩⟩
          exact ⟨_, rfl, hK.out _ _ _ rfl (pw_below_drewN (Below.refl _ _) m_) rfl⟩
        · have e0 : X 0 = .int .i64 (k : Int) := hX 2 0 (by kernel_rfl)
          have r_ : ((k : Nat) : Int) < 80 := by omega
          refine val_ (w1 := wx) (v := .pointer (some ⟨g3, k, none⟩)) (by rfl) rfl ?_ (hK.out _ _ _ rfl (Below.refl _ _) rfl)
          go_simp
        intro X wx hG hX
        have e21 : X 21 = .pointer (some ⟨g3, k, none⟩) := hX 21 (by decide)
        have e20 : X 20 = .int .u32 (nx (SW b k) k) := hX 20 (by decide)
        refine tail_ (i := 22) (N := none) #[true, true, true, true, true, true, true, true, true, true, true, true, true, true, true, true, true, true, true, true, true, true, true] rfl rfl (by kernel_rfl) (fun K hK => ?_)
        have s0 : wx.cell? ⟨g3, k, none⟩ = some (.int .u32 ((SW b k ++ List.replicate (80 - k) 0).getD k 0)) := (blk_cell (blk_below BK3.out hG) _).trans (cell_k .u32 _ _ (by simp [hsl.out]; omega))
        have f0 : wx.frozen? ⟨g3, k, none⟩ = false := blk_frozen (blk_below BK3.out hG) _
        clear hX
        refine skip_ (w1 := wx.setCell ⟨g3, k, none⟩ (.int .u32 (nx (SW b k) k))) (by rfl) rfl ?_ ?_
        · go_simp
          try rfl
        have Z1 := Aside0.mk (blk_far (blk_below BK1.out hG) (p := ⟨g3, k, none⟩) n13 (.int .u32 (nx (SW b k) k)))
        have Z2 := Aside0.mk (blk_far (blk_below BK2.out hG) (p := ⟨g3, k, none⟩) n23 (.int .u32 (nx (SW b k) k)))
        have Z3 := Aside0.mk (blk_put (blk_below BK3.out hG) k (.int .u32 (nx (SW b k) k)) (set_u32 (SW b k) k (nx (SW b k) k) hsl.out h80))
        have ZW := Aside0.mk (below_set (j := k) (v := .int .u32 (nx (SW b k) k)) (below_step HB.out hG) gw3)
        refine hK.out _ _ (tail_done (by kernel_rfl) ?_)
        clear hK K hG s0 f0 BK1 BK2 BK3 HB
        generalize wx.setCell ⟨g3, k, none⟩ (.int .u32 (nx (SW b k) k)) = Z at Z1 Z2 Z3 ZW ⊢
        clear wx wr
        go_wp2
        go_roundw
        case rel => exact ⟨k + 1, by omega, rfl, Z1, Z2, Aside0.mk (Z3.out.trans (by rw [sw_hi b k h16])), ZW⟩
        case measure => simp [intOf]; omega
    · obtain rfl : k = 80 := by omega
      have d0 : decide (((80 : Nat) : Int) < 80) = false := by decide
      go_wp2_with (first | ((with_reducible refine gate_dst (N := 63) rfl ?_); refine wpList_load_row rfl 62 _ rfl g3 rfl 62 _ (0, 0) _ BK3.out hu62 rfl (by rw [size80 _ (by simp [hsl.out])]; kernel_rfl) ?_) | (refine wpList_store_row rfl 62 _ _ rfl g2 _ rfl rfl 62 _ BK2.out (by rw [size80 _ (by simp [hsl.out])]; kernel_rfl) (by rw [size80 _ (by simp), size80 _ (by simp [hsl.out])]) (one_cells _) ?_))
      refine bodyPost_ret (results_cell_row rfl _ _ g2 62 _ (0, 0) _ rfl (setRow_heap _ _ _ _ _ _ BK2.out) hu62 rfl (by rw [size80 _ (by simp [hsl.out])]; kernel_rfl)) rfl ?_
      exact ⟨by simp, below_setRow HB.out gw2 _⟩
end Go.Proofs.Ytjffbdgidddbjaa
