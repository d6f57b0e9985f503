/-
  SHA-1: the state behind a block as the program makes it, walked by hand.
-/
import Derived.Test.YtjffbdgidddbjaaShaSched
namespace Go.Proofs.Ytjffbdgidddbjaa
set_option linter.unusedVariables false
set_option linter.unusedSimpArgs false
set_option linter.unnecessarySimpa false
open Go.RowKit Go.Proofs.YtjffbdgidddbjaaW.PrintWords Go.Proofs.YtjffbdgidddbjaaW.PrintLast Go.Proofs.YtjffbdgidddbjaaW.PrintMore Go.Proofs.Ytjffbdgidddbjaa.MSha1Sums Go.Proofs.Ytjffbdgidddbjaa.Base
def L5 (s : St) : List Int := [s.1, s.2.1, s.2.2.1, s.2.2.2.1, s.2.2.2.2]
def A5 (s : St) : Value := .agg ((L5 s).map (Value.int .u32)).toArray
def O5 (s : St) : Obj := .cells ((L5 s).map (Value.int .u32)).toArray 28 (0, 0)
def ADD (x y : List Int) (k : Nat) : List Int := (List.range 5).map fun i => if i < k then (x.getD i 0 + y.getD i 0) % 4294967296 else x.getD i 0
theorem ADD_set (x y : List Int) : ∀ k, k < 5 → (ADD x y k).set k (((ADD x y k).getD k 0 + y.getD k 0) % 4294967296) = ADD x y (k + 1)
  | 0, _ => rfl
  | 1, _ => rfl
  | 2, _ => rfl
  | 3, _ => rfl
  | 4, _ => rfl
  | k + 5, h => by omega
theorem ADD_len (x y : List Int) (k : Nat) : (ADD x y k).length = 5 := by simp [ADD]
theorem ADD_0 (s : St) (y : List Int) : L5 s = ADD (L5 s) y 0 := rfl
theorem ADD_5 (r s : St) : ADD (L5 r) (L5 s) 5 = L5 (add5 s r) := by
  unfold add5
  rw [Int.add_comm s.1, Int.add_comm s.2.1, Int.add_comm s.2.2.1, Int.add_comm s.2.2.2.1, Int.add_comm s.2.2.2.2]
  rfl
theorem L5_get (x y : List Int) (k : Nat) : (((ADD x y k).map (Value.int .u32)).toArray).size = 5 := by simp [ADD_len]
theorem L5_size (s : St) : (((L5 s).map (Value.int .u32)).toArray).size = 5 := rfl
theorem set_k (l : List Int) (k : Nat) (x : Int) : ((l.map (Value.int .u32)).toArray).setIfInBounds k (.int .u32 x) = ((l.set k x).map (Value.int .u32)).toArray := by
  rw [List.setIfInBounds_toArray, List.map_set]
theorem size64 (b : List Int) (h : b.length = 64) : (b.map (Value.int .u8)).toArray.size = 64 := by simp [h]
set_option maxRecDepth 100000 in
theorem index_u32 (l : List Int) (k : Nat) (hl : l.length = 80) (h : k < 80) (W : World) : Sem.run Try.prog (Instr.index 62 (.agg (l.map (Value.int .u32)).toArray) (.int .i64 (k : Int))) W = .ok (.int .u32 (l.getD k 0)) W := by
  have hu62 := Try.underlying62
  have hu27 := Try.underlying27
  have d : (k : Int) < 80 := by omega
  have e := cell_k .u32 l k (by omega)
  have hi : (Try.prog.info? 27).map (·.size) = some 1 := by kernel_rfl
  cases hq : Try.prog.info? 27 with
  | none => rw [hq] at hi; cases hi
  | some i =>
    rw [hq] at hi
    have hz : i.size = 1 := Option.some.inj hi
    simp only [Instr.index, asIntOf, Sem.run_bind, Sem.run_pure, Result.andThen_ok, run_underlying hu62]
    rw [if_pos ⟨by omega, d⟩]
    have e1 : Sem.run Try.prog program W = .ok Try.prog W := rfl
    have e2 : Sem.run Try.prog (isAgg 27) W = .ok false W := by
      unfold isAgg
      rw [Sem.run_bind, run_underlying hu27]
      rfl
    have e3 : Sem.run Try.prog (pure i : Sem TypeInfo) W = .ok i W := rfl
    have e4 : (k : Int).toNat * 1 = k := by omega
    simp only [sizeOf, typeInfo, Sem.run_bind, e1, Result.andThen_ok, hq, e3, Sem.run_pure, hz, part, e2, e4, e]
    rfl
theorem RNS_succ (W : List Int) (s : St) (t : Nat) : RNS W s (t + 1) = RN t (W.getD t 0) (RNS W s t) := rfl
theorem agg_rn (k : Nat) (wt a b1 c d e f kk : Int) (h : FT k b1 c d = (f, kk)) : Value.agg #[.int .u32 ((((((((rot a 5 27 + f) % 4294967296) + e) % 4294967296) + kk) % 4294967296) + wt) % 4294967296), .int .u32 a, .int .u32 (rot b1 30 2), .int .u32 c, .int .u32 d] = .agg ((L5 (RN k wt (a, b1, c, d, e))).map (Value.int .u32)).toArray := by
  simp only [RN, L5, h]
  rfl
def V6 (g5 : Nat) (a b1 c d e f kk wt : Int) : Nat → Value
  | 0 => .pointer (some ⟨g5, 0, none⟩)
  | 1 => .int .u32 a
  | 2 => .int .u32 (rot a 5 27)
  | 3 => .int .u32 f
  | 4 => .int .u32 ((rot a 5 27 + f) % 4294967296)
  | 5 => .pointer (some ⟨g5, 4, none⟩)
  | 6 => .int .u32 e
  | 7 => .int .u32 ((((rot a 5 27 + f) % 4294967296) + e) % 4294967296)
  | 8 => .int .u32 kk
  | 9 => .int .u32 ((((((rot a 5 27 + f) % 4294967296) + e) % 4294967296) + kk) % 4294967296)
  | 10 => .int .u32 wt
  | 11 => .int .u32 ((((((((rot a 5 27 + f) % 4294967296) + e) % 4294967296) + kk) % 4294967296) + wt) % 4294967296)
  | 12 => .pointer (some ⟨g5, 0, none⟩)
  | 13 => .int .u32 a
  | 14 => .pointer (some ⟨g5, 1, none⟩)
  | 15 => .int .u32 b1
  | 16 => .int .u32 (rot b1 30 2)
  | 17 => .pointer (some ⟨g5, 2, none⟩)
  | 18 => .int .u32 c
  | 19 => .pointer (some ⟨g5, 3, none⟩)
  | 20 => .int .u32 d
  | _ => .agg #[.int .u32 ((((((((rot a 5 27 + f) % 4294967296) + e) % 4294967296) + kk) % 4294967296) + wt) % 4294967296), .int .u32 a, .int .u32 (rot b1 30 2), .int .u32 c, .int .u32 d]
def V11 (g2 g5 : Nat) (cur st : List Int) (k : Nat) : Nat → Value
  | 0 => .int .i64 (k : Int)
  | 1 => .pointer (some ⟨g5, k, none⟩)
  | 2 => .int .u32 (cur.getD k 0)
  | 3 => .int .i64 (k : Int)
  | 4 => .pointer (some ⟨g2, k, none⟩)
  | 5 => .int .u32 (st.getD k 0)
  | 6 => .int .u32 ((cur.getD k 0 + st.getD k 0) % 4294967296)
  | _ => .pointer (some ⟨g5, k, none⟩)
set_option maxHeartbeats 4000000 in
set_option maxRecDepth 100000 in
theorem step_c (s : St) (b : List Int) (hb : b.length = 64) (hy : ∀ i, Byte (b.getD i 0)) (w : World) :
    Calls Try.prog 17 #[A5 s, .agg (b.map (.int .u8)).toArray] w fun e w' => e = .returned (A5 (STEP s b)) ∧ Below w.heap.size w w' := by
  have hu28 := Try.underlying28
  have hu38 := Try.underlying38
  have hu62 := Try.underlying62
  have HB := Aside0.mk (Below.refl w.heap.size w)
  have hby := Aside0.mk hy
  clear hy
  unfold A5 STEP
  obtain ⟨ws, hws⟩ : ∃ ws, SW b 80 = ws := ⟨_, rfl⟩
  have hsl : ws.length = 80 := by rw [← hws]; exact SW_length b 80
  have hwsA := Aside0.mk hws
  rw [hws]
  clear hws
  go_enter Try.func17, Try.ntmps17
  go_wp2_with (first | ((with_reducible refine gate_dst (N := 2) rfl ?_); refine box_event ?hg (N := 2) ?hd (cs := ((L5 s).map (Value.int .u32)).toArray) (t := 28) ?hr ?_; (case hd => rfl); (case hg => rfl); (case hr => go_simp; try rfl); intro g2 hg2_ w2 hx2 hb2; have hg2 := Aside0.mk hg2_; clear hg2_) | ((with_reducible refine gate_dst (N := 3) rfl ?_); refine box_event ?hg (N := 3) ?hd (cs := (b.map (.int .u8)).toArray) (t := 38) ?hr ?_; (case hd => rfl); (case hg => rfl); (case hr => go_simp; try rfl); intro g3 hg3_ w3 hx3 hb3; have hg3 := Aside0.mk hg3_; clear hg3_) | ((with_reducible refine gate_dst (N := 4) rfl ?_); refine box_event ?hg (N := 4) ?hd (cs := #[.int .u32 0, .int .u32 0, .int .u32 0, .int .u32 0, .int .u32 0]) (t := 28) ?hr ?_; (case hd => rfl); (case hg => rfl); (case hr => go_simp; try rfl); intro g4 hg4_ w4 hx4 hb4; have hg4 := Aside0.mk hg4_; clear hg4_; have hx24 := blk_below (blk_below hx2 hb3) hb4) | ((with_reducible refine gate_dst (N := 11) rfl ?_); refine wpList_load_row rfl 28 _ rfl g2 rfl 28 _ (0, 0) _ hx24 hu28 rfl (by rw [L5_size]; kernel_rfl) ?_) | ((with_reducible refine gate_dst (N := 5) rfl ?_); refine box_event ?hg (N := 5) ?hd (cs := #[.int .u32 0, .int .u32 0, .int .u32 0, .int .u32 0, .int .u32 0]) (t := 28) ?hr ?_; (case hd => rfl); (case hg => rfl); (case hr => go_simp; try rfl); intro g5 hg5_ w5 hx5 hb5; have hg5 := Aside0.mk hg5_; clear hg5_; have n25 : g2 ≠ g5 := (by rw [hg5.out]; exact Nat.ne_of_lt (blk_lt hx24)); have n45 : g4 ≠ g5 := (by rw [hg5.out]; exact Nat.ne_of_lt (blk_lt hx4)); have n35 : g3 ≠ g5 := (by rw [hg5.out]; exact Nat.ne_of_lt (blk_lt (blk_below hx3 hb4))); have gw5 : w.heap.size ≤ g5 := (by rw [hg5.out]; exact below_size (below_step (below_step hb2 hb3) hb4)); have gw4 : w.heap.size ≤ g4 := (by rw [hg4.out]; exact below_size (below_step hb2 hb3))) | (refine wpList_store_row rfl 28 _ _ rfl g5 _ rfl rfl 28 _ hx5 (by rw [L5_size]; kernel_rfl) rfl (one_cells _) ?_; have y5 := setRow_heap w5 g5 _ ((L5 s).map (Value.int .u32)).toArray _ _ hx5; have y2 := (setRow_other w5 g5 g2 ((L5 s).map (Value.int .u32)).toArray n25).trans (blk_below hx24 hb5); have y3 := (setRow_other w5 g5 g3 ((L5 s).map (Value.int .u32)).toArray n35).trans (blk_below (blk_below hx3 hb4) hb5); have y4 := (setRow_other w5 g5 g4 ((L5 s).map (Value.int .u32)).toArray n45).trans (blk_below hx4 hb5); have yw := below_setRow (below_step (below_step (below_step hb2 hb3) hb4) hb5) gw5 ((L5 s).map (Value.int .u32)).toArray; clear hx2 hx3 hx4 hx24 hx5 hb2 hb3 hb4 hb5 hg2 hg3 hg4 hg5; generalize w5.setRow g5 ((L5 s).map (Value.int .u32)).toArray = w6 at y2 y3 y4 y5 yw ⊢) | ((with_reducible refine gate_dst (N := 12) rfl ?_); refine wpList_load_row rfl 38 _ rfl g3 rfl 38 _ (0, 0) _ y3 hu38 rfl (by rw [size64 _ hb]; kernel_rfl) ?_) | (go_at_call 27; refine (schedule_c b hb hby.out _).mono ?_; rw [hwsA.out]; rintro e_ w7 ⟨rfl, hb7⟩; have B5 := Aside0.mk (blk_below y5 hb7); have B2 := Aside0.mk (blk_below y2 hb7); have B4 := Aside0.mk (blk_below y4 hb7); have HW := Aside0.mk (below_step yw hb7); clear y5 y2 y3 y4 yw hb7))
  clear HB
  go_loopw [14] (fun v14 wr => ∃ k : Nat, k ≤ 80 ∧ v14 = .int .i64 k ∧ Aside0 (wr.heap[g2]? = some (O5 s)) ∧ Aside0 (wr.heap[g4]? = some (.cells #[.int .u32 0, .int .u32 0, .int .u32 0, .int .u32 0, .int .u32 0] 28 (0, 0))) ∧ Aside0 (wr.heap[g5]? = some (O5 (RNS ws s k))) ∧ Aside0 (Below w.heap.size w wr)) (fun v14 _ => 80 - (intOf v14).toNat)
  case atStart => exact ⟨0, by omega, rfl, B2, B4, B5, HW⟩
  case round =>
    clear B2 B4 B5 HW
    obtain ⟨k, hk, rfl, BK2, BK4, BK5, HB⟩ := hrel
    by_cases h80 : k < 80
    · have d0 : decide ((k : Int) < 80) = true := by simp; omega
      have q0 : wrap64 ((k : Int) + 1) = ((k + 1 : Nat) : Int) := by unfold wrap64; omega
      obtain ⟨st, hst⟩ : ∃ st, RNS ws s k = st := ⟨_, rfl⟩
      rw [hst] at BK5
      obtain ⟨a, b1, c, d, e⟩ := st
      have c0 : wr.cell? ⟨g5, 0, none⟩ = some (.int .u32 a) := (blk_cell BK5.out 0).trans rfl
      have c1 : wr.cell? ⟨g5, 1, none⟩ = some (.int .u32 b1) := (blk_cell BK5.out 1).trans rfl
      have c2 : wr.cell? ⟨g5, 2, none⟩ = some (.int .u32 c) := (blk_cell BK5.out 2).trans rfl
      have c3 : wr.cell? ⟨g5, 3, none⟩ = some (.int .u32 d) := (blk_cell BK5.out 3).trans rfl
      have c4 : wr.cell? ⟨g5, 4, none⟩ = some (.int .u32 e) := (blk_cell BK5.out 4).trans rfl
      obtain ⟨wt, hwt⟩ : ∃ x, ws.getD k 0 = x := ⟨_, rfl⟩
      have hix := fun W => index_u32 ws k hsl h80 W
      rw [hwt] at hix
      obtain ⟨⟨f, kk⟩, hft⟩ : ∃ q, FT k b1 c d = q := ⟨_, rfl⟩
      have hmix := Aside0.mk (mix_ft k h80 b1 c d)
      rw [hft] at hmix
      have HFT := Aside0.mk hft
      have HWT := Aside0.mk hwt
      have HST := Aside0.mk hst
      clear hft hwt hst
      go_wp2_with (go_at_call 28; refine (sha1_mix.calls _ _ _ _ _ _ _ hmix.out).mono ?_; rintro e_ w8 ⟨rfl, ⟨⟨m8, rfl⟩⟩⟩)
      have K2 := Aside0.mk (blk_drewN BK2.out m8)
      have K4 := Aside0.mk (blk_drewN BK4.out m8)
      have K5 := Aside0.mk (blk_drewN BK5.out m8)
      have KW := Aside0.mk (pw_below_drewN HB.out m8)
      clear BK2 BK4 BK5 HB hix hmix c0 c1 c2 c3 c4
      generalize wr.drewN m8 = wd at K2 K4 K5 KW ⊢
      have BK5 := K5
      refine region_below (T := ?T6) (n := 1) [some 29, some 30, some 31, some 32, some 33, some 34, some 35, some 36, some 37, some 38, some 39, some 40, some 41, some 42, some 43, some 44, some 45, some 46, some 47, some 48, some 49, some 50] ?hT6 (fun i_ v_ _ => v_ = V6 g5 a b1 c d e f kk wt i_) (by kernel_rfl) (by kernel_rfl) (fun i_ v_ w_ w1_ _ h_ _ => h_) [0, 1, 2, 3, 4, 5, 6, 7, 8, 9, 10, 11, 12, 13, 14, 15, 16, 17, 18, 19, 20, 21] rfl (.cons (some 29) rfl rfl (fun X wx hG hX K hK => ?_) (.cons (some 30) rfl rfl (fun X wx hG hX K hK => ?_) (.cons (some 31) rfl rfl (fun X wx hG hX K hK => ?_) (.cons (some 32) rfl rfl (fun X wx hG hX K hK => ?_) (.cons (some 33) rfl rfl (fun X wx hG hX K hK => ?_) (.cons (some 34) rfl rfl (fun X wx hG hX K hK => ?_) (.cons (some 35) rfl rfl (fun X wx hG hX K hK => ?_) (.cons (some 36) rfl rfl (fun X wx hG hX K hK => ?_) (.cons (some 37) rfl rfl (fun X wx hG hX K hK => ?_) (.cons (some 38) rfl rfl (fun X wx hG hX K hK => ?_) (.cons (some 39) rfl rfl (fun X wx hG hX K hK => ?_) (.cons (some 40) rfl rfl (fun X wx hG hX K hK => ?_) (.cons (some 41) rfl rfl (fun X wx hG hX K hK => ?_) (.cons (some 42) rfl rfl (fun X wx hG hX K hK => ?_) (.cons (some 43) rfl rfl (fun X wx hG hX K hK => ?_) (.cons (some 44) rfl rfl (fun X wx hG hX K hK => ?_) (.cons (some 45) rfl rfl (fun X wx hG hX K hK => ?_) (.cons (some 46) rfl rfl (fun X wx hG hX K hK => ?_) (.cons (some 47) rfl rfl (fun X wx hG hX K hK => ?_) (.cons (some 48) rfl rfl (fun X wx hG hX K hK => ?_) (.cons (some 49) rfl rfl (fun X wx hG hX K hK => ?_) (.cons (some 50) rfl rfl (fun X wx hG hX K hK => ?_) .nil)))))))))))))))))))))) (by kernel_rfl) #[true, true, true, true, true, true, true, true, true, true, true, true, true, true, true, true, true, true, true, true, true, true, false] (by kernel_rfl) ?_
      case hT6 =>
        intro X
        simp only [fill, Act.put, List.setIfInBounds_toArray, List.set_cons_zero, List.set_cons_succ, Nat.zero_add, Nat.reduceAdd]
        rfl
      · refine val_ (w1 := wx) (v := .pointer (some ⟨g5, 0, none⟩)) (by rfl) rfl ?_ (hK.out _ _ _ rfl (Below.refl _ _) rfl)
        go_simp
      · have e0 : X 0 = .pointer (some ⟨g5, 0, none⟩) := hX 2 0 (by kernel_rfl)
        have z_ : wx.cell? ⟨g5, 0, none⟩ = some (.int .u32 a) := (blk_cell (blk_below (blk_drew BK5.out) hG) 0).trans rfl
        refine val_ (w1 := wx) (v := .int .u32 a) (by rfl) rfl ?_ (hK.out _ _ _ rfl (Below.refl _ _) rfl)
        go_simp
      · have e1 : X 1 = .int .u32 a := hX 2 1 (by kernel_rfl)
        refine goes_ Try.func29 (by kernel_rfl) rfl #[X 1, .int .i64 5] (by rfl) rfl rfl (by simp only [List.map_toArray, List.map_cons, List.map_nil]; rfl) ?_
        refine calls_args (as' := #[.int .u32 a, .int .i64 5]) (by rw [e1]) ?_
        refine (bits_RotateLeft32.calls _ 5 _ wx (rol_5 _)).mono ?_
        rintro e_ w' ⟨rfl, ⟨⟨m_, rfl⟩⟩⟩
        exact ⟨_, rfl, hK.out _ _ _ rfl (pw_below_drewN (Below.refl _ _) m_) rfl⟩
      · refine val_ (w1 := wx) (v := .int .u32 f) (by rfl) rfl ?_ (hK.out _ _ _ rfl (Below.refl _ _) rfl)
        go_simp
      · have e2 : X 2 = .int .u32 (rot a 5 27) := hX 2 2 (by kernel_rfl)
        have e3 : X 3 = .int .u32 f := hX 2 3 (by kernel_rfl)
        refine val_ (w1 := wx) (v := .int .u32 ((rot a 5 27 + f) % 4294967296)) (by rfl) rfl ?_ (hK.out _ _ _ rfl (Below.refl _ _) rfl)
        go_simp
        rw [IntKind.wrap_u32]; try omega
      · refine val_ (w1 := wx) (v := .pointer (some ⟨g5, 4, none⟩)) (by rfl) rfl ?_ (hK.out _ _ _ rfl (Below.refl _ _) rfl)
        go_simp
      · have e5 : X 5 = .pointer (some ⟨g5, 4, none⟩) := hX 2 5 (by kernel_rfl)
        have z_ : wx.cell? ⟨g5, 4, none⟩ = some (.int .u32 e) := (blk_cell (blk_below (blk_drew BK5.out) hG) 4).trans rfl
        refine val_ (w1 := wx) (v := .int .u32 e) (by rfl) rfl ?_ (hK.out _ _ _ rfl (Below.refl _ _) rfl)
        go_simp
      · have e4 : X 4 = .int .u32 ((rot a 5 27 + f) % 4294967296) := hX 2 4 (by kernel_rfl)
        have e6 : X 6 = .int .u32 e := hX 2 6 (by kernel_rfl)
        refine val_ (w1 := wx) (v := .int .u32 ((((rot a 5 27 + f) % 4294967296) + e) % 4294967296)) (by rfl) rfl ?_ (hK.out _ _ _ rfl (Below.refl _ _) rfl)
        go_simp
        rw [IntKind.wrap_u32]; try omega
      · refine val_ (w1 := wx) (v := .int .u32 kk) (by rfl) rfl ?_ (hK.out _ _ _ rfl (Below.refl _ _) rfl)
        go_simp
      · have e7 : X 7 = .int .u32 ((((rot a 5 27 + f) % 4294967296) + e) % 4294967296) := hX 2 7 (by kernel_rfl)
        have e8 : X 8 = .int .u32 kk := hX 2 8 (by kernel_rfl)
        refine val_ (w1 := wx) (v := .int .u32 ((((((rot a 5 27 + f) % 4294967296) + e) % 4294967296) + kk) % 4294967296)) (by rfl) rfl ?_ (hK.out _ _ _ rfl (Below.refl _ _) rfl)
        go_simp
        rw [IntKind.wrap_u32]; try omega
      · refine val_ (w1 := wx) (v := .int .u32 wt) (by rfl) rfl ?_ (hK.out _ _ _ rfl (Below.refl _ _) rfl)
        go_simp
      · have e9 : X 9 = .int .u32 ((((((rot a 5 27 + f) % 4294967296) + e) % 4294967296) + kk) % 4294967296) := hX 2 9 (by kernel_rfl)
        have e10 : X 10 = .int .u32 wt := hX 2 10 (by kernel_rfl)
        refine val_ (w1 := wx) (v := .int .u32 ((((((((rot a 5 27 + f) % 4294967296) + e) % 4294967296) + kk) % 4294967296) + wt) % 4294967296)) (by rfl) rfl ?_ (hK.out _ _ _ rfl (Below.refl _ _) rfl)
        go_simp
        rw [IntKind.wrap_u32]; try omega
      · refine val_ (w1 := wx) (v := .pointer (some ⟨g5, 0, none⟩)) (by rfl) rfl ?_ (hK.out _ _ _ rfl (Below.refl _ _) rfl)
        go_simp
      · have e12 : X 12 = .pointer (some ⟨g5, 0, none⟩) := hX 2 12 (by kernel_rfl)
        have z_ : wx.cell? ⟨g5, 0, none⟩ = some (.int .u32 a) := (blk_cell (blk_below (blk_drew BK5.out) hG) 0).trans rfl
        refine val_ (w1 := wx) (v := .int .u32 a) (by rfl) rfl ?_ (hK.out _ _ _ rfl (Below.refl _ _) rfl)
        go_simp
      · refine val_ (w1 := wx) (v := .pointer (some ⟨g5, 1, none⟩)) (by rfl) rfl ?_ (hK.out _ _ _ rfl (Below.refl _ _) rfl)
        go_simp
      · have e14 : X 14 = .pointer (some ⟨g5, 1, none⟩) := hX 2 14 (by kernel_rfl)
        have z_ : wx.cell? ⟨g5, 1, none⟩ = some (.int .u32 b1) := (blk_cell (blk_below (blk_drew BK5.out) hG) 1).trans rfl
        refine val_ (w1 := wx) (v := .int .u32 b1) (by rfl) rfl ?_ (hK.out _ _ _ rfl (Below.refl _ _) rfl)
        go_simp
      · have e15 : X 15 = .int .u32 b1 := hX 2 15 (by kernel_rfl)
        refine goes_ Try.func29 (by kernel_rfl) rfl #[X 15, .int .i64 30] (by rfl) rfl rfl (by simp only [List.map_toArray, List.map_cons, List.map_nil]; rfl) ?_
        refine calls_args (as' := #[.int .u32 b1, .int .i64 30]) (by rw [e15]) ?_
        refine (bits_RotateLeft32.calls _ 30 _ wx (rol_30 _)).mono ?_
        rintro e_ w' ⟨rfl, ⟨⟨m_, rfl⟩⟩⟩
        exact ⟨_, rfl, hK.out _ _ _ rfl (pw_below_drewN (Below.refl _ _) m_) rfl⟩
      · refine val_ (w1 := wx) (v := .pointer (some ⟨g5, 2, none⟩)) (by rfl) rfl ?_ (hK.out _ _ _ rfl (Below.refl _ _) rfl)
        go_simp
      · have e17 : X 17 = .pointer (some ⟨g5, 2, none⟩) := hX 2 17 (by kernel_rfl)
        have z_ : wx.cell? ⟨g5, 2, none⟩ = some (.int .u32 c) := (blk_cell (blk_below (blk_drew BK5.out) hG) 2).trans rfl
        refine val_ (w1 := wx) (v := .int .u32 c) (by rfl) rfl ?_ (hK.out _ _ _ rfl (Below.refl _ _) rfl)
        go_simp
      · refine val_ (w1 := wx) (v := .pointer (some ⟨g5, 3, none⟩)) (by rfl) rfl ?_ (hK.out _ _ _ rfl (Below.refl _ _) rfl)
        go_simp
      · have e19 : X 19 = .pointer (some ⟨g5, 3, none⟩) := hX 2 19 (by kernel_rfl)
        have z_ : wx.cell? ⟨g5, 3, none⟩ = some (.int .u32 d) := (blk_cell (blk_below (blk_drew BK5.out) hG) 3).trans rfl
        refine val_ (w1 := wx) (v := .int .u32 d) (by rfl) rfl ?_ (hK.out _ _ _ rfl (Below.refl _ _) rfl)
        go_simp
      · have e11 : X 11 = .int .u32 ((((((((rot a 5 27 + f) % 4294967296) + e) % 4294967296) + kk) % 4294967296) + wt) % 4294967296) := hX 2 11 (by kernel_rfl)
        have e13 : X 13 = .int .u32 a := hX 2 13 (by kernel_rfl)
        have e16 : X 16 = .int .u32 (rot b1 30 2) := hX 2 16 (by kernel_rfl)
        have e18 : X 18 = .int .u32 c := hX 2 18 (by kernel_rfl)
        have e20 : X 20 = .int .u32 d := hX 2 20 (by kernel_rfl)
        refine val_ (w1 := wx) (v := .agg #[.int .u32 ((((((((rot a 5 27 + f) % 4294967296) + e) % 4294967296) + kk) % 4294967296) + wt) % 4294967296), .int .u32 a, .int .u32 (rot b1 30 2), .int .u32 c, .int .u32 d]) (by rfl) rfl ?_ (hK.out _ _ _ rfl (Below.refl _ _) rfl)
        go_simp
      intro X wx hG hX
      have e21 : X 21 = .agg #[.int .u32 ((((((((rot a 5 27 + f) % 4294967296) + e) % 4294967296) + kk) % 4294967296) + wt) % 4294967296), .int .u32 a, .int .u32 (rot b1 30 2), .int .u32 c, .int .u32 d] := hX 21 (by decide)
      refine tail_ (i := 22) (N := none) #[true, true, true, true, true, true, true, true, true, true, true, true, true, true, true, true, true, true, true, true, true, true, true] rfl rfl (by kernel_rfl) (fun K hK => ?_)
      rw [if_pos (by rfl)]
      have y5 := setRow_heap wx g5 _ ((L5 (RN k wt (a, b1, c, d, e))).map (Value.int .u32)).toArray _ _ (blk_below K5.out hG)
      have y2 := (setRow_other wx g5 g2 ((L5 (RN k wt (a, b1, c, d, e))).map (Value.int .u32)).toArray n25).trans (blk_below K2.out hG)
      have y4 := (setRow_other wx g5 g4 ((L5 (RN k wt (a, b1, c, d, e))).map (Value.int .u32)).toArray n45).trans (blk_below K4.out hG)
      have yw := below_setRow (below_step KW.out hG) gw5 ((L5 (RN k wt (a, b1, c, d, e))).map (Value.int .u32)).toArray
      refine wp_store_row 28 _ _ rfl g5 ((L5 (RN k wt (a, b1, c, d, e))).map (Value.int .u32)).toArray rfl (e21.trans (by rw [agg_rn k wt a b1 c d e f kk HFT.out])) 28 _ (blk_below K5.out hG) (by rw [L5_size]; kernel_rfl) rfl (one_cells _) ?_
      refine hK.out _ _ (tail_done (by kernel_rfl) ?_)
      have Y5 := Aside0.mk y5
      have Y2 := Aside0.mk y2
      have Y4 := Aside0.mk y4
      have YW := Aside0.mk yw
      clear hK K hG hX K2 K4 K5 KW BK5 y5 y2 y4 yw e21
      generalize wx.setRow g5 ((L5 (RN k wt (a, b1, c, d, e))).map (Value.int .u32)).toArray = Z at Y5 Y2 Y4 YW ⊢
      clear wx wd
      go_wp2
      go_roundw
      case rel => exact ⟨k + 1, by omega, rfl, Y2, Y4, Aside0.mk (Y5.out.trans (by rw [RNS_succ, HST.out, HWT.out]; rfl)), YW⟩
      case measure => simp [intOf]; omega
    · obtain rfl : k = 80 := by omega
      have d0 : decide (((80 : Nat) : Int) < 80) = false := by decide
      obtain ⟨rs, hrs⟩ : ∃ rs, RNS ws s 80 = rs := ⟨_, rfl⟩
      have HRS := Aside0.mk hrs
      rw [hrs] at BK5
      clear hrs
      go_wp2
      go_loopw [52] (fun v52 wr => ∃ k : Nat, k ≤ 5 ∧ v52 = .int .i64 k ∧ Aside0 (wr.heap[g2]? = some (O5 s)) ∧ Aside0 (wr.heap[g4]? = some (.cells #[.int .u32 0, .int .u32 0, .int .u32 0, .int .u32 0, .int .u32 0] 28 (0, 0))) ∧ Aside0 (wr.heap[g5]? = some (.cells ((ADD (L5 rs) (L5 s) k).map (Value.int .u32)).toArray 28 (0, 0))) ∧ Aside0 (Below w.heap.size w wr)) (fun v52 _ => 5 - (intOf v52).toNat)
      case atStart => exact ⟨0, by omega, rfl, BK2, BK4, BK5, HB⟩
      case round =>
        clear BK2 BK4 BK5 HB
        obtain ⟨k, hk5, rfl, BK2, BK4, BK5, HB⟩ := hrel
        obtain ⟨cur, hcur⟩ : ∃ cur, ADD (L5 rs) (L5 s) k = cur := ⟨_, rfl⟩
        obtain ⟨st, hst⟩ : ∃ st, L5 s = st := ⟨_, rfl⟩
        have hcl := Aside0.mk (ADD_len (L5 rs) (L5 s) k)
        have hstl := Aside0.mk (show (L5 s).length = 5 from rfl)
        by_cases h5 : k < 5
        · have d1 : decide ((k : Int) < 5) = true := by simp; omega
          have q0 : wrap64 ((k : Int) + 1) = ((k + 1 : Nat) : Int) := by unfold wrap64; omega
          have hset := Aside0.mk (ADD_set (L5 rs) (L5 s) k h5)
          unfold O5 at BK2
          rw [hcur] at BK5 hcl hset
          rw [hst] at BK2 hstl hset
          have HCUR := Aside0.mk hcur
          have HST := Aside0.mk hst
          clear hcur hst
          go_wp2
          refine region_below (T := ?T11) (n := 1) [some 55, some 56, some 57, some 58, some 59, some 60, some 61, some 62] ?hT11 (fun i_ v_ _ => v_ = V11 g2 g5 cur st k i_) (by kernel_rfl) (by kernel_rfl) (fun i_ v_ w_ w1_ _ h_ _ => h_) [0, 1, 2, 3, 4, 5, 6, 7] rfl (.cons (some 55) rfl rfl (fun X wx hG hX K hK => ?_) (.cons (some 56) rfl rfl (fun X wx hG hX K hK => ?_) (.cons (some 57) rfl rfl (fun X wx hG hX K hK => ?_) (.cons (some 58) rfl rfl (fun X wx hG hX K hK => ?_) (.cons (some 59) rfl rfl (fun X wx hG hX K hK => ?_) (.cons (some 60) rfl rfl (fun X wx hG hX K hK => ?_) (.cons (some 61) rfl rfl (fun X wx hG hX K hK => ?_) (.cons (some 62) rfl rfl (fun X wx hG hX K hK => ?_) .nil)))))))) (by kernel_rfl) #[true, true, true, true, true, true, true, true, false] (by kernel_rfl) ?_
          case hT11 =>
            intro X
            simp only [fill, Act.put, List.setIfInBounds_toArray, List.set_cons_zero, List.set_cons_succ, Nat.zero_add, Nat.reduceAdd]
            rfl
          · refine val_ (w1 := wx) (v := .int .i64 (k : Int)) (by rfl) rfl ?_ (hK.out _ _ _ rfl (Below.refl _ _) rfl)
            go_simp
          · have e0 : X 0 = .int .i64 (k : Int) := hX 2 0 (by kernel_rfl)
            have r_ : ((k : Nat) : Int) < 5 := by omega
            refine val_ (w1 := wx) (v := .pointer (some ⟨g5, k, none⟩)) (by rfl) rfl ?_ (hK.out _ _ _ rfl (Below.refl _ _) rfl)
            go_simp
          · have e1 : X 1 = .pointer (some ⟨g5, k, none⟩) := hX 2 1 (by kernel_rfl)
            have z_ : wx.cell? ⟨g5, k, none⟩ = some (.int .u32 (cur.getD k 0)) := (blk_cell (blk_below (blk_drew BK5.out) hG) _).trans (cell_k .u32 cur k (by rw [hcl.out]; omega))
            refine val_ (w1 := wx) (v := .int .u32 (cur.getD k 0)) (by rfl) rfl ?_ (hK.out _ _ _ rfl (Below.refl _ _) rfl)
            go_simp
          · refine val_ (w1 := wx) (v := .int .i64 (k : Int)) (by rfl) rfl ?_ (hK.out _ _ _ rfl (Below.refl _ _) rfl)
            go_simp
          · have e3 : X 3 = .int .i64 (k : Int) := hX 2 3 (by kernel_rfl)
            have r_ : ((k : Nat) : Int) < 5 := by omega
            refine val_ (w1 := wx) (v := .pointer (some ⟨g2, k, none⟩)) (by rfl) rfl ?_ (hK.out _ _ _ rfl (Below.refl _ _) rfl)
            go_simp
          · have e4 : X 4 = .pointer (some ⟨g2, k, none⟩) := hX 2 4 (by kernel_rfl)
            have z_ : wx.cell? ⟨g2, k, none⟩ = some (.int .u32 (st.getD k 0)) := (blk_cell (blk_below (blk_drew BK2.out) hG) _).trans (cell_k .u32 st k (by rw [hstl.out]; omega))
            refine val_ (w1 := wx) (v := .int .u32 (st.getD k 0)) (by rfl) rfl ?_ (hK.out _ _ _ rfl (Below.refl _ _) rfl)
            go_simp
          · have e2 : X 2 = .int .u32 (cur.getD k 0) := hX 2 2 (by kernel_rfl)
            have e5 : X 5 = .int .u32 (st.getD k 0) := hX 2 5 (by kernel_rfl)
            refine val_ (w1 := wx) (v := .int .u32 ((cur.getD k 0 + st.getD k 0) % 4294967296)) (by rfl) rfl ?_ (hK.out _ _ _ rfl (Below.refl _ _) rfl)
            go_simp
            rw [IntKind.wrap_u32]
          · have e0 : X 0 = .int .i64 (k : Int) := hX 2 0 (by kernel_rfl)
            have r_ : ((k : Nat) : Int) < 5 := by omega
            refine val_ (w1 := wx) (v := .pointer (some ⟨g5, k, none⟩)) (by rfl) rfl ?_ (hK.out _ _ _ rfl (Below.refl _ _) rfl)
            go_simp
          intro X wx hG hX
          have e7 : X 7 = .pointer (some ⟨g5, k, none⟩) := hX 7 (by decide)
          have e6 : X 6 = .int .u32 ((cur.getD k 0 + st.getD k 0) % 4294967296) := hX 6 (by decide)
          refine tail_ (i := 8) (N := none) #[true, true, true, true, true, true, true, true, true] rfl rfl (by kernel_rfl) (fun K hK => ?_)
          have s0 : wx.cell? ⟨g5, k, none⟩ = some (.int .u32 (cur.getD k 0)) := (blk_cell (blk_below BK5.out hG) _).trans (cell_k .u32 cur k (by rw [hcl.out]; omega))
          have f0 : wx.frozen? ⟨g5, k, none⟩ = false := blk_frozen (blk_below BK5.out hG) _
          clear hX
          refine skip_ (w1 := wx.setCell ⟨g5, k, none⟩ (.int .u32 ((cur.getD k 0 + st.getD k 0) % 4294967296))) (by rfl) rfl ?_ ?_
          · go_simp
            try rfl
          have Z2 := Aside0.mk (blk_far (blk_below BK2.out hG) (p := ⟨g5, k, none⟩) n25 (.int .u32 ((cur.getD k 0 + st.getD k 0) % 4294967296)))
          have Z4 := Aside0.mk (blk_far (blk_below BK4.out hG) (p := ⟨g5, k, none⟩) n45 (.int .u32 ((cur.getD k 0 + st.getD k 0) % 4294967296)))
          have Z5 := Aside0.mk (blk_put (blk_below BK5.out hG) k (.int .u32 ((cur.getD k 0 + st.getD k 0) % 4294967296)) (set_k cur k _))
          have ZW := Aside0.mk (below_set (j := k) (v := .int .u32 ((cur.getD k 0 + st.getD k 0) % 4294967296)) (below_step HB.out hG) gw5)
          refine hK.out _ _ (tail_done (by kernel_rfl) ?_)
          clear hK K hG s0 f0 BK2 BK4 BK5 HB
          generalize wx.setCell ⟨g5, k, none⟩ (.int .u32 ((cur.getD k 0 + st.getD k 0) % 4294967296)) = Z at Z2 Z4 Z5 ZW ⊢
          clear wx wr
          go_wp2
          go_roundw
          case rel => exact ⟨k + 1, by omega, rfl, Aside0.mk (Z2.out.trans (by rw [← HST.out]; rfl)), Z4, Aside0.mk (Z5.out.trans (by rw [hset.out, ← HST.out])), ZW⟩
          case measure => simp [intOf]; omega
        · obtain rfl : k = 5 := by omega
          have d1 : decide (((5 : Nat) : Int) < 5) = false := by decide
          have hadd := Aside0.mk (ADD_5 rs s)
          rw [hadd.out] at BK5
          clear hcur hst
          go_wp2_with (first | ((with_reducible refine gate_dst (N := 64) rfl ?_); refine wpList_load_row rfl 28 _ rfl g5 rfl 28 _ (0, 0) _ BK5.out hu28 rfl (by rw [L5_size]; kernel_rfl) ?_) | (refine wpList_store_row rfl 28 _ _ rfl g4 _ rfl rfl 28 _ BK4.out (by rw [L5_size]; kernel_rfl) rfl (one_cells _) ?_))
          refine bodyPost_ret (results_cell_row rfl _ _ g4 28 _ (0, 0) _ rfl (setRow_heap _ _ _ _ _ _ BK4.out) hu28 rfl (by rw [L5_size]; kernel_rfl)) rfl ?_
          exact ⟨by rw [HRS.out], below_setRow HB.out gw4 _⟩
end Go.Proofs.Ytjffbdgidddbjaa
