/-
  SHA-1: the law of sums, walked by hand.
-/
import Derived.Test.YtjffbdgidddbjaaShaRhex
namespace Go.Proofs.Ytjffbdgidddbjaa
set_option linter.unusedVariables false
set_option linter.unusedSimpArgs false
open Go.RowKit Go.Proofs.YtjffbdgidddbjaaW.PrintWords Go.Proofs.YtjffbdgidddbjaaW.PrintLast Go.Proofs.YtjffbdgidddbjaaW.PrintMore Go.Proofs.Ytjffbdgidddbjaa.MSha1Sums Go.Proofs.Ytjffbdgidddbjaa.Base
def V3 (g4 g5 : Nat) (A : Option Addr) (n c : Nat) (a b1 c1 d e : Int) (vo : Value) (kb : Int) : Nat → Value
  | 0 => .agg ((PB (a, b1, c1, d, e)).map (Value.int .u8)).toArray
  | 1 => .agg #[.int .u32 a, .int .u32 b1, .int .u32 c1, .int .u32 d, .int .u32 e]
  | 2 => .agg #[.int .u32 a, .int .u32 b1, .int .u32 c1, .int .u32 d, .int .u32 e]
  | 3 => .bool true
  | 4 => .bool true
  | 5 => .slice (some ⟨g4, 0, none⟩) (PB (a, b1, c1, d, e)).length 20
  | 6 => .agg #[.int .u32 a, .int .u32 b1, .int .u32 c1, .int .u32 d, .int .u32 e]
  | 7 => undef
  | 8 => .bool true
  | 9 => .bool true
  | 10 => .bool true
  | 11 => .agg ((PB (a, b1, c1, d, e)).map (Value.int .u8)).toArray
  | 12 => .string (strOfNums (hexs (PB (a, b1, c1, d, e))))
  | 13 => .agg #[.int .u32 a, .int .u32 b1, .int .u32 c1, .int .u32 d, .int .u32 e]
  | 14 => undef
  | 15 => .string (strOfNums (hexs (PB (a, b1, c1, d, e))))
  | 16 => .bool true
  | 17 => .bool true
  | 18 => .bool true
  | 19 => .slice A n c
  | 20 => .int .i64 (n : Int)
  | 21 => .int .i64 kb
  | 22 => .slice A n c
  | 23 => undef
  | 24 => .int .i64 (kb * 64)
  | 25 => .int .i64 kb
  | 26 => .bool true
  | 27 => .bool true
  | 28 => .bool true
  | 29 => vo
  | 30 => .slice A n c
  | 31 => .bool true
  | 32 => .bool true
  | _ => .bool true
def V3F (g4 g5 : Nat) (A : Option Addr) (n c : Nat) (a b1 c1 d e : Int) (vo : Value) (kb : Int) : Nat → Value → World → Prop
  | 7, v_, w_ => ∃ A_ c_, v_ = .slice A_ (PB (a, b1, c1, d, e)).length c_ ∧ (PB (a, b1, c1, d, e)).length ≤ c_ ∧ Kd.C (Kd.int .u8) w_ A_ (PB (a, b1, c1, d, e)).length (PB (a, b1, c1, d, e))
  | 14, v_, w_ => ∃ A_ c_, v_ = .slice A_ (PB (a, b1, c1, d, e)).length c_ ∧ (PB (a, b1, c1, d, e)).length ≤ c_ ∧ Kd.C (Kd.int .u8) w_ A_ (PB (a, b1, c1, d, e)).length (PB (a, b1, c1, d, e))
  | 23, v_, w_ => ∃ A_ c_ m_, v_ = .slice A_ m_ c_ ∧ (m_ : Int) = kb * 64
  | i_, v_, _ => v_ = V3 g4 g5 A n c a b1 c1 d e vo kb i_
section
variable {g4 g5 : Nat} {A : Option Addr} {n c : Nat} {a b1 c1 d e : Int} {vo : Value} {kb : Int}
theorem V3F_keep (i : Nat) (v : Value) (w w1 : World) (hi : i < 34) (h : V3F g4 g5 A n c a b1 c1 d e vo kb i v w) (hb : Below w.heap.size w w1) : V3F g4 g5 A n c a b1 c1 d e vo kb i v w1 := by
  by_cases h7 : i = 7
  · subst h7
    obtain ⟨A_, c_, e_, hc_, hC_⟩ := h
    exact ⟨A_, c_, e_, hc_, Kd.C_below hC_ hb⟩
  by_cases h14 : i = 14
  · subst h14
    obtain ⟨A_, c_, e_, hc_, hC_⟩ := h
    exact ⟨A_, c_, e_, hc_, Kd.C_below hC_ hb⟩
  by_cases h23 : i = 23
  · subst h23
    exact h
  unfold V3F at h ⊢
  split
  · exact absurd rfl h7
  · exact absurd rfl h14
  · exact absurd rfl h23
  · split at h
    · exact absurd rfl h7
    · exact absurd rfl h14
    · exact absurd rfl h23
    · exact h
end
set_option maxHeartbeats 4000000 in
set_option maxRecDepth 100000 in
theorem sha1sums_c (w : World) (A : Option Addr) (n c : Nat) (l : List Int) (hln : l.length = n) (hC : Kd.C (Kd.int .u8) w A n l) (hc : n ≤ c) (hmx : n ≤ 9223372036854775807) (hb : ∀ x ∈ l, Byte x) :
    Calls Try.prog 3 #[.slice A n c] w fun e w' => e = .returned (.bool true) ∧ Below w.heap.size w w' := by
  have hu25 := Try.underlying25
  have hu28 := Try.underlying28
  have hu22 := Try.underlying22
  have z25 := zero_of (P := Try.prog) (t := 25) (v := .agg (Array.replicate 20 (.int .u8 0))) (by kernel_rfl)
  have HLN := Aside0.mk hln
  have HC := Aside0.mk hC
  have HBY := Aside0.mk (byte_of_mem hb)
  have HBM := Aside0.mk hb
  clear hC hb hln
  go_enter Try.func3, Try.ntmps3
  by_cases hbig : n > 2000
  · have d0 : decide ((n : Int) > 2000) = true := decide_eq_true (by omega)
    go_wp2_with (go_at_call 6; refine (alive_c _).mono ?_; rintro e_ w1 ⟨rfl, hb1⟩; have B1 := Aside0.mk hb1; clear hb1)
    go_ret
    exact ⟨rfl, B1.out⟩
  · have d0 : decide ((n : Int) > 2000) = false := decide_eq_false (by omega)
    have HN := Aside0.mk (show n ≤ 2000 by omega)
    obtain ⟨⟨a, b1, c1, d, e⟩, hdig⟩ : ∃ s, DIG l = s := ⟨_, rfl⟩
    have hu5 := U5_DIG l
    rw [hdig] at hu5
    have HU := Aside0.mk hu5
    obtain ⟨kw, hkw⟩ := Ev.ok (rwords_is l (by rw [HLN.out]; omega) HBM.out)
    rw [hdig] at hkw
    have HW := Aside0.mk hkw
    obtain ⟨kp, hkp⟩ := Ev.ok (pad_is l (by rw [HLN.out]; omega))
    have HPAD := Aside0.mk hkp
    have hbl := blocks_is n (by omega)
    obtain ⟨kb, hkb⟩ : ∃ kb : Int, ((n / 64 + MB n : Nat) : Int) = kb := ⟨_, rfl⟩
    rw [hkb] at hbl
    have HBL := Aside0.mk hbl
    have HPL : Aside0 (((PADL l).length : Int) = kb * 64) := ⟨by rw [PADL_len, HLN.out, ← hkb]; omega⟩
    have HKR : Aside0 (0 ≤ kb ∧ kb ≤ 100000) := ⟨by have := MB_12 n; omega⟩
    have HKB : Aside0 (Int.tdiv (kb * 64) 64 = kb) := ⟨by rw [Int.tdiv_eq_ediv_of_nonneg (by omega)]; omega⟩
    have HCN : Aside0 (l.length ≤ c) := ⟨by rw [HLN.out]; exact hc⟩
    have HDIG := Aside0.mk hdig
    have HZ : Aside0 (((([] : List Int).length + n) * 1) ≤ 140737488355328) := ⟨by simp; omega⟩
    clear hdig hu5 hkw hkp hbl hkb
    have q1 := fun W => eq28_self a b1 c1 d e W
    go_wp2_with (first | (go_at_call 6; refine (alive_c _).mono ?_; rintro e_ w1 ⟨rfl, hb1⟩; have B1 := Aside0.mk hb1; clear hb1) | ((with_reducible refine gate_dst (N := 11) rfl ?_); refine Kd.R_lit (Kd.int .u8) w1.heap.size 5 ?hg (N := 11) ?hd (xs := ([] : List Int)) (inner := []) (ok := fun _ => True) (okp := fun _ => True) ?hr ?hp (fun _ hk => hk) trivial (Below.refl _ _) (Nat.le_refl _) (by simp) ?_; (case hd => rfl); (case hg => rfl); (case hr => first | (go_simp; done) | (go_simp; rfl)); (case hp => exact (Reps.none _ _)); intro v11 w2 ho2 hb2 hg2_ hnew_; clear hg2_ hnew_; have R2 := Aside0.mk ho2; have B2 := Aside0.mk (below_step B1.out hb2); have B12 := Aside0.mk hb2; clear ho2 hb2) | ((with_reducible refine gate_builtin (b := .append) (xs := #[.tmp 11, .tmp 12]) rfl ?_); at_builtin; refine Kd.R_append_rows (Kd.int .u8) (w0 := w1) w1.heap.size rfl (.tmp 11) (.tmp 12) 22 5 (.int .u8 0) 1 rfl Try.underlying22 (by kernel_rfl) rfl (by decide) (by omega) v11 [] l _ _ _ (fun _ => True) (fun _ => False) rfl rfl R2.out (Kd.C_below HC.out B2.out) (fun _ _ h => h) (fun _ h => h.elim) (fun _ _ => trivial) B12.out B12.out.size HZ.out ?_; intro v13 w3 ho3 hb3 hg3 hat3; obtain ⟨Ao, co, rfl, hco, hCo⟩ := Kd.R_reads ho3; have B3 := Aside0.mk (below_step B1.out hb3); have HCO3 := Aside0.mk hCo; have HCON := Aside0.mk hco; clear ho3 hb3 hg3 hat3 hco hCo) | (go_at_call 7; refine (sum_c _ Ao co l HCO3.out HCON.out HBY.out (by rw [HLN.out]; have := HN.out; omega)).mono ?_; rw [HDIG.out]; rintro e_ w4 ⟨rfl, hb4⟩; have HCO4 := Aside0.mk (Kd.C_below HCO3.out hb4); have B4 := Aside0.mk (below_step B3.out hb4); clear hb4) | ((with_reducible refine gate_dst (N := 4) rfl ?_); refine box_event ?hg (N := 4) ?hd (cs := Array.replicate 20 (.int .u8 0)) (t := 25) ?hr ?_; (case hd => rfl); (case hg => rfl); (case hr => go_simp); intro g4 hg4_ w5 hx5 hb5; have gw4 : w.heap.size ≤ g4 := (by rw [hg4_]; exact below_size B4.out); have ge4 : w4.heap.size ≤ g4 := (by rw [hg4_]; exact Nat.le_refl _); clear hg4_) | (refine wpList_store_row rfl 25 _ _ rfl g4 ((PB (a, b1, c1, d, e)).map (Value.int .u8)).toArray rfl rfl 25 _ hx5 (by rw [size_map .u8 _ 20 (PB_length _)]; kernel_rfl) (by rw [size_map .u8 _ 20 (PB_length _)]; simp) (one_cells _) ?_; have y4 := setRow_heap w5 g4 _ ((PB (a, b1, c1, d, e)).map (Value.int .u8)).toArray _ _ hx5; have yb := below_setRow hb5 ge4 ((PB (a, b1, c1, d, e)).map (Value.int .u8)).toArray; have Q4 := Aside0.mk y4; have HCO6 := Aside0.mk (Kd.C_below HCO4.out yb); have B6 := Aside0.mk (below_step B4.out yb); clear hx5 hb5 y4 yb; generalize w5.setRow g4 ((PB (a, b1, c1, d, e)).map (Value.int .u8)).toArray = w6 at Q4 HCO6 B6 ⊢) | (go_at_call 8; refine calls_args (as' := #[.slice A l.length c]) (by rw [HLN.out]) ?_; refine (horologeref09_Words.calls kw A c l a b1 c1 d e _ (by rw [HLN.out]; exact Kd.C_below HC.out B6.out) HCN.out HW.out).mono ?_; rintro e_ w7 ⟨rfl, hb7⟩; have Q47 := Aside0.mk (blk_below Q4.out hb7); have HCO7 := Aside0.mk (Kd.C_below HCO6.out hb7); have B7 := Aside0.mk (below_step B6.out hb7); clear hb7) | ((with_reducible refine gate_dst (N := 5) rfl ?_); refine box_event ?hg (N := 5) ?hd (cs := #[.int .u32 0, .int .u32 0, .int .u32 0, .int .u32 0, .int .u32 0]) (t := 28) ?hr ?_; (case hd => rfl); (case hg => rfl); (case hr => go_simp; try rfl); intro g5 hg5_ w8 hx8 hb8; have n45 : g4 ≠ g5 := (by rw [hg5_]; exact Nat.ne_of_lt (blk_lt Q47.out)); have ge5 : w7.heap.size ≤ g5 := (by rw [hg5_]; exact Nat.le_refl _); clear hg5_) | (refine wpList_store_row rfl 28 _ _ rfl g5 ((L5 (a, b1, c1, d, e)).map (Value.int .u32)).toArray rfl rfl 28 _ hx8 (by kernel_rfl) rfl (one_cells _) ?_; have yb := below_setRow hb8 ge5 ((L5 (a, b1, c1, d, e)).map (Value.int .u32)).toArray; have BK5 := Aside0.mk (setRow_heap w8 g5 _ ((L5 (a, b1, c1, d, e)).map (Value.int .u32)).toArray _ _ hx8); have BK4 := Aside0.mk ((setRow_other w8 g5 g4 ((L5 (a, b1, c1, d, e)).map (Value.int .u32)).toArray n45).trans (blk_below Q47.out hb8)); have HCO := Aside0.mk (Kd.C_below HCO7.out yb); have HB := Aside0.mk (below_step B7.out yb); clear hx8 hb8 yb Q47 HCO7 B7 Q4 HCO6 B6; generalize w8.setRow g5 ((L5 (a, b1, c1, d, e)).map (Value.int .u32)).toArray = W at BK4 BK5 HCO HB ⊢))
    have HCL : Aside0 (Kd.C (Kd.int .u8) W A l.length l) := ⟨by rw [HLN.out]; exact Kd.C_below HC.out HB.out⟩
    obtain ⟨vo, hvo⟩ : ∃ vo, Value.slice Ao ([] ++ l).length co = vo := ⟨_, rfl⟩
    have HVO : Aside0 (vo = .slice Ao l.length co) := ⟨hvo.symm⟩
    refine region_below (T := ?T8) (n := 0) [some 18, some 19, some 20, some 21, some 22, some 23, some 24, some 25, some 26, some 27, some 28, some 29, some 30, some 31, some 32, some 33, some 34, some 35, some 36, some 37, some 38, some 39, some 40, some 41, some 42, some 43, some 44, some 45, some 46, some 47, some 48, some 49, some 50, some 2] ?hT8 (V3F g4 g5 A n c a b1 c1 d e vo kb) (by kernel_rfl) (by kernel_rfl) V3F_keep [0, 1, 2, 3, 4, 5, 6, 7, 8, 9, 10, 11, 12, 13, 14, 15, 16, 17, 18, 19, 20, 21, 22, 23, 24, 25, 26, 27, 28, 29, 30, 31, 32, 33] rfl (.cons (some 18) rfl rfl (fun X wx hG hX K hK => ?_) (.cons (some 19) rfl rfl (fun X wx hG hX K hK => ?_) (.cons (some 20) rfl rfl (fun X wx hG hX K hK => ?_) (.cons (some 21) rfl rfl (fun X wx hG hX K hK => ?_) (.cons (some 22) rfl rfl (fun X wx hG hX K hK => ?_) (.cons (some 23) rfl rfl (fun X wx hG hX K hK => ?_) (.cons (some 24) rfl rfl (fun X wx hG hX K hK => ?_) (.cons (some 25) rfl rfl (fun X wx hG hX K hK => ?_) (.cons (some 26) rfl rfl (fun X wx hG hX K hK => ?_) (.cons (some 27) rfl rfl (fun X wx hG hX K hK => ?_) (.cons (some 28) rfl rfl (fun X wx hG hX K hK => ?_) (.cons (some 29) rfl rfl (fun X wx hG hX K hK => ?_) (.cons (some 30) rfl rfl (fun X wx hG hX K hK => ?_) (.cons (some 31) rfl rfl (fun X wx hG hX K hK => ?_) (.cons (some 32) rfl rfl (fun X wx hG hX K hK => ?_) (.cons (some 33) rfl rfl (fun X wx hG hX K hK => ?_) (.cons (some 34) rfl rfl (fun X wx hG hX K hK => ?_) (.cons (some 35) rfl rfl (fun X wx hG hX K hK => ?_) (.cons (some 36) rfl rfl (fun X wx hG hX K hK => ?_) (.cons (some 37) rfl rfl (fun X wx hG hX K hK => ?_) (.cons (some 38) rfl rfl (fun X wx hG hX K hK => ?_) (.cons (some 39) rfl rfl (fun X wx hG hX K hK => ?_) (.cons (some 40) rfl rfl (fun X wx hG hX K hK => ?_) (.cons (some 41) rfl rfl (fun X wx hG hX K hK => ?_) (.cons (some 42) rfl rfl (fun X wx hG hX K hK => ?_) (.cons (some 43) rfl rfl (fun X wx hG hX K hK => ?_) (.cons (some 44) rfl rfl (fun X wx hG hX K hK => ?_) (.cons (some 45) rfl rfl (fun X wx hG hX K hK => ?_) (.cons (some 46) rfl rfl (fun X wx hG hX K hK => ?_) (.cons (some 47) rfl rfl (fun X wx hG hX K hK => ?_) (.cons (some 48) rfl rfl (fun X wx hG hX K hK => ?_) (.cons (some 49) rfl rfl (fun X wx hG hX K hK => ?_) (.cons (some 50) rfl rfl (fun X wx hG hX K hK => ?_) (.cons (some 2) rfl rfl (fun X wx hG hX K hK => ?_) .nil)))))))))))))))))))))))))))))))))) (by kernel_rfl) #[true, true, true, true, true, true, true, true, true, true, true, true, true, true, true, true, true, true, true, true, true, true, true, true, true, true, true, true, true, true, true, true, true, true] (by kernel_rfl) ?_
    case hT8 =>
      intro X
      simp only [fill, Act.put, List.setIfInBounds_toArray, List.set_cons_zero, List.set_cons_succ, Nat.zero_add, Nat.reduceAdd]
      rfl
    · refine val_ (w1 := wx) (v := .agg ((PB (a, b1, c1, d, e)).map (Value.int .u8)).toArray) (by rfl) rfl ?_ (hK.out _ _ _ rfl (Below.refl _ _) rfl)
      exact exec_load_row 25 _ rfl g4 rfl 25 _ (0, 0) _ (blk_below (blk_drew BK4.out) hG) hu25 rfl (by rw [size_map .u8 _ 20 (PB_length _)]; kernel_rfl)
    · have e0 : X 0 = .agg ((PB (a, b1, c1, d, e)).map (Value.int .u8)).toArray := hX 3 0 (by kernel_rfl)
      refine goes_ Try.func9 (by kernel_rfl) rfl #[X 0] (by rfl) rfl rfl (by simp only [List.map_toArray, List.map_cons, List.map_nil]; rfl) ?_
      refine calls_args (as' := #[.agg ((PB (a, b1, c1, d, e)).map (Value.int .u8)).toArray]) (by rw [e0]) ?_
      refine (words_c (a, b1, c1, d, e) HU.out wx).mono ?_
      rintro e_ w' ⟨he_, hb_⟩
      obtain rfl := he_
      exact ⟨_, rfl, hK.out _ _ _ rfl hb_ rfl⟩
    · refine val_ (w1 := wx) (v := .agg #[.int .u32 a, .int .u32 b1, .int .u32 c1, .int .u32 d, .int .u32 e]) (by rfl) rfl ?_ (hK.out _ _ _ rfl (Below.refl _ _) rfl)
      exact exec_load_row 28 _ rfl g5 rfl 28 _ (0, 0) _ (blk_below (blk_drew BK5.out) hG) hu28 rfl (by kernel_rfl)
    · have e1 : X 1 = .agg #[.int .u32 a, .int .u32 b1, .int .u32 c1, .int .u32 d, .int .u32 e] := hX 3 1 (by kernel_rfl)
      have e2 : X 2 = .agg #[.int .u32 a, .int .u32 b1, .int .u32 c1, .int .u32 d, .int .u32 e] := hX 3 2 (by kernel_rfl)
      refine val_ (w1 := wx) (v := .bool true) (by rfl) rfl ?_ (hK.out _ _ _ rfl (Below.refl _ _) rfl)
      go_simp
    · have e3 : X 3 = .bool true := hX 3 3 (by kernel_rfl)
      refine val_ (w1 := wx) (v := .bool true) (by rfl) rfl ?_ (hK.out _ _ _ rfl (Below.refl _ _) rfl)
      go_simp
    · have e4 : X 4 = .bool true := hX 3 4 (by kernel_rfl)
      have l_ := PB_length (a, b1, c1, d, e)
      refine val_ (w1 := wx) (v := .slice (some ⟨g4, 0, none⟩) (PB (a, b1, c1, d, e)).length 20) (wanted_of rfl rfl (congrArg some e4)) rfl ?_ (hK.out _ _ _ rfl (Below.refl _ _) rfl)
      go_simp
    · have e4 : X 4 = .bool true := hX 3 4 (by kernel_rfl)
      refine val_ (w1 := wx) (v := .agg #[.int .u32 a, .int .u32 b1, .int .u32 c1, .int .u32 d, .int .u32 e]) (wanted_of rfl rfl (congrArg some e4)) rfl ?_ (hK.out _ _ _ rfl (Below.refl _ _) rfl)
      exact exec_load_row 28 _ rfl g5 rfl 28 _ (0, 0) _ (blk_below (blk_drew BK5.out) hG) hu28 rfl (by kernel_rfl)
    · have e4 : X 4 = .bool true := hX 3 4 (by kernel_rfl)
      have e6 : X 6 = .agg #[.int .u32 a, .int .u32 b1, .int .u32 c1, .int .u32 d, .int .u32 e] := hX 3 6 (by kernel_rfl)
      refine goes_ Try.func11 (by kernel_rfl) rfl #[X 6] (wanted_of rfl rfl (congrArg some e4)) rfl rfl (by simp only [List.map_toArray, List.map_cons, List.map_nil]; rfl) ?_
      refine calls_args (as' := #[.agg #[.int .u32 a, .int .u32 b1, .int .u32 c1, .int .u32 d, .int .u32 e]]) (by rw [e6]) ?_
      refine (rbytes_c (a, b1, c1, d, e) HU.out wx).mono ?_
      rintro e_ w' ⟨v_, he_, hr_, hb_⟩
      obtain rfl := he_
      obtain ⟨A_, c_, rfl, hc_, hC_⟩ := Kd.R_reads hr_
      exact ⟨_, rfl, hK.out _ _ _ rfl hb_ ⟨A_, c_, rfl, hc_, hC_⟩⟩
    · have e4 : X 4 = .bool true := hX 3 4 (by kernel_rfl)
      have e5 : X 5 = .slice (some ⟨g4, 0, none⟩) (PB (a, b1, c1, d, e)).length 20 := hX 3 5 (by kernel_rfl)
      have f7 := hX 3 7 (by kernel_rfl)
      obtain ⟨A_, c_, e7, hc_, hC_⟩ := f7
      refine goes_ Try.func10 (by kernel_rfl) rfl #[X 5, X 7] (wanted_of rfl rfl (congrArg some e4)) rfl rfl (by simp only [List.map_toArray, List.map_cons, List.map_nil]; rfl) ?_
      refine (calls_args (as' := #[.slice (some ⟨g4, 0, none⟩) (PB (a, b1, c1, d, e)).length 20, .slice A_ (PB (a, b1, c1, d, e)).length c_]) (by rw [e5, e7]) (horologenum_Bytes.calls (some ⟨g4, 0, none⟩) 20 (PB (a, b1, c1, d, e)) A_ c_ (PB (a, b1, c1, d, e)) true wx (C_box .u8 (PB (a, b1, c1, d, e)) (by rw [PB_length]; decide) (blk_below (blk_drew BK4.out) hG)) (by rw [PB_length]; decide) hC_ hc_ (bytes_same _))).mono ?_
      rintro e_ w' ⟨he_, ⟨⟨m_, rfl⟩⟩⟩
      obtain rfl := he_
      exact ⟨_, rfl, hK.out _ _ _ rfl (pw_below_drewN (Below.refl _ _) m_) rfl⟩
    · have e4 : X 4 = .bool true := hX 3 4 (by kernel_rfl)
      have e8 : X 8 = .bool true := hX 3 8 (by kernel_rfl)
      refine val_ (w1 := wx) (v := .bool true) (by rfl) rfl ?_ (hK.out _ _ _ rfl (Below.refl _ _) rfl)
      go_simp
    · have e9 : X 9 = .bool true := hX 3 9 (by kernel_rfl)
      refine val_ (w1 := wx) (v := .bool true) (by rfl) rfl ?_ (hK.out _ _ _ rfl (Below.refl _ _) rfl)
      go_simp
    · have e10 : X 10 = .bool true := hX 3 10 (by kernel_rfl)
      refine val_ (w1 := wx) (v := .agg ((PB (a, b1, c1, d, e)).map (Value.int .u8)).toArray) (wanted_of rfl rfl (congrArg some e10)) rfl ?_ (hK.out _ _ _ rfl (Below.refl _ _) rfl)
      exact exec_load_row 25 _ rfl g4 rfl 25 _ (0, 0) _ (blk_below (blk_drew BK4.out) hG) hu25 rfl (by rw [size_map .u8 _ 20 (PB_length _)]; kernel_rfl)
    · have e10 : X 10 = .bool true := hX 3 10 (by kernel_rfl)
      have e11 : X 11 = .agg ((PB (a, b1, c1, d, e)).map (Value.int .u8)).toArray := hX 3 11 (by kernel_rfl)
      refine goes_ Try.func12 (by kernel_rfl) rfl #[X 11] (wanted_of rfl rfl (congrArg some e10)) rfl rfl (by simp only [List.map_toArray, List.map_cons, List.map_nil]; rfl) ?_
      refine calls_args (as' := #[.agg ((PB (a, b1, c1, d, e)).map (Value.int .u8)).toArray]) (by rw [e11]) ?_
      refine (hex_c (PB (a, b1, c1, d, e)) (PB_length _) (byte_of_mem (PB_bytes _)) wx).mono ?_
      rintro e_ w' ⟨he_, hb_⟩
      obtain rfl := he_
      exact ⟨_, rfl, hK.out _ _ _ rfl hb_ rfl⟩
    · have e10 : X 10 = .bool true := hX 3 10 (by kernel_rfl)
      refine val_ (w1 := wx) (v := .agg #[.int .u32 a, .int .u32 b1, .int .u32 c1, .int .u32 d, .int .u32 e]) (wanted_of rfl rfl (congrArg some e10)) rfl ?_ (hK.out _ _ _ rfl (Below.refl _ _) rfl)
      exact exec_load_row 28 _ rfl g5 rfl 28 _ (0, 0) _ (blk_below (blk_drew BK5.out) hG) hu28 rfl (by kernel_rfl)
    · have e10 : X 10 = .bool true := hX 3 10 (by kernel_rfl)
      have e13 : X 13 = .agg #[.int .u32 a, .int .u32 b1, .int .u32 c1, .int .u32 d, .int .u32 e] := hX 3 13 (by kernel_rfl)
      refine goes_ Try.func11 (by kernel_rfl) rfl #[X 13] (wanted_of rfl rfl (congrArg some e10)) rfl rfl (by simp only [List.map_toArray, List.map_cons, List.map_nil]; rfl) ?_
      refine calls_args (as' := #[.agg #[.int .u32 a, .int .u32 b1, .int .u32 c1, .int .u32 d, .int .u32 e]]) (by rw [e13]) ?_
      refine (rbytes_c (a, b1, c1, d, e) HU.out wx).mono ?_
      rintro e_ w' ⟨v_, he_, hr_, hb_⟩
      obtain rfl := he_
      obtain ⟨A_, c_, rfl, hc_, hC_⟩ := Kd.R_reads hr_
      exact ⟨_, rfl, hK.out _ _ _ rfl hb_ ⟨A_, c_, rfl, hc_, hC_⟩⟩
    · have e10 : X 10 = .bool true := hX 3 10 (by kernel_rfl)
      have f14 := hX 3 14 (by kernel_rfl)
      obtain ⟨A_, c_, e14, hc_, hC_⟩ := f14
      refine goes_ Try.func13 (by kernel_rfl) rfl #[X 14] (wanted_of rfl rfl (congrArg some e10)) rfl rfl (by simp only [List.map_toArray, List.map_cons, List.map_nil]; rfl) ?_
      refine (calls_args (as' := #[.slice A_ (PB (a, b1, c1, d, e)).length c_]) (by rw [e14]) (rhex_c wx A_ c_ (PB (a, b1, c1, d, e)) hC_ (byte_of_mem (PB_bytes _)) (by rw [PB_length]; decide))).mono ?_
      rintro e_ w' ⟨he_, hb_⟩
      obtain rfl := he_
      exact ⟨_, rfl, hK.out _ _ _ rfl hb_ rfl⟩
    · have e10 : X 10 = .bool true := hX 3 10 (by kernel_rfl)
      have e12 : X 12 = .string (strOfNums (hexs (PB (a, b1, c1, d, e)))) := hX 3 12 (by kernel_rfl)
      have e15 : X 15 = .string (strOfNums (hexs (PB (a, b1, c1, d, e)))) := hX 3 15 (by kernel_rfl)
      refine val_ (w1 := wx) (v := .bool true) (wanted_of rfl rfl (congrArg some e10)) rfl ?_ (hK.out _ _ _ rfl (Below.refl _ _) rfl)
      go_simp
    · have e10 : X 10 = .bool true := hX 3 10 (by kernel_rfl)
      have e16 : X 16 = .bool true := hX 3 16 (by kernel_rfl)
      refine val_ (w1 := wx) (v := .bool true) (by rfl) rfl ?_ (hK.out _ _ _ rfl (Below.refl _ _) rfl)
      go_simp
    · have e17 : X 17 = .bool true := hX 3 17 (by kernel_rfl)
      refine val_ (w1 := wx) (v := .bool true) (by rfl) rfl ?_ (hK.out _ _ _ rfl (Below.refl _ _) rfl)
      go_simp
    · have e18 : X 18 = .bool true := hX 3 18 (by kernel_rfl)
      refine val_ (w1 := wx) (v := .slice A n c) (wanted_of rfl rfl (congrArg some e18)) rfl ?_ (hK.out _ _ _ rfl (Below.refl _ _) rfl)
      go_simp
    · have e18 : X 18 = .bool true := hX 3 18 (by kernel_rfl)
      have e19 : X 19 = .slice A n c := hX 3 19 (by kernel_rfl)
      refine val_ (w1 := wx) (v := .int .i64 (n : Int)) (wanted_of rfl rfl (congrArg some e18)) rfl ?_ (hK.out _ _ _ rfl (Below.refl _ _) rfl)
      go_simp
    · have e18 : X 18 = .bool true := hX 3 18 (by kernel_rfl)
      have e20 : X 20 = .int .i64 (n : Int) := hX 3 20 (by kernel_rfl)
      refine goes_ Try.func14 (by kernel_rfl) rfl #[X 20] (wanted_of rfl rfl (congrArg some e18)) rfl rfl (by simp only [List.map_toArray, List.map_cons, List.map_nil]; rfl) ?_
      refine calls_args (as' := #[.int .i64 (n : Int)]) (by rw [e20]) ?_
      refine (sha1_Blocks.calls _ _ wx HBL.out).mono ?_
      rintro e_ w' ⟨he_, ⟨⟨m_, rfl⟩⟩⟩
      obtain rfl := he_
      exact ⟨_, rfl, hK.out _ _ _ rfl (pw_below_drewN (Below.refl _ _) m_) rfl⟩
    · have e18 : X 18 = .bool true := hX 3 18 (by kernel_rfl)
      refine val_ (w1 := wx) (v := .slice A n c) (wanted_of rfl rfl (congrArg some e18)) rfl ?_ (hK.out _ _ _ rfl (Below.refl _ _) rfl)
      go_simp
    · have e18 : X 18 = .bool true := hX 3 18 (by kernel_rfl)
      have e22 : X 22 = .slice A n c := hX 3 22 (by kernel_rfl)
      refine goes_ Try.func15 (by kernel_rfl) rfl #[X 22] (wanted_of rfl rfl (congrArg some e18)) rfl rfl (by simp only [List.map_toArray, List.map_cons, List.map_nil]; rfl) ?_
      refine (calls_args (as' := #[.slice A l.length c]) (by rw [e22, HLN.out]) (horologeref09_Pad.calls kp A c l (PADL l) wx (Kd.C_below (Kd.C_below HCL.out (below_drew (Below.refl _ _))) hG) HCN.out HPAD.out)).mono ?_
      rintro e_ w' ⟨v_, he_, hr_, hb_⟩
      obtain rfl := he_
      obtain ⟨A_, c_, rfl, hc_, hC_⟩ := Kd.R_reads hr_
      exact ⟨_, rfl, hK.out _ _ _ rfl hb_ ⟨A_, c_, _, rfl, HPL.out⟩⟩
    · have e18 : X 18 = .bool true := hX 3 18 (by kernel_rfl)
      have f23 := hX 3 23 (by kernel_rfl)
      obtain ⟨A_, c_, m_, e23, hm_⟩ := f23
      refine val_ (w1 := wx) (v := .int .i64 (kb * 64)) (wanted_of rfl rfl (congrArg some e18)) rfl ?_ (hK.out _ _ _ rfl (Below.refl _ _) rfl)
      go_simp
    · have e18 : X 18 = .bool true := hX 3 18 (by kernel_rfl)
      have e24 : X 24 = .int .i64 (kb * 64) := hX 3 24 (by kernel_rfl)
      have t_ := HKB.out
      refine val_ (w1 := wx) (v := .int .i64 kb) (wanted_of rfl rfl (congrArg some e18)) rfl ?_ (hK.out _ _ _ rfl (Below.refl _ _) rfl)
      go_simp
      rw [IntKind.wrap_i64]; have := HKR.out; omega
    · have e18 : X 18 = .bool true := hX 3 18 (by kernel_rfl)
      have e21 : X 21 = .int .i64 kb := hX 3 21 (by kernel_rfl)
      have e25 : X 25 = .int .i64 kb := hX 3 25 (by kernel_rfl)
      refine val_ (w1 := wx) (v := .bool true) (wanted_of rfl rfl (congrArg some e18)) rfl ?_ (hK.out _ _ _ rfl (Below.refl _ _) rfl)
      go_simp
    · have e18 : X 18 = .bool true := hX 3 18 (by kernel_rfl)
      have e26 : X 26 = .bool true := hX 3 26 (by kernel_rfl)
      refine val_ (w1 := wx) (v := .bool true) (by rfl) rfl ?_ (hK.out _ _ _ rfl (Below.refl _ _) rfl)
      go_simp
    · have e27 : X 27 = .bool true := hX 3 27 (by kernel_rfl)
      refine val_ (w1 := wx) (v := .bool true) (by rfl) rfl ?_ (hK.out _ _ _ rfl (Below.refl _ _) rfl)
      go_simp
    · have e28 : X 28 = .bool true := hX 3 28 (by kernel_rfl)
      refine val_ (w1 := wx) (v := vo) (wanted_of rfl rfl (congrArg some e28)) rfl ?_ (hK.out _ _ _ rfl (Below.refl _ _) rfl)
      go_simp
      exact HVO.out.symm
    · have e28 : X 28 = .bool true := hX 3 28 (by kernel_rfl)
      refine val_ (w1 := wx) (v := .slice A n c) (wanted_of rfl rfl (congrArg some e28)) rfl ?_ (hK.out _ _ _ rfl (Below.refl _ _) rfl)
      go_simp
    · have e28 : X 28 = .bool true := hX 3 28 (by kernel_rfl)
      have e29 : X 29 = vo := hX 3 29 (by kernel_rfl)
      have e30 : X 30 = .slice A n c := hX 3 30 (by kernel_rfl)
      refine goes_ Try.func10 (by kernel_rfl) rfl #[X 29, X 30] (wanted_of rfl rfl (congrArg some e28)) rfl rfl (by simp only [List.map_toArray, List.map_cons, List.map_nil]; rfl) ?_
      refine (calls_args (as' := #[.slice Ao l.length co, .slice A l.length c]) (by rw [e29, e30, HVO.out, HLN.out]) (horologenum_Bytes.calls Ao co l A c l true wx (Kd.C_below (Kd.C_below HCO.out (below_drew (Below.refl _ _))) hG) HCON.out (Kd.C_below (Kd.C_below HCL.out (below_drew (Below.refl _ _))) hG) HCN.out (bytes_same _))).mono ?_
      rintro e_ w' ⟨he_, ⟨⟨m_, rfl⟩⟩⟩
      obtain rfl := he_
      exact ⟨_, rfl, hK.out _ _ _ rfl (pw_below_drewN (Below.refl _ _) m_) rfl⟩
    · have e28 : X 28 = .bool true := hX 3 28 (by kernel_rfl)
      have e31 : X 31 = .bool true := hX 3 31 (by kernel_rfl)
      refine val_ (w1 := wx) (v := .bool true) (by rfl) rfl ?_ (hK.out _ _ _ rfl (Below.refl _ _) rfl)
      go_simp
    · have e32 : X 32 = .bool true := hX 3 32 (by kernel_rfl)
      refine val_ (w1 := wx) (v := .bool true) (by rfl) rfl ?_ (hK.out _ _ _ rfl (Below.refl _ _) rfl)
      go_simp
    intro X wx hG hX
    refine tail_done (by kernel_rfl) ?_
    have e33 : X 33 = .bool true := hX 33 (by decide)
    rw [e33]
    have HX := Aside0.mk (below_step HB.out hG)
    clear hX e33 hG
    go_wp2
    go_ret
    exact ⟨rfl, HX.out⟩
theorem sums_row (A : Option Addr) (n c : Nat) (l : List Int) (W : World) (e0 : l.length = n) (C0 : Kd.C (Kd.int .u8) W A n l) (h0 : n ≤ c) (o0 : ∀ x ∈ l, (Lit.int .u8 x).wf = true) :
    Calls Try.prog 3 #[.slice A n c] W fun e w' => e = .returned (.bool true) ∧ Below W.heap.size W w' :=
  sha1sums_c W A n c l e0 C0 h0 (by have := C0.2.1; simpa [maxLen] using this) (fun x hx => bounds_u8 (o0 x hx))
end Go.Proofs.Ytjffbdgidddbjaa
