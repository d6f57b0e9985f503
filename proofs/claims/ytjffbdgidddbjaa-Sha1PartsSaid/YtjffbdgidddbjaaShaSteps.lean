/-
  SHA-1: the law of steps, walked by hand.
-/
import Derived.Test.YtjffbdgidddbjaaShaAlive
namespace Go.Proofs.Ytjffbdgidddbjaa
set_option linter.unusedVariables false
set_option linter.unusedSimpArgs false
open Go.RowKit Go.Proofs.YtjffbdgidddbjaaW.PrintWords Go.Proofs.YtjffbdgidddbjaaW.PrintLast Go.Proofs.YtjffbdgidddbjaaW.PrintMore Go.Proofs.Ytjffbdgidddbjaa.MSha1Sums Go.Proofs.Ytjffbdgidddbjaa.Base
section
variable {P : Program}
theorem exec_load_row {o : Oper} {a : Act} {w : World} (ty : TypeId) (x : Operand) (ho : o.op = .load ty x) (g : Nat) (hx : a.eval x = .pointer (some ⟨g, 0, none⟩)) (t : TypeId) (cs : Array Value) (fr : Nat × Nat) (d : TypeDesc) (hg : w.heap[g]? = some (.cells cs t fr))
    (hu : P.underlying ty = some d) (hd : (match d with | .struct _ | .array _ _ => true | _ => false) = true) (hi : (P.info? ty).map (·.size) = some cs.size) : (execOp a.eval o).run P w = .ok (.value (.agg cs)) w := by
  unfold execOp
  simp only [ho, hx, Instr.loadAt, Instr.sureAddr, Sem.run_bind, Sem.run_pure, Result.andThen_ok, run_loadVar_row w g t ty cs fr d hg hu hd hi]
end
theorem all_range_int : ∀ (xs ys : List Int), xs.length = ys.length → ((List.range xs.length).all fun i => xs.getD i 0 == ys.getD i 0) = (xs == ys)
  | [], [], _ => rfl
  | x :: xs, y :: ys, h => by
    have ih := all_range_int xs ys (by simpa using h)
    rw [List.length_cons, List.range_succ_eq_map, List.all_cons, List.all_map]
    simp only [List.getD_cons_zero, Function.comp_def, List.getD_cons_succ, ih]
    simp [List.cons_beq_cons]
  | [], _ :: _, h => by simp at h
  | _ :: _, [], h => by simp at h
section
variable {P : Program}
theorem run_equalIn_ints (w : World) (kk : IntKind) (d : Nat) (t e : TypeId) (n : Nat) (ht : P.underlying t = some (.array n e)) (he : P.underlying e = some (.int kk)) (hsz : ∀ w, (sizeOf e).run P w = .ok 1 w)
    (xs ys : List Int) (hx : xs.length = n) (hy : ys.length = n) :
    (Op.equalIn (d + 2) t (.agg (xs.map (Value.int kk)).toArray) (.agg (ys.map (Value.int kk)).toArray)).run P w = .ok (xs == ys) w := by
  rw [← all_range_int xs ys (hx.trans hy.symm), hx, List.range_eq_range', Op.equalIn]
  simp only [Sem.run_bind, run_underlying ht, Result.andThen_ok, hsz, Std.Legacy.Range.forIn_eq_forIn_range', Std.Legacy.Range.size, Nat.sub_zero, Nat.add_sub_cancel, Nat.div_one]
  have hl : ∀ i ∈ List.range' 0 n 1, i < n := fun i hi => by simpa using (List.mem_range'_1.1 hi).2
  generalize List.range' 0 n 1 = l at hl ⊢
  induction l with
  | nil => simp
  | cons i l ih =>
    have hi : i < n := hl i (by simp)
    have px : (part e (xs.map (Value.int kk)).toArray (i * 1)).run P w = .ok (.int kk (xs.getD i 0)) w := by
      simp [part, isAgg, run_underlying he, List.getD, List.getElem?_eq_getElem (show i < xs.length by omega)]
    have py : (part e (ys.map (Value.int kk)).toArray (i * 1)).run P w = .ok (.int kk (ys.getD i 0)) w := by
      simp [part, isAgg, run_underlying he, List.getD, List.getElem?_eq_getElem (show i < ys.length by omega)]
    have pe : (Op.equalIn (d + 1) e (.int kk (xs.getD i 0)) (.int kk (ys.getD i 0))).run P w = .ok (xs.getD i 0 == ys.getD i 0) w := by
      rw [run_equalIn_int w d e kk kk _ _ he]
      try rfl
    simp only [List.forIn_cons, Sem.run_bind, px, py, pe, Result.andThen_ok, List.all_cons]
    cases hb : (xs.getD i 0 == ys.getD i 0)
    · simp
    · simp only [Bool.not_true, Bool.false_eq_true, if_false, Sem.run_pure, Result.andThen_ok, Bool.true_and]
      exact ih fun j hj => hl j (by simp [hj])
end
theorem size_one {P : Program} {e : TypeId} (h : (P.info? e).map (·.size) = some 1) (w : World) : (sizeOf e).run P w = .ok 1 w := by
  cases hq : P.info? e with
  | none => rw [hq] at h; cases h
  | some i =>
    rw [hq] at h
    have hz : i.size = 1 := Option.some.inj h
    simp [sizeOf, typeInfo, hq, hz]
theorem eq28 (xs ys : List Int) (hx : xs.length = 5) (hy : ys.length = 5) (w : World) : Sem.run Try.prog (Op.equalIn 10000 28 (.agg (xs.map (Value.int .u32)).toArray) (.agg (ys.map (Value.int .u32)).toArray)) w = .ok (xs == ys) w :=
  run_equalIn_ints w .u32 9998 28 27 5 Try.underlying28 Try.underlying27 (size_one (by kernel_rfl)) xs ys hx hy
theorem eq28_self (a b c d e : Int) (w : World) : Sem.run Try.prog (Op.equalIn 10000 28 (.agg #[.int .u32 a, .int .u32 b, .int .u32 c, .int .u32 d, .int .u32 e]) (.agg #[.int .u32 a, .int .u32 b, .int .u32 c, .int .u32 d, .int .u32 e])) w = .ok true w :=
  (eq28 [a, b, c, d, e] [a, b, c, d, e] rfl rfl w).trans (by simp)
def V4 (g3 g4 g7 : Nat) (a b1 c d e p0 p1 p2 p3 p4 : Int) (blk : List Int) : Nat → Value
  | 0 => .agg #[.int .u32 a, .int .u32 b1, .int .u32 c, .int .u32 d, .int .u32 e]
  | 1 => .agg (blk.map (Value.int .u8)).toArray
  | 2 => .agg #[.int .u32 p0, .int .u32 p1, .int .u32 p2, .int .u32 p3, .int .u32 p4]
  | 3 => .agg #[.int .u32 a, .int .u32 b1, .int .u32 c, .int .u32 d, .int .u32 e]
  | 4 => .slice (some ⟨g4, 0, none⟩) blk.length 64
  | 5 => .agg #[.int .u32 p0, .int .u32 p1, .int .u32 p2, .int .u32 p3, .int .u32 p4]
  | 6 => .bool false
  | 7 => .bool false
  | 8 => .agg ((PB (a, b1, c, d, e)).map (Value.int .u8)).toArray
  | 9 => .agg #[.int .u32 a, .int .u32 b1, .int .u32 c, .int .u32 d, .int .u32 e]
  | 10 => .agg #[.int .u32 a, .int .u32 b1, .int .u32 c, .int .u32 d, .int .u32 e]
  | 11 => .bool false
  | 12 => .bool false
  | 13 => .bool false
  | 14 => .slice (some ⟨g7, 0, none⟩) (PB (a, b1, c, d, e)).length 20
  | 15 => .agg #[.int .u32 a, .int .u32 b1, .int .u32 c, .int .u32 d, .int .u32 e]
  | 16 => undef
  | 17 => .bool true
  | 18 => .bool false
  | _ => .bool false
def V4F (g3 g4 g7 : Nat) (a b1 c d e p0 p1 p2 p3 p4 : Int) (blk : List Int) : Nat → Value → World → Prop
  | 16, v_, w_ => ∃ A_ c_, v_ = .slice A_ (PB (a, b1, c, d, e)).length c_ ∧ (PB (a, b1, c, d, e)).length ≤ c_ ∧ Kd.C (Kd.int .u8) w_ A_ (PB (a, b1, c, d, e)).length (PB (a, b1, c, d, e))
  | i_, v_, _ => v_ = V4 g3 g4 g7 a b1 c d e p0 p1 p2 p3 p4 blk i_
section
variable {g3 g4 g7 : Nat} {a b1 c d e p0 p1 p2 p3 p4 : Int} {blk : List Int}
theorem V4F_keep (i : Nat) (v : Value) (w w1 : World) (hi : i < 20) (h : V4F g3 g4 g7 a b1 c d e p0 p1 p2 p3 p4 blk i v w) (hb : Below w.heap.size w w1) : V4F g3 g4 g7 a b1 c d e p0 p1 p2 p3 p4 blk i v w1 := by
  by_cases h16 : i = 16
  · subst h16
    obtain ⟨A_, c_, e_, hc_, hC_⟩ := h
    exact ⟨A_, c_, e_, hc_, Kd.C_below hC_ hb⟩
  · unfold V4F at h ⊢
    split
    · exact absurd rfl h16
    · split at h
      · exact absurd rfl h16
      · exact h
end
theorem bytes_same (l : List Int) : horologenum_Bytes.f l l = some true := by unfold horologenum_Bytes.f; simp
set_option maxHeartbeats 4000000 in
set_option maxRecDepth 100000 in
theorem sha1steps_c (w : World) (a b1 c d e : Int) (hs : U5 (a, b1, c, d, e)) (blk : List Int) (hbl : blk.length = 64) (hby : ∀ i, Byte (blk.getD i 0)) (n : Int) (hn : I64 n) :
    Calls Try.prog 4 #[.agg #[.int .u32 a, .int .u32 b1, .int .u32 c, .int .u32 d, .int .u32 e], .agg (blk.map (.int .u8)).toArray, .int .i64 n] w fun e w' => e = .returned (.bool true) ∧ Below w.heap.size w w' := by
  have hu25 := Try.underlying25
  have hu28 := Try.underlying28
  have hu38 := Try.underlying38
  have hu22 := Try.underlying22
  have z25 := zero_of (P := Try.prog) (t := 25) (v := .agg (Array.replicate 20 (.int .u8 0))) (by kernel_rfl)
  have HU := Aside0.mk hs
  have HBL := Aside0.mk hbl
  have HBY := Aside0.mk hby
  have HN := Aside0.mk hn
  clear hs hby hn hbl
  obtain ⟨⟨p0, p1, p2, p3, p4⟩, hst⟩ : ∃ p, STEP (a, b1, c, d, e) blk = p := ⟨_, rfl⟩
  obtain ⟨kr, hkr⟩ := Ev.ok (rstep_is (a, b1, c, d, e) blk HBL.out HBY.out)
  rw [hst] at hkr
  have HRS := Aside0.mk hkr
  have HST : Aside0 (A5 (STEP (a, b1, c, d, e) blk) = .agg #[.int .u32 p0, .int .u32 p1, .int .u32 p2, .int .u32 p3, .int .u32 p4]) := ⟨by rw [hst]; rfl⟩
  clear hst hkr
  have q1 := fun W => eq28_self a b1 c d e W
  have q2 := fun W => eq28_self p0 p1 p2 p3 p4 W
  go_enter Try.func4, Try.ntmps4
  go_wp2_with (first | ((with_reducible refine gate_dst (N := 3) rfl ?_); refine box_event ?hg (N := 3) ?hd (cs := #[.int .u32 a, .int .u32 b1, .int .u32 c, .int .u32 d, .int .u32 e]) (t := 28) ?hr ?_; (case hd => rfl); (case hg => rfl); (case hr => go_simp; try rfl); intro g3 hg3_ w3 hx3 hb3; clear hg3_) | ((with_reducible refine gate_dst (N := 4) rfl ?_); refine box_event ?hg (N := 4) ?hd (cs := (blk.map (Value.int .u8)).toArray) (t := 38) ?hr ?_; (case hd => rfl); (case hg => rfl); (case hr => go_simp; try rfl); intro g4 hg4_ w4 hx4 hb4; clear hg4_; have K3 := Aside0.mk (blk_below hx3 hb4); have K4 := Aside0.mk hx4; have KB := Aside0.mk (below_step hb3 hb4); clear hx3 hx4 hb3 hb4) | (go_at_call 6; refine (alive_c _).mono ?_; rintro e_ w5 ⟨rfl, hb5⟩; have J3 := Aside0.mk (blk_below K3.out hb5); have J4 := Aside0.mk (blk_below K4.out hb5); have JB := Aside0.mk (below_step KB.out hb5); clear K3 K4 KB hb5) | ((with_reducible refine gate_dst (N := 11) rfl ?_); refine wpList_load_row rfl 28 _ rfl g3 rfl 28 _ (0, 0) _ J3.out hu28 rfl (by kernel_rfl) ?_) | (go_at_call 16; refine (from_c (a, b1, c, d, e) HU.out _).mono ?_; rintro e_ w6 ⟨rfl, hb6⟩; have L3 := Aside0.mk (blk_below J3.out hb6); have L4 := Aside0.mk (blk_below J4.out hb6); have LB := Aside0.mk (below_step JB.out hb6); clear J3 J4 JB hb6) | ((with_reducible refine gate_dst (N := 7) rfl ?_); refine box_event ?hg (N := 7) ?hd (cs := Array.replicate 20 (.int .u8 0)) (t := 25) ?hr ?_; (case hd => rfl); (case hg => rfl); (case hr => go_simp); intro g7 hg7_ w7 hx7 hb7; have n37 : g3 ≠ g7 := (by rw [hg7_]; exact Nat.ne_of_lt (blk_lt L3.out)); have n47 : g4 ≠ g7 := (by rw [hg7_]; exact Nat.ne_of_lt (blk_lt L4.out)); have gw7 : w.heap.size ≤ g7 := (by rw [hg7_]; exact below_size LB.out); clear hg7_; have N3 := Aside0.mk (blk_below L3.out hb7); have N4 := Aside0.mk (blk_below L4.out hb7); have N7 := Aside0.mk hx7; have NB := Aside0.mk (below_step LB.out hb7); clear L3 L4 LB hx7 hb7) | (refine wpList_store_row rfl 25 _ _ rfl g7 ((PB (a, b1, c, d, e)).map (Value.int .u8)).toArray rfl rfl 25 _ N7.out (by rw [size_map .u8 _ 20 (PB_length _)]; kernel_rfl) (by rw [size_map .u8 _ 20 (PB_length _)]; simp) (one_cells _) ?_; have BK3 := Aside0.mk ((setRow_other w7 g7 g3 ((PB (a, b1, c, d, e)).map (Value.int .u8)).toArray n37).trans N3.out); have BK4 := Aside0.mk ((setRow_other w7 g7 g4 ((PB (a, b1, c, d, e)).map (Value.int .u8)).toArray n47).trans N4.out); have BK7 := Aside0.mk (setRow_heap w7 g7 _ ((PB (a, b1, c, d, e)).map (Value.int .u8)).toArray _ _ N7.out); have HB := Aside0.mk (below_setRow NB.out gw7 ((PB (a, b1, c, d, e)).map (Value.int .u8)).toArray); clear N3 N4 N7 NB; generalize w7.setRow g7 ((PB (a, b1, c, d, e)).map (Value.int .u8)).toArray = W at BK3 BK4 BK7 HB ⊢))
  refine region_below (T := ?T4) (n := 0) [some 13, some 14, some 15, some 16, some 17, some 18, some 19, some 20, some 21, some 22, some 23, some 24, some 25, some 26, some 27, some 28, some 29, some 30, some 31, some 32] ?hT4 (V4F g3 g4 g7 a b1 c d e p0 p1 p2 p3 p4 blk) (by kernel_rfl) (by kernel_rfl) V4F_keep [0, 1, 2, 3, 4, 5, 6, 7, 8, 9, 10, 11, 12, 13, 14, 15, 16, 17, 18, 19] rfl (.cons (some 13) rfl rfl (fun X wx hG hX K hK => ?_) (.cons (some 14) rfl rfl (fun X wx hG hX K hK => ?_) (.cons (some 15) rfl rfl (fun X wx hG hX K hK => ?_) (.cons (some 16) rfl rfl (fun X wx hG hX K hK => ?_) (.cons (some 17) rfl rfl (fun X wx hG hX K hK => ?_) (.cons (some 18) rfl rfl (fun X wx hG hX K hK => ?_) (.cons (some 19) rfl rfl (fun X wx hG hX K hK => ?_) (.cons (some 20) rfl rfl (fun X wx hG hX K hK => ?_) (.cons (some 21) rfl rfl (fun X wx hG hX K hK => ?_) (.cons (some 22) rfl rfl (fun X wx hG hX K hK => ?_) (.cons (some 23) rfl rfl (fun X wx hG hX K hK => ?_) (.cons (some 24) rfl rfl (fun X wx hG hX K hK => ?_) (.cons (some 25) rfl rfl (fun X wx hG hX K hK => ?_) (.cons (some 26) rfl rfl (fun X wx hG hX K hK => ?_) (.cons (some 27) rfl rfl (fun X wx hG hX K hK => ?_) (.cons (some 28) rfl rfl (fun X wx hG hX K hK => ?_) (.cons (some 29) rfl rfl (fun X wx hG hX K hK => ?_) (.cons (some 30) rfl rfl (fun X wx hG hX K hK => ?_) (.cons (some 31) rfl rfl (fun X wx hG hX K hK => ?_) (.cons (some 32) rfl rfl (fun X wx hG hX K hK => ?_) .nil)))))))))))))))))))) (by kernel_rfl) #[true, true, true, true, true, true, true, true, true, true, true, true, true, true, true, true, true, true, true, true] (by kernel_rfl) ?_
  case hT4 =>
    intro X
    simp only [fill, Act.put, List.setIfInBounds_toArray, List.set_cons_zero, List.set_cons_succ, Nat.zero_add, Nat.reduceAdd]
    rfl
  · refine val_ (w1 := wx) (v := .agg #[.int .u32 a, .int .u32 b1, .int .u32 c, .int .u32 d, .int .u32 e]) (by rfl) rfl ?_ (hK.out _ _ _ rfl (Below.refl _ _) rfl)
    exact exec_load_row 28 _ rfl g3 rfl 28 _ (0, 0) _ (blk_below (blk_drew BK3.out) hG) hu28 rfl (by kernel_rfl)
  · refine val_ (w1 := wx) (v := .agg (blk.map (Value.int .u8)).toArray) (by rfl) rfl ?_ (hK.out _ _ _ rfl (Below.refl _ _) rfl)
    exact exec_load_row 38 _ rfl g4 rfl 38 _ (0, 0) _ (blk_below (blk_drew BK4.out) hG) hu38 rfl (by rw [size_map .u8 _ 64 HBL.out]; kernel_rfl)
  · have e0 : X 0 = .agg #[.int .u32 a, .int .u32 b1, .int .u32 c, .int .u32 d, .int .u32 e] := hX 3 0 (by kernel_rfl)
    have e1 : X 1 = .agg (blk.map (Value.int .u8)).toArray := hX 3 1 (by kernel_rfl)
    refine goes_ Try.func17 (by kernel_rfl) rfl #[X 0, X 1] (by rfl) rfl rfl (by simp only [List.map_toArray, List.map_cons, List.map_nil]; rfl) ?_
    refine calls_args (as' := #[.agg #[.int .u32 a, .int .u32 b1, .int .u32 c, .int .u32 d, .int .u32 e], .agg (blk.map (Value.int .u8)).toArray]) (by rw [e0, e1]) ?_
    refine (step_c (a, b1, c, d, e) blk HBL.out HBY.out wx).mono ?_
    rintro e_ w' ⟨he_, hb_⟩
    rw [HST.out] at he_
    obtain rfl := he_
    exact ⟨_, rfl, hK.out _ _ _ rfl hb_ rfl⟩
  · refine val_ (w1 := wx) (v := .agg #[.int .u32 a, .int .u32 b1, .int .u32 c, .int .u32 d, .int .u32 e]) (by rfl) rfl ?_ (hK.out _ _ _ rfl (Below.refl _ _) rfl)
    exact exec_load_row 28 _ rfl g3 rfl 28 _ (0, 0) _ (blk_below (blk_drew BK3.out) hG) hu28 rfl (by kernel_rfl)
  · have l_ := HBL.out
    refine val_ (w1 := wx) (v := .slice (some ⟨g4, 0, none⟩) blk.length 64) (by rfl) rfl ?_ (hK.out _ _ _ rfl (Below.refl _ _) rfl)
    go_simp
  · have e3 : X 3 = .agg #[.int .u32 a, .int .u32 b1, .int .u32 c, .int .u32 d, .int .u32 e] := hX 3 3 (by kernel_rfl)
    have e4 : X 4 = .slice (some ⟨g4, 0, none⟩) blk.length 64 := hX 3 4 (by kernel_rfl)
    refine goes_ Try.func18 (by kernel_rfl) rfl #[X 3, X 4] (by rfl) rfl rfl (by simp only [List.map_toArray, List.map_cons, List.map_nil]; rfl) ?_
    refine calls_args (as' := #[.agg #[.int .u32 a, .int .u32 b1, .int .u32 c, .int .u32 d, .int .u32 e], .slice (some ⟨g4, 0, none⟩) blk.length 64]) (by rw [e3, e4]) ?_
    refine (horologeref09_Step.calls kr a b1 c d e (some ⟨g4, 0, none⟩) 64 blk p0 p1 p2 p3 p4 wx (C_box .u8 blk (by rw [HBL.out]; decide) (blk_below (blk_drew BK4.out) hG)) (by rw [HBL.out]; decide) HRS.out).mono ?_
    rintro e_ w' ⟨he_, hb_⟩
    obtain rfl := he_
    exact ⟨_, rfl, hK.out _ _ _ rfl hb_ rfl⟩
  · have e2 : X 2 = .agg #[.int .u32 p0, .int .u32 p1, .int .u32 p2, .int .u32 p3, .int .u32 p4] := hX 3 2 (by kernel_rfl)
    have e5 : X 5 = .agg #[.int .u32 p0, .int .u32 p1, .int .u32 p2, .int .u32 p3, .int .u32 p4] := hX 3 5 (by kernel_rfl)
    refine val_ (w1 := wx) (v := .bool false) (by rfl) rfl ?_ (hK.out _ _ _ rfl (Below.refl _ _) rfl)
    go_simp
  · have e6 : X 6 = .bool false := hX 3 6 (by kernel_rfl)
    refine val_ (w1 := wx) (v := .bool false) (by rfl) rfl ?_ (hK.out _ _ _ rfl (Below.refl _ _) rfl)
    go_simp
  · have e7 : X 7 = .bool false := hX 3 7 (by kernel_rfl)
    refine val_ (w1 := wx) (v := .agg ((PB (a, b1, c, d, e)).map (Value.int .u8)).toArray) (wanted_of rfl rfl (congrArg some e7)) rfl ?_ (hK.out _ _ _ rfl (Below.refl _ _) rfl)
    exact exec_load_row 25 _ rfl g7 rfl 25 _ (0, 0) _ (blk_below (blk_drew BK7.out) hG) hu25 rfl (by rw [size_map .u8 _ 20 (PB_length _)]; kernel_rfl)
  · have e7 : X 7 = .bool false := hX 3 7 (by kernel_rfl)
    have e8 : X 8 = .agg ((PB (a, b1, c, d, e)).map (Value.int .u8)).toArray := hX 3 8 (by kernel_rfl)
    refine goes_ Try.func9 (by kernel_rfl) rfl #[X 8] (wanted_of rfl rfl (congrArg some e7)) rfl rfl (by simp only [List.map_toArray, List.map_cons, List.map_nil]; rfl) ?_
    refine calls_args (as' := #[.agg ((PB (a, b1, c, d, e)).map (Value.int .u8)).toArray]) (by rw [e8]) ?_
    refine (words_c (a, b1, c, d, e) HU.out wx).mono ?_
    rintro e_ w' ⟨he_, hb_⟩
    obtain rfl := he_
    exact ⟨_, rfl, hK.out _ _ _ rfl hb_ rfl⟩
  · have e7 : X 7 = .bool false := hX 3 7 (by kernel_rfl)
    refine val_ (w1 := wx) (v := .agg #[.int .u32 a, .int .u32 b1, .int .u32 c, .int .u32 d, .int .u32 e]) (wanted_of rfl rfl (congrArg some e7)) rfl ?_ (hK.out _ _ _ rfl (Below.refl _ _) rfl)
    exact exec_load_row 28 _ rfl g3 rfl 28 _ (0, 0) _ (blk_below (blk_drew BK3.out) hG) hu28 rfl (by kernel_rfl)
  · have e7 : X 7 = .bool false := hX 3 7 (by kernel_rfl)
    have e9 : X 9 = .agg #[.int .u32 a, .int .u32 b1, .int .u32 c, .int .u32 d, .int .u32 e] := hX 3 9 (by kernel_rfl)
    have e10 : X 10 = .agg #[.int .u32 a, .int .u32 b1, .int .u32 c, .int .u32 d, .int .u32 e] := hX 3 10 (by kernel_rfl)
    refine val_ (w1 := wx) (v := .bool false) (wanted_of rfl rfl (congrArg some e7)) rfl ?_ (hK.out _ _ _ rfl (Below.refl _ _) rfl)
    go_simp
  · have e7 : X 7 = .bool false := hX 3 7 (by kernel_rfl)
    have e11 : X 11 = .bool false := hX 3 11 (by kernel_rfl)
    refine val_ (w1 := wx) (v := .bool false) (by rfl) rfl ?_ (hK.out _ _ _ rfl (Below.refl _ _) rfl)
    go_simp
  · have e12 : X 12 = .bool false := hX 3 12 (by kernel_rfl)
    refine val_ (w1 := wx) (v := .bool false) (by rfl) rfl ?_ (hK.out _ _ _ rfl (Below.refl _ _) rfl)
    go_simp
  · have e13 : X 13 = .bool false := hX 3 13 (by kernel_rfl)
    have l_ := PB_length (a, b1, c, d, e)
    refine val_ (w1 := wx) (v := .slice (some ⟨g7, 0, none⟩) (PB (a, b1, c, d, e)).length 20) (wanted_of rfl rfl (congrArg some e13)) rfl ?_ (hK.out _ _ _ rfl (Below.refl _ _) rfl)
    go_simp
  · have e13 : X 13 = .bool false := hX 3 13 (by kernel_rfl)
    refine val_ (w1 := wx) (v := .agg #[.int .u32 a, .int .u32 b1, .int .u32 c, .int .u32 d, .int .u32 e]) (wanted_of rfl rfl (congrArg some e13)) rfl ?_ (hK.out _ _ _ rfl (Below.refl _ _) rfl)
    exact exec_load_row 28 _ rfl g3 rfl 28 _ (0, 0) _ (blk_below (blk_drew BK3.out) hG) hu28 rfl (by kernel_rfl)
  · have e13 : X 13 = .bool false := hX 3 13 (by kernel_rfl)
    have e15 : X 15 = .agg #[.int .u32 a, .int .u32 b1, .int .u32 c, .int .u32 d, .int .u32 e] := hX 3 15 (by kernel_rfl)
    refine goes_ Try.func11 (by kernel_rfl) rfl #[X 15] (wanted_of rfl rfl (congrArg some e13)) rfl rfl (by simp only [List.map_toArray, List.map_cons, List.map_nil]; rfl) ?_
    refine calls_args (as' := #[.agg #[.int .u32 a, .int .u32 b1, .int .u32 c, .int .u32 d, .int .u32 e]]) (by rw [e15]) ?_
    refine (rbytes_c (a, b1, c, d, e) HU.out wx).mono ?_
    rintro e_ w' ⟨v_, he_, hr_, hb_⟩
    obtain rfl := he_
    obtain ⟨A_, c_, rfl, hc_, hC_⟩ := Kd.R_reads hr_
    exact ⟨_, rfl, hK.out _ _ _ rfl hb_ ⟨A_, c_, rfl, hc_, hC_⟩⟩
  · have e13 : X 13 = .bool false := hX 3 13 (by kernel_rfl)
    have e14 : X 14 = .slice (some ⟨g7, 0, none⟩) (PB (a, b1, c, d, e)).length 20 := hX 3 14 (by kernel_rfl)
    have f16 := hX 3 16 (by kernel_rfl)
    obtain ⟨A_, c_, e16, hc_, hC_⟩ := f16
    refine goes_ Try.func10 (by kernel_rfl) rfl #[X 14, X 16] (wanted_of rfl rfl (congrArg some e13)) rfl rfl (by simp only [List.map_toArray, List.map_cons, List.map_nil]; rfl) ?_
    refine (calls_args (as' := #[.slice (some ⟨g7, 0, none⟩) (PB (a, b1, c, d, e)).length 20, .slice A_ (PB (a, b1, c, d, e)).length c_]) (by rw [e14, e16]) (horologenum_Bytes.calls (some ⟨g7, 0, none⟩) 20 (PB (a, b1, c, d, e)) A_ c_ (PB (a, b1, c, d, e)) true wx (C_box .u8 (PB (a, b1, c, d, e)) (by rw [PB_length]; decide) (blk_below (blk_drew BK7.out) hG)) (by rw [PB_length]; decide) hC_ hc_ (bytes_same _))).mono ?_
    rintro e_ w' ⟨rfl, ⟨⟨m_, rfl⟩⟩⟩
    exact ⟨_, rfl, hK.out _ _ _ rfl (pw_below_drewN (Below.refl _ _) m_) rfl⟩
  · have e13 : X 13 = .bool false := hX 3 13 (by kernel_rfl)
    have e17 : X 17 = .bool true := hX 3 17 (by kernel_rfl)
    refine val_ (w1 := wx) (v := .bool false) (wanted_of rfl rfl (congrArg some e13)) rfl ?_ (hK.out _ _ _ rfl (Below.refl _ _) rfl)
    go_simp
  · have e13 : X 13 = .bool false := hX 3 13 (by kernel_rfl)
    have e18 : X 18 = .bool false := hX 3 18 (by kernel_rfl)
    refine val_ (w1 := wx) (v := .bool false) (by rfl) rfl ?_ (hK.out _ _ _ rfl (Below.refl _ _) rfl)
    go_simp
  intro X wx hG hX
  refine tail_done (by kernel_rfl) ?_
  have e19 : X 19 = .bool false := hX 19 (by decide)
  rw [e19]
  have HX := Aside0.mk (below_step HB.out hG)
  clear hX e19 hG BK3 BK4 BK7 HB
  by_cases hneg : n < 0
  · have d1 : decide (n < 0) = true := decide_eq_true hneg
    have hblk : sha1_Blocks.f n = some 0 := by unfold sha1_Blocks.f; rw [if_pos hneg]
    have HBK := Aside0.mk hblk
    clear hblk
    go_wp2_with (go_at_call 14; refine (sha1_Blocks.calls _ _ _ HBK.out).mono ?_; rintro e_ w' ⟨rfl, ⟨⟨m1, rfl⟩⟩⟩)
    go_ret
    exact ⟨rfl, pw_below_drewN HX.out _⟩
  · obtain ⟨N, rfl⟩ := Int.eq_ofNat_of_zero_le (show 0 ≤ n by omega)
    have hN : N ≤ 9223372036854775807 := by have := HN.out; unfold I64 at this; omega
    have d1 : decide ((N : Int) < 0) = false := decide_eq_false hneg
    have HBK := Aside0.mk (blocks_is N hN)
    obtain ⟨q, hq⟩ : ∃ q, N / 64 = q := ⟨_, rfl⟩
    obtain ⟨r, hr⟩ : ∃ r, N % 64 = r := ⟨_, rfl⟩
    rw [hq] at HBK
    have t1 : Int.tdiv (N : Int) 64 = (q : Int) := by rw [Int.tdiv_eq_ediv_of_nonneg (by omega)]; omega
    have t2 : Int.tmod (N : Int) 64 = (r : Int) := by rw [Int.tmod_eq_emod_of_nonneg (by omega)]; omega
    have y0 : wrap64 (q : Int) = (q : Int) := by unfold wrap64; omega
    have y1 : wrap64 ((q : Int) + 1) = (q : Int) + 1 := by unfold wrap64; omega
    have y2 : wrap64 ((q : Int) - 1) = (q : Int) - 1 := by unfold wrap64; omega
    by_cases h56 : r < 56
    · have hm : MB N = 1 := by unfold MB; rw [hr, if_pos h56]
      rw [hm] at HBK
      have u1 : wrap64 ((q : Int) + 1 - 1) = (q : Int) := by unfold wrap64; omega
      have u2 : wrap64 ((q : Int) + 1 - 2) = (q : Int) - 1 := by unfold wrap64; omega
      have u3 : ((q + 1 : Nat) : Int) = (q : Int) + 1 := by omega
      have v1 : decide ((q : Int) + 1 ≥ 1) = true := decide_eq_true (by omega)
      have v2 : decide ((r : Int) ≤ 55) = true := decide_eq_true (by omega)
      have v3 : decide ((q : Int) ≥ (q : Int) - 1) = true := decide_eq_true (by omega)
      have v4 : decide ((q : Int) ≤ (q : Int)) = true := decide_eq_true (by omega)
      clear hm hq hr h56 hN hneg
      go_wp2_with (go_at_call 14; refine (sha1_Blocks.calls _ _ _ HBK.out).mono ?_; rintro e_ w' ⟨rfl, ⟨⟨m1, rfl⟩⟩⟩; rw [u3])
      go_ret
      exact ⟨rfl, pw_below_drewN HX.out _⟩
    · have hm : MB N = 2 := by unfold MB; rw [hr, if_neg h56]
      rw [hm] at HBK
      have u1 : wrap64 ((q : Int) + 2 - 1) = (q : Int) + 1 := by unfold wrap64; omega
      have u2 : wrap64 ((q : Int) + 2 - 2) = (q : Int) := by unfold wrap64; omega
      have u3 : ((q + 2 : Nat) : Int) = (q : Int) + 2 := by omega
      have v1 : decide ((q : Int) + 2 ≥ 1) = true := decide_eq_true (by omega)
      have v2 : decide ((r : Int) ≤ 55) = false := decide_eq_false (by omega)
      have v3 : decide ((q : Int) ≥ (q : Int)) = true := decide_eq_true (by omega)
      have v4 : decide ((q : Int) ≤ (q : Int) + 1) = true := decide_eq_true (by omega)
      have v5 : ((q : Int) == (q : Int) + 1) = false := by simp; omega
      have v6 : decide ((q : Int) = (q : Int) + 1) = false := decide_eq_false (by omega)
      clear hm hq hr h56 hN hneg
      go_wp2_with (go_at_call 14; refine (sha1_Blocks.calls _ _ _ HBK.out).mono ?_; rintro e_ w' ⟨rfl, ⟨⟨m1, rfl⟩⟩⟩; rw [u3])
      go_ret
      exact ⟨rfl, pw_below_drewN HX.out _⟩
theorem steps_row (w : World) (l0 l1 : List Int) (n : Int) (e0 : l0.length = 5) (w0 : ∀ x ∈ l0, (Lit.int .u32 x).wf = true) (e1 : l1.length = 64) (w1 : ∀ x ∈ l1, (Lit.int .u8 x).wf = true) (w2 : (Lit.int .i64 n).wf = true) :
    Calls Try.prog 4 #[.agg (l0.map (.int .u32)).toArray, .agg (l1.map (.int .u8)).toArray, .int .i64 n] w fun e w' => e = .returned (.bool true) ∧ Below w.heap.size w w' := by
  match l0, e0 with
  | [a, b, c, d, e], _ =>
    have h32 : ∀ x ∈ [a, b, c, d, e], B32 x := fun x hx => by have := bounds_u32 (w0 x hx); unfold B32; omega
    refine sha1steps_c w a b c d e ⟨h32 a (by simp), h32 b (by simp), h32 c (by simp), h32 d (by simp), h32 e (by simp)⟩ l1 e1 (byte_of_mem (fun x hx => bounds_u8 (w1 x hx))) n (i64_of w2)
end Go.Proofs.Ytjffbdgidddbjaa
