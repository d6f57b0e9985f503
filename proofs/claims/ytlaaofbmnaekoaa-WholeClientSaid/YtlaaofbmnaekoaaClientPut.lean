/- A head's bytes (written by gen_put.py). -/
import Derived.Test.YtlaaofbmnaekoaaClientParse
namespace Go.Proofs.Ytlaaofbmnaekoaa.MWholeClient
open Go.RowKit Go.Proofs.YtlaaofbmnaekoaaW.PrintWords Go.Proofs.YtlaaofbmnaekoaaW.PrintLast Go.Proofs.YtlaaofbmnaekoaaW.PrintMore Go.Proofs.Ytlaaofbmnaekoaa.Base
set_option linter.unusedVariables false
set_option linter.unusedSimpArgs false

theorem noT_ {p : Prop} : (true = false → p) := fun h => by cases h
def LK (L : Nat → List Int) : Nat → List Int
  | 0 => []
  | k + 1 => LK L k ++ L k
section
variable {ops : Array Oper} {rest : List Oper} {o : Oper} {a : Act} {Q : Exit → Act → World → Prop} {Kc : Act → World → Prop} {w0 W : World}
theorem app_step (base : Nat) (hw : Region.wanted o (yielded ops a.tmps) = true) (s x : Operand) (ho : o.op = .call { callee := .builtin .append, args := #[s, x], argTypes := #[39, 39] }) (v : Value) (xs ys : List Int) (A : Option Addr) (c : Nat)
    (hs : a.eval s = v) (hx : a.eval x = .slice A ys.length c) (HO : Kd.R (Kd.int .u8) 5 W base (fun _ => True) v xs) (HC : Kd.C (Kd.int .u8) W A ys.length ys) (HB : Below base w0 W) (hbase : base ≤ W.heap.size) (hl : xs.length + ys.length ≤ 1000000)
    (h : ∀ v1 w1, Kd.R (Kd.int .u8) 5 w1 base (fun _ => True) v1 (xs ++ ys) → Below base w0 w1 → Kc (a.put o.dst v1) w1) :
    if Region.wanted o (yielded ops a.tmps) = true then Oper.wp Try.prog o a W Kc Q else Kc (a.put o.dst undef) W :=
  Kd.R_append_rows_step (Kd.int .u8) (w0 := w0) base hw s x 39 5 (.int .u8 0) 1 ho Try.underlying39 (by kernel_rfl) rfl (by decide) (by omega) v xs ys A _ c (fun _ => True) (fun _ => False) hs hx HO HC (fun _ _ h => h) (fun _ h => h.elim) (fun _ _ => trivial) HB hbase (by omega) (fun v1 w1 h1 h2 _ _ => h v1 w1 h1 h2)
theorem app_plain (base : Nat) (hgd : o.guard = none) (s x : Operand) (ho : o.op = .call { callee := .builtin .append, args := #[s, x], argTypes := #[39, 39] }) (v : Value) (xs ys : List Int) (A : Option Addr) (c : Nat)
    (hs : a.eval s = v) (hx : a.eval x = .slice A ys.length c) (HO : Kd.R (Kd.int .u8) 5 W base (fun _ => True) v xs) (HC : Kd.C (Kd.int .u8) W A ys.length ys) (HB : Below base w0 W) (hbase : base ≤ W.heap.size) (hl : xs.length + ys.length ≤ 1000000)
    (h : ∀ v1 w1, Kd.R (Kd.int .u8) 5 w1 base (fun _ => True) v1 (xs ++ ys) → Below base w0 w1 → wpList Try.prog ops Q rest (a.put o.dst v1) w1) : wpList Try.prog ops Q (o :: rest) a W :=
  Kd.R_append_rows (Kd.int .u8) (w0 := w0) base hgd s x 39 5 (.int .u8 0) 1 ho Try.underlying39 (by kernel_rfl) rfl (by decide) (by omega) v xs ys A _ c (fun _ => True) (fun _ => False) hs hx HO HC (fun _ _ h => h) (fun _ h => h.elim) (fun _ _ => trivial) HB hbase (by omega) (fun v1 w1 h1 h2 _ _ => h v1 w1 h1 h2)
end
theorem shl36 (w : World) : (Op.shift .shl .i64 3 .u64 6).run Try.prog w = .ok (.int .i64 192) w := by
  first | rfl | (simp [Op.shift]; done) | (unfold Op.shift; simp; rfl)
theorem shl43 (w : World) : (Op.shift .shl .i64 4 .u64 3).run Try.prog w = .ok (.int .i64 32) w := by
  first | rfl | (simp [Op.shift]; done) | (unfold Op.shift; simp; rfl)
theorem sl51 (b o : Nat) (w : World) : (Instr.sliceAt 51 (.pointer (some ⟨b, o, none⟩)) none none none).run Try.prog w = .ok (.slice (some ⟨b, o, none⟩) 4 4) w := by
  unfold Instr.sliceAt
  simp [Sem.run_bind, run_underlying Try.underlying51, Instr.sureAddr, Instr.sliceBounds, size_one (e := 5) (by kernel_rfl), Addr.add]
theorem lit_R (w : World) (base : Nat) (hb : base ≤ w.heap.size) (a b c d : Int) : Kd.R (Kd.int .u8) 5 (w.alloc (.cells #[.int .u8 a, .int .u8 b, .int .u8 c, .int .u8 d] 5)) base (fun _ => True) (.slice (some ⟨w.heap.size, 0, none⟩) 4 4) [a, b, c, d] := by
  have h2 := World.ownsRow_lit (base := base) (e := 5) (size := 1) w #[.int .u8 a, .int .u8 b, .int .u8 c, .int .u8 d] 4 hb (by decide) rfl
  exact Kd.R_of_own (enc := Value.int .u8) (h1 := fun _ => rfl) (xs := [a, b, c, d]) h2 (fun _ _ => trivial)
theorem C4 {W : World} {b : Nat} {cs : Array Value} {t : TypeId} (h : W.heap[b]? = some (.cells cs t (0, 0))) (j : Nat) (p q r s : Int) (h0 : cs[j]? = some (.int .u8 p)) (h1 : cs[j + 1]? = some (.int .u8 q)) (h2 : cs[j + 2]? = some (.int .u8 r)) (h3 : cs[j + 3]? = some (.int .u8 s)) :
    Kd.C (Kd.int .u8) W (some ⟨b, j, none⟩) [p, q, r, s].length [p, q, r, s] := by
  refine Kd.C_of_reads (enc := Value.int .u8) (d := (0 : Int)) ⟨rfl, by simp, fun _ => ⟨_, rfl, fun i hi => ?_⟩⟩
  rw [Addr.add_mid, blk_cell h]
  match i, hi with
  | 0, _ => exact h0
  | 1, _ => exact h1
  | 2, _ => exact h2
  | 3, _ => exact h3
  | i + 4, hi => simp at hi; omega
set_option maxHeartbeats 16000000 in
set_option maxRecDepth 100000 in
theorem put_c (w : World) (kk : Nat) (x : HD) (b2 b3 : Int) (ds es : List Int) (L : Nat → List Int) (hck : head_Check.f kk x.lp x.vn x.md x.st x.pl x.pr x.d0 x.d1 x.e0 x.e1 x.r0 x.r1 x.r2 x.r3 x.a0 x.a1 x.b0 x.b1 x.c0 x.c1 x.t0 x.t1 = some none) (e1 : x.lp = 3) (e2 : x.vn = 4) (e3 : x.md = 4) (h2 : IntKind.u8.wrap x.pl = b2) (h3 : IntKind.u8.wrap x.pr = b3)
    (hds : stamp_ShortBytes.f kk x.d0 x.d1 = some ds) (hes : stamp_ShortBytes.f kk x.e0 x.e1 = some es) (hL : ∀ k : Nat, k < 4 → stamp_Bytes.f kk (x.sp k).1 (x.sp k).2 = some (L k)) (hld : ds.length ≤ 100) (hle : es.length ≤ 100) (hlL : ∀ k, k < 4 → (L k).length ≤ 100) :
    Calls Try.prog 31 #[.agg x.cs] w fun e w' => ∃ v, e = .returned (.tuple #[v, .nilIface]) ∧ Kd.R (Kd.int .u8) 5 w' w.heap.size (fun _ => True) v ([228, x.st, b2, b3] ++ ds ++ es ++ [x.r0, x.r1, x.r2, x.r3] ++ LK L 4) ∧ Below w.heap.size w w' := by
  have HCK := Aside0.mk hck
  have HDS := Aside0.mk hds
  have HES := Aside0.mk hes
  have HL := Aside0.mk hL
  have LD := Aside0.mk hld
  have LE := Aside0.mk hle
  have LL := Aside0.mk hlL
  clear hck hds hes hL hld hle hlL
  go_enter Try.func31, Try.ntmps31
  go_upto_region 4 with (first | ((with_reducible refine gate_dst (N := 1) rfl ?_); refine box_event ?hg (N := 1) ?hd (cs := x.cs) (t := 53) ?hr ?_; (case hd => rfl); (case hg => rfl); (case hr => go_simp; try rfl); intro b1 hg_ wb hx_ hb_; have G1 := Aside0.mk hg_; have H1 := Aside0.mk hb_; have B1 := Aside0.mk hx_; clear hg_ hx_ hb_) | ((with_reducible refine gate_dst (N := 8) rfl ?_); refine load_part rfl 53 _ rfl b1 0 rfl x.cs 53 x.cs B1.out (by rfl) _ Try.underlying53 rfl (by kernel_rfl) ?_) | (go_at_call 52; refine (head_Check.calls kk x.lp x.vn x.md x.st x.pl x.pr x.d0 x.d1 x.e0 x.e1 x.r0 x.r1 x.r2 x.r3 x.a0 x.a1 x.b0 x.b1 x.c0 x.c1 x.t0 x.t1 none _ HCK.out).mono ?_; rintro e_ w2 ⟨rfl, hb_⟩; have K2 := Aside0.mk hb_; clear hb_; (try simp only [errW_none])) | fail)
  have BW := Aside0.mk (blk_below B1.out K2.out)
  have y0 := (blk_cell BW.out 0).trans (show x.cs[0]? = some (.int .i64 x.lp) from rfl)
  have y1 := (blk_cell BW.out 1).trans (show x.cs[1]? = some (.int .i64 x.vn) from rfl)
  have y2 := (blk_cell BW.out 2).trans (show x.cs[2]? = some (.int .i64 x.md) from rfl)
  have y3 := (blk_cell BW.out 3).trans (show x.cs[3]? = some (.int .u8 x.st) from rfl)
  have y4 := (blk_cell BW.out 4).trans (show x.cs[4]? = some (.int .i8 x.pl) from rfl)
  have y5 := (blk_cell BW.out 5).trans (show x.cs[5]? = some (.int .i8 x.pr) from rfl)
  rw [e1] at y0
  rw [e2] at y1
  rw [e3] at y2
  have sh1 := shl36
  have sh2 := shl43
  have hb0 : Go.bits .or .i64 (Go.bits .or .i64 192 32) 4 % 256 = 228 := by rfl
  clear e1 e2 e3
  go_upto_region 5 with (fail)
  have R0 := Aside0.mk (lit_R w2 wb.heap.size K2.out.size 228 x.st b2 b3)
  have K3 := Aside0.mk (show Below wb.heap.size wb (w2.alloc (.cells #[.int .u8 228, .int .u8 x.st, .int .u8 b2, .int .u8 b3] 5)) from below_alloc K2.out _)
  generalize w2.alloc (.cells #[.int .u8 228, .int .u8 x.st, .int .u8 b2, .int .u8 b3] 5) = w3 at R0 K3 ⊢
  generalize (.slice (some ⟨w2.heap.size, 0, none⟩) 4 4 : Value) = v5 at R0 ⊢
  clear y0 y1 y2 y3 y4 y5 sh1 sh2 hb0 h2 h3 BW
  have Y6 := Aside0.mk ((blk_cell B1.out 6).trans (show x.cs[6]? = some (.int .u16 x.d0) from rfl))
  have Y7 := Aside0.mk ((blk_cell B1.out 7).trans (show x.cs[7]? = some (.int .u16 x.d1) from rfl))
  have Y8 := Aside0.mk ((blk_cell B1.out 8).trans (show x.cs[8]? = some (.int .u16 x.e0) from rfl))
  have Y9 := Aside0.mk ((blk_cell B1.out 9).trans (show x.cs[9]? = some (.int .u16 x.e1) from rfl))
  refine region_inv (T := ?T5) [some 33, some 34, some 35, some 36, some 37, some 38, some 39, some 40, some 41, some 5] ?hT5 (fun dn_ X w_ => Below wb.heap.size wb w_ ∧ (dn_ 4 = false → Kd.R (Kd.int .u8) 5 w_ wb.heap.size (fun _ => True) v5 [228, x.st, b2, b3]) ∧ (dn_ 9 = false → X 9 = v5) ∧ (dn_ 0 = true → (X 0 = v5)) ∧ (dn_ 1 = true → X 1 = .pointer (some ⟨b1, 6, none⟩)) ∧ (dn_ 2 = true → X 2 = .agg #[.int .u16 x.d0, .int .u16 x.d1]) ∧ (dn_ 3 = true → (dn_ 4 = false → ∃ A_ c_, X 3 = .slice A_ ds.length c_ ∧ Kd.C (Kd.int .u8) w_ A_ ds.length ds)) ∧ (dn_ 4 = true → (dn_ 8 = false → ∃ v_, X 4 = v_ ∧ Kd.R (Kd.int .u8) 5 w_ wb.heap.size (fun _ => True) v_ ([228, x.st, b2, b3] ++ ds))) ∧ (dn_ 5 = true → X 5 = .pointer (some ⟨b1, 8, none⟩)) ∧ (dn_ 6 = true → X 6 = .agg #[.int .u16 x.e0, .int .u16 x.e1]) ∧ (dn_ 7 = true → (dn_ 4 = true ∧ (dn_ 8 = false → ∃ A_ c_, X 7 = .slice A_ es.length c_ ∧ Kd.C (Kd.int .u8) w_ A_ es.length es))) ∧ (dn_ 8 = true → (dn_ 4 = true ∧ ∃ v_, X 8 = v_ ∧ Kd.R (Kd.int .u8) 5 w_ wb.heap.size (fun _ => True) v_ (([228, x.st, b2, b3] ++ ds) ++ es))) ∧ (dn_ 9 = true → (dn_ 0 = true ∧ dn_ 8 = true ∧ X 9 = X 8))) (by kernel_rfl) (by kernel_rfl) (by rfl) [0, 1, 2, 3, 4, 5, 6, 7, 8, 9] rfl (.cons (some 33) rfl rfl (fun dn_ X w_ hd0_ hd_ hI_ K hK => ?_) (.cons (some 34) rfl rfl (fun dn_ X w_ hd0_ hd_ hI_ K hK => ?_) (.cons (some 35) rfl rfl (fun dn_ X w_ hd0_ hd_ hI_ K hK => ?_) (.cons (some 36) rfl rfl (fun dn_ X w_ hd0_ hd_ hI_ K hK => ?_) (.cons (some 37) rfl rfl (fun dn_ X w_ hd0_ hd_ hI_ K hK => ?_) (.cons (some 38) rfl rfl (fun dn_ X w_ hd0_ hd_ hI_ K hK => ?_) (.cons (some 39) rfl rfl (fun dn_ X w_ hd0_ hd_ hI_ K hK => ?_) (.cons (some 40) rfl rfl (fun dn_ X w_ hd0_ hd_ hI_ K hK => ?_) (.cons (some 41) rfl rfl (fun dn_ X w_ hd0_ hd_ hI_ K hK => ?_) (.cons (some 5) rfl rfl (fun dn_ X w_ hd0_ hd_ hI_ K hK => ?_) .nil)))))))))) ?h05 ?hend5
  case hT5 =>
    intro X
    simp only [fill, Act.put, List.setIfInBounds_toArray, List.set_cons_zero, List.set_cons_succ, Nat.zero_add, Nat.reduceAdd]
    rfl
  case h05 =>
    exact ⟨below_step K3.out (below_drew (Below.refl _ _)), fun _ => Kd.R_below R0.out (below_drew (Below.refl _ _)), fun _ => rfl, noF_, noF_, noF_, noF_, noF_, noF_, noF_, noF_, noF_, noF_⟩
  · -- 0
    have wB := hI_.1
    have hR0 := hI_.2.1
    have hX9 := hI_.2.2.1
    have h0 := hI_.2.2.2.1
    have h1 := hI_.2.2.2.2.1
    have h2 := hI_.2.2.2.2.2.1
    have h3 := hI_.2.2.2.2.2.2.1
    have h4 := hI_.2.2.2.2.2.2.2.1
    have h5 := hI_.2.2.2.2.2.2.2.2.1
    have h6 := hI_.2.2.2.2.2.2.2.2.2.1
    have h7 := hI_.2.2.2.2.2.2.2.2.2.2.1
    have h8 := hI_.2.2.2.2.2.2.2.2.2.2.2.1
    have h9 := hI_.2.2.2.2.2.2.2.2.2.2.2.2
    cases h9_ : dn_ 9 with
    | true => exact absurd (h9 h9_).1 (by rw [hd0_]; decide)
    | false =>
      have e_ := hX9 h9_
      refine val_ (w1 := w_) (v := v5) (by rfl) rfl ?_ (hK.out _ _ _ rfl ⟨wB, hR0, hX9, (fun _ => rfl), h1, h2, h3, h4, h5, h6, h7, h8, (fun d_ => absurd (h9 d_).1 (by rw [hd0_]; decide))⟩)
      go_simp
      all_goals (first | decide | rfl)
  · -- 1
    refine val_ (w1 := w_) (v := .pointer (some ⟨b1, 6, none⟩)) (by rfl) rfl ?_ (hK.out _ _ _ rfl ⟨hI_.1, hI_.2.1, hI_.2.2.1, hI_.2.2.2.1, (fun _ => rfl), hI_.2.2.2.2.2.1, hI_.2.2.2.2.2.2.1, hI_.2.2.2.2.2.2.2.1, hI_.2.2.2.2.2.2.2.2.1, hI_.2.2.2.2.2.2.2.2.2.1, hI_.2.2.2.2.2.2.2.2.2.2.1, hI_.2.2.2.2.2.2.2.2.2.2.2.1, hI_.2.2.2.2.2.2.2.2.2.2.2.2⟩)
    go_simp
    all_goals (first | decide | rfl)
  · -- 2
    have wB := hI_.1
    have e1 := hI_.2.2.2.2.1 (hd_ 1 1 (by kernel_rfl))
    have z6_ := (wB.cell (World.block_lt_of_cell? wb _ Y6.out)).trans Y6.out
    have z7_ := (wB.cell (World.block_lt_of_cell? wb _ Y7.out)).trans Y7.out
    refine val_ (w1 := w_) (v := .agg #[.int .u16 x.d0, .int .u16 x.d1]) (by rfl) rfl ?_ (hK.out _ _ _ rfl ⟨hI_.1, hI_.2.1, hI_.2.2.1, hI_.2.2.2.1, hI_.2.2.2.2.1, (fun _ => rfl), hI_.2.2.2.2.2.2.1, hI_.2.2.2.2.2.2.2.1, hI_.2.2.2.2.2.2.2.2.1, hI_.2.2.2.2.2.2.2.2.2.1, hI_.2.2.2.2.2.2.2.2.2.2.1, hI_.2.2.2.2.2.2.2.2.2.2.2.1, hI_.2.2.2.2.2.2.2.2.2.2.2.2⟩)
    go_simp
    all_goals (first | decide | rfl)
  · -- 3
    have wB := hI_.1
    have hR0 := hI_.2.1
    have hX9 := hI_.2.2.1
    have h0 := hI_.2.2.2.1
    have h1 := hI_.2.2.2.2.1
    have h2 := hI_.2.2.2.2.2.1
    have h3 := hI_.2.2.2.2.2.2.1
    have h4 := hI_.2.2.2.2.2.2.2.1
    have h5 := hI_.2.2.2.2.2.2.2.2.1
    have h6 := hI_.2.2.2.2.2.2.2.2.2.1
    have h7 := hI_.2.2.2.2.2.2.2.2.2.2.1
    have h8 := hI_.2.2.2.2.2.2.2.2.2.2.2.1
    have h9 := hI_.2.2.2.2.2.2.2.2.2.2.2.2
    have e2 := h2 (hd_ 1 2 (by kernel_rfl))
    refine goes_ Try.func53 (by kernel_rfl) rfl #[X 2] (by rfl) rfl rfl (by simp only [List.map_toArray, List.map_cons, List.map_nil]; rfl) ?_
    refine calls_args (args1 e2) ?_
    refine (stamp_ShortBytes.calls kk _ _ ds w_ HDS.out).mono ?_
    rintro e_ w' ⟨v_, rfl, hr_, hb_⟩
    obtain ⟨A_, c_, rfl⟩ := Kd.R_slice hr_
    have hc_ := (Kd.R_reads' hr_).2.2
    exact ⟨_, rfl, hK.out _ _ _ rfl ⟨(below_step wB hb_), (fun q_ => Kd.R_below (hR0 q_) hb_), hX9, h0, h1, h2, (fun _ _ => ⟨A_, c_, rfl, hc_⟩), (fun d_ q_ => let ⟨v_, x_, y_⟩ := h4 d_ q_; ⟨v_, x_, Kd.R_below y_ hb_⟩), h5, h6, (fun d_ => ⟨(h7 d_).1, fun q_ => let ⟨A_, c_, x_, y_⟩ := (h7 d_).2 q_; ⟨A_, c_, x_, Kd.C_below y_ hb_⟩⟩), (fun d_ => ⟨(h8 d_).1, let ⟨v_, x_, y_⟩ := (h8 d_).2; ⟨v_, x_, Kd.R_below y_ hb_⟩⟩), h9⟩⟩
  · -- 4
    have wB := hI_.1
    have hR0 := hI_.2.1
    have hX9 := hI_.2.2.1
    have h0 := hI_.2.2.2.1
    have h1 := hI_.2.2.2.2.1
    have h2 := hI_.2.2.2.2.2.1
    have h3 := hI_.2.2.2.2.2.2.1
    have h4 := hI_.2.2.2.2.2.2.2.1
    have h5 := hI_.2.2.2.2.2.2.2.2.1
    have h6 := hI_.2.2.2.2.2.2.2.2.2.1
    have h7 := hI_.2.2.2.2.2.2.2.2.2.2.1
    have h8 := hI_.2.2.2.2.2.2.2.2.2.2.2.1
    have h9 := hI_.2.2.2.2.2.2.2.2.2.2.2.2
    have e0 := h0 (hd_ 1 0 (by kernel_rfl))
    have e3 := h3 (hd_ 1 3 (by kernel_rfl))
    have hz0_ : dn_ 4 = false := hd0_
    obtain ⟨A_, c_, e3, hc_⟩ := h3 (hd_ 1 3 (by kernel_rfl)) hz0_
    refine app_step (w0 := wb) wb.heap.size (by rfl) _ _ rfl v5 [228, x.st, b2, b3] ds A_ c_ ?_ ?_ (hR0 hz0_) hc_ wB wB.size (by have q_ := LD.out; simp only [List.length_cons, List.length_nil]; omega) ?_
    · exact e0
    · exact e3
    intro v1 w1 hr_ hb_
    exact hK.out _ _ _ rfl ⟨hb_, noT_, hX9, h0, h1, h2, (fun _ => noT_), (fun _ _ => ⟨v1, rfl, hr_⟩), h5, h6, (fun d_ => absurd ((h7 d_).1) (by rw [hz0_]; decide)), (fun d_ => absurd ((h8 d_).1) (by rw [hz0_]; decide)), h9⟩
  · -- 5
    refine val_ (w1 := w_) (v := .pointer (some ⟨b1, 8, none⟩)) (by rfl) rfl ?_ (hK.out _ _ _ rfl ⟨hI_.1, hI_.2.1, hI_.2.2.1, hI_.2.2.2.1, hI_.2.2.2.2.1, hI_.2.2.2.2.2.1, hI_.2.2.2.2.2.2.1, hI_.2.2.2.2.2.2.2.1, (fun _ => rfl), hI_.2.2.2.2.2.2.2.2.2.1, hI_.2.2.2.2.2.2.2.2.2.2.1, hI_.2.2.2.2.2.2.2.2.2.2.2.1, hI_.2.2.2.2.2.2.2.2.2.2.2.2⟩)
    go_simp
    all_goals (first | decide | rfl)
  · -- 6
    have wB := hI_.1
    have e5 := hI_.2.2.2.2.2.2.2.2.1 (hd_ 1 5 (by kernel_rfl))
    have z8_ := (wB.cell (World.block_lt_of_cell? wb _ Y8.out)).trans Y8.out
    have z9_ := (wB.cell (World.block_lt_of_cell? wb _ Y9.out)).trans Y9.out
    refine val_ (w1 := w_) (v := .agg #[.int .u16 x.e0, .int .u16 x.e1]) (by rfl) rfl ?_ (hK.out _ _ _ rfl ⟨hI_.1, hI_.2.1, hI_.2.2.1, hI_.2.2.2.1, hI_.2.2.2.2.1, hI_.2.2.2.2.2.1, hI_.2.2.2.2.2.2.1, hI_.2.2.2.2.2.2.2.1, hI_.2.2.2.2.2.2.2.2.1, (fun _ => rfl), hI_.2.2.2.2.2.2.2.2.2.2.1, hI_.2.2.2.2.2.2.2.2.2.2.2.1, hI_.2.2.2.2.2.2.2.2.2.2.2.2⟩)
    go_simp
    all_goals (first | decide | rfl)
  · -- 7
    have wB := hI_.1
    have hR0 := hI_.2.1
    have hX9 := hI_.2.2.1
    have h0 := hI_.2.2.2.1
    have h1 := hI_.2.2.2.2.1
    have h2 := hI_.2.2.2.2.2.1
    have h3 := hI_.2.2.2.2.2.2.1
    have h4 := hI_.2.2.2.2.2.2.2.1
    have h5 := hI_.2.2.2.2.2.2.2.2.1
    have h6 := hI_.2.2.2.2.2.2.2.2.2.1
    have h7 := hI_.2.2.2.2.2.2.2.2.2.2.1
    have h8 := hI_.2.2.2.2.2.2.2.2.2.2.2.1
    have h9 := hI_.2.2.2.2.2.2.2.2.2.2.2.2
    have e6 := h6 (hd_ 1 6 (by kernel_rfl))
    refine goes_ Try.func53 (by kernel_rfl) rfl #[X 6] (by rfl) rfl rfl (by simp only [List.map_toArray, List.map_cons, List.map_nil]; rfl) ?_
    refine calls_args (args1 e6) ?_
    refine (stamp_ShortBytes.calls kk _ _ es w_ HES.out).mono ?_
    rintro e_ w' ⟨v_, rfl, hr_, hb_⟩
    obtain ⟨A_, c_, rfl⟩ := Kd.R_slice hr_
    have hc_ := (Kd.R_reads' hr_).2.2
    exact ⟨_, rfl, hK.out _ _ _ rfl ⟨(below_step wB hb_), (fun q_ => Kd.R_below (hR0 q_) hb_), hX9, h0, h1, h2, (fun d_ q_ => let ⟨A_, c_, x_, y_⟩ := h3 d_ q_; ⟨A_, c_, x_, Kd.C_below y_ hb_⟩), (fun d_ q_ => let ⟨v_, x_, y_⟩ := h4 d_ q_; ⟨v_, x_, Kd.R_below y_ hb_⟩), h5, h6, (fun _ => ⟨hd_ 1 4 (by kernel_rfl), fun _ => ⟨A_, c_, rfl, hc_⟩⟩), (fun d_ => ⟨(h8 d_).1, let ⟨v_, x_, y_⟩ := (h8 d_).2; ⟨v_, x_, Kd.R_below y_ hb_⟩⟩), h9⟩⟩
  · -- 8
    have wB := hI_.1
    have hR0 := hI_.2.1
    have hX9 := hI_.2.2.1
    have h0 := hI_.2.2.2.1
    have h1 := hI_.2.2.2.2.1
    have h2 := hI_.2.2.2.2.2.1
    have h3 := hI_.2.2.2.2.2.2.1
    have h4 := hI_.2.2.2.2.2.2.2.1
    have h5 := hI_.2.2.2.2.2.2.2.2.1
    have h6 := hI_.2.2.2.2.2.2.2.2.2.1
    have h7 := hI_.2.2.2.2.2.2.2.2.2.2.1
    have h8 := hI_.2.2.2.2.2.2.2.2.2.2.2.1
    have h9 := hI_.2.2.2.2.2.2.2.2.2.2.2.2
    have e4 := h4 (hd_ 1 4 (by kernel_rfl))
    have e7 := h7 (hd_ 1 7 (by kernel_rfl))
    have hz0_ : dn_ 8 = false := hd0_
    have dc_ := hd_ 1 4 (by kernel_rfl)
    obtain ⟨v_, e4, hr4_⟩ := h4 dc_ hz0_
    obtain ⟨A_, c_, e7, hc_⟩ := (h7 (hd_ 1 7 (by kernel_rfl))).2 hz0_
    refine app_step (w0 := wb) wb.heap.size (by rfl) _ _ rfl v_ ([228, x.st, b2, b3] ++ ds) es A_ c_ ?_ ?_ hr4_ hc_ wB wB.size (by have q_ := LD.out; have q2_ := LE.out; simp only [List.length_append, List.length_cons, List.length_nil]; omega) ?_
    · exact e4
    · exact e7
    intro v1 w1 hr_ hb_
    exact hK.out _ _ _ rfl ⟨hb_, (fun q_ => Bool.noConfusion (dc_.symm.trans q_)), hX9, h0, h1, h2, (fun _ q_ => Bool.noConfusion (dc_.symm.trans q_)), (fun _ => noT_), h5, h6, (fun _ => ⟨dc_, noT_⟩), (fun _ => ⟨dc_, v1, rfl, hr_⟩), (fun d_ => absurd (h9 d_).2.1 (by rw [hd0_]; decide))⟩
  · -- 9
    have wB := hI_.1
    have hR0 := hI_.2.1
    have hX9 := hI_.2.2.1
    have h0 := hI_.2.2.2.1
    have h1 := hI_.2.2.2.2.1
    have h2 := hI_.2.2.2.2.2.1
    have h3 := hI_.2.2.2.2.2.2.1
    have h4 := hI_.2.2.2.2.2.2.2.1
    have h5 := hI_.2.2.2.2.2.2.2.2.1
    have h6 := hI_.2.2.2.2.2.2.2.2.2.1
    have h7 := hI_.2.2.2.2.2.2.2.2.2.2.1
    have h8 := hI_.2.2.2.2.2.2.2.2.2.2.2.1
    have h9 := hI_.2.2.2.2.2.2.2.2.2.2.2.2
    have e8 := h8 (hd_ 1 8 (by kernel_rfl))
    have d0_ := hd_ 1 0 (by kernel_rfl)
    have d8_ := hd_ 1 8 (by kernel_rfl)
    obtain ⟨d4_, v_, e8, hr_⟩ := h8 (hd_ 1 8 (by kernel_rfl))
    refine val_ (w1 := w_) (v := v_) (by rfl) rfl ?_ (hK.out _ _ _ rfl ⟨wB, hR0, noT_, h0, h1, h2, h3, h4, h5, h6, h7, h8, (fun _ => ⟨d0_, d8_, e8.symm⟩)⟩)
    go_simp
  intro dn_ X w6 hdn_ hI_
  clear R0 K3
  obtain ⟨wB, hR0, hX9, h0, h1, h2, h3, h4, h5, h6, h7, h8, h9⟩ := hI_
  obtain ⟨_, v6, e8_, hr8_⟩ := h8 (hdn_ 8 (by decide))
  have e9_ := (h9 (hdn_ 9 (by decide))).2.2.trans e8_
  have R2 := Aside0.mk hr8_
  have K6 := Aside0.mk wB
  rw [e9_]
  clear wB hR0 hX9 h0 h1 h2 h3 h4 h5 h6 h7 h8 h9 e8_ e9_ hr8_ hdn_
  have sl := sl51 b1 10
  have LQ : Aside0 ((0 : Nat) = 0) := ⟨rfl⟩
  go_wp2_with (first | ((with_reducible refine gate_builtin (b := .append) (xs := #[.tmp 42, .tmp 44]) rfl ?_); at_builtin; refine app_plain (w0 := wb) wb.heap.size rfl (.tmp 42) (.tmp 44) rfl v6 (([228, x.st, b2, b3] ++ ds) ++ es) [x.r0, x.r1, x.r2, x.r3] (some ⟨b1, 10, none⟩) 4 rfl rfl R2.out (C4 (blk_below B1.out K6.out) 10 x.r0 x.r1 x.r2 x.r3 rfl rfl rfl rfl) K6.out K6.out.size (by have q_ := LD.out; have q2_ := LE.out; have q3_ := LQ.out; simp only [List.length_append, List.length_cons, List.length_nil]; omega) ?_; intro v7 w7 hr_ hb_; have R2 := Aside0.mk hr_; have K6 := Aside0.mk hb_; clear hr_ hb_) | (go_at_call 36; refine (longs_c _ b1).mono ?_; rintro e_ w8 ⟨rfl, hb_⟩; have R2 := Aside0.mk (Kd.R_below R2.out hb_); have K6 := Aside0.mk (below_step K6.out hb_); clear hb_) | fail)
  clear sl LQ
  have ix0 := idx0 (some ⟨b1, 14, none⟩) (some ⟨b1, 16, none⟩) (some ⟨b1, 18, none⟩) (some ⟨b1, 20, none⟩)
  have ix1 := idx1 (some ⟨b1, 14, none⟩) (some ⟨b1, 16, none⟩) (some ⟨b1, 18, none⟩) (some ⟨b1, 20, none⟩)
  have ix2 := idx2 (some ⟨b1, 14, none⟩) (some ⟨b1, 16, none⟩) (some ⟨b1, 18, none⟩) (some ⟨b1, 20, none⟩)
  have ix3 := idx3 (some ⟨b1, 14, none⟩) (some ⟨b1, 16, none⟩) (some ⟨b1, 18, none⟩) (some ⟨b1, 20, none⟩)
  have lk_ : ∀ k : Nat, k ≤ 4 → (LK L k).length ≤ 100 * k := fun k => by
    induction k with
    | zero => intro _; simp [LK]
    | succ k ih =>
      intro h
      have h1 := ih (by omega)
      have h2 := LL.out k (by omega)
      simp only [LK, List.length_append]
      omega
  have LKQ := Aside0.mk lk_
  clear lk_
  go_loopw [5, 47] (fun v5 v47 wr => ∃ (z : Int) (k : Nat), v47 = .int .i64 z ∧ z = k ∧ k ≤ 4 ∧ Aside0 (Below wb.heap.size wb wr) ∧ Aside0 (Kd.R (Kd.int .u8) 5 wr wb.heap.size (fun _ => True) v5 (((([228, x.st, b2, b3] ++ ds) ++ es) ++ [x.r0, x.r1, x.r2, x.r3]) ++ LK L k))) (fun _ v47 _ => 4 - (intOf v47).toNat)
  case atStart => exact ⟨0, 0, rfl, rfl, by omega, K6, ⟨by simpa [LK] using R2.out⟩⟩
  case round =>
    clear K6 R2 Y6 Y7 Y8 Y9
    obtain ⟨z, k, rfl, hz, hk, K6, R2⟩ := hrel
    have hk5 : k = 0 ∨ k = 1 ∨ k = 2 ∨ k = 3 ∨ k = 4 := by omega
    rcases hk5 with rfl | rfl | rfl | rfl | rfl
    · obtain rfl : z = 0 := hz
      clear hk
      have LQ := Aside0.mk (And.intro (LKQ.out 0 (by omega)) (LL.out 0 (by omega)))
      have y0_ := (blk_cell (blk_below B1.out K6.out) 14).trans (show x.cs[14]? = some (.int .u32 (x.sp 0).1) from rfl)
      have y1_ := (blk_cell (blk_below B1.out K6.out) 15).trans (show x.cs[15]? = some (.int .u32 (x.sp 0).2) from rfl)
      go_wp2_with (first | (go_at_call 12; refine (stamp_Bytes.calls kk (x.sp 0).1 (x.sp 0).2 (L 0) _ (HL.out 0 (by omega))).mono ?_; rintro e_ w8 ⟨v_, rfl, hv_, hb_⟩; obtain ⟨A_, c_, rfl⟩ := Kd.R_slice hv_; have HV := Aside0.mk (Kd.R_reads' hv_).2.2; have R2 := Aside0.mk (Kd.R_below R2.out hb_); have K6 := Aside0.mk (below_step K6.out hb_); clear hv_ hb_) | ((with_reducible refine gate_builtin (b := .append) (xs := #[.tmp 50, .tmp 54]) rfl ?_); at_builtin; refine app_plain (w0 := wb) wb.heap.size rfl (.tmp 50) (.tmp 54) rfl _ (((([228, x.st, b2, b3] ++ ds) ++ es) ++ [x.r0, x.r1, x.r2, x.r3]) ++ LK L 0) (L 0) _ _ rfl rfl R2.out HV.out K6.out K6.out.size (by have q_ := LD.out; have q2_ := LE.out; have q3_ := LQ.out; simp only [List.length_append, List.length_cons, List.length_nil]; omega) ?_; intro v7 w7 hr_ hb_; have R2 := Aside0.mk hr_; have K6 := Aside0.mk hb_; clear hr_ hb_) | fail)
      go_roundw
      case rel => exact ⟨1, 1, by go_num, rfl, by omega, K6, ⟨by have q_ := R2.out; rw [List.append_assoc] at q_; exact q_⟩⟩
      case measure => simp [intOf]
    · obtain rfl : z = 1 := hz
      clear hk
      have LQ := Aside0.mk (And.intro (LKQ.out 1 (by omega)) (LL.out 1 (by omega)))
      have y0_ := (blk_cell (blk_below B1.out K6.out) 16).trans (show x.cs[16]? = some (.int .u32 (x.sp 1).1) from rfl)
      have y1_ := (blk_cell (blk_below B1.out K6.out) 17).trans (show x.cs[17]? = some (.int .u32 (x.sp 1).2) from rfl)
      go_wp2_with (first | (go_at_call 12; refine (stamp_Bytes.calls kk (x.sp 1).1 (x.sp 1).2 (L 1) _ (HL.out 1 (by omega))).mono ?_; rintro e_ w8 ⟨v_, rfl, hv_, hb_⟩; obtain ⟨A_, c_, rfl⟩ := Kd.R_slice hv_; have HV := Aside0.mk (Kd.R_reads' hv_).2.2; have R2 := Aside0.mk (Kd.R_below R2.out hb_); have K6 := Aside0.mk (below_step K6.out hb_); clear hv_ hb_) | ((with_reducible refine gate_builtin (b := .append) (xs := #[.tmp 50, .tmp 54]) rfl ?_); at_builtin; refine app_plain (w0 := wb) wb.heap.size rfl (.tmp 50) (.tmp 54) rfl _ (((([228, x.st, b2, b3] ++ ds) ++ es) ++ [x.r0, x.r1, x.r2, x.r3]) ++ LK L 1) (L 1) _ _ rfl rfl R2.out HV.out K6.out K6.out.size (by have q_ := LD.out; have q2_ := LE.out; have q3_ := LQ.out; simp only [List.length_append, List.length_cons, List.length_nil]; omega) ?_; intro v7 w7 hr_ hb_; have R2 := Aside0.mk hr_; have K6 := Aside0.mk hb_; clear hr_ hb_) | fail)
      go_roundw
      case rel => exact ⟨2, 2, by go_num, rfl, by omega, K6, ⟨by have q_ := R2.out; rw [List.append_assoc] at q_; exact q_⟩⟩
      case measure => simp [intOf]
    · obtain rfl : z = 2 := hz
      clear hk
      have LQ := Aside0.mk (And.intro (LKQ.out 2 (by omega)) (LL.out 2 (by omega)))
      have y0_ := (blk_cell (blk_below B1.out K6.out) 18).trans (show x.cs[18]? = some (.int .u32 (x.sp 2).1) from rfl)
      have y1_ := (blk_cell (blk_below B1.out K6.out) 19).trans (show x.cs[19]? = some (.int .u32 (x.sp 2).2) from rfl)
      go_wp2_with (first | (go_at_call 12; refine (stamp_Bytes.calls kk (x.sp 2).1 (x.sp 2).2 (L 2) _ (HL.out 2 (by omega))).mono ?_; rintro e_ w8 ⟨v_, rfl, hv_, hb_⟩; obtain ⟨A_, c_, rfl⟩ := Kd.R_slice hv_; have HV := Aside0.mk (Kd.R_reads' hv_).2.2; have R2 := Aside0.mk (Kd.R_below R2.out hb_); have K6 := Aside0.mk (below_step K6.out hb_); clear hv_ hb_) | ((with_reducible refine gate_builtin (b := .append) (xs := #[.tmp 50, .tmp 54]) rfl ?_); at_builtin; refine app_plain (w0 := wb) wb.heap.size rfl (.tmp 50) (.tmp 54) rfl _ (((([228, x.st, b2, b3] ++ ds) ++ es) ++ [x.r0, x.r1, x.r2, x.r3]) ++ LK L 2) (L 2) _ _ rfl rfl R2.out HV.out K6.out K6.out.size (by have q_ := LD.out; have q2_ := LE.out; have q3_ := LQ.out; simp only [List.length_append, List.length_cons, List.length_nil]; omega) ?_; intro v7 w7 hr_ hb_; have R2 := Aside0.mk hr_; have K6 := Aside0.mk hb_; clear hr_ hb_) | fail)
      go_roundw
      case rel => exact ⟨3, 3, by go_num, rfl, by omega, K6, ⟨by have q_ := R2.out; rw [List.append_assoc] at q_; exact q_⟩⟩
      case measure => simp [intOf]
    · obtain rfl : z = 3 := hz
      clear hk
      have LQ := Aside0.mk (And.intro (LKQ.out 3 (by omega)) (LL.out 3 (by omega)))
      have y0_ := (blk_cell (blk_below B1.out K6.out) 20).trans (show x.cs[20]? = some (.int .u32 (x.sp 3).1) from rfl)
      have y1_ := (blk_cell (blk_below B1.out K6.out) 21).trans (show x.cs[21]? = some (.int .u32 (x.sp 3).2) from rfl)
      go_wp2_with (first | (go_at_call 12; refine (stamp_Bytes.calls kk (x.sp 3).1 (x.sp 3).2 (L 3) _ (HL.out 3 (by omega))).mono ?_; rintro e_ w8 ⟨v_, rfl, hv_, hb_⟩; obtain ⟨A_, c_, rfl⟩ := Kd.R_slice hv_; have HV := Aside0.mk (Kd.R_reads' hv_).2.2; have R2 := Aside0.mk (Kd.R_below R2.out hb_); have K6 := Aside0.mk (below_step K6.out hb_); clear hv_ hb_) | ((with_reducible refine gate_builtin (b := .append) (xs := #[.tmp 50, .tmp 54]) rfl ?_); at_builtin; refine app_plain (w0 := wb) wb.heap.size rfl (.tmp 50) (.tmp 54) rfl _ (((([228, x.st, b2, b3] ++ ds) ++ es) ++ [x.r0, x.r1, x.r2, x.r3]) ++ LK L 3) (L 3) _ _ rfl rfl R2.out HV.out K6.out K6.out.size (by have q_ := LD.out; have q2_ := LE.out; have q3_ := LQ.out; simp only [List.length_append, List.length_cons, List.length_nil]; omega) ?_; intro v7 w7 hr_ hb_; have R2 := Aside0.mk hr_; have K6 := Aside0.mk hb_; clear hr_ hb_) | fail)
      go_roundw
      case rel => exact ⟨4, 4, by go_num, rfl, by omega, K6, ⟨by have q_ := R2.out; rw [List.append_assoc] at q_; exact q_⟩⟩
      case measure => simp [intOf]
    · obtain rfl : z = 4 := hz
      clear hk
      go_wp2_with (fail)
      go_ret2
      exact ⟨_, rfl, Kd.R_lower R2.out H1.out.size, below_step H1.out K6.out⟩
end Go.Proofs.Ytlaaofbmnaekoaa.MWholeClient
