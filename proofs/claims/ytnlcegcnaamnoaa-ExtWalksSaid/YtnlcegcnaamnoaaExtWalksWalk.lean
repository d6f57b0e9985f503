/- ExtWalks: the law's own walk. -/
import Derived.Test.YtnlcegcnaamnoaaPureExtWalks
namespace Go.Proofs.Ytnlcegcnaamnoaa.MExtWalks
open Go.RowKit Go.Proofs.YtnlcegcnaamnoaaW.PrintWords Go.Proofs.YtnlcegcnaamnoaaW.PrintLast Go.Proofs.YtnlcegcnaamnoaaW.PrintMore Go.Proofs.Ytnlcegcnaamnoaa.Base
attribute [local go_sem] max2_int min2_int max_two min_two
set_option linter.unusedVariables false
set_option linter.unusedSimpArgs false
theorem hmx : Try.prog.follows .mixedOrders = true := by kernel_rfl
theorem V_of_C {W : World} {A : Option Addr} {c : Nat} {xs : List Int} (h : Kd.C (Kd.int .u8) W A xs.length xs) (hc : xs.length ≤ c) : Kd.V (Kd.int .u8) 5 W W.heap.size (fun k => k < W.heap.size) (.slice A xs.length c) xs := by
  refine ⟨A, c, rfl, hc, fun W' hW => ⟨rfl, h.2.1, fun hp => ?_⟩⟩
  obtain ⟨ad, e, hcell⟩ := h.2.2 hp
  refine ⟨ad, e, fun j p hj => ?_⟩
  obtain ⟨cc, h1, h2, h3⟩ := hcell j p hj
  refine ⟨cc, h1, h2, fun i u hu => ?_⟩
  have h4 := h3 i u hu
  have hlt := World.block_lt_of_cell? W _ h4
  exact (World.cell?_of_block (hW _ hlt hlt)).trans h4
theorem rwalk_c (k : Nat) (a0 : Int) (A1 : Option Addr) (c1 : Nat) (l1 : List Int) (ys : List S69) (t : List Int) (d : Int) (w : World) (hr : Kd.C (Kd.int .u8) w A1 l1.length l1) (hc : l1.length ≤ c1) (h : horologeref29_Walk.f k a0 l1 = some (ys, t, d)) :
    Calls Try.prog 9 #[.int .i64 a0, .slice A1 l1.length c1] w fun e w' => ∃ (Af : Option Addr) (cf : Nat) (Ag : Option Addr) (cg : Nat), e = .returned (.tuple #[.agg #[.slice Af ys.length cf, .slice Ag t.length cg], .int .i64 d]) ∧ Kd.C k69 w' Af ys.length ys ∧ ys.length ≤ cf ∧ Kd.C (Kd.int .u8) w' Ag t.length t ∧ t.length ≤ cg ∧ Below w.heap.size w w' := by
  refine (horologeref29_Walk.calls k a0 _ A1 c1 l1 ys t d w (V_of_C hr hc) h).mono ?_
  rintro e w' ⟨v0, v1, rfl, hN, hV, hb⟩
  obtain ⟨A, c, rfl⟩ := Kd.N_slice hN
  obtain ⟨A', c', rfl⟩ := Kd.V_slice hV
  exact ⟨A, c, A', c', rfl, (Kd.N_reads' hN).2.2, (Kd.N_reads' hN).2.1, (Kd.V_reads' hV).2.2, (Kd.V_reads' hV).2.1, hb⟩
theorem walk_c (k : Nat) (a0 : Int) (A1 : Option Addr) (c1 : Nat) (l1 : List Int) (xs : List S41) (t : List Int) (c : Option Int) (w : World) (hr : Kd.C (Kd.int .u8) w A1 l1.length l1) (hc : l1.length ≤ c1) (h : ext_Walk.f k a0 l1 = some (xs, t, c)) :
    Calls Try.prog 8 #[.int .i64 a0, .slice A1 l1.length c1] w fun e w' => ∃ (A0 : Option Addr) (c0 : Nat) (A2 : Option Addr) (c2 : Nat), e = .returned (.tuple #[.agg #[.slice A0 xs.length c0, .slice A2 t.length c2], errW c]) ∧ Kd.R k41 41 w' w.heap.size (fun _ => True) (.slice A0 xs.length c0) xs ∧ Kd.R (Kd.int .u8) 5 w' w.heap.size (fun _ => True) (.slice A2 t.length c2) t ∧ Below w.heap.size w w' := by
  refine (ext_Walk.calls k a0 _ A1 c1 l1 xs t c w (V_of_C hr hc) h).mono ?_
  rintro e w' ⟨v0, v1, rfl, hS, hR, hb⟩
  have hS' := Kd.S_R hS
  obtain ⟨A, c, rfl⟩ := Kd.R_slice hS'
  obtain ⟨A', c', rfl⟩ := Kd.R_slice hR
  exact ⟨A, c, A', c', rfl, Kd.R_mono hS' (fun _ _ => trivial), Kd.R_mono hR (fun _ _ => trivial), hb⟩
theorem doc_c {N : Nat} (k : Nat) (A0 : Option Addr) (c0 : Nat) (xs : List S41) (A2 : Option Addr) (c2 : Nat) (t : List Int) (w : World) (hR0 : Kd.R k41 41 w N (fun _ => True) (.slice A0 xs.length c0) xs) (hR2 : Kd.R (Kd.int .u8) 5 w N (fun _ => True) (.slice A2 t.length c2) t) {ys : List S69} {u : List Int} (h : horologelaw29_Document.f k xs t = some (ys, u)) :
    Calls Try.prog 12 #[.agg #[.slice A0 xs.length c0, .slice A2 t.length c2]] w fun e w' => ∃ (Af : Option Addr) (cf : Nat) (Ag : Option Addr) (cg : Nat), e = .returned (.agg #[.slice Af ys.length cf, .slice Ag u.length cg]) ∧ Kd.C k69 w' Af ys.length ys ∧ ys.length ≤ cf ∧ Kd.C (Kd.int .u8) w' Ag u.length u ∧ u.length ≤ cg ∧ Below w.heap.size w w' := by
  refine (horologelaw29_Document.calls k (fun _ => True) A0 c0 xs (fun _ => True) A2 c2 t ys u w (Kd.R_V hR0) (Kd.R_V hR2) h).mono ?_
  rintro e w' ⟨v0, v1, rfl, hN, hV, hb⟩
  obtain ⟨A, c, rfl⟩ := Kd.N_slice hN
  obtain ⟨A', c', rfl⟩ := Kd.V_slice hV
  exact ⟨A, c, A', c', rfl, (Kd.N_reads' hN).2.2, (Kd.N_reads' hN).2.1, (Kd.V_reads' hV).2.2, (Kd.V_reads' hV).2.1, hb⟩
theorem wrapS {p n : Nat} (h : p < n) (hn : n ≤ 9223372036854775807) : wrap64 ((p : Int) + 1) = ((p + 1 : Nat) : Int) := by unfold wrap64; omega
theorem meas_ {p n : Nat} (h : p < n) : n - (intOf (.int .i64 ((p + 1 : Nat) : Int))).toNat < n - (intOf (.int .i64 (p : Int))).toNat := by simp [intOf]; omega
/-! rows of bytes that are written -/
theorem add0 (g i : Nat) : (⟨g, 0, none⟩ : Addr).add i = ⟨g, i, none⟩ := by unfold Addr.add; split <;> simp_all
def ByteRow (W : World) (N : Nat) (A : Option Addr) (n : Nat) : Prop := 0 < n → ∃ g cs, A = some ⟨g, 0, none⟩ ∧ N ≤ g ∧ W.heap[g]? = some (.cells cs 5 (0, 0)) ∧ ∀ i, i < n → ∃ b : Int, cs[i]? = some (.int .u8 b)
theorem ByteRow.set {W : World} {N : Nat} {A : Option Addr} {n g' i' : Nat} {cs' : Array Value} (h : ByteRow W N A n) (hg : W.heap[g']? = some (.cells cs' 5 (0, 0))) (b : Int) : ByteRow (W.setCell ⟨g', i', none⟩ (.int .u8 b)) N A n := by
  intro hn
  obtain ⟨g, cs, rfl, hN, hh, hc⟩ := h hn
  by_cases e : g = g'
  · subst e
    rw [hg] at hh
    obtain rfl : cs' = cs := by injection hh with hh; injection hh
    refine ⟨g, cs'.setIfInBounds i' (.int .u8 b), rfl, hN, blk_put hg i' _ rfl, fun i hi => ?_⟩
    obtain ⟨b0, hb0⟩ := hc i hi
    by_cases e2 : i' = i
    · subst e2
      have hlt := (Array.getElem?_eq_some_iff.1 hb0).1
      exact ⟨b, by simp [Array.getElem?_setIfInBounds, hlt]⟩
    · exact ⟨b0, by rw [Array.getElem?_setIfInBounds_ne e2]; exact hb0⟩
  · exact ⟨g, cs, rfl, hN, (Below.heap_setCell W ⟨g', i', none⟩ _ g e).trans hh, hc⟩
theorem byteRow_of {W : World} {N M : Nat} {v : Value} {ok : Nat → Prop} {A : Option Addr} {c : Nat} {xs : List Int} (hM : M ≤ N) (h : Kd.R (Kd.int .u8) 5 W N ok (.slice A xs.length c) xs) : ByteRow W M A xs.length := by
  intro hn
  obtain ⟨_, inner, ho, hr⟩ := h
  rcases ho.2 with ⟨e, h0⟩ | ⟨g, cap, cur, e, hg, hh, _, _, hsz, htk⟩
  · omega
  injection e with e1 e2 e3
  refine ⟨g, cur, e1, by omega, hh, fun i hi => ?_⟩
  have h1 := hr.2 i (xs[i]) (by rw [List.getElem?_eq_getElem hi])
  have h2 : (inner.drop (i * 1)).take 1 = [Value.int .u8 xs[i]] := h1
  have h3 : inner[i]? = some (Value.int .u8 xs[i]) := by
    have := congrArg (fun l => l[0]?) h2
    simpa [List.getElem?_take, List.getElem?_drop] using this
  refine ⟨xs[i], ?_⟩
  rw [← htk, List.getElem?_take] at h3
  split at h3
  · simpa using h3
  · cases h3
/-- What the loops find: the variable's block, the fields' row, each field's bytes, the seal's bytes. -/
structure Held (N gb : Nat) (v0 v1 : Value) (nf : Nat) (A0 : Option Addr) (g0 : Nat) (cur : Array Value) (ns : Nat) (A2 : Option Addr) (W : World) : Prop where
  box : W.heap[gb]? = some (.cells #[v0, v1] 26 (0, 0))
  hN : N ≤ gb
  flds : 0 < nf → A0 = some ⟨g0, 0, none⟩ ∧ N ≤ g0 ∧ W.heap[g0]? = some (.cells cur 41 (0, 0)) ∧ ∀ j, j < nf → ∃ A n c, cur[j * 2 + 1]? = some (.slice A n c) ∧ n ≤ 9223372036854775807 ∧ ByteRow W N A n
  sel : ByteRow W N A2 ns
theorem Held.set {N gb : Nat} {v0 v1 : Value} {nf : Nat} {A0 : Option Addr} {g0 : Nat} {cur : Array Value} {ns : Nat} {A2 : Option Addr} {W : World} (h : Held N gb v0 v1 nf A0 g0 cur ns A2 W) {g' i' : Nat} {cs' : Array Value} (hg : W.heap[g']? = some (.cells cs' 5 (0, 0))) (b : Int) : Held N gb v0 v1 nf A0 g0 cur ns A2 (W.setCell ⟨g', i', none⟩ (.int .u8 b)) := by
  refine ⟨(Below.heap_setCell W ⟨g', i', none⟩ _ gb (blk_ne h.box hg (by decide))).trans h.box, h.hN, fun hf => ?_, h.sel.set hg b⟩
  obtain ⟨h1, h2, h3, h4⟩ := h.flds hf
  refine ⟨h1, h2, (Below.heap_setCell W ⟨g', i', none⟩ _ g0 (blk_ne h3 hg (by decide))).trans h3, fun j hj => ?_⟩
  obtain ⟨A, n, c, e1, e2, e3⟩ := h4 j hj
  exact ⟨A, n, c, e1, e2, e3.set hg b⟩
theorem held_of {W : World} {N M gb : Nat} {A0 : Option Addr} {c0 : Nat} {xs : List S41} {A2 : Option Addr} {c2 : Nat} {t : List Int} (hM : M ≤ N) (hgb : M ≤ gb) (hbox : W.heap[gb]? = some (.cells #[.slice A0 xs.length c0, .slice A2 t.length c2] 26 (0, 0)))
    (h0 : Kd.R k41 41 W N (fun _ => True) (.slice A0 xs.length c0) xs) (h2 : Kd.R (Kd.int .u8) 5 W N (fun _ => True) (.slice A2 t.length c2) t) :
    ∃ g0 cur, Held M gb (.slice A0 xs.length c0) (.slice A2 t.length c2) xs.length A0 g0 cur t.length A2 W := by
  obtain ⟨_, inner, ho, hr⟩ := h0
  have hs := byteRow_of (v := .nilIface) hM h2
  rcases ho.2 with ⟨e, h0⟩ | ⟨g, cap, cur, e, hg, hh, _, _, hsz, htk⟩
  · exact ⟨0, #[], hbox, hgb, fun hf => by omega, hs⟩
  injection e with e1 e2 e3
  refine ⟨g, cur, hbox, hgb, fun _ => ⟨e1, by omega, hh, fun j hj => ?_⟩, hs⟩
  have h1 := hr.2 j (xs[j]) (by rw [List.getElem?_eq_getElem hj])
  obtain ⟨v1, ec, hR⟩ := k41_openM h1
  obtain ⟨A, c, rfl⟩ := Kd.R_slice hR
  have h3 : inner[j * 2 + 1]? = some (.slice A xs[j].f1.length c) := by
    have := congrArg (fun l => l[1]?) ec
    simpa [List.getElem?_take, List.getElem?_drop, show k41.sz = 2 from rfl] using this
  refine ⟨A, _, c, ?_, (Kd.R_reads' hR).2.2.2.1, byteRow_of (v := .nilIface) hM hR⟩
  rw [← htk, List.getElem?_take] at h3
  split at h3
  · simpa using h3
  · cases h3

set_option maxHeartbeats 8000000 in
set_option maxRecDepth 100000 in
theorem law_is (k : Nat) (a0 : Int) (A1 : Option Addr) (c1 : Nat) (l1 : List Int) (xs : List S41) (ys : List S69) (t : List Int) (c : Option Int) (d : Int) (w : World) (hr1 : Kd.C (Kd.int .u8) w A1 l1.length l1) (hc1 : l1.length ≤ c1)
    (hal : horologelaw29_alive.f k = some true) (hwalk : ext_Walk.f k a0 l1 = some (xs, t, c)) (hrwalk : horologeref29_Walk.f k a0 l1 = some (ys, t, d)) (hnum : horologenum_Num.f c = some d) (hdoc : horologelaw29_Document.f k xs t = some (ys, t)) (hsame : horologeref29_Same.f k ys t ys t = some true) :
    Calls Try.prog 3 #[.int .i64 a0, .slice A1 l1.length c1] w fun e w' => e = .returned (.bool true) ∧ Below w.heap.size w w' := by
  have HR1 := Aside0.mk hr1
  have HC1 := Aside0.mk hc1
  have HW := Aside0.mk hwalk
  have HRW := Aside0.mk hrwalk
  clear hr1 hc1 hwalk hrwalk
  by_cases p1 : 1000 < l1.length
  case pos =>
    have d1 : decide ((1000 : Int) < (l1.length : Int)) = true := decide_eq_true (by omega)
    by_cases p2 : l1.length < 65000
    · have d2 : decide ((l1.length : Int) < 65000) = true := decide_eq_true (by omega)
      go_enter Try.func3, Try.ntmps3
      go_wp2_with (go_at_call 7; refine (horologelaw29_alive.calls k true _ hal).mono ?_; rintro e w0 ⟨rfl, hb0⟩)
      go_ret
      exact ⟨rfl, hb0⟩
    have d2 : decide ((l1.length : Int) < 65000) = false := decide_eq_false (by omega)
    by_cases p3 : 66000 < l1.length
    · have d3 : decide ((66000 : Int) < (l1.length : Int)) = true := decide_eq_true (by omega)
      go_enter Try.func3, Try.ntmps3
      go_wp2_with (go_at_call 7; refine (horologelaw29_alive.calls k true _ hal).mono ?_; rintro e w0 ⟨rfl, hb0⟩)
      go_ret
      exact ⟨rfl, hb0⟩
    have d3 : decide ((66000 : Int) < (l1.length : Int)) = false := decide_eq_false (by omega)
    have HL := Aside0.mk (show l1.length ≤ 66000 by omega)
    clear p1 p2 p3
    go_enter Try.func3, Try.ntmps3
    go_wp2_with (first | (go_at_call 7; refine (horologelaw29_alive.calls k true _ hal).mono ?_; rintro e w0 ⟨rfl, hb0⟩) | ((with_reducible refine gate_dst (N := 28) rfl ?_); refine Kd.R_lit (Kd.int .u8) w0.heap.size 5 ?hg (N := 28) ?hd (xs := ([] : List Int)) (inner := []) (ok := fun _ => True) (okp := fun _ => True) ?hr ?hp (fun _ hk => hk) trivial (Below.refl _ _) (Nat.le_refl _) (by simp) ?_; (case hd => rfl); (case hg => rfl); (case hr => first | (go_simp; done) | (go_simp; rfl)); (case hp => exact (Reps.none _ _)); intro v1 w1 ho1 hb1 hg_ hnew_; clear hg_ hnew_; have R1 := Aside0.mk ho1; have B1 := Aside0.mk hb1; clear ho1 hb1) | ((with_reducible refine gate_builtin (b := .append) (xs := #[.tmp 28, .tmp 29]) rfl ?_); at_builtin; refine Kd.R_append_rows (Kd.int .u8) (w0 := w0) w0.heap.size rfl (.tmp 28) (.tmp 29) 22 5 (.int .u8 0) 1 rfl Try.underlying22 (by kernel_rfl) rfl (by decide) (by omega) v1 [] l1 _ _ _ (fun _ => True) (fun _ => False) rfl rfl ?aO ?aR (fun _ _ h => h) (fun _ h => h.elim) ?aF ?aB ?aS ?aL ?_; (case aR => exact (Kd.C_below HR1.out (below_step hb0 B1.out))); (case aB => exact B1.out); (case aF => exact (fun _ _ => trivial)); (case aO => exact R1.out); (case aS => exact below_size B1.out); (case aL => have := HL.out; simp only [List.length_nil]; omega); intro v2 w2 ho2 hb2 hg_ hat_; clear hg_ hat_; rw [List.nil_append] at ho2; obtain ⟨A5, c5, rfl⟩ := Kd.R_slice ho2; have R2 := Aside0.mk ho2; have B2 := Aside0.mk hb2; clear ho2 hb2) | (go_at_call 8; refine (walk_c k a0 A5 c5 l1 xs t c _ (Kd.R_reads' R2.out).2.2 (Kd.R_reads' R2.out).2.1 HW.out).mono ?_; rintro e w3 ⟨A0, c0, A2, c2, rfl, hR0, hR2, hb3⟩) | ((with_reducible refine gate_dst (N := 6) rfl ?_); (try (refine gate_guard (by rfl) ?_; dsimp only)); refine box_event ?hg (N := 6) ?hd (cs := #[.slice none 0 0, .slice none 0 0]) (t := 26) ?hr ?_; (case hd => rfl); (case hg => rfl); (case hr => first | (go_simp; done) | (go_simp; rfl)); intro gb6 hg6 w4 hbox6 hb4; have k60 : w4.cell? ⟨gb6, 0, none⟩ = some (.slice none 0 0) := (blk_cell hbox6 0).trans rfl; have k61 : w4.cell? ⟨gb6, 1, none⟩ = some (.slice none 0 0) := (blk_cell hbox6 1).trans rfl; have f60 := blk_frozen hbox6 0; have f61 := blk_frozen hbox6 1; have HG6 := Aside0.mk hg6; clear hg6) | (go_at_call 9; refine (rwalk_c k a0 A1 c1 l1 ys t d _ (Kd.C_below HR1.out (below_set (below_set (below_step (below_step (below_step hb0 B2.out) hb3) hb4) (by rw [HG6.out]; exact Nat.le_trans (below_size hb0) (Nat.le_trans (below_size B2.out) (below_size hb3)))) (by rw [HG6.out]; exact Nat.le_trans (below_size hb0) (Nat.le_trans (below_size B2.out) (below_size hb3))))) HC1.out HRW.out).mono ?_; rintro e w6 ⟨Af, cf, Ag, cg, rfl, hf1, hf2, hf3, hf4, hb6⟩) | ((with_reducible refine gate_dst (N := 8) rfl ?_); (try (refine gate_guard (by rfl) ?_; dsimp only)); refine box_event ?hg (N := 8) ?hd (cs := #[.slice none 0 0, .slice none 0 0]) (t := 33) ?hr ?_; (case hd => rfl); (case hg => rfl); (case hr => first | (go_simp; done) | (go_simp; rfl)); intro gb8 hg8 w7 hbox8 hb7; have k80 : w7.cell? ⟨gb8, 0, none⟩ = some (.slice none 0 0) := (blk_cell hbox8 0).trans rfl; have k81 : w7.cell? ⟨gb8, 1, none⟩ = some (.slice none 0 0) := (blk_cell hbox8 1).trans rfl; have f80 := blk_frozen hbox8 0; have f81 := blk_frozen hbox8 1; have HG8 := Aside0.mk hg8; clear hg8))
    have hge2 : w.heap.size ≤ w2.heap.size := Nat.le_trans (below_size hb0) (below_size B2.out)
    have hge6 : w2.heap.size ≤ gb6 := by rw [HG6.out]; exact below_size hb3
    have h6p : (w4.setCell ⟨gb6, 0, none⟩ (.slice A0 xs.length c0)).heap[gb6]? = some (.cells #[.slice A0 xs.length c0, .slice none 0 0] 26 (0, 0)) := blk_put (cs := #[.slice none 0 0, .slice none 0 0]) hbox6 0 _ rfl
    have h6a : ((w4.setCell ⟨gb6, 0, none⟩ (.slice A0 xs.length c0)).setCell ⟨gb6, 1, none⟩ (.slice A2 t.length c2)).heap[gb6]? = some (.cells #[.slice A0 xs.length c0, .slice A2 t.length c2] 26 (0, 0)) := blk_put (cs := #[.slice A0 xs.length c0, .slice none 0 0]) h6p 1 _ rfl
    have hR0a := Kd.R_set (Kd.R_set (Kd.R_below hR0 hb4) hbox6 (by decide) 0 (.slice A0 xs.length c0)) h6p (by decide) 1 (.slice A2 t.length c2)
    have hR2a := Kd.R_set (Kd.R_set (Kd.R_below hR2 hb4) hbox6 (by decide) 0 (.slice A0 xs.length c0)) h6p (by decide) 1 (.slice A2 t.length c2)
    have hB4 : Below w2.heap.size w2 ((w4.setCell ⟨gb6, 0, none⟩ (.slice A0 xs.length c0)).setCell ⟨gb6, 1, none⟩ (.slice A2 t.length c2)) := below_set (below_set (below_step hb3 hb4) hge6) hge6
    have hge8 : w6.heap.size ≤ gb8 := by rw [HG8.out]; exact Nat.le_refl _
    have h8p : (w7.setCell ⟨gb8, 0, none⟩ (.slice Af ys.length cf)).heap[gb8]? = some (.cells #[.slice Af ys.length cf, .slice none 0 0] 33 (0, 0)) := blk_put (cs := #[.slice none 0 0, .slice none 0 0]) hbox8 0 _ rfl
    have h8W : ((w7.setCell ⟨gb8, 0, none⟩ (.slice Af ys.length cf)).setCell ⟨gb8, 1, none⟩ (.slice Ag t.length cg)).heap[gb8]? = some (.cells #[.slice Af ys.length cf, .slice Ag t.length cg] 33 (0, 0)) := blk_put (cs := #[.slice Af ys.length cf, .slice none 0 0]) h8p 1 _ rfl
    have h67 : w7.heap[gb6]? = some (.cells #[.slice A0 xs.length c0, .slice A2 t.length c2] 26 (0, 0)) := by
      have e1 := (hb6.block gb6 (blk_lt h6a)).trans h6a
      exact (hb7.block gb6 (blk_lt e1)).trans e1
    have hne68 : gb6 ≠ gb8 := blk_ne h67 hbox8 (by decide)
    have h6W : ((w7.setCell ⟨gb8, 0, none⟩ (.slice Af ys.length cf)).setCell ⟨gb8, 1, none⟩ (.slice Ag t.length cg)).heap[gb6]? = some (.cells #[.slice A0 xs.length c0, .slice A2 t.length c2] 26 (0, 0)) :=
      (Below.heap_setCell _ ⟨gb8, 1, none⟩ _ gb6 hne68).trans ((Below.heap_setCell _ ⟨gb8, 0, none⟩ _ gb6 hne68).trans h67)
    have hR0W := Kd.R_set (Kd.R_set (Kd.R_below (Kd.R_below hR0a hb6) hb7) hbox8 (by decide) 0 (.slice Af ys.length cf)) h8p (by decide) 1 (.slice Ag t.length cg)
    have hR2W := Kd.R_set (Kd.R_set (Kd.R_below (Kd.R_below hR2a hb6) hb7) hbox8 (by decide) 0 (.slice Af ys.length cf)) h8p (by decide) 1 (.slice Ag t.length cg)
    have hb68 : Below w6.heap.size w6 ((w7.setCell ⟨gb8, 0, none⟩ (.slice Af ys.length cf)).setCell ⟨gb8, 1, none⟩ (.slice Ag t.length cg)) := below_set (below_set hb7 hge8) hge8
    have hf1W := Kd.C_below hf1 hb68
    have hf3W := Kd.C_below hf3 hb68
    have hB8 : Below w2.heap.size w2 ((w7.setCell ⟨gb8, 0, none⟩ (.slice Af ys.length cf)).setCell ⟨gb8, 1, none⟩ (.slice Ag t.length cg)) := below_step (below_step hB4 hb6) hb68
    generalize (w7.setCell ⟨gb8, 0, none⟩ (.slice Af ys.length cf)).setCell ⟨gb8, 1, none⟩ (.slice Ag t.length cg) = W8 at h8W h6W hR0W hR2W hf1W hf3W hB8 ⊢
    clear h6p h6a hR0a hR2a hB4 h8p h67 hb68 hf1 hf3 hb6 hb7 hb4 hb3 hbox6 hbox8 k60 k61 f60 f61 k80 k81 f80 f81 hR0 hR2
    go_cut [43, 44, 45, 46, 47, 48, 49, 50, 51, 52, 53] (fun v43 v44 v45 v46 v47 v48 v49 v50 v51 v52 v53 wc => v53 = .bool false ∧ Aside0 (Below W8.heap.size W8 wc))
    case first =>
      refine wp_region_any hmx ?_
      obtain ⟨w5, hw5⟩ : ∃ w5, { W8 with drawn := W8.drawn + 1 } = w5 := ⟨_, rfl⟩
      have h6 : w5.heap[gb6]? = some (.cells #[.slice A0 xs.length c0, .slice A2 t.length c2] 26 (0, 0)) := by rw [← hw5]; exact h6W
      have h8 : w5.heap[gb8]? = some (.cells #[.slice Af ys.length cf, .slice Ag t.length cg] 33 (0, 0)) := by rw [← hw5]; exact h8W
      have hR0 : Kd.R k41 41 w5 w2.heap.size (fun _ => True) (.slice A0 xs.length c0) xs := by rw [← hw5]; exact Kd.R_drewN hR0W 1
      have hR2 : Kd.R (Kd.int .u8) 5 w5 w2.heap.size (fun _ => True) (.slice A2 t.length c2) t := by rw [← hw5]; exact Kd.R_drewN hR2W 1
      have hf1 : Kd.C k69 w5 Af ys.length ys := by rw [← hw5]; exact Kd.C_drewN hf1W 1
      have hf3 : Kd.C (Kd.int .u8) w5 Ag t.length t := by rw [← hw5]; exact Kd.C_drewN hf3W 1
      have hbw5 : Below W8.heap.size W8 w5 := by rw [← hw5]; exact pw_below_drewN (Below.refl _ _) 1
      rw [hw5]
      clear hw5
      have c60 : w5.cell? ⟨gb6, 0, none⟩ = some (.slice A0 xs.length c0) := (blk_cell h6 0).trans rfl
      have c61 : w5.cell? ⟨gb6, 1, none⟩ = some (.slice A2 t.length c2) := (blk_cell h6 1).trans rfl
      have c80 : w5.cell? ⟨gb8, 0, none⟩ = some (.slice Af ys.length cf) := (blk_cell h8 0).trans rfl
      have c81 : w5.cell? ⟨gb8, 1, none⟩ = some (.slice Ag t.length cg) := (blk_cell h8 1).trans rfl
      refine wpAny_ready (rs := [0, 2]) (by kernel_rfl) (by simp) ?_
      refine AllReady.cons rfl (fun K hK => ?_) (AllReady.cons rfl (fun K hK => ?_) AllReady.nil)
      · go_simp
        refine hK _ _ ?_
        clear hK K
        refine wpAny_ready (rs := [1, 2]) (by kernel_rfl) (by simp) ?_
        refine AllReady.cons rfl (fun K hK => ?_) (AllReady.cons rfl (fun K hK => ?_) AllReady.nil)
        · go_simp
          go_at_call 10
          refine (horologenum_Num.calls c d _ hnum).mono ?_
          rintro e wz ⟨rfl, ⟨m3, rfl⟩⟩
          go_simp
          refine hK _ _ ?_
          clear hK K
          refine wpAny_ready (rs := [2]) (by kernel_rfl) (by simp) ?_
          refine AllReady.cons rfl (fun K hK => ?_) AllReady.nil
          go_simp
          refine hK _ _ ?_
          clear hK K
          refine wpAny_ready (rs := [3]) (by kernel_rfl) (by simp) ?_
          refine AllReady.cons rfl (fun K hK => ?_) AllReady.nil
          go_simp
          refine hK _ _ ?_
          clear hK K
          refine wpAny_ready (rs := [4]) (by kernel_rfl) (by simp) ?_
          refine AllReady.cons rfl (fun K hK => ?_) AllReady.nil
          go_simp
          refine hK _ _ ?_
          clear hK K
          refine wpAny_ready (rs := [5, 7]) (by kernel_rfl) (by simp) ?_
          refine AllReady.cons rfl (fun K hK => ?_) (AllReady.cons rfl (fun K hK => ?_) AllReady.nil)
          · go_simp
            refine hK _ _ ?_
            clear hK K
            refine wpAny_ready (rs := [6, 7]) (by kernel_rfl) (by simp) ?_
            refine AllReady.cons rfl (fun K hK => ?_) (AllReady.cons rfl (fun K hK => ?_) AllReady.nil)
            · go_simp
              go_at_call 12
              refine (doc_c (N := w2.heap.size) k A0 c0 xs A2 c2 t _ (Kd.R_drewN hR0 _) (Kd.R_drewN hR2 _) hdoc).mono ?_
              rintro e w7 ⟨Ad, cd, Ae, ce, rfl, hd1, hd2, hd3, hd4, hb7⟩
              have hq : ∀ g o, w5.heap[g]? = some o → w7.heap[g]? = some o := fun g o h => (hb7.block g (blk_lt h)).trans h
              have h6' := hq _ _ h6
              have h8' := hq _ _ h8
              have c60' := (blk_cell h6' 0).trans rfl
              have c61' := (blk_cell h6' 1).trans rfl
              have c80' := (blk_cell h8' 0).trans rfl
              have c81' := (blk_cell h8' 1).trans rfl
              have hb57 : Below w5.heap.size w5 w7 := below_step (pw_below_drewN (Below.refl _ _) m3) hb7
              go_simp
              refine hK _ _ ?_
              clear hK K
              refine wpAny_ready (rs := [7]) (by kernel_rfl) (by simp) ?_
              refine AllReady.cons rfl (fun K hK => ?_) AllReady.nil
              go_simp
              refine hK _ _ ?_
              clear hK K
              refine wpAny_ready (rs := [8]) (by kernel_rfl) (by simp) ?_
              refine AllReady.cons rfl (fun K hK => ?_) AllReady.nil
              go_simp
              go_at_call 11
              refine (horologeref29_Same.calls k Ad cd _ Ae ce _ Af cf _ Ag cg _ true _ hd1 hd2 hd3 hd4 (Kd.C_below hf1 hb57) hf2 (Kd.C_below hf3 hb57) hf4 hsame).mono ?_
              rintro e w8 ⟨rfl, hb8⟩
              go_simp
              refine hK _ _ ?_
              clear hK K
              refine wpAny_ready (rs := [9]) (by kernel_rfl) (by simp) ?_
              refine AllReady.cons rfl (fun K hK => ?_) AllReady.nil
              go_simp
              refine hK _ _ ?_
              clear hK K
              refine wpAny_ready (rs := [10]) (by kernel_rfl) (by simp) ?_
              refine AllReady.cons rfl (fun K hK => ?_) AllReady.nil
              go_simp
              refine hK _ _ ?_
              clear hK K
              refine wpAny_done (by kernel_rfl) ?_ _
              try go_wp2
              go_meet
              case rel => exact ⟨rfl, ⟨below_step (below_step hbw5 hb57) hb8⟩⟩
            · go_simp
              refine hK _ _ ?_
              clear hK K
              refine wpAny_ready (rs := [6]) (by kernel_rfl) (by simp) ?_
              refine AllReady.cons rfl (fun K hK => ?_) AllReady.nil
              go_simp
              go_at_call 12
              refine (doc_c (N := w2.heap.size) k A0 c0 xs A2 c2 t _ (Kd.R_drewN hR0 _) (Kd.R_drewN hR2 _) hdoc).mono ?_
              rintro e w7 ⟨Ad, cd, Ae, ce, rfl, hd1, hd2, hd3, hd4, hb7⟩
              have hq : ∀ g o, w5.heap[g]? = some o → w7.heap[g]? = some o := fun g o h => (hb7.block g (blk_lt h)).trans h
              have h6' := hq _ _ h6
              have h8' := hq _ _ h8
              have c60' := (blk_cell h6' 0).trans rfl
              have c61' := (blk_cell h6' 1).trans rfl
              have c80' := (blk_cell h8' 0).trans rfl
              have c81' := (blk_cell h8' 1).trans rfl
              have hb57 : Below w5.heap.size w5 w7 := below_step (pw_below_drewN (Below.refl _ _) m3) hb7
              go_simp
              refine hK _ _ ?_
              clear hK K
              refine wpAny_ready (rs := [8]) (by kernel_rfl) (by simp) ?_
              refine AllReady.cons rfl (fun K hK => ?_) AllReady.nil
              go_simp
              go_at_call 11
              refine (horologeref29_Same.calls k Ad cd _ Ae ce _ Af cf _ Ag cg _ true _ hd1 hd2 hd3 hd4 (Kd.C_below hf1 hb57) hf2 (Kd.C_below hf3 hb57) hf4 hsame).mono ?_
              rintro e w8 ⟨rfl, hb8⟩
              go_simp
              refine hK _ _ ?_
              clear hK K
              refine wpAny_ready (rs := [9]) (by kernel_rfl) (by simp) ?_
              refine AllReady.cons rfl (fun K hK => ?_) AllReady.nil
              go_simp
              refine hK _ _ ?_
              clear hK K
              refine wpAny_ready (rs := [10]) (by kernel_rfl) (by simp) ?_
              refine AllReady.cons rfl (fun K hK => ?_) AllReady.nil
              go_simp
              refine hK _ _ ?_
              clear hK K
              refine wpAny_done (by kernel_rfl) ?_ _
              try go_wp2
              go_meet
              case rel => exact ⟨rfl, ⟨below_step (below_step hbw5 hb57) hb8⟩⟩
          · go_simp
            refine hK _ _ ?_
            clear hK K
            refine wpAny_ready (rs := [5]) (by kernel_rfl) (by simp) ?_
            refine AllReady.cons rfl (fun K hK => ?_) AllReady.nil
            go_simp
            refine hK _ _ ?_
            clear hK K
            refine wpAny_ready (rs := [6]) (by kernel_rfl) (by simp) ?_
            refine AllReady.cons rfl (fun K hK => ?_) AllReady.nil
            go_simp
            go_at_call 12
            refine (doc_c (N := w2.heap.size) k A0 c0 xs A2 c2 t _ (Kd.R_drewN hR0 _) (Kd.R_drewN hR2 _) hdoc).mono ?_
            rintro e w7 ⟨Ad, cd, Ae, ce, rfl, hd1, hd2, hd3, hd4, hb7⟩
            have hq : ∀ g o, w5.heap[g]? = some o → w7.heap[g]? = some o := fun g o h => (hb7.block g (blk_lt h)).trans h
            have h6' := hq _ _ h6
            have h8' := hq _ _ h8
            have c60' := (blk_cell h6' 0).trans rfl
            have c61' := (blk_cell h6' 1).trans rfl
            have c80' := (blk_cell h8' 0).trans rfl
            have c81' := (blk_cell h8' 1).trans rfl
            have hb57 : Below w5.heap.size w5 w7 := below_step (pw_below_drewN (Below.refl _ _) m3) hb7
            go_simp
            refine hK _ _ ?_
            clear hK K
            refine wpAny_ready (rs := [8]) (by kernel_rfl) (by simp) ?_
            refine AllReady.cons rfl (fun K hK => ?_) AllReady.nil
            go_simp
            go_at_call 11
            refine (horologeref29_Same.calls k Ad cd _ Ae ce _ Af cf _ Ag cg _ true _ hd1 hd2 hd3 hd4 (Kd.C_below hf1 hb57) hf2 (Kd.C_below hf3 hb57) hf4 hsame).mono ?_
            rintro e w8 ⟨rfl, hb8⟩
            go_simp
            refine hK _ _ ?_
            clear hK K
            refine wpAny_ready (rs := [9]) (by kernel_rfl) (by simp) ?_
            refine AllReady.cons rfl (fun K hK => ?_) AllReady.nil
            go_simp
            refine hK _ _ ?_
            clear hK K
            refine wpAny_ready (rs := [10]) (by kernel_rfl) (by simp) ?_
            refine AllReady.cons rfl (fun K hK => ?_) AllReady.nil
            go_simp
            refine hK _ _ ?_
            clear hK K
            refine wpAny_done (by kernel_rfl) ?_ _
            try go_wp2
            go_meet
            case rel => exact ⟨rfl, ⟨below_step (below_step hbw5 hb57) hb8⟩⟩
        · go_simp
          refine hK _ _ ?_
          clear hK K
          refine wpAny_ready (rs := [1]) (by kernel_rfl) (by simp) ?_
          refine AllReady.cons rfl (fun K hK => ?_) AllReady.nil
          go_simp
          go_at_call 10
          refine (horologenum_Num.calls c d _ hnum).mono ?_
          rintro e wz ⟨rfl, ⟨m3, rfl⟩⟩
          go_simp
          refine hK _ _ ?_
          clear hK K
          refine wpAny_ready (rs := [3]) (by kernel_rfl) (by simp) ?_
          refine AllReady.cons rfl (fun K hK => ?_) AllReady.nil
          go_simp
          refine hK _ _ ?_
          clear hK K
          refine wpAny_ready (rs := [4]) (by kernel_rfl) (by simp) ?_
          refine AllReady.cons rfl (fun K hK => ?_) AllReady.nil
          go_simp
          refine hK _ _ ?_
          clear hK K
          refine wpAny_ready (rs := [5, 7]) (by kernel_rfl) (by simp) ?_
          refine AllReady.cons rfl (fun K hK => ?_) (AllReady.cons rfl (fun K hK => ?_) AllReady.nil)
          · go_simp
            refine hK _ _ ?_
            clear hK K
            refine wpAny_ready (rs := [6, 7]) (by kernel_rfl) (by simp) ?_
            refine AllReady.cons rfl (fun K hK => ?_) (AllReady.cons rfl (fun K hK => ?_) AllReady.nil)
            · go_simp
              go_at_call 12
              refine (doc_c (N := w2.heap.size) k A0 c0 xs A2 c2 t _ (Kd.R_drewN hR0 _) (Kd.R_drewN hR2 _) hdoc).mono ?_
              rintro e w7 ⟨Ad, cd, Ae, ce, rfl, hd1, hd2, hd3, hd4, hb7⟩
              have hq : ∀ g o, w5.heap[g]? = some o → w7.heap[g]? = some o := fun g o h => (hb7.block g (blk_lt h)).trans h
              have h6' := hq _ _ h6
              have h8' := hq _ _ h8
              have c60' := (blk_cell h6' 0).trans rfl
              have c61' := (blk_cell h6' 1).trans rfl
              have c80' := (blk_cell h8' 0).trans rfl
              have c81' := (blk_cell h8' 1).trans rfl
              have hb57 : Below w5.heap.size w5 w7 := below_step (pw_below_drewN (Below.refl _ _) m3) hb7
              go_simp
              refine hK _ _ ?_
              clear hK K
              refine wpAny_ready (rs := [7]) (by kernel_rfl) (by simp) ?_
              refine AllReady.cons rfl (fun K hK => ?_) AllReady.nil
              go_simp
              refine hK _ _ ?_
              clear hK K
              refine wpAny_ready (rs := [8]) (by kernel_rfl) (by simp) ?_
              refine AllReady.cons rfl (fun K hK => ?_) AllReady.nil
              go_simp
              go_at_call 11
              refine (horologeref29_Same.calls k Ad cd _ Ae ce _ Af cf _ Ag cg _ true _ hd1 hd2 hd3 hd4 (Kd.C_below hf1 hb57) hf2 (Kd.C_below hf3 hb57) hf4 hsame).mono ?_
              rintro e w8 ⟨rfl, hb8⟩
              go_simp
              refine hK _ _ ?_
              clear hK K
              refine wpAny_ready (rs := [9]) (by kernel_rfl) (by simp) ?_
              refine AllReady.cons rfl (fun K hK => ?_) AllReady.nil
              go_simp
              refine hK _ _ ?_
              clear hK K
              refine wpAny_ready (rs := [10]) (by kernel_rfl) (by simp) ?_
              refine AllReady.cons rfl (fun K hK => ?_) AllReady.nil
              go_simp
              refine hK _ _ ?_
              clear hK K
              refine wpAny_done (by kernel_rfl) ?_ _
              try go_wp2
              go_meet
              case rel => exact ⟨rfl, ⟨below_step (below_step hbw5 hb57) hb8⟩⟩
            · go_simp
              refine hK _ _ ?_
              clear hK K
              refine wpAny_ready (rs := [6]) (by kernel_rfl) (by simp) ?_
              refine AllReady.cons rfl (fun K hK => ?_) AllReady.nil
              go_simp
              go_at_call 12
              refine (doc_c (N := w2.heap.size) k A0 c0 xs A2 c2 t _ (Kd.R_drewN hR0 _) (Kd.R_drewN hR2 _) hdoc).mono ?_
              rintro e w7 ⟨Ad, cd, Ae, ce, rfl, hd1, hd2, hd3, hd4, hb7⟩
              have hq : ∀ g o, w5.heap[g]? = some o → w7.heap[g]? = some o := fun g o h => (hb7.block g (blk_lt h)).trans h
              have h6' := hq _ _ h6
              have h8' := hq _ _ h8
              have c60' := (blk_cell h6' 0).trans rfl
              have c61' := (blk_cell h6' 1).trans rfl
              have c80' := (blk_cell h8' 0).trans rfl
              have c81' := (blk_cell h8' 1).trans rfl
              have hb57 : Below w5.heap.size w5 w7 := below_step (pw_below_drewN (Below.refl _ _) m3) hb7
              go_simp
              refine hK _ _ ?_
              clear hK K
              refine wpAny_ready (rs := [8]) (by kernel_rfl) (by simp) ?_
              refine AllReady.cons rfl (fun K hK => ?_) AllReady.nil
              go_simp
              go_at_call 11
              refine (horologeref29_Same.calls k Ad cd _ Ae ce _ Af cf _ Ag cg _ true _ hd1 hd2 hd3 hd4 (Kd.C_below hf1 hb57) hf2 (Kd.C_below hf3 hb57) hf4 hsame).mono ?_
              rintro e w8 ⟨rfl, hb8⟩
              go_simp
              refine hK _ _ ?_
              clear hK K
              refine wpAny_ready (rs := [9]) (by kernel_rfl) (by simp) ?_
              refine AllReady.cons rfl (fun K hK => ?_) AllReady.nil
              go_simp
              refine hK _ _ ?_
              clear hK K
              refine wpAny_ready (rs := [10]) (by kernel_rfl) (by simp) ?_
              refine AllReady.cons rfl (fun K hK => ?_) AllReady.nil
              go_simp
              refine hK _ _ ?_
              clear hK K
              refine wpAny_done (by kernel_rfl) ?_ _
              try go_wp2
              go_meet
              case rel => exact ⟨rfl, ⟨below_step (below_step hbw5 hb57) hb8⟩⟩
          · go_simp
            refine hK _ _ ?_
            clear hK K
            refine wpAny_ready (rs := [5]) (by kernel_rfl) (by simp) ?_
            refine AllReady.cons rfl (fun K hK => ?_) AllReady.nil
            go_simp
            refine hK _ _ ?_
            clear hK K
            refine wpAny_ready (rs := [6]) (by kernel_rfl) (by simp) ?_
            refine AllReady.cons rfl (fun K hK => ?_) AllReady.nil
            go_simp
            go_at_call 12
            refine (doc_c (N := w2.heap.size) k A0 c0 xs A2 c2 t _ (Kd.R_drewN hR0 _) (Kd.R_drewN hR2 _) hdoc).mono ?_
            rintro e w7 ⟨Ad, cd, Ae, ce, rfl, hd1, hd2, hd3, hd4, hb7⟩
            have hq : ∀ g o, w5.heap[g]? = some o → w7.heap[g]? = some o := fun g o h => (hb7.block g (blk_lt h)).trans h
            have h6' := hq _ _ h6
            have h8' := hq _ _ h8
            have c60' := (blk_cell h6' 0).trans rfl
            have c61' := (blk_cell h6' 1).trans rfl
            have c80' := (blk_cell h8' 0).trans rfl
            have c81' := (blk_cell h8' 1).trans rfl
            have hb57 : Below w5.heap.size w5 w7 := below_step (pw_below_drewN (Below.refl _ _) m3) hb7
            go_simp
            refine hK _ _ ?_
            clear hK K
            refine wpAny_ready (rs := [8]) (by kernel_rfl) (by simp) ?_
            refine AllReady.cons rfl (fun K hK => ?_) AllReady.nil
            go_simp
            go_at_call 11
            refine (horologeref29_Same.calls k Ad cd _ Ae ce _ Af cf _ Ag cg _ true _ hd1 hd2 hd3 hd4 (Kd.C_below hf1 hb57) hf2 (Kd.C_below hf3 hb57) hf4 hsame).mono ?_
            rintro e w8 ⟨rfl, hb8⟩
            go_simp
            refine hK _ _ ?_
            clear hK K
            refine wpAny_ready (rs := [9]) (by kernel_rfl) (by simp) ?_
            refine AllReady.cons rfl (fun K hK => ?_) AllReady.nil
            go_simp
            refine hK _ _ ?_
            clear hK K
            refine wpAny_ready (rs := [10]) (by kernel_rfl) (by simp) ?_
            refine AllReady.cons rfl (fun K hK => ?_) AllReady.nil
            go_simp
            refine hK _ _ ?_
            clear hK K
            refine wpAny_done (by kernel_rfl) ?_ _
            try go_wp2
            go_meet
            case rel => exact ⟨rfl, ⟨below_step (below_step hbw5 hb57) hb8⟩⟩
      · go_simp
        refine hK _ _ ?_
        clear hK K
        refine wpAny_ready (rs := [0]) (by kernel_rfl) (by simp) ?_
        refine AllReady.cons rfl (fun K hK => ?_) AllReady.nil
        go_simp
        refine hK _ _ ?_
        clear hK K
        refine wpAny_ready (rs := [1]) (by kernel_rfl) (by simp) ?_
        refine AllReady.cons rfl (fun K hK => ?_) AllReady.nil
        go_simp
        go_at_call 10
        refine (horologenum_Num.calls c d _ hnum).mono ?_
        rintro e wz ⟨rfl, ⟨m3, rfl⟩⟩
        go_simp
        refine hK _ _ ?_
        clear hK K
        refine wpAny_ready (rs := [3]) (by kernel_rfl) (by simp) ?_
        refine AllReady.cons rfl (fun K hK => ?_) AllReady.nil
        go_simp
        refine hK _ _ ?_
        clear hK K
        refine wpAny_ready (rs := [4]) (by kernel_rfl) (by simp) ?_
        refine AllReady.cons rfl (fun K hK => ?_) AllReady.nil
        go_simp
        refine hK _ _ ?_
        clear hK K
        refine wpAny_ready (rs := [5, 7]) (by kernel_rfl) (by simp) ?_
        refine AllReady.cons rfl (fun K hK => ?_) (AllReady.cons rfl (fun K hK => ?_) AllReady.nil)
        · go_simp
          refine hK _ _ ?_
          clear hK K
          refine wpAny_ready (rs := [6, 7]) (by kernel_rfl) (by simp) ?_
          refine AllReady.cons rfl (fun K hK => ?_) (AllReady.cons rfl (fun K hK => ?_) AllReady.nil)
          · go_simp
            go_at_call 12
            refine (doc_c (N := w2.heap.size) k A0 c0 xs A2 c2 t _ (Kd.R_drewN hR0 _) (Kd.R_drewN hR2 _) hdoc).mono ?_
            rintro e w7 ⟨Ad, cd, Ae, ce, rfl, hd1, hd2, hd3, hd4, hb7⟩
            have hq : ∀ g o, w5.heap[g]? = some o → w7.heap[g]? = some o := fun g o h => (hb7.block g (blk_lt h)).trans h
            have h6' := hq _ _ h6
            have h8' := hq _ _ h8
            have c60' := (blk_cell h6' 0).trans rfl
            have c61' := (blk_cell h6' 1).trans rfl
            have c80' := (blk_cell h8' 0).trans rfl
            have c81' := (blk_cell h8' 1).trans rfl
            have hb57 : Below w5.heap.size w5 w7 := below_step (pw_below_drewN (Below.refl _ _) m3) hb7
            go_simp
            refine hK _ _ ?_
            clear hK K
            refine wpAny_ready (rs := [7]) (by kernel_rfl) (by simp) ?_
            refine AllReady.cons rfl (fun K hK => ?_) AllReady.nil
            go_simp
            refine hK _ _ ?_
            clear hK K
            refine wpAny_ready (rs := [8]) (by kernel_rfl) (by simp) ?_
            refine AllReady.cons rfl (fun K hK => ?_) AllReady.nil
            go_simp
            go_at_call 11
            refine (horologeref29_Same.calls k Ad cd _ Ae ce _ Af cf _ Ag cg _ true _ hd1 hd2 hd3 hd4 (Kd.C_below hf1 hb57) hf2 (Kd.C_below hf3 hb57) hf4 hsame).mono ?_
            rintro e w8 ⟨rfl, hb8⟩
            go_simp
            refine hK _ _ ?_
            clear hK K
            refine wpAny_ready (rs := [9]) (by kernel_rfl) (by simp) ?_
            refine AllReady.cons rfl (fun K hK => ?_) AllReady.nil
            go_simp
            refine hK _ _ ?_
            clear hK K
            refine wpAny_ready (rs := [10]) (by kernel_rfl) (by simp) ?_
            refine AllReady.cons rfl (fun K hK => ?_) AllReady.nil
            go_simp
            refine hK _ _ ?_
            clear hK K
            refine wpAny_done (by kernel_rfl) ?_ _
            try go_wp2
            go_meet
            case rel => exact ⟨rfl, ⟨below_step (below_step hbw5 hb57) hb8⟩⟩
          · go_simp
            refine hK _ _ ?_
            clear hK K
            refine wpAny_ready (rs := [6]) (by kernel_rfl) (by simp) ?_
            refine AllReady.cons rfl (fun K hK => ?_) AllReady.nil
            go_simp
            go_at_call 12
            refine (doc_c (N := w2.heap.size) k A0 c0 xs A2 c2 t _ (Kd.R_drewN hR0 _) (Kd.R_drewN hR2 _) hdoc).mono ?_
            rintro e w7 ⟨Ad, cd, Ae, ce, rfl, hd1, hd2, hd3, hd4, hb7⟩
            have hq : ∀ g o, w5.heap[g]? = some o → w7.heap[g]? = some o := fun g o h => (hb7.block g (blk_lt h)).trans h
            have h6' := hq _ _ h6
            have h8' := hq _ _ h8
            have c60' := (blk_cell h6' 0).trans rfl
            have c61' := (blk_cell h6' 1).trans rfl
            have c80' := (blk_cell h8' 0).trans rfl
            have c81' := (blk_cell h8' 1).trans rfl
            have hb57 : Below w5.heap.size w5 w7 := below_step (pw_below_drewN (Below.refl _ _) m3) hb7
            go_simp
            refine hK _ _ ?_
            clear hK K
            refine wpAny_ready (rs := [8]) (by kernel_rfl) (by simp) ?_
            refine AllReady.cons rfl (fun K hK => ?_) AllReady.nil
            go_simp
            go_at_call 11
            refine (horologeref29_Same.calls k Ad cd _ Ae ce _ Af cf _ Ag cg _ true _ hd1 hd2 hd3 hd4 (Kd.C_below hf1 hb57) hf2 (Kd.C_below hf3 hb57) hf4 hsame).mono ?_
            rintro e w8 ⟨rfl, hb8⟩
            go_simp
            refine hK _ _ ?_
            clear hK K
            refine wpAny_ready (rs := [9]) (by kernel_rfl) (by simp) ?_
            refine AllReady.cons rfl (fun K hK => ?_) AllReady.nil
            go_simp
            refine hK _ _ ?_
            clear hK K
            refine wpAny_ready (rs := [10]) (by kernel_rfl) (by simp) ?_
            refine AllReady.cons rfl (fun K hK => ?_) AllReady.nil
            go_simp
            refine hK _ _ ?_
            clear hK K
            refine wpAny_done (by kernel_rfl) ?_ _
            try go_wp2
            go_meet
            case rel => exact ⟨rfl, ⟨below_step (below_step hbw5 hb57) hb8⟩⟩
        · go_simp
          refine hK _ _ ?_
          clear hK K
          refine wpAny_ready (rs := [5]) (by kernel_rfl) (by simp) ?_
          refine AllReady.cons rfl (fun K hK => ?_) AllReady.nil
          go_simp
          refine hK _ _ ?_
          clear hK K
          refine wpAny_ready (rs := [6]) (by kernel_rfl) (by simp) ?_
          refine AllReady.cons rfl (fun K hK => ?_) AllReady.nil
          go_simp
          go_at_call 12
          refine (doc_c (N := w2.heap.size) k A0 c0 xs A2 c2 t _ (Kd.R_drewN hR0 _) (Kd.R_drewN hR2 _) hdoc).mono ?_
          rintro e w7 ⟨Ad, cd, Ae, ce, rfl, hd1, hd2, hd3, hd4, hb7⟩
          have hq : ∀ g o, w5.heap[g]? = some o → w7.heap[g]? = some o := fun g o h => (hb7.block g (blk_lt h)).trans h
          have h6' := hq _ _ h6
          have h8' := hq _ _ h8
          have c60' := (blk_cell h6' 0).trans rfl
          have c61' := (blk_cell h6' 1).trans rfl
          have c80' := (blk_cell h8' 0).trans rfl
          have c81' := (blk_cell h8' 1).trans rfl
          have hb57 : Below w5.heap.size w5 w7 := below_step (pw_below_drewN (Below.refl _ _) m3) hb7
          go_simp
          refine hK _ _ ?_
          clear hK K
          refine wpAny_ready (rs := [8]) (by kernel_rfl) (by simp) ?_
          refine AllReady.cons rfl (fun K hK => ?_) AllReady.nil
          go_simp
          go_at_call 11
          refine (horologeref29_Same.calls k Ad cd _ Ae ce _ Af cf _ Ag cg _ true _ hd1 hd2 hd3 hd4 (Kd.C_below hf1 hb57) hf2 (Kd.C_below hf3 hb57) hf4 hsame).mono ?_
          rintro e w8 ⟨rfl, hb8⟩
          go_simp
          refine hK _ _ ?_
          clear hK K
          refine wpAny_ready (rs := [9]) (by kernel_rfl) (by simp) ?_
          refine AllReady.cons rfl (fun K hK => ?_) AllReady.nil
          go_simp
          refine hK _ _ ?_
          clear hK K
          refine wpAny_ready (rs := [10]) (by kernel_rfl) (by simp) ?_
          refine AllReady.cons rfl (fun K hK => ?_) AllReady.nil
          go_simp
          refine hK _ _ ?_
          clear hK K
          refine wpAny_done (by kernel_rfl) ?_ _
          try go_wp2
          go_meet
          case rel => exact ⟨rfl, ⟨below_step (below_step hbw5 hb57) hb8⟩⟩
    case rest =>
      obtain ⟨rfl, hbc⟩ := hcut
      have hbc := hbc.out
      have h6c := (hbc.block gb6 (blk_lt h6W)).trans h6W
      obtain ⟨g0, cur, hH⟩ := held_of (M := w2.heap.size) (Nat.le_refl _) hge6 h6c (Kd.R_below hR0W hbc) (Kd.R_below hR2W hbc)
      have hBc : Below w2.heap.size w2 wc := below_step hB8 hbc
      have hnf : xs.length ≤ 9223372036854775807 := (Kd.R_reads' hR0W).2.2.2.1
      have hns : t.length ≤ 9223372036854775807 := (Kd.R_reads' hR2W).2.2.2.1
      have HNF := Aside0.mk hnf
      have HNS := Aside0.mk hns
      clear hnf hns
      clear hbc h6W h8W hR0W hR2W hf1W hf3W hB8
      have c60 : wc.cell? ⟨gb6, 0, none⟩ = some (.slice A0 xs.length c0) := (blk_cell h6c 0).trans rfl
      go_wp2
      go_loopw [57] (fun i wr => ∃ j : Nat, j ≤ xs.length ∧ i = .int .i64 (j : Int) ∧ Held w2.heap.size gb6 (.slice A0 xs.length c0) (.slice A2 t.length c2) xs.length A0 g0 cur t.length A2 wr ∧ Aside0 (Below w2.heap.size wc wr)) (fun i _ => xs.length - (intOf i).toNat)
      case atStart => exact ⟨0, Nat.zero_le _, rfl, hH, ⟨Below.refl _ _⟩⟩
      case round =>
        obtain ⟨j, hj, rfl, hHr, hBr⟩ := hrel
        have e60 : wr.cell? ⟨gb6, 0, none⟩ = some (.slice A0 xs.length c0) := (blk_cell hHr.box 0).trans rfl
        have e61 : wr.cell? ⟨gb6, 1, none⟩ = some (.slice A2 t.length c2) := (blk_cell hHr.box 1).trans rfl
        by_cases hlt : j < xs.length
        · have d4 : decide ((j : Int) < (xs.length : Int)) = true := decide_eq_true (Int.ofNat_lt.2 hlt)
          obtain ⟨e0, hN0, hg0, hfl⟩ := hHr.flds (Nat.lt_of_le_of_lt (Nat.zero_le _) hlt)
          obtain ⟨A, n, cc, hcur, hnm, hrow⟩ := hfl j hlt
          have HNM := Aside0.mk hnm
          clear hnm
          subst e0
          have hadd := add0 g0 (j * 2)
          have eB : wr.cell? ⟨g0, j * 2 + 1, none⟩ = some (.slice A n cc) := (blk_cell hg0 _).trans hcur
          have hwj : wrap64 ((j : Int) + 1) = ((j + 1 : Nat) : Int) := wrapS hlt HNF.out
          have HFL := Aside0.mk hfl
          clear hfl
          go_wp2
          go_loopw [67] (fun i wq => ∃ p : Nat, p ≤ n ∧ i = .int .i64 (p : Int) ∧ Held w2.heap.size gb6 (.slice (some ⟨g0, 0, none⟩) xs.length c0) (.slice A2 t.length c2) xs.length (some ⟨g0, 0, none⟩) g0 cur t.length A2 wq ∧ Aside0 (Below w2.heap.size wc wq)) (fun i _ => n - (intOf i).toNat)
          case atStart => exact ⟨0, Nat.zero_le _, rfl, hHr, hBr⟩
          case round =>
            obtain ⟨p, hp, rfl, hHq, hBq⟩ := hrel
            have e60 : wr.cell? ⟨gb6, 0, none⟩ = some (.slice (some ⟨g0, 0, none⟩) xs.length c0) := (blk_cell hHq.box 0).trans rfl
            have e61 : wr.cell? ⟨gb6, 1, none⟩ = some (.slice A2 t.length c2) := (blk_cell hHq.box 1).trans rfl
            by_cases hlp : p < n
            · have d5 : decide ((p : Int) < (n : Int)) = true := decide_eq_true (Int.ofNat_lt.2 hlp)
              obtain ⟨_, hN1, hg1, hfq⟩ := hHq.flds (Nat.lt_of_le_of_lt (Nat.zero_le _) hlt)
              obtain ⟨A', n', cc', hcur', hnm', hrow'⟩ := hfq j hlt
              rw [hcur] at hcur'
              injection hcur' with hcur'
              injection hcur' with h1 h2 h3
              subst h1 h2 h3
              clear hnm'
              obtain ⟨g, cs, eA, hNg, hgg, hby⟩ := hrow' (Nat.lt_of_le_of_lt (Nat.zero_le _) hlp)
              subst eA
              obtain ⟨b, hb⟩ := hby p hlp
              have hadd2 := add0 g p
              have eB2 : wr.cell? ⟨g0, j * 2 + 1, none⟩ = some (.slice (some ⟨g, 0, none⟩) n cc) := (blk_cell hg1 _).trans hcur
              have eC : wr.cell? ⟨g, p, none⟩ = some (.int .u8 b) := (blk_cell hgg p).trans hb
              have fC : wr.frozen? ⟨g, p, none⟩ = false := blk_frozen hgg p
              have hwp : wrap64 ((p : Int) + 1) = ((p + 1 : Nat) : Int) := wrapS hlp HNM.out
              have HBY := Aside0.mk hby
              have HFQ := Aside0.mk hfq
              clear hby hfq
              go_wp2
              go_roundw
              case rel => exact ⟨p + 1, Nat.succ_le_of_lt hlp, by rw [hwp], hHq.set hgg _, ⟨hBq.out.setCell (p := ⟨g, p, none⟩) hNg _⟩⟩
              case measure => rw [hwp]; exact meas_ hlp
            · obtain rfl : p = n := Nat.le_antisymm hp (Nat.not_lt.1 hlp)
              have d5 : decide ((p : Int) < (p : Int)) = false := decide_eq_false (Int.lt_irrefl _)
              go_wp2
              go_roundw
              case rel => exact ⟨j + 1, Nat.succ_le_of_lt hlt, by rw [hwj], hHq, hBq⟩
              case measure => rw [hwj]; exact meas_ hlt
        · have hjx : j = xs.length := Nat.le_antisymm hj (Nat.not_lt.1 hlt)
          subst hjx
          have d4 : decide ((xs.length : Int) < (xs.length : Int)) = false := decide_eq_false (Int.lt_irrefl _)
          go_wp2
          go_loopw [86] (fun i wq => ∃ p : Nat, p ≤ t.length ∧ i = .int .i64 (p : Int) ∧ Held w2.heap.size gb6 (.slice A0 xs.length c0) (.slice A2 t.length c2) xs.length A0 g0 cur t.length A2 wq ∧ Aside0 (Below w2.heap.size wc wq)) (fun i _ => t.length - (intOf i).toNat)
          case atStart => exact ⟨0, Nat.zero_le _, rfl, hHr, hBr⟩
          case round =>
            obtain ⟨p, hp, rfl, hHq, hBq⟩ := hrel
            have e60 : wr.cell? ⟨gb6, 0, none⟩ = some (.slice A0 xs.length c0) := (blk_cell hHq.box 0).trans rfl
            have e61 : wr.cell? ⟨gb6, 1, none⟩ = some (.slice A2 t.length c2) := (blk_cell hHq.box 1).trans rfl
            by_cases hlp : p < t.length
            · have d5 : decide ((p : Int) < (t.length : Int)) = true := decide_eq_true (Int.ofNat_lt.2 hlp)
              obtain ⟨g, cs, eA, hNg, hgg, hby⟩ := hHq.sel (Nat.lt_of_le_of_lt (Nat.zero_le _) hlp)
              subst eA
              obtain ⟨b, hb⟩ := hby p hlp
              have hadd2 := add0 g p
              have eC : wr.cell? ⟨g, p, none⟩ = some (.int .u8 b) := (blk_cell hgg p).trans hb
              have fC : wr.frozen? ⟨g, p, none⟩ = false := blk_frozen hgg p
              have hwp : wrap64 ((p : Int) + 1) = ((p + 1 : Nat) : Int) := wrapS hlp HNS.out
              have HBY := Aside0.mk hby
              clear hby
              go_wp2
              go_roundw
              case rel => exact ⟨p + 1, Nat.succ_le_of_lt hlp, by rw [hwp], hHq.set hgg _, ⟨hBq.out.setCell (p := ⟨g, p, none⟩) hNg _⟩⟩
              case measure => rw [hwp]; exact meas_ hlp
            · have hpt : p = t.length := Nat.le_antisymm hp (Nat.not_lt.1 hlp)
              subst hpt
              have d5 : decide ((t.length : Int) < (t.length : Int)) = false := decide_eq_false (Int.lt_irrefl _)
              have hB2r : Below w2.heap.size w2 wr := hBc.trans hBq.out
              have C5 := Kd.C_below (Kd.R_reads' R2.out).2.2 hB2r
              have K5 := (Kd.R_reads' R2.out).2.1
              have hBwr : Below w.heap.size w wr := below_step (below_step hb0 B2.out) hB2r
              go_wp2_with (go_at_call 13; refine (horologenum_Bytes.calls A5 c5 l1 A1 c1 l1 true _ C5 K5 (Kd.C_below HR1.out hBwr) HC1.out (by unfold horologenum_Bytes.f; simp)).mono ?_; rintro e wz ⟨rfl, ⟨mz, rfl⟩⟩)
              go_ret
              exact ⟨rfl, pw_below_drewN hBwr _⟩
  case neg =>
    have d1 : decide ((1000 : Int) < (l1.length : Int)) = false := decide_eq_false (by omega)
    have d3 : decide ((66000 : Int) < (l1.length : Int)) = false := decide_eq_false (by omega)
    have HL := Aside0.mk (show l1.length ≤ 66000 by omega)
    clear p1
    go_enter Try.func3, Try.ntmps3
    go_wp2_with (first | (go_at_call 7; refine (horologelaw29_alive.calls k true _ hal).mono ?_; rintro e w0 ⟨rfl, hb0⟩) | ((with_reducible refine gate_dst (N := 28) rfl ?_); refine Kd.R_lit (Kd.int .u8) w0.heap.size 5 ?hg (N := 28) ?hd (xs := ([] : List Int)) (inner := []) (ok := fun _ => True) (okp := fun _ => True) ?hr ?hp (fun _ hk => hk) trivial (Below.refl _ _) (Nat.le_refl _) (by simp) ?_; (case hd => rfl); (case hg => rfl); (case hr => first | (go_simp; done) | (go_simp; rfl)); (case hp => exact (Reps.none _ _)); intro v1 w1 ho1 hb1 hg_ hnew_; clear hg_ hnew_; have R1 := Aside0.mk ho1; have B1 := Aside0.mk hb1; clear ho1 hb1) | ((with_reducible refine gate_builtin (b := .append) (xs := #[.tmp 28, .tmp 29]) rfl ?_); at_builtin; refine Kd.R_append_rows (Kd.int .u8) (w0 := w0) w0.heap.size rfl (.tmp 28) (.tmp 29) 22 5 (.int .u8 0) 1 rfl Try.underlying22 (by kernel_rfl) rfl (by decide) (by omega) v1 [] l1 _ _ _ (fun _ => True) (fun _ => False) rfl rfl ?aO ?aR (fun _ _ h => h) (fun _ h => h.elim) ?aF ?aB ?aS ?aL ?_; (case aR => exact (Kd.C_below HR1.out (below_step hb0 B1.out))); (case aB => exact B1.out); (case aF => exact (fun _ _ => trivial)); (case aO => exact R1.out); (case aS => exact below_size B1.out); (case aL => have := HL.out; simp only [List.length_nil]; omega); intro v2 w2 ho2 hb2 hg_ hat_; clear hg_ hat_; rw [List.nil_append] at ho2; obtain ⟨A5, c5, rfl⟩ := Kd.R_slice ho2; have R2 := Aside0.mk ho2; have B2 := Aside0.mk hb2; clear ho2 hb2) | (go_at_call 8; refine (walk_c k a0 A5 c5 l1 xs t c _ (Kd.R_reads' R2.out).2.2 (Kd.R_reads' R2.out).2.1 HW.out).mono ?_; rintro e w3 ⟨A0, c0, A2, c2, rfl, hR0, hR2, hb3⟩) | ((with_reducible refine gate_dst (N := 6) rfl ?_); (try (refine gate_guard (by rfl) ?_; dsimp only)); refine box_event ?hg (N := 6) ?hd (cs := #[.slice none 0 0, .slice none 0 0]) (t := 26) ?hr ?_; (case hd => rfl); (case hg => rfl); (case hr => first | (go_simp; done) | (go_simp; rfl)); intro gb6 hg6 w4 hbox6 hb4; have k60 : w4.cell? ⟨gb6, 0, none⟩ = some (.slice none 0 0) := (blk_cell hbox6 0).trans rfl; have k61 : w4.cell? ⟨gb6, 1, none⟩ = some (.slice none 0 0) := (blk_cell hbox6 1).trans rfl; have f60 := blk_frozen hbox6 0; have f61 := blk_frozen hbox6 1; have HG6 := Aside0.mk hg6; clear hg6) | (go_at_call 9; refine (rwalk_c k a0 A1 c1 l1 ys t d _ (Kd.C_below HR1.out (below_set (below_set (below_step (below_step (below_step hb0 B2.out) hb3) hb4) (by rw [HG6.out]; exact Nat.le_trans (below_size hb0) (Nat.le_trans (below_size B2.out) (below_size hb3)))) (by rw [HG6.out]; exact Nat.le_trans (below_size hb0) (Nat.le_trans (below_size B2.out) (below_size hb3))))) HC1.out HRW.out).mono ?_; rintro e w6 ⟨Af, cf, Ag, cg, rfl, hf1, hf2, hf3, hf4, hb6⟩) | ((with_reducible refine gate_dst (N := 8) rfl ?_); (try (refine gate_guard (by rfl) ?_; dsimp only)); refine box_event ?hg (N := 8) ?hd (cs := #[.slice none 0 0, .slice none 0 0]) (t := 33) ?hr ?_; (case hd => rfl); (case hg => rfl); (case hr => first | (go_simp; done) | (go_simp; rfl)); intro gb8 hg8 w7 hbox8 hb7; have k80 : w7.cell? ⟨gb8, 0, none⟩ = some (.slice none 0 0) := (blk_cell hbox8 0).trans rfl; have k81 : w7.cell? ⟨gb8, 1, none⟩ = some (.slice none 0 0) := (blk_cell hbox8 1).trans rfl; have f80 := blk_frozen hbox8 0; have f81 := blk_frozen hbox8 1; have HG8 := Aside0.mk hg8; clear hg8))
    have hge2 : w.heap.size ≤ w2.heap.size := Nat.le_trans (below_size hb0) (below_size B2.out)
    have hge6 : w2.heap.size ≤ gb6 := by rw [HG6.out]; exact below_size hb3
    have h6p : (w4.setCell ⟨gb6, 0, none⟩ (.slice A0 xs.length c0)).heap[gb6]? = some (.cells #[.slice A0 xs.length c0, .slice none 0 0] 26 (0, 0)) := blk_put (cs := #[.slice none 0 0, .slice none 0 0]) hbox6 0 _ rfl
    have h6a : ((w4.setCell ⟨gb6, 0, none⟩ (.slice A0 xs.length c0)).setCell ⟨gb6, 1, none⟩ (.slice A2 t.length c2)).heap[gb6]? = some (.cells #[.slice A0 xs.length c0, .slice A2 t.length c2] 26 (0, 0)) := blk_put (cs := #[.slice A0 xs.length c0, .slice none 0 0]) h6p 1 _ rfl
    have hR0a := Kd.R_set (Kd.R_set (Kd.R_below hR0 hb4) hbox6 (by decide) 0 (.slice A0 xs.length c0)) h6p (by decide) 1 (.slice A2 t.length c2)
    have hR2a := Kd.R_set (Kd.R_set (Kd.R_below hR2 hb4) hbox6 (by decide) 0 (.slice A0 xs.length c0)) h6p (by decide) 1 (.slice A2 t.length c2)
    have hB4 : Below w2.heap.size w2 ((w4.setCell ⟨gb6, 0, none⟩ (.slice A0 xs.length c0)).setCell ⟨gb6, 1, none⟩ (.slice A2 t.length c2)) := below_set (below_set (below_step hb3 hb4) hge6) hge6
    have hge8 : w6.heap.size ≤ gb8 := by rw [HG8.out]; exact Nat.le_refl _
    have h8p : (w7.setCell ⟨gb8, 0, none⟩ (.slice Af ys.length cf)).heap[gb8]? = some (.cells #[.slice Af ys.length cf, .slice none 0 0] 33 (0, 0)) := blk_put (cs := #[.slice none 0 0, .slice none 0 0]) hbox8 0 _ rfl
    have h8W : ((w7.setCell ⟨gb8, 0, none⟩ (.slice Af ys.length cf)).setCell ⟨gb8, 1, none⟩ (.slice Ag t.length cg)).heap[gb8]? = some (.cells #[.slice Af ys.length cf, .slice Ag t.length cg] 33 (0, 0)) := blk_put (cs := #[.slice Af ys.length cf, .slice none 0 0]) h8p 1 _ rfl
    have h67 : w7.heap[gb6]? = some (.cells #[.slice A0 xs.length c0, .slice A2 t.length c2] 26 (0, 0)) := by
      have e1 := (hb6.block gb6 (blk_lt h6a)).trans h6a
      exact (hb7.block gb6 (blk_lt e1)).trans e1
    have hne68 : gb6 ≠ gb8 := blk_ne h67 hbox8 (by decide)
    have h6W : ((w7.setCell ⟨gb8, 0, none⟩ (.slice Af ys.length cf)).setCell ⟨gb8, 1, none⟩ (.slice Ag t.length cg)).heap[gb6]? = some (.cells #[.slice A0 xs.length c0, .slice A2 t.length c2] 26 (0, 0)) :=
      (Below.heap_setCell _ ⟨gb8, 1, none⟩ _ gb6 hne68).trans ((Below.heap_setCell _ ⟨gb8, 0, none⟩ _ gb6 hne68).trans h67)
    have hR0W := Kd.R_set (Kd.R_set (Kd.R_below (Kd.R_below hR0a hb6) hb7) hbox8 (by decide) 0 (.slice Af ys.length cf)) h8p (by decide) 1 (.slice Ag t.length cg)
    have hR2W := Kd.R_set (Kd.R_set (Kd.R_below (Kd.R_below hR2a hb6) hb7) hbox8 (by decide) 0 (.slice Af ys.length cf)) h8p (by decide) 1 (.slice Ag t.length cg)
    have hb68 : Below w6.heap.size w6 ((w7.setCell ⟨gb8, 0, none⟩ (.slice Af ys.length cf)).setCell ⟨gb8, 1, none⟩ (.slice Ag t.length cg)) := below_set (below_set hb7 hge8) hge8
    have hf1W := Kd.C_below hf1 hb68
    have hf3W := Kd.C_below hf3 hb68
    have hB8 : Below w2.heap.size w2 ((w7.setCell ⟨gb8, 0, none⟩ (.slice Af ys.length cf)).setCell ⟨gb8, 1, none⟩ (.slice Ag t.length cg)) := below_step (below_step hB4 hb6) hb68
    generalize (w7.setCell ⟨gb8, 0, none⟩ (.slice Af ys.length cf)).setCell ⟨gb8, 1, none⟩ (.slice Ag t.length cg) = W8 at h8W h6W hR0W hR2W hf1W hf3W hB8 ⊢
    clear h6p h6a hR0a hR2a hB4 h8p h67 hb68 hf1 hf3 hb6 hb7 hb4 hb3 hbox6 hbox8 k60 k61 f60 f61 k80 k81 f80 f81 hR0 hR2
    go_cut [43, 44, 45, 46, 47, 48, 49, 50, 51, 52, 53] (fun v43 v44 v45 v46 v47 v48 v49 v50 v51 v52 v53 wc => v53 = .bool false ∧ Aside0 (Below W8.heap.size W8 wc))
    case first =>
      refine wp_region_any hmx ?_
      obtain ⟨w5, hw5⟩ : ∃ w5, { W8 with drawn := W8.drawn + 1 } = w5 := ⟨_, rfl⟩
      have h6 : w5.heap[gb6]? = some (.cells #[.slice A0 xs.length c0, .slice A2 t.length c2] 26 (0, 0)) := by rw [← hw5]; exact h6W
      have h8 : w5.heap[gb8]? = some (.cells #[.slice Af ys.length cf, .slice Ag t.length cg] 33 (0, 0)) := by rw [← hw5]; exact h8W
      have hR0 : Kd.R k41 41 w5 w2.heap.size (fun _ => True) (.slice A0 xs.length c0) xs := by rw [← hw5]; exact Kd.R_drewN hR0W 1
      have hR2 : Kd.R (Kd.int .u8) 5 w5 w2.heap.size (fun _ => True) (.slice A2 t.length c2) t := by rw [← hw5]; exact Kd.R_drewN hR2W 1
      have hf1 : Kd.C k69 w5 Af ys.length ys := by rw [← hw5]; exact Kd.C_drewN hf1W 1
      have hf3 : Kd.C (Kd.int .u8) w5 Ag t.length t := by rw [← hw5]; exact Kd.C_drewN hf3W 1
      have hbw5 : Below W8.heap.size W8 w5 := by rw [← hw5]; exact pw_below_drewN (Below.refl _ _) 1
      rw [hw5]
      clear hw5
      have c60 : w5.cell? ⟨gb6, 0, none⟩ = some (.slice A0 xs.length c0) := (blk_cell h6 0).trans rfl
      have c61 : w5.cell? ⟨gb6, 1, none⟩ = some (.slice A2 t.length c2) := (blk_cell h6 1).trans rfl
      have c80 : w5.cell? ⟨gb8, 0, none⟩ = some (.slice Af ys.length cf) := (blk_cell h8 0).trans rfl
      have c81 : w5.cell? ⟨gb8, 1, none⟩ = some (.slice Ag t.length cg) := (blk_cell h8 1).trans rfl
      refine wpAny_ready (rs := [0, 2]) (by kernel_rfl) (by simp) ?_
      refine AllReady.cons rfl (fun K hK => ?_) (AllReady.cons rfl (fun K hK => ?_) AllReady.nil)
      · go_simp
        refine hK _ _ ?_
        clear hK K
        refine wpAny_ready (rs := [1, 2]) (by kernel_rfl) (by simp) ?_
        refine AllReady.cons rfl (fun K hK => ?_) (AllReady.cons rfl (fun K hK => ?_) AllReady.nil)
        · go_simp
          go_at_call 10
          refine (horologenum_Num.calls c d _ hnum).mono ?_
          rintro e wz ⟨rfl, ⟨m3, rfl⟩⟩
          go_simp
          refine hK _ _ ?_
          clear hK K
          refine wpAny_ready (rs := [2]) (by kernel_rfl) (by simp) ?_
          refine AllReady.cons rfl (fun K hK => ?_) AllReady.nil
          go_simp
          refine hK _ _ ?_
          clear hK K
          refine wpAny_ready (rs := [3]) (by kernel_rfl) (by simp) ?_
          refine AllReady.cons rfl (fun K hK => ?_) AllReady.nil
          go_simp
          refine hK _ _ ?_
          clear hK K
          refine wpAny_ready (rs := [4]) (by kernel_rfl) (by simp) ?_
          refine AllReady.cons rfl (fun K hK => ?_) AllReady.nil
          go_simp
          refine hK _ _ ?_
          clear hK K
          refine wpAny_ready (rs := [5, 7]) (by kernel_rfl) (by simp) ?_
          refine AllReady.cons rfl (fun K hK => ?_) (AllReady.cons rfl (fun K hK => ?_) AllReady.nil)
          · go_simp
            refine hK _ _ ?_
            clear hK K
            refine wpAny_ready (rs := [6, 7]) (by kernel_rfl) (by simp) ?_
            refine AllReady.cons rfl (fun K hK => ?_) (AllReady.cons rfl (fun K hK => ?_) AllReady.nil)
            · go_simp
              go_at_call 12
              refine (doc_c (N := w2.heap.size) k A0 c0 xs A2 c2 t _ (Kd.R_drewN hR0 _) (Kd.R_drewN hR2 _) hdoc).mono ?_
              rintro e w7 ⟨Ad, cd, Ae, ce, rfl, hd1, hd2, hd3, hd4, hb7⟩
              have hq : ∀ g o, w5.heap[g]? = some o → w7.heap[g]? = some o := fun g o h => (hb7.block g (blk_lt h)).trans h
              have h6' := hq _ _ h6
              have h8' := hq _ _ h8
              have c60' := (blk_cell h6' 0).trans rfl
              have c61' := (blk_cell h6' 1).trans rfl
              have c80' := (blk_cell h8' 0).trans rfl
              have c81' := (blk_cell h8' 1).trans rfl
              have hb57 : Below w5.heap.size w5 w7 := below_step (pw_below_drewN (Below.refl _ _) m3) hb7
              go_simp
              refine hK _ _ ?_
              clear hK K
              refine wpAny_ready (rs := [7]) (by kernel_rfl) (by simp) ?_
              refine AllReady.cons rfl (fun K hK => ?_) AllReady.nil
              go_simp
              refine hK _ _ ?_
              clear hK K
              refine wpAny_ready (rs := [8]) (by kernel_rfl) (by simp) ?_
              refine AllReady.cons rfl (fun K hK => ?_) AllReady.nil
              go_simp
              go_at_call 11
              refine (horologeref29_Same.calls k Ad cd _ Ae ce _ Af cf _ Ag cg _ true _ hd1 hd2 hd3 hd4 (Kd.C_below hf1 hb57) hf2 (Kd.C_below hf3 hb57) hf4 hsame).mono ?_
              rintro e w8 ⟨rfl, hb8⟩
              go_simp
              refine hK _ _ ?_
              clear hK K
              refine wpAny_ready (rs := [9]) (by kernel_rfl) (by simp) ?_
              refine AllReady.cons rfl (fun K hK => ?_) AllReady.nil
              go_simp
              refine hK _ _ ?_
              clear hK K
              refine wpAny_ready (rs := [10]) (by kernel_rfl) (by simp) ?_
              refine AllReady.cons rfl (fun K hK => ?_) AllReady.nil
              go_simp
              refine hK _ _ ?_
              clear hK K
              refine wpAny_done (by kernel_rfl) ?_ _
              try go_wp2
              go_meet
              case rel => exact ⟨rfl, ⟨below_step (below_step hbw5 hb57) hb8⟩⟩
            · go_simp
              refine hK _ _ ?_
              clear hK K
              refine wpAny_ready (rs := [6]) (by kernel_rfl) (by simp) ?_
              refine AllReady.cons rfl (fun K hK => ?_) AllReady.nil
              go_simp
              go_at_call 12
              refine (doc_c (N := w2.heap.size) k A0 c0 xs A2 c2 t _ (Kd.R_drewN hR0 _) (Kd.R_drewN hR2 _) hdoc).mono ?_
              rintro e w7 ⟨Ad, cd, Ae, ce, rfl, hd1, hd2, hd3, hd4, hb7⟩
              have hq : ∀ g o, w5.heap[g]? = some o → w7.heap[g]? = some o := fun g o h => (hb7.block g (blk_lt h)).trans h
              have h6' := hq _ _ h6
              have h8' := hq _ _ h8
              have c60' := (blk_cell h6' 0).trans rfl
              have c61' := (blk_cell h6' 1).trans rfl
              have c80' := (blk_cell h8' 0).trans rfl
              have c81' := (blk_cell h8' 1).trans rfl
              have hb57 : Below w5.heap.size w5 w7 := below_step (pw_below_drewN (Below.refl _ _) m3) hb7
              go_simp
              refine hK _ _ ?_
              clear hK K
              refine wpAny_ready (rs := [8]) (by kernel_rfl) (by simp) ?_
              refine AllReady.cons rfl (fun K hK => ?_) AllReady.nil
              go_simp
              go_at_call 11
              refine (horologeref29_Same.calls k Ad cd _ Ae ce _ Af cf _ Ag cg _ true _ hd1 hd2 hd3 hd4 (Kd.C_below hf1 hb57) hf2 (Kd.C_below hf3 hb57) hf4 hsame).mono ?_
              rintro e w8 ⟨rfl, hb8⟩
              go_simp
              refine hK _ _ ?_
              clear hK K
              refine wpAny_ready (rs := [9]) (by kernel_rfl) (by simp) ?_
              refine AllReady.cons rfl (fun K hK => ?_) AllReady.nil
              go_simp
              refine hK _ _ ?_
              clear hK K
              refine wpAny_ready (rs := [10]) (by kernel_rfl) (by simp) ?_
              refine AllReady.cons rfl (fun K hK => ?_) AllReady.nil
              go_simp
              refine hK _ _ ?_
              clear hK K
              refine wpAny_done (by kernel_rfl) ?_ _
              try go_wp2
              go_meet
              case rel => exact ⟨rfl, ⟨below_step (below_step hbw5 hb57) hb8⟩⟩
          · go_simp
            refine hK _ _ ?_
            clear hK K
            refine wpAny_ready (rs := [5]) (by kernel_rfl) (by simp) ?_
            refine AllReady.cons rfl (fun K hK => ?_) AllReady.nil
            go_simp
            refine hK _ _ ?_
            clear hK K
            refine wpAny_ready (rs := [6]) (by kernel_rfl) (by simp) ?_
            refine AllReady.cons rfl (fun K hK => ?_) AllReady.nil
            go_simp
            go_at_call 12
            refine (doc_c (N := w2.heap.size) k A0 c0 xs A2 c2 t _ (Kd.R_drewN hR0 _) (Kd.R_drewN hR2 _) hdoc).mono ?_
            rintro e w7 ⟨Ad, cd, Ae, ce, rfl, hd1, hd2, hd3, hd4, hb7⟩
            have hq : ∀ g o, w5.heap[g]? = some o → w7.heap[g]? = some o := fun g o h => (hb7.block g (blk_lt h)).trans h
            have h6' := hq _ _ h6
            have h8' := hq _ _ h8
            have c60' := (blk_cell h6' 0).trans rfl
            have c61' := (blk_cell h6' 1).trans rfl
            have c80' := (blk_cell h8' 0).trans rfl
            have c81' := (blk_cell h8' 1).trans rfl
            have hb57 : Below w5.heap.size w5 w7 := below_step (pw_below_drewN (Below.refl _ _) m3) hb7
            go_simp
            refine hK _ _ ?_
            clear hK K
            refine wpAny_ready (rs := [8]) (by kernel_rfl) (by simp) ?_
            refine AllReady.cons rfl (fun K hK => ?_) AllReady.nil
            go_simp
            go_at_call 11
            refine (horologeref29_Same.calls k Ad cd _ Ae ce _ Af cf _ Ag cg _ true _ hd1 hd2 hd3 hd4 (Kd.C_below hf1 hb57) hf2 (Kd.C_below hf3 hb57) hf4 hsame).mono ?_
            rintro e w8 ⟨rfl, hb8⟩
            go_simp
            refine hK _ _ ?_
            clear hK K
            refine wpAny_ready (rs := [9]) (by kernel_rfl) (by simp) ?_
            refine AllReady.cons rfl (fun K hK => ?_) AllReady.nil
            go_simp
            refine hK _ _ ?_
            clear hK K
            refine wpAny_ready (rs := [10]) (by kernel_rfl) (by simp) ?_
            refine AllReady.cons rfl (fun K hK => ?_) AllReady.nil
            go_simp
            refine hK _ _ ?_
            clear hK K
            refine wpAny_done (by kernel_rfl) ?_ _
            try go_wp2
            go_meet
            case rel => exact ⟨rfl, ⟨below_step (below_step hbw5 hb57) hb8⟩⟩
        · go_simp
          refine hK _ _ ?_
          clear hK K
          refine wpAny_ready (rs := [1]) (by kernel_rfl) (by simp) ?_
          refine AllReady.cons rfl (fun K hK => ?_) AllReady.nil
          go_simp
          go_at_call 10
          refine (horologenum_Num.calls c d _ hnum).mono ?_
          rintro e wz ⟨rfl, ⟨m3, rfl⟩⟩
          go_simp
          refine hK _ _ ?_
          clear hK K
          refine wpAny_ready (rs := [3]) (by kernel_rfl) (by simp) ?_
          refine AllReady.cons rfl (fun K hK => ?_) AllReady.nil
          go_simp
          refine hK _ _ ?_
          clear hK K
          refine wpAny_ready (rs := [4]) (by kernel_rfl) (by simp) ?_
          refine AllReady.cons rfl (fun K hK => ?_) AllReady.nil
          go_simp
          refine hK _ _ ?_
          clear hK K
          refine wpAny_ready (rs := [5, 7]) (by kernel_rfl) (by simp) ?_
          refine AllReady.cons rfl (fun K hK => ?_) (AllReady.cons rfl (fun K hK => ?_) AllReady.nil)
          · go_simp
            refine hK _ _ ?_
            clear hK K
            refine wpAny_ready (rs := [6, 7]) (by kernel_rfl) (by simp) ?_
            refine AllReady.cons rfl (fun K hK => ?_) (AllReady.cons rfl (fun K hK => ?_) AllReady.nil)
            · go_simp
              go_at_call 12
              refine (doc_c (N := w2.heap.size) k A0 c0 xs A2 c2 t _ (Kd.R_drewN hR0 _) (Kd.R_drewN hR2 _) hdoc).mono ?_
              rintro e w7 ⟨Ad, cd, Ae, ce, rfl, hd1, hd2, hd3, hd4, hb7⟩
              have hq : ∀ g o, w5.heap[g]? = some o → w7.heap[g]? = some o := fun g o h => (hb7.block g (blk_lt h)).trans h
              have h6' := hq _ _ h6
              have h8' := hq _ _ h8
              have c60' := (blk_cell h6' 0).trans rfl
              have c61' := (blk_cell h6' 1).trans rfl
              have c80' := (blk_cell h8' 0).trans rfl
              have c81' := (blk_cell h8' 1).trans rfl
              have hb57 : Below w5.heap.size w5 w7 := below_step (pw_below_drewN (Below.refl _ _) m3) hb7
              go_simp
              refine hK _ _ ?_
              clear hK K
              refine wpAny_ready (rs := [7]) (by kernel_rfl) (by simp) ?_
              refine AllReady.cons rfl (fun K hK => ?_) AllReady.nil
              go_simp
              refine hK _ _ ?_
              clear hK K
              refine wpAny_ready (rs := [8]) (by kernel_rfl) (by simp) ?_
              refine AllReady.cons rfl (fun K hK => ?_) AllReady.nil
              go_simp
              go_at_call 11
              refine (horologeref29_Same.calls k Ad cd _ Ae ce _ Af cf _ Ag cg _ true _ hd1 hd2 hd3 hd4 (Kd.C_below hf1 hb57) hf2 (Kd.C_below hf3 hb57) hf4 hsame).mono ?_
              rintro e w8 ⟨rfl, hb8⟩
              go_simp
              refine hK _ _ ?_
              clear hK K
              refine wpAny_ready (rs := [9]) (by kernel_rfl) (by simp) ?_
              refine AllReady.cons rfl (fun K hK => ?_) AllReady.nil
              go_simp
              refine hK _ _ ?_
              clear hK K
              refine wpAny_ready (rs := [10]) (by kernel_rfl) (by simp) ?_
              refine AllReady.cons rfl (fun K hK => ?_) AllReady.nil
              go_simp
              refine hK _ _ ?_
              clear hK K
              refine wpAny_done (by kernel_rfl) ?_ _
              try go_wp2
              go_meet
              case rel => exact ⟨rfl, ⟨below_step (below_step hbw5 hb57) hb8⟩⟩
            · go_simp
              refine hK _ _ ?_
              clear hK K
              refine wpAny_ready (rs := [6]) (by kernel_rfl) (by simp) ?_
              refine AllReady.cons rfl (fun K hK => ?_) AllReady.nil
              go_simp
              go_at_call 12
              refine (doc_c (N := w2.heap.size) k A0 c0 xs A2 c2 t _ (Kd.R_drewN hR0 _) (Kd.R_drewN hR2 _) hdoc).mono ?_
              rintro e w7 ⟨Ad, cd, Ae, ce, rfl, hd1, hd2, hd3, hd4, hb7⟩
              have hq : ∀ g o, w5.heap[g]? = some o → w7.heap[g]? = some o := fun g o h => (hb7.block g (blk_lt h)).trans h
              have h6' := hq _ _ h6
              have h8' := hq _ _ h8
              have c60' := (blk_cell h6' 0).trans rfl
              have c61' := (blk_cell h6' 1).trans rfl
              have c80' := (blk_cell h8' 0).trans rfl
              have c81' := (blk_cell h8' 1).trans rfl
              have hb57 : Below w5.heap.size w5 w7 := below_step (pw_below_drewN (Below.refl _ _) m3) hb7
              go_simp
              refine hK _ _ ?_
              clear hK K
              refine wpAny_ready (rs := [8]) (by kernel_rfl) (by simp) ?_
              refine AllReady.cons rfl (fun K hK => ?_) AllReady.nil
              go_simp
              go_at_call 11
              refine (horologeref29_Same.calls k Ad cd _ Ae ce _ Af cf _ Ag cg _ true _ hd1 hd2 hd3 hd4 (Kd.C_below hf1 hb57) hf2 (Kd.C_below hf3 hb57) hf4 hsame).mono ?_
              rintro e w8 ⟨rfl, hb8⟩
              go_simp
              refine hK _ _ ?_
              clear hK K
              refine wpAny_ready (rs := [9]) (by kernel_rfl) (by simp) ?_
              refine AllReady.cons rfl (fun K hK => ?_) AllReady.nil
              go_simp
              refine hK _ _ ?_
              clear hK K
              refine wpAny_ready (rs := [10]) (by kernel_rfl) (by simp) ?_
              refine AllReady.cons rfl (fun K hK => ?_) AllReady.nil
              go_simp
              refine hK _ _ ?_
              clear hK K
              refine wpAny_done (by kernel_rfl) ?_ _
              try go_wp2
              go_meet
              case rel => exact ⟨rfl, ⟨below_step (below_step hbw5 hb57) hb8⟩⟩
          · go_simp
            refine hK _ _ ?_
            clear hK K
            refine wpAny_ready (rs := [5]) (by kernel_rfl) (by simp) ?_
            refine AllReady.cons rfl (fun K hK => ?_) AllReady.nil
            go_simp
            refine hK _ _ ?_
            clear hK K
            refine wpAny_ready (rs := [6]) (by kernel_rfl) (by simp) ?_
            refine AllReady.cons rfl (fun K hK => ?_) AllReady.nil
            go_simp
            go_at_call 12
            refine (doc_c (N := w2.heap.size) k A0 c0 xs A2 c2 t _ (Kd.R_drewN hR0 _) (Kd.R_drewN hR2 _) hdoc).mono ?_
            rintro e w7 ⟨Ad, cd, Ae, ce, rfl, hd1, hd2, hd3, hd4, hb7⟩
            have hq : ∀ g o, w5.heap[g]? = some o → w7.heap[g]? = some o := fun g o h => (hb7.block g (blk_lt h)).trans h
            have h6' := hq _ _ h6
            have h8' := hq _ _ h8
            have c60' := (blk_cell h6' 0).trans rfl
            have c61' := (blk_cell h6' 1).trans rfl
            have c80' := (blk_cell h8' 0).trans rfl
            have c81' := (blk_cell h8' 1).trans rfl
            have hb57 : Below w5.heap.size w5 w7 := below_step (pw_below_drewN (Below.refl _ _) m3) hb7
            go_simp
            refine hK _ _ ?_
            clear hK K
            refine wpAny_ready (rs := [8]) (by kernel_rfl) (by simp) ?_
            refine AllReady.cons rfl (fun K hK => ?_) AllReady.nil
            go_simp
            go_at_call 11
            refine (horologeref29_Same.calls k Ad cd _ Ae ce _ Af cf _ Ag cg _ true _ hd1 hd2 hd3 hd4 (Kd.C_below hf1 hb57) hf2 (Kd.C_below hf3 hb57) hf4 hsame).mono ?_
            rintro e w8 ⟨rfl, hb8⟩
            go_simp
            refine hK _ _ ?_
            clear hK K
            refine wpAny_ready (rs := [9]) (by kernel_rfl) (by simp) ?_
            refine AllReady.cons rfl (fun K hK => ?_) AllReady.nil
            go_simp
            refine hK _ _ ?_
            clear hK K
            refine wpAny_ready (rs := [10]) (by kernel_rfl) (by simp) ?_
            refine AllReady.cons rfl (fun K hK => ?_) AllReady.nil
            go_simp
            refine hK _ _ ?_
            clear hK K
            refine wpAny_done (by kernel_rfl) ?_ _
            try go_wp2
            go_meet
            case rel => exact ⟨rfl, ⟨below_step (below_step hbw5 hb57) hb8⟩⟩
      · go_simp
        refine hK _ _ ?_
        clear hK K
        refine wpAny_ready (rs := [0]) (by kernel_rfl) (by simp) ?_
        refine AllReady.cons rfl (fun K hK => ?_) AllReady.nil
        go_simp
        refine hK _ _ ?_
        clear hK K
        refine wpAny_ready (rs := [1]) (by kernel_rfl) (by simp) ?_
        refine AllReady.cons rfl (fun K hK => ?_) AllReady.nil
        go_simp
        go_at_call 10
        refine (horologenum_Num.calls c d _ hnum).mono ?_
        rintro e wz ⟨rfl, ⟨m3, rfl⟩⟩
        go_simp
        refine hK _ _ ?_
        clear hK K
        refine wpAny_ready (rs := [3]) (by kernel_rfl) (by simp) ?_
        refine AllReady.cons rfl (fun K hK => ?_) AllReady.nil
        go_simp
        refine hK _ _ ?_
        clear hK K
        refine wpAny_ready (rs := [4]) (by kernel_rfl) (by simp) ?_
        refine AllReady.cons rfl (fun K hK => ?_) AllReady.nil
        go_simp
        refine hK _ _ ?_
        clear hK K
        refine wpAny_ready (rs := [5, 7]) (by kernel_rfl) (by simp) ?_
        refine AllReady.cons rfl (fun K hK => ?_) (AllReady.cons rfl (fun K hK => ?_) AllReady.nil)
        · go_simp
          refine hK _ _ ?_
          clear hK K
          refine wpAny_ready (rs := [6, 7]) (by kernel_rfl) (by simp) ?_
          refine AllReady.cons rfl (fun K hK => ?_) (AllReady.cons rfl (fun K hK => ?_) AllReady.nil)
          · go_simp
            go_at_call 12
            refine (doc_c (N := w2.heap.size) k A0 c0 xs A2 c2 t _ (Kd.R_drewN hR0 _) (Kd.R_drewN hR2 _) hdoc).mono ?_
            rintro e w7 ⟨Ad, cd, Ae, ce, rfl, hd1, hd2, hd3, hd4, hb7⟩
            have hq : ∀ g o, w5.heap[g]? = some o → w7.heap[g]? = some o := fun g o h => (hb7.block g (blk_lt h)).trans h
            have h6' := hq _ _ h6
            have h8' := hq _ _ h8
            have c60' := (blk_cell h6' 0).trans rfl
            have c61' := (blk_cell h6' 1).trans rfl
            have c80' := (blk_cell h8' 0).trans rfl
            have c81' := (blk_cell h8' 1).trans rfl
            have hb57 : Below w5.heap.size w5 w7 := below_step (pw_below_drewN (Below.refl _ _) m3) hb7
            go_simp
            refine hK _ _ ?_
            clear hK K
            refine wpAny_ready (rs := [7]) (by kernel_rfl) (by simp) ?_
            refine AllReady.cons rfl (fun K hK => ?_) AllReady.nil
            go_simp
            refine hK _ _ ?_
            clear hK K
            refine wpAny_ready (rs := [8]) (by kernel_rfl) (by simp) ?_
            refine AllReady.cons rfl (fun K hK => ?_) AllReady.nil
            go_simp
            go_at_call 11
            refine (horologeref29_Same.calls k Ad cd _ Ae ce _ Af cf _ Ag cg _ true _ hd1 hd2 hd3 hd4 (Kd.C_below hf1 hb57) hf2 (Kd.C_below hf3 hb57) hf4 hsame).mono ?_
            rintro e w8 ⟨rfl, hb8⟩
            go_simp
            refine hK _ _ ?_
            clear hK K
            refine wpAny_ready (rs := [9]) (by kernel_rfl) (by simp) ?_
            refine AllReady.cons rfl (fun K hK => ?_) AllReady.nil
            go_simp
            refine hK _ _ ?_
            clear hK K
            refine wpAny_ready (rs := [10]) (by kernel_rfl) (by simp) ?_
            refine AllReady.cons rfl (fun K hK => ?_) AllReady.nil
            go_simp
            refine hK _ _ ?_
            clear hK K
            refine wpAny_done (by kernel_rfl) ?_ _
            try go_wp2
            go_meet
            case rel => exact ⟨rfl, ⟨below_step (below_step hbw5 hb57) hb8⟩⟩
          · go_simp
            refine hK _ _ ?_
            clear hK K
            refine wpAny_ready (rs := [6]) (by kernel_rfl) (by simp) ?_
            refine AllReady.cons rfl (fun K hK => ?_) AllReady.nil
            go_simp
            go_at_call 12
            refine (doc_c (N := w2.heap.size) k A0 c0 xs A2 c2 t _ (Kd.R_drewN hR0 _) (Kd.R_drewN hR2 _) hdoc).mono ?_
            rintro e w7 ⟨Ad, cd, Ae, ce, rfl, hd1, hd2, hd3, hd4, hb7⟩
            have hq : ∀ g o, w5.heap[g]? = some o → w7.heap[g]? = some o := fun g o h => (hb7.block g (blk_lt h)).trans h
            have h6' := hq _ _ h6
            have h8' := hq _ _ h8
            have c60' := (blk_cell h6' 0).trans rfl
            have c61' := (blk_cell h6' 1).trans rfl
            have c80' := (blk_cell h8' 0).trans rfl
            have c81' := (blk_cell h8' 1).trans rfl
            have hb57 : Below w5.heap.size w5 w7 := below_step (pw_below_drewN (Below.refl _ _) m3) hb7
            go_simp
            refine hK _ _ ?_
            clear hK K
            refine wpAny_ready (rs := [8]) (by kernel_rfl) (by simp) ?_
            refine AllReady.cons rfl (fun K hK => ?_) AllReady.nil
            go_simp
            go_at_call 11
            refine (horologeref29_Same.calls k Ad cd _ Ae ce _ Af cf _ Ag cg _ true _ hd1 hd2 hd3 hd4 (Kd.C_below hf1 hb57) hf2 (Kd.C_below hf3 hb57) hf4 hsame).mono ?_
            rintro e w8 ⟨rfl, hb8⟩
            go_simp
            refine hK _ _ ?_
            clear hK K
            refine wpAny_ready (rs := [9]) (by kernel_rfl) (by simp) ?_
            refine AllReady.cons rfl (fun K hK => ?_) AllReady.nil
            go_simp
            refine hK _ _ ?_
            clear hK K
            refine wpAny_ready (rs := [10]) (by kernel_rfl) (by simp) ?_
            refine AllReady.cons rfl (fun K hK => ?_) AllReady.nil
            go_simp
            refine hK _ _ ?_
            clear hK K
            refine wpAny_done (by kernel_rfl) ?_ _
            try go_wp2
            go_meet
            case rel => exact ⟨rfl, ⟨below_step (below_step hbw5 hb57) hb8⟩⟩
        · go_simp
          refine hK _ _ ?_
          clear hK K
          refine wpAny_ready (rs := [5]) (by kernel_rfl) (by simp) ?_
          refine AllReady.cons rfl (fun K hK => ?_) AllReady.nil
          go_simp
          refine hK _ _ ?_
          clear hK K
          refine wpAny_ready (rs := [6]) (by kernel_rfl) (by simp) ?_
          refine AllReady.cons rfl (fun K hK => ?_) AllReady.nil
          go_simp
          go_at_call 12
          refine (doc_c (N := w2.heap.size) k A0 c0 xs A2 c2 t _ (Kd.R_drewN hR0 _) (Kd.R_drewN hR2 _) hdoc).mono ?_
          rintro e w7 ⟨Ad, cd, Ae, ce, rfl, hd1, hd2, hd3, hd4, hb7⟩
          have hq : ∀ g o, w5.heap[g]? = some o → w7.heap[g]? = some o := fun g o h => (hb7.block g (blk_lt h)).trans h
          have h6' := hq _ _ h6
          have h8' := hq _ _ h8
          have c60' := (blk_cell h6' 0).trans rfl
          have c61' := (blk_cell h6' 1).trans rfl
          have c80' := (blk_cell h8' 0).trans rfl
          have c81' := (blk_cell h8' 1).trans rfl
          have hb57 : Below w5.heap.size w5 w7 := below_step (pw_below_drewN (Below.refl _ _) m3) hb7
          go_simp
          refine hK _ _ ?_
          clear hK K
          refine wpAny_ready (rs := [8]) (by kernel_rfl) (by simp) ?_
          refine AllReady.cons rfl (fun K hK => ?_) AllReady.nil
          go_simp
          go_at_call 11
          refine (horologeref29_Same.calls k Ad cd _ Ae ce _ Af cf _ Ag cg _ true _ hd1 hd2 hd3 hd4 (Kd.C_below hf1 hb57) hf2 (Kd.C_below hf3 hb57) hf4 hsame).mono ?_
          rintro e w8 ⟨rfl, hb8⟩
          go_simp
          refine hK _ _ ?_
          clear hK K
          refine wpAny_ready (rs := [9]) (by kernel_rfl) (by simp) ?_
          refine AllReady.cons rfl (fun K hK => ?_) AllReady.nil
          go_simp
          refine hK _ _ ?_
          clear hK K
          refine wpAny_ready (rs := [10]) (by kernel_rfl) (by simp) ?_
          refine AllReady.cons rfl (fun K hK => ?_) AllReady.nil
          go_simp
          refine hK _ _ ?_
          clear hK K
          refine wpAny_done (by kernel_rfl) ?_ _
          try go_wp2
          go_meet
          case rel => exact ⟨rfl, ⟨below_step (below_step hbw5 hb57) hb8⟩⟩
    case rest =>
      obtain ⟨rfl, hbc⟩ := hcut
      have hbc := hbc.out
      have h6c := (hbc.block gb6 (blk_lt h6W)).trans h6W
      obtain ⟨g0, cur, hH⟩ := held_of (M := w2.heap.size) (Nat.le_refl _) hge6 h6c (Kd.R_below hR0W hbc) (Kd.R_below hR2W hbc)
      have hBc : Below w2.heap.size w2 wc := below_step hB8 hbc
      have hnf : xs.length ≤ 9223372036854775807 := (Kd.R_reads' hR0W).2.2.2.1
      have hns : t.length ≤ 9223372036854775807 := (Kd.R_reads' hR2W).2.2.2.1
      have HNF := Aside0.mk hnf
      have HNS := Aside0.mk hns
      clear hnf hns
      clear hbc h6W h8W hR0W hR2W hf1W hf3W hB8
      have c60 : wc.cell? ⟨gb6, 0, none⟩ = some (.slice A0 xs.length c0) := (blk_cell h6c 0).trans rfl
      go_wp2
      go_loopw [57] (fun i wr => ∃ j : Nat, j ≤ xs.length ∧ i = .int .i64 (j : Int) ∧ Held w2.heap.size gb6 (.slice A0 xs.length c0) (.slice A2 t.length c2) xs.length A0 g0 cur t.length A2 wr ∧ Aside0 (Below w2.heap.size wc wr)) (fun i _ => xs.length - (intOf i).toNat)
      case atStart => exact ⟨0, Nat.zero_le _, rfl, hH, ⟨Below.refl _ _⟩⟩
      case round =>
        obtain ⟨j, hj, rfl, hHr, hBr⟩ := hrel
        have e60 : wr.cell? ⟨gb6, 0, none⟩ = some (.slice A0 xs.length c0) := (blk_cell hHr.box 0).trans rfl
        have e61 : wr.cell? ⟨gb6, 1, none⟩ = some (.slice A2 t.length c2) := (blk_cell hHr.box 1).trans rfl
        by_cases hlt : j < xs.length
        · have d4 : decide ((j : Int) < (xs.length : Int)) = true := decide_eq_true (Int.ofNat_lt.2 hlt)
          obtain ⟨e0, hN0, hg0, hfl⟩ := hHr.flds (Nat.lt_of_le_of_lt (Nat.zero_le _) hlt)
          obtain ⟨A, n, cc, hcur, hnm, hrow⟩ := hfl j hlt
          have HNM := Aside0.mk hnm
          clear hnm
          subst e0
          have hadd := add0 g0 (j * 2)
          have eB : wr.cell? ⟨g0, j * 2 + 1, none⟩ = some (.slice A n cc) := (blk_cell hg0 _).trans hcur
          have hwj : wrap64 ((j : Int) + 1) = ((j + 1 : Nat) : Int) := wrapS hlt HNF.out
          have HFL := Aside0.mk hfl
          clear hfl
          go_wp2
          go_loopw [67] (fun i wq => ∃ p : Nat, p ≤ n ∧ i = .int .i64 (p : Int) ∧ Held w2.heap.size gb6 (.slice (some ⟨g0, 0, none⟩) xs.length c0) (.slice A2 t.length c2) xs.length (some ⟨g0, 0, none⟩) g0 cur t.length A2 wq ∧ Aside0 (Below w2.heap.size wc wq)) (fun i _ => n - (intOf i).toNat)
          case atStart => exact ⟨0, Nat.zero_le _, rfl, hHr, hBr⟩
          case round =>
            obtain ⟨p, hp, rfl, hHq, hBq⟩ := hrel
            have e60 : wr.cell? ⟨gb6, 0, none⟩ = some (.slice (some ⟨g0, 0, none⟩) xs.length c0) := (blk_cell hHq.box 0).trans rfl
            have e61 : wr.cell? ⟨gb6, 1, none⟩ = some (.slice A2 t.length c2) := (blk_cell hHq.box 1).trans rfl
            by_cases hlp : p < n
            · have d5 : decide ((p : Int) < (n : Int)) = true := decide_eq_true (Int.ofNat_lt.2 hlp)
              obtain ⟨_, hN1, hg1, hfq⟩ := hHq.flds (Nat.lt_of_le_of_lt (Nat.zero_le _) hlt)
              obtain ⟨A', n', cc', hcur', hnm', hrow'⟩ := hfq j hlt
              rw [hcur] at hcur'
              injection hcur' with hcur'
              injection hcur' with h1 h2 h3
              subst h1 h2 h3
              clear hnm'
              obtain ⟨g, cs, eA, hNg, hgg, hby⟩ := hrow' (Nat.lt_of_le_of_lt (Nat.zero_le _) hlp)
              subst eA
              obtain ⟨b, hb⟩ := hby p hlp
              have hadd2 := add0 g p
              have eB2 : wr.cell? ⟨g0, j * 2 + 1, none⟩ = some (.slice (some ⟨g, 0, none⟩) n cc) := (blk_cell hg1 _).trans hcur
              have eC : wr.cell? ⟨g, p, none⟩ = some (.int .u8 b) := (blk_cell hgg p).trans hb
              have fC : wr.frozen? ⟨g, p, none⟩ = false := blk_frozen hgg p
              have hwp : wrap64 ((p : Int) + 1) = ((p + 1 : Nat) : Int) := wrapS hlp HNM.out
              have HBY := Aside0.mk hby
              have HFQ := Aside0.mk hfq
              clear hby hfq
              go_wp2
              go_roundw
              case rel => exact ⟨p + 1, Nat.succ_le_of_lt hlp, by rw [hwp], hHq.set hgg _, ⟨hBq.out.setCell (p := ⟨g, p, none⟩) hNg _⟩⟩
              case measure => rw [hwp]; exact meas_ hlp
            · obtain rfl : p = n := Nat.le_antisymm hp (Nat.not_lt.1 hlp)
              have d5 : decide ((p : Int) < (p : Int)) = false := decide_eq_false (Int.lt_irrefl _)
              go_wp2
              go_roundw
              case rel => exact ⟨j + 1, Nat.succ_le_of_lt hlt, by rw [hwj], hHq, hBq⟩
              case measure => rw [hwj]; exact meas_ hlt
        · have hjx : j = xs.length := Nat.le_antisymm hj (Nat.not_lt.1 hlt)
          subst hjx
          have d4 : decide ((xs.length : Int) < (xs.length : Int)) = false := decide_eq_false (Int.lt_irrefl _)
          go_wp2
          go_loopw [86] (fun i wq => ∃ p : Nat, p ≤ t.length ∧ i = .int .i64 (p : Int) ∧ Held w2.heap.size gb6 (.slice A0 xs.length c0) (.slice A2 t.length c2) xs.length A0 g0 cur t.length A2 wq ∧ Aside0 (Below w2.heap.size wc wq)) (fun i _ => t.length - (intOf i).toNat)
          case atStart => exact ⟨0, Nat.zero_le _, rfl, hHr, hBr⟩
          case round =>
            obtain ⟨p, hp, rfl, hHq, hBq⟩ := hrel
            have e60 : wr.cell? ⟨gb6, 0, none⟩ = some (.slice A0 xs.length c0) := (blk_cell hHq.box 0).trans rfl
            have e61 : wr.cell? ⟨gb6, 1, none⟩ = some (.slice A2 t.length c2) := (blk_cell hHq.box 1).trans rfl
            by_cases hlp : p < t.length
            · have d5 : decide ((p : Int) < (t.length : Int)) = true := decide_eq_true (Int.ofNat_lt.2 hlp)
              obtain ⟨g, cs, eA, hNg, hgg, hby⟩ := hHq.sel (Nat.lt_of_le_of_lt (Nat.zero_le _) hlp)
              subst eA
              obtain ⟨b, hb⟩ := hby p hlp
              have hadd2 := add0 g p
              have eC : wr.cell? ⟨g, p, none⟩ = some (.int .u8 b) := (blk_cell hgg p).trans hb
              have fC : wr.frozen? ⟨g, p, none⟩ = false := blk_frozen hgg p
              have hwp : wrap64 ((p : Int) + 1) = ((p + 1 : Nat) : Int) := wrapS hlp HNS.out
              have HBY := Aside0.mk hby
              clear hby
              go_wp2
              go_roundw
              case rel => exact ⟨p + 1, Nat.succ_le_of_lt hlp, by rw [hwp], hHq.set hgg _, ⟨hBq.out.setCell (p := ⟨g, p, none⟩) hNg _⟩⟩
              case measure => rw [hwp]; exact meas_ hlp
            · have hpt : p = t.length := Nat.le_antisymm hp (Nat.not_lt.1 hlp)
              subst hpt
              have d5 : decide ((t.length : Int) < (t.length : Int)) = false := decide_eq_false (Int.lt_irrefl _)
              have hB2r : Below w2.heap.size w2 wr := hBc.trans hBq.out
              have C5 := Kd.C_below (Kd.R_reads' R2.out).2.2 hB2r
              have K5 := (Kd.R_reads' R2.out).2.1
              have hBwr : Below w.heap.size w wr := below_step (below_step hb0 B2.out) hB2r
              go_wp2_with (go_at_call 13; refine (horologenum_Bytes.calls A5 c5 l1 A1 c1 l1 true _ C5 K5 (Kd.C_below HR1.out hBwr) HC1.out (by unfold horologenum_Bytes.f; simp)).mono ?_; rintro e wz ⟨rfl, ⟨mz, rfl⟩⟩)
              go_ret
              exact ⟨rfl, pw_below_drewN hBwr _⟩
theorem walks (a0 : Int) (A1 : Option Addr) (n1 c1 : Nat) (l1 : List Int) (w : World) (e1 : l1.length = n1) (h1 : n1 ≤ c1) (C1 : Kd.C (Kd.int .u8) w A1 n1 l1) (o1 : ∀ x ∈ l1, (Lit.int .u8 x).wf = true) :
    Calls Try.prog 3 #[.int .i64 a0, .slice A1 n1 c1] w fun e w' => e = .returned (.bool true) ∧ Below w.heap.size w w' := by
  subst e1
  obtain ⟨k, xs, t, c, d, q1, q2, q3, q4, q5, q6⟩ := all_is a0 l1 (fun y hy => byte_of (o1 y hy))
  exact law_is k a0 A1 c1 l1 xs _ t c d w C1 h1 q1 q2 q3 q4 q5 q6
end Go.Proofs.Ytnlcegcnaamnoaa.MExtWalks
