/- The document's table in Go: what it answers; its room and span are set. -/
import Derived.Test.YtbifanoiailjoaaRatePRefC
import Derived.Test.YtbifanoiailjoaaRateMU
import Derived.Test.YtbifanoiailjoaaRegInv
namespace Go.Proofs.Ytbifanoiailjoaa.MRatePlays
open Go.RowKit Go.Proofs.YtbifanoiailjoaaW.PrintWords Go.Proofs.YtbifanoiailjoaaW.PrintLast Go.Proofs.YtbifanoiailjoaaW.PrintMore Go.Proofs.Ytbifanoiailjoaa.Base
set_option linter.unusedVariables false
set_option linter.unusedSimpArgs false

theorem findr_c (w : World) (A : Option Addr) (c : Nat) (l : List S94) (r s key : Int) (hC : Kd.C k94 w A l.length l) (hc : l.length ≤ c) (hl : l.length ≤ 1000000) :
    Calls Try.prog 27 #[.agg #[.slice A l.length c, .int .i64 r, .int .i64 s], .int .u32 key] w fun e w' => e = .returned (.int .i64 (findV l key)) ∧ Below w.heap.size w w' := by
  obtain ⟨k, hk⟩ := Ev.ok (find_is l r s key hl)
  exact horologeref31_Find.calls k A c l r s key _ w hC hc hk
theorem withr_c (w : World) (A : Option Addr) (c : Nat) (l : List S94) (r s : Int) (i : Nat) (hi : i < l.length) (hC : Kd.C k94 w A l.length l) (hc : l.length ≤ c) (hl : l.length ≤ 1000000) :
    Calls Try.prog 29 #[.agg #[.slice A l.length c, .int .i64 r, .int .i64 s], .int .i64 i] w fun e w' => ∃ v : Value, e = .returned (.agg #[v, .int .i64 r, .int .i64 s]) ∧ Kd.V k94 94 w' w.heap.size (fun k => w.heap.size ≤ k) v (l.take i ++ l.drop (i + 1)) ∧ Below w.heap.size w w' := by
  refine (horologeref31_Without.calls A c l r s i _ _ _ w hC hc (without_is l r s i hi hl)).mono ?_
  rintro e w' ⟨v, rfl, hR, hb⟩
  exact ⟨v, rfl, Kd.V_mono (Kd.R_V (Kd.R_bound hR)) (fun k hk => hk.2.1), hb⟩
theorem newr_c (w : World) (room span : Int) (h : Fit room span) : Calls Try.prog 26 #[.int .i64 room, .int .i64 span] w fun e w' => ∃ v, e = .returned (.tuple #[.agg #[v, .int .i64 room, .int .i64 span], .int .i64 0]) ∧ Kd.V k94 94 w' w.heap.size (fun k => w.heap.size ≤ k) v [] ∧ Below w.heap.size w w' := by
  obtain ⟨h1, h2, h3, h4⟩ := h
  refine (horologeref31_New.calls 1 room span [] room span 0 w ?_).mono ?_
  · unfold horologeref31_New.f
    rw [if_neg (by omega), if_neg (by omega), if_neg (by omega), decide_eq_false (by omega)]
    rfl
  · rintro e w' ⟨v, rfl, hR, hb⟩
    exact ⟨v, rfl, Kd.V_mono (Kd.R_V (Kd.R_bound hR)) (fun k hk => hk.2.1), hb⟩
theorem newr_bad (w : World) (room span : Int) (h : ¬ Fit room span) : Calls Try.prog 26 #[.int .i64 room, .int .i64 span] w fun e w' => ∃ v, e = .returned (.tuple #[.agg #[v, .int .i64 0, .int .i64 0], .int .i64 1]) ∧ Kd.V k94 94 w' w.heap.size (fun k => w.heap.size ≤ k) v [] ∧ Below w.heap.size w w' := by
  refine (horologeref31_New.calls 1 room span [] 0 0 1 w ?_).mono ?_
  · unfold horologeref31_New.f
    unfold Fit at h
    by_cases h1 : room < 1
    · rw [if_pos h1]; rfl
    · rw [if_neg h1]
      by_cases h2 : room > 1024
      · rw [if_pos h2]; rfl
      · rw [if_neg h2]
        by_cases h3 : span < 0
        · rw [if_pos h3]; rfl
        · rw [if_neg h3, decide_eq_true (by omega)]; rfl
  · rintro e w' ⟨v, rfl, hR, hb⟩
    exact ⟨v, rfl, Kd.V_mono (Kd.R_V (Kd.R_bound hR)) (fun k hk => hk.2.1), hb⟩
theorem sl_one (A : Option Addr) (n c : Nat) (r s : Int) : (#[.slice A n c, .int .i64 r, .int .i64 s] : Array Value).all (·.oneCell') = true := by simp [Value.oneCell']
set_option maxHeartbeats 8000000 in
set_option maxRecDepth 100000 in
theorem refset_bad (w : World) (A : Option Addr) (n c : Nat) (r s room span : Int) (h : ¬ Fit room span) :
    Calls Try.prog 30 #[.agg #[.slice A n c, .int .i64 r, .int .i64 s], .int .i64 room, .int .i64 span] w fun e w' => e = .returned (.tuple #[.agg #[.slice A n c, .int .i64 r, .int .i64 s], .int .i64 1]) ∧ Below w.heap.size w w' := by
  have HN := Aside0.mk (fun W => newr_bad W room span h)
  have HB := Aside0.mk (Below.refl w.heap.size w)
  clear h
  go_enter Try.func30, Try.ntmps30
  go_upto_region 1 with (first | ((with_reducible refine gate_dst (N := 3) rfl ?_); refine box_event ?hg (N := 3) ?hd (cs := #[.slice A n c, .int .i64 r, .int .i64 s]) (t := 65) ?hr ?_; (case hd => rfl); (case hg => rfl); (case hr => go_simp; try rfl); intro g3 hg_ w1 hx_ hb_; have G3 := Aside0.mk hg_; have H3 := Aside0.mk hb_; have B3 := Aside0.mk hx_; clear hg_ hx_ hb_; skip) | ((with_reducible refine gate_dst (N := 6) rfl ?_); refine box_event ?hg' (N := 6) ?hd' (cs := #[.slice none 0 0, .int .i64 0, .int .i64 0]) (t := 65) ?hr' ?_; (case hd' => rfl); (case hg' => rfl); (case hr' => go_simp; try rfl); intro g6 hg_ w2 hx_ hb_; have G6 := Aside0.mk hg_; have H6 := Aside0.mk hb_; have B6 := Aside0.mk hx_; clear hg_ hx_ hb_; skip) | fail)
  have P3 := Aside0.mk ((PH.start HB.out H3.out G3.out B3.out).below H6.out)
  have P6 := Aside0.mk (PH.start (below_step HB.out H3.out) H6.out G6.out B6.out)
  have N36 : g3 ≠ g6 := fun e => by have q := blk_lt B3.out; rw [e, G6.out] at q; exact Nat.lt_irrefl _ q
  have HNE := Aside0.mk N36
  clear G3 H3 B3 G6 H6 B6 HB N36
  go_upto_region 2 with (first | (go_at_call 26; refine (HN.out _).mono ?_; rintro e_ w3 ⟨v, rfl, hv_, hb_⟩; obtain ⟨Av, cv, rfl⟩ := Kd.V_slice hv_; have P3 := Aside0.mk (P3.out.below hb_); have P6 := Aside0.mk (P6.out.below hb_); clear hv_ hb_) | ((with_reducible refine gate_dst (N := 8) rfl ?_); refine box_event ?hg8 (N := 8) ?hd8 (cs := #[.slice none 0 0, .int .i64 0, .int .i64 0]) (t := 65) ?hr8 ?_; (case hd8 => rfl); (case hg8 => rfl); (case hr8 => go_simp; try rfl); intro g8 hg_ w4 hx_ hb_; have G8 := Aside0.mk hg_; have H8 := Aside0.mk hb_; have B8 := Aside0.mk hx_; clear hg_ hx_ hb_; skip) | ((with_reducible refine gate_store (t := 65) (p := 8) rfl ?_); refine wpList_store_row rfl 65 _ _ rfl g8 #[.slice Av ([] : List S94).length cv, .int .i64 0, .int .i64 0] rfl rfl 65 _ B8.out (by kernel_rfl) (by rfl) (sl_one _ _ _ _ _) ?_) | fail)
  have P3 := Aside0.mk ((P3.out.below H8.out).setx (cs' := #[.slice Av ([] : List S94).length cv, .int .i64 0, .int .i64 0]) (Nat.le_trans P3.out.bel.size (Nat.le_of_eq G8.out.symm)) (fun e => by have q := blk_lt P3.out.row; rw [e, G8.out] at q; exact Nat.lt_irrefl _ q))
  have P6 := Aside0.mk ((P6.out.below H8.out).setx (cs' := #[.slice Av ([] : List S94).length cv, .int .i64 0, .int .i64 0]) (Nat.le_trans P6.out.bel.size (Nat.le_of_eq G8.out.symm)) (fun e => by have q := blk_lt P6.out.row; rw [e, G8.out] at q; exact Nat.lt_irrefl _ q))
  clear G8 H8 B8
  generalize w4.setRow g8 #[.slice Av ([] : List S94).length cv, .int .i64 0, .int .i64 0] = w5 at P3 P6 ⊢
  have z0 : w5.cell? ⟨g3, 0, none⟩ = some (.slice A n c) := (blk_cell P3.out.row 0).trans rfl
  have z1 : w5.cell? ⟨g3, 1, none⟩ = some (.int .i64 r) := (blk_cell P3.out.row 1).trans rfl
  have z2 : w5.cell? ⟨g3, 2, none⟩ = some (.int .i64 s) := (blk_cell P3.out.row 2).trans rfl
  go_wp2_with (first | ((with_reducible refine gate_store (t := 65) (p := 6) rfl ?_); refine wpList_store_row rfl 65 _ _ rfl g6 #[.slice A n c, .int .i64 r, .int .i64 s] rfl rfl 65 _ P6.out.row (by kernel_rfl) (by rfl) (sl_one _ _ _ _ _) ?_) | fail)
  refine bodyPost_ret (results_cell_row_tmp rfl _ _ g6 65 #[.slice A n c, .int .i64 r, .int .i64 s] (0, 0) _ _ rfl (P6.out.set _).row Try.underlying65 rfl (by kernel_rfl) rfl) rfl ?_
  exact ⟨rfl, (P6.out.set _).bel⟩
theorem oldr_c (w : World) (A : Option Addr) (c : Nat) (l : List S94) (r s : Int) (at_ : Int) (hC : Kd.C k94 w A l.length l) (hc : l.length ≤ c) (h : Ev (fun k => horologeref31_Oldest.f k l r s) at_) :
    Calls Try.prog 48 #[.agg #[.slice A l.length c, .int .i64 r, .int .i64 s]] w fun e w' => e = .returned (.int .i64 at_) ∧ Below w.heap.size w w' := by
  obtain ⟨k, hk⟩ := Ev.ok h
  exact horologeref31_Oldest.calls k A c l r s at_ w hC hc hk
def F6 (sz : Nat) (ag : Value) (i : Nat) (l2 : List S94) (room span : Int) : Nat → Value → World → Prop
  | 0, v, _ => v = ag
  | 1, v, _ => v = ag
  | 2, v, _ => v = .int .i64 i
  | 3, v, w => ∃ vv, v = .agg #[vv, .int .i64 room, .int .i64 span] ∧ Kd.V k94 94 w sz (fun k => sz ≤ k) vv l2
  | _, _, _ => True
theorem F6_keep (sz : Nat) (ag : Value) (k : Nat) (l2 : List S94) (room span : Int) (i : Nat) (v : Value) (w w' : World) (h : F6 sz ag k l2 room span i v w) (hb : Below w.heap.size w w') : F6 sz ag k l2 room span i v w' := by
  match i, h with
  | 0, h => exact h
  | 1, h => exact h
  | 2, h => exact h
  | 3, h =>
    obtain ⟨vv, e, hv⟩ := h
    exact ⟨vv, e, Kd.V_below hv hb⟩
  | _ + 4, _ => trivial
set_option maxHeartbeats 8000000 in
set_option maxRecDepth 100000 in
theorem refset_ok (w : World) (P : Nat → Prop) (A : Option Addr) (c : Nat) (l : List S94) (r s : Int) (n : Nat) (span : Int) (es : List S37) (hV : Kd.V k94 94 w w.heap.size P (.slice A l.length c) l) (hRef : Ref es l) (hR : Riseu es) (hl : l.length ≤ 1000000) (h : Fit n span) :
    Calls Try.prog 30 #[.agg #[.slice A l.length c, .int .i64 r, .int .i64 s], .int .i64 n, .int .i64 span] w fun e w' => ∃ v l2, e = .returned (.tuple #[.agg #[v, .int .i64 n, .int .i64 span], .int .i64 0]) ∧ Kd.V k94 94 w' w.heap.size (fun k => P k ∨ w.heap.size ≤ k) v l2 ∧ Ref (cutu (es.length - n) es) l2 ∧ Below w.heap.size w w' := by
  have HN := Aside0.mk (fun W => newr_c W n span h)
  have HB := Aside0.mk (Below.refl w.heap.size w)
  have HV := Aside0.mk hV
  have HREF := Aside0.mk hRef
  have HRI := Aside0.mk hR
  have HL := Aside0.mk hl
  clear h hV hRef hR hl
  go_enter Try.func30, Try.ntmps30
  go_upto_region 1 with (first | ((with_reducible refine gate_dst (N := 3) rfl ?_); refine box_event ?hg (N := 3) ?hd (cs := #[.slice A l.length c, .int .i64 r, .int .i64 s]) (t := 65) ?hr ?_; (case hd => rfl); (case hg => rfl); (case hr => go_simp; try rfl); intro g3 hg_ w1 hx_ hb_; have G3 := Aside0.mk hg_; have H3 := Aside0.mk hb_; have B3 := Aside0.mk hx_; clear hg_ hx_ hb_; skip) | ((with_reducible refine gate_dst (N := 6) rfl ?_); refine box_event ?hg' (N := 6) ?hd' (cs := #[.slice none 0 0, .int .i64 0, .int .i64 0]) (t := 65) ?hr' ?_; (case hd' => rfl); (case hg' => rfl); (case hr' => go_simp; try rfl); intro g6 hg_ w2 hx_ hb_; have G6 := Aside0.mk hg_; have H6 := Aside0.mk hb_; have B6 := Aside0.mk hx_; clear hg_ hx_ hb_; skip) | fail)
  have P3 := Aside0.mk ((PH.start HB.out H3.out G3.out B3.out).below H6.out)
  have P6 := Aside0.mk (PH.start (below_step HB.out H3.out) H6.out G6.out B6.out)
  have N36 : g3 ≠ g6 := fun e => by have q := blk_lt B3.out; rw [e, G6.out] at q; exact Nat.lt_irrefl _ q
  have HNE := Aside0.mk N36
  clear G3 H3 B3 G6 H6 B6 HB N36
  go_upto_region 2 with (first | (go_at_call 26; refine (HN.out _).mono ?_; rintro e_ w3 ⟨v, rfl, hv_, hb_⟩; obtain ⟨Av, cv, rfl⟩ := Kd.V_slice hv_; have P3 := Aside0.mk (P3.out.below hb_); have P6 := Aside0.mk (P6.out.below hb_); clear hv_ hb_) | ((with_reducible refine gate_dst (N := 8) rfl ?_); refine box_event ?hg8 (N := 8) ?hd8 (cs := #[.slice none 0 0, .int .i64 0, .int .i64 0]) (t := 65) ?hr8 ?_; (case hd8 => rfl); (case hg8 => rfl); (case hr8 => go_simp; try rfl); intro g8 hg_ w4 hx_ hb_; have G8 := Aside0.mk hg_; have H8 := Aside0.mk hb_; have B8 := Aside0.mk hx_; clear hg_ hx_ hb_; skip) | ((with_reducible refine gate_store (t := 65) (p := 8) rfl ?_); refine wpList_store_row rfl 65 _ _ rfl g8 #[.slice Av ([] : List S94).length cv, .int .i64 (n : Int), .int .i64 span] rfl rfl 65 _ B8.out (by kernel_rfl) (by rfl) (sl_one _ _ _ _ _) ?_) | fail)
  have P3 := Aside0.mk ((P3.out.below H8.out).setx (cs' := #[.slice Av ([] : List S94).length cv, .int .i64 (n : Int), .int .i64 span]) (Nat.le_trans P3.out.bel.size (Nat.le_of_eq G8.out.symm)) (fun e => by have q := blk_lt P3.out.row; rw [e, G8.out] at q; exact Nat.lt_irrefl _ q))
  have P6 := Aside0.mk ((P6.out.below H8.out).setx (cs' := #[.slice Av ([] : List S94).length cv, .int .i64 (n : Int), .int .i64 span]) (Nat.le_trans P6.out.bel.size (Nat.le_of_eq G8.out.symm)) (fun e => by have q := blk_lt P6.out.row; rw [e, G8.out] at q; exact Nat.lt_irrefl _ q))
  clear G8 H8 B8
  generalize w4.setRow g8 #[.slice Av ([] : List S94).length cv, .int .i64 (n : Int), .int .i64 span] = w5 at P3 P6 ⊢
  have HVA := Aside0.mk (Kd.V_below (Kd.V_bound HV.out) P3.out.bel)
  go_upto_block 0 with (first | ((with_reducible refine gate_store (t := 3) (p := 22) rfl ?_); refine store_part rfl 3 _ _ rfl rfl g3 1 (.int .i64 (n : Int)) [.int .i64 (n : Int)] rfl rfl rfl (by simp [Value.oneCell']) 65 _ #[.slice A l.length c, .int .i64 (n : Int), .int .i64 s] P3.out.row (by simp) (by kernel_rfl) (by rfl) ?_; have HV2 := Aside0.mk (Kd.V_step HVA.out (w1 := _) (fun k hk _ => setRow_ne _ g3 k #[.slice A l.length c, .int .i64 (n : Int), .int .i64 s] (fun q => by have h1 := P3.out.new; have h2 := hk.2; omega))); have P6 := Aside0.mk (P6.out.setx (cs' := #[.slice A l.length c, .int .i64 (n : Int), .int .i64 s]) P3.out.new HNE.out.symm); have P3 := Aside0.mk (P3.out.set #[.slice A l.length c, .int .i64 (n : Int), .int .i64 s])) | ((with_reducible refine gate_store (t := 2) (p := 23) rfl ?_); refine store_part rfl 2 _ _ rfl rfl g3 2 (.int .i64 span) [.int .i64 span] rfl rfl rfl (by simp [Value.oneCell']) 65 _ #[.slice A l.length c, .int .i64 (n : Int), .int .i64 span] P3.out.row (by simp) (by kernel_rfl) (by rfl) ?_; have HV3 := Aside0.mk (Kd.V_step HV2.out (w1 := _) (fun k hk _ => setRow_ne _ g3 k #[.slice A l.length c, .int .i64 (n : Int), .int .i64 span] (fun q => by have h1 := P3.out.new; have h2 := hk.2; omega))); have P6 := Aside0.mk (P6.out.setx (cs' := #[.slice A l.length c, .int .i64 (n : Int), .int .i64 span]) P3.out.new HNE.out.symm); have P3 := Aside0.mk (P3.out.set #[.slice A l.length c, .int .i64 (n : Int), .int .i64 span])) | fail)
  generalize (w5.setRow g3 #[.slice A l.length c, .int .i64 (n : Int), .int .i64 s]).setRow g3 #[.slice A l.length c, .int .i64 (n : Int), .int .i64 span] = w7 at P3 P6 HV3 ⊢
  have HV := Aside0.mk (Kd.V_mono HV3.out (ok' := (fun k => (P k ∨ w.heap.size ≤ k) ∧ k ≠ g3 ∧ k ≠ g6)) (fun k hk => ⟨.inl hk.1, by have h1 := P3.out.new; have h2 := hk.2; omega, by have h1 := P6.out.new; have h2 := hk.2; omega⟩))
  clear HV2 HV3 HVA
  go_wp2
  go_loopg [] l.length (fun kx wr => ∃ (A1 : Option Addr) (c1 : Nat) (l1 : List S94) (es1 : List S37), l1.length ≤ kx ∧ Aside0 (PH 65 w g3 #[.slice A1 l1.length c1, .int .i64 (n : Int), .int .i64 span] wr) ∧ Aside0 (PH 65 w g6 #[.slice none 0 0, .int .i64 0, .int .i64 0] wr) ∧ Aside0 (Kd.V k94 94 wr w.heap.size (fun k => (P k ∨ w.heap.size ≤ k) ∧ k ≠ g3 ∧ k ≠ g6) (.slice A1 l1.length c1) l1) ∧ Aside0 (Ref es1 l1) ∧ Aside0 (Riseu es1) ∧ Aside0 (l1.length ≤ 1000000) ∧ Aside0 (cutu (es1.length - n) es1 = cutu (es.length - n) es))
  case atStart => exact ⟨A, c, l, es, Nat.le_refl _, P3, P6, HV, HREF, HRI, HL, ⟨rfl⟩⟩
  case round =>
    clear P3 P6 HV HREF HRI HL
    obtain ⟨A1, c1, l1, es1, hk, P3, P6, HV, HREF, HRI, HL, HCUT⟩ := hrel
    have z0 : wr.cell? ⟨g3, 0, none⟩ = some (.slice A1 l1.length c1) := (blk_cell P3.out.row 0).trans rfl
    have z1 : wr.cell? ⟨g3, 1, none⟩ = some (.int .i64 (n : Int)) := (blk_cell P3.out.row 1).trans rfl
    have z2 : wr.cell? ⟨g3, 2, none⟩ = some (.int .i64 span) := (blk_cell P3.out.row 2).trans rfl
    by_cases hlt : n < l1.length
    · have hlti : (n : Int) < (l1.length : Int) := Int.ofNat_lt.2 hlt
      obtain ⟨at_, hev, hsp⟩ := oldest_is l1 (n : Int) span HL.out
      rcases hsp with ⟨_, h0⟩ | ⟨i, rfl, hi, hmin⟩
      · rw [h0] at hlt
        simp at hlt
      have hrl := HREF.out.len
      have HREF2 := Aside0.mk (oldcut_rel es1 l1 HRI.out HREF.out (by omega) i hi hmin)
      have HRI2 := Aside0.mk (cutu_rise 1 es1 HRI.out)
      have hl2 : (l1.take i ++ l1.drop (i + 1)).length + 1 = l1.length := by rw [List.length_append, List.length_take, List.length_drop]; omega
      have HCUT2 := Aside0.mk (show cutu ((cutu 1 es1).length - n) (cutu 1 es1) = cutu (es.length - n) es from by
        rw [← HCUT.out, cut_succ]
        have := cutu_len 1 es1 HRI.out (by omega)
        rw [this, show es1.length - 1 - n + 1 = es1.length - n by omega])
      obtain ⟨_, hc1, hC1⟩ := Kd.V_reads' HV.out
      have HOL := Aside0.mk (fun W (hW : Below wr.heap.size wr W) => oldr_c W A1 c1 l1 (n : Int) span (i : Int) (Kd.C_below hC1 hW) hc1 hev)
      have HWI := Aside0.mk (fun W (hW : Below wr.heap.size wr W) => withr_c W A1 c1 l1 (n : Int) span i hi (Kd.C_below hC1 hW) hc1 HL.out)
      obtain ⟨l2, hl2'⟩ : ∃ l2, l1.take i ++ l1.drop (i + 1) = l2 := ⟨_, rfl⟩
      rw [hl2'] at HREF2 HWI hl2
      have HL2 := Aside0.mk hl2
      clear hev hmin hC1 hc1 hl2 hl2' hi hrl
      go_upto_region 6 with (fail)
      refine region_below (T := ?T) (n := 1) [some 29, some 30, some 31, some 32] ?hT (F6 wr.heap.size (.agg #[.slice A1 l1.length c1, .int .i64 (n : Int), .int .i64 span]) i l2 (n : Int) span) (by kernel_rfl) (by kernel_rfl) (fun i_ v_ w_ w1_ _ h_ k_ => F6_keep _ _ _ _ _ _ i_ v_ w_ w1_ h_ k_) [0, 1, 2, 3] rfl (.cons (some 29) rfl rfl (fun X wx hG hX K hK => ?_) (.cons (some 30) rfl rfl (fun X wx hG hX K hK => ?_) (.cons (some 31) rfl rfl (fun X wx hG hX K hK => ?_) (.cons (some 32) rfl rfl (fun X wx hG hX K hK => ?_) .nil)))) (by kernel_rfl) #[true, true, true, true, false] (by kernel_rfl) ?_
      case hT =>
        intro X
        simp only [fill, Act.put, List.setIfInBounds_toArray, List.set_cons_zero, List.set_cons_succ, Nat.zero_add, Nat.reduceAdd]
        rfl
      · have q0 : wx.cell? ⟨g3, 0, none⟩ = some (.slice A1 l1.length c1) := cell_later hG (show wr.drew.cell? ⟨g3, 0, none⟩ = _ from z0)
        have q1 : wx.cell? ⟨g3, 1, none⟩ = some (.int .i64 (n : Int)) := cell_later hG (show wr.drew.cell? ⟨g3, 1, none⟩ = _ from z1)
        have q2 : wx.cell? ⟨g3, 2, none⟩ = some (.int .i64 span) := cell_later hG (show wr.drew.cell? ⟨g3, 2, none⟩ = _ from z2)
        refine val_ (w1 := wx) (v := .agg #[.slice A1 l1.length c1, .int .i64 (n : Int), .int .i64 span]) (by rfl) rfl ?_ (hK.out _ _ _ rfl (Below.refl _ _) rfl)
        go_simp
      · have q0 : wx.cell? ⟨g3, 0, none⟩ = some (.slice A1 l1.length c1) := cell_later hG (show wr.drew.cell? ⟨g3, 0, none⟩ = _ from z0)
        have q1 : wx.cell? ⟨g3, 1, none⟩ = some (.int .i64 (n : Int)) := cell_later hG (show wr.drew.cell? ⟨g3, 1, none⟩ = _ from z1)
        have q2 : wx.cell? ⟨g3, 2, none⟩ = some (.int .i64 span) := cell_later hG (show wr.drew.cell? ⟨g3, 2, none⟩ = _ from z2)
        refine val_ (w1 := wx) (v := .agg #[.slice A1 l1.length c1, .int .i64 (n : Int), .int .i64 span]) (by rfl) rfl ?_ (hK.out _ _ _ rfl (Below.refl _ _) rfl)
        go_simp
      · have e1 : X 1 = .agg #[.slice A1 l1.length c1, .int .i64 (n : Int), .int .i64 span] := hX 1 1 (by kernel_rfl)
        refine goes_ Try.func48 (by kernel_rfl) rfl #[X 1] (by rfl) rfl rfl (by simp only [List.map_toArray, List.map_cons, List.map_nil]; rfl) ?_
        refine calls_args (args1 e1) ?_
        refine (HOL.out wx (below_step (below_drew (Below.refl _ _)) hG)).mono ?_
        rintro e w' ⟨rfl, hb⟩
        exact ⟨_, rfl, hK.out _ _ _ rfl hb rfl⟩
      · have e0 : X 0 = .agg #[.slice A1 l1.length c1, .int .i64 (n : Int), .int .i64 span] := hX 1 0 (by kernel_rfl)
        have e2 : X 2 = .int .i64 (i : Int) := hX 1 2 (by kernel_rfl)
        refine goes_ Try.func29 (by kernel_rfl) rfl #[X 0, X 2] (by rfl) rfl rfl (by simp only [List.map_toArray, List.map_cons, List.map_nil]; rfl) ?_
        refine calls_args (args2 e0 e2) ?_
        refine (HWI.out wx (below_step (below_drew (Below.refl _ _)) hG)).mono ?_
        rintro e w' ⟨vv, rfl, hv, hb⟩
        exact ⟨_, rfl, hK.out _ _ _ rfl hb ⟨vv, rfl, Kd.V_mono hv (fun k hk => Nat.le_trans hG.size hk)⟩⟩
      intro X wx hG hX
      obtain ⟨vv, e3, hv3⟩ : ∃ vv, X 3 = .agg #[vv, .int .i64 (n : Int), .int .i64 span] ∧ Kd.V k94 94 wx wr.heap.size (fun k => wr.heap.size ≤ k) vv l2 := hX 3 (by decide)
      obtain ⟨A2, c2, rfl⟩ := Kd.V_slice hv3
      have P3x := P3.out.below hG
      have P6x := P6.out.below hG
      refine tail_ (i := 4) (N := none) #[true, true, true, true, true] rfl rfl (by kernel_rfl) (fun K hK => ?_)
      rw [if_pos (by rfl)]
      refine wp_store_part 65 _ _ rfl g3 0 (.agg #[.slice A2 l2.length c2, .int .i64 (n : Int), .int .i64 span]) [.slice A2 l2.length c2, .int .i64 (n : Int), .int .i64 span] rfl e3 rfl (by simp [Value.oneCell']) 65 _ #[.slice A2 l2.length c2, .int .i64 (n : Int), .int .i64 span] P3x.row (by simp) (by kernel_rfl) (by rfl) ?_
      refine hK.out _ _ (tail_done (by kernel_rfl) ?_)
      have HV2 := Aside0.mk (Kd.V_mono (Kd.V_step hv3 (w1 := wx.setRow g3 #[.slice A2 l2.length c2, .int .i64 (n : Int), .int .i64 span]) (fun k hk _ => setRow_ne _ g3 k _ (fun q => by have h1 := blk_lt P3.out.row; omega))) (ok' := (fun k => (P k ∨ w.heap.size ≤ k) ∧ k ≠ g3 ∧ k ≠ g6)) (fun k hk => ⟨.inr (Nat.le_trans P3.out.bel.size hk), by have h1 := blk_lt P3.out.row; omega, by have h1 := blk_lt P6.out.row; omega⟩))
      have P6 := Aside0.mk (P6x.setx (cs' := #[.slice A2 l2.length c2, .int .i64 (n : Int), .int .i64 span]) P3x.new HNE.out.symm)
      have P3 := Aside0.mk (P3x.set #[.slice A2 l2.length c2, .int .i64 (n : Int), .int .i64 span])
      clear hK K e3 hv3 P3x P6x hX hG z0 z1 z2
      generalize wx.setRow g3 #[.slice A2 l2.length c2, .int .i64 (n : Int), .int .i64 span] = w9 at P3 P6 HV2 ⊢
      go_wp2
      go_roundg (l2.length)
      case measure => have := HL2.out; omega
      case rel => exact ⟨A2, c2, l2, _, Nat.le_refl _, P3, P6, HV2, HREF2, HRI2, ⟨by have := HL2.out; have := HL.out; omega⟩, HCUT2⟩
    · have hlti : ¬ (n : Int) < (l1.length : Int) := fun q => hlt (Int.ofNat_lt.1 q)
      have hce : cutu (es.length - n) es = es1 := by
        rw [← HCUT.out, show es1.length - n = 0 by have := HREF.out.len; omega]
        rfl
      have HCE := Aside0.mk hce
      clear hce
      go_wp2_with (first | ((with_reducible refine gate_store (t := 65) (p := 6) rfl ?_); refine wpList_store_row rfl 65 _ _ rfl g6 #[.slice A1 l1.length c1, .int .i64 (n : Int), .int .i64 span] rfl rfl 65 _ P6.out.row (by kernel_rfl) (by rfl) (sl_one _ _ _ _ _) ?_) | fail)
      refine bodyPost_ret (results_cell_row_tmp rfl _ _ g6 65 #[.slice A1 l1.length c1, .int .i64 (n : Int), .int .i64 span] (0, 0) _ _ rfl (P6.out.set _).row Try.underlying65 rfl (by kernel_rfl) rfl) rfl ?_
      have hfv : Kd.V k94 94 (wr.setRow g6 #[.slice A1 l1.length c1, .int .i64 (n : Int), .int .i64 span]) w.heap.size (fun k => P k ∨ w.heap.size ≤ k) (.slice A1 l1.length c1) l1 := Kd.V_mono (Kd.V_step HV.out (fun k hk _ => setRow_ne _ g6 k _ hk.2.2)) (fun k hk => hk.1)
      have hfr : Ref (cutu (es.length - n) es) l1 := by rw [HCE.out]; exact HREF.out
      first | exact ⟨_, rfl, l1, hfv, hfr, (P6.out.set _).bel⟩ | exact ⟨_, rfl, l1, hfv, (P6.out.set _).bel, hfr⟩ | exact ⟨_, l1, rfl, hfv, hfr, (P6.out.set _).bel⟩
end Go.Proofs.Ytbifanoiailjoaa.MRatePlays
