/-
  Decoding, with what the acts' bytes lie in: memory of their own.
-/
import Derived.Test.YtecbahciplnhfaaScriptDec
namespace Go.Proofs.Ytecbahciplnhfaa
set_option linter.unusedVariables false
set_option linter.unusedSimpArgs false
open Go.RowKit Go.Proofs.YtecbahciplnhfaaW.PrintWords Go.Proofs.YtecbahciplnhfaaW.PrintLast Go.Proofs.YtecbahciplnhfaaW.PrintMore Go.Proofs.Ytecbahciplnhfaa.MScriptDecodes Go.Proofs.Ytecbahciplnhfaa.Base
/-- An act's cells, its bytes of their own. -/
def Inner (w : World) (g base : Nat) (x : S33) (cs : List Value) : Prop := ∃ A c, cs = [.int .i64 x.f0, .int .i64 x.f1, .int .u64 x.f2, .int .u32 x.f3, .int .i64 x.f4, .int .i64 x.f5, .slice A x.f6.length c] ∧ Kd.R (Kd.int .u8) 5 w base (fun k => base ≤ k ∧ k ≠ g) (.slice A x.f6.length c) x.f6
/-- A row of acts of one's own. -/
def DW (w : World) (g base : Nat) (v : Value) (xs : List S33) : Prop := ∃ rows : List (List Value), rows.length = xs.length ∧ Kd.R (Kd.raw 7) 33 w base (fun k => base ≤ k ∧ k ≠ g) v rows ∧ ∀ (j : Nat) (x : S33) (c : List Value), xs[j]? = some x → rows[j]? = some c → Inner w g base x c
section
variable {w w' : World} {g base : Nat} {v v' : Value} {xs : List S33} {x : S33} {cs : List Value}
theorem Inner.kept (h : Inner w g base x cs) (hk : Kept w w' (fun k => k = g)) : Inner w' g base x cs := by
  obtain ⟨A, c, e, r⟩ := h
  exact ⟨A, c, e, Kd.R_kept r hk (fun k ho => ho.2)⟩
theorem Inner.grown (h : Inner w g base x cs) {row : Option Nat} (hg : w.grownBy w' row) (ht : ∀ k, row = some k → ∃ cells, w.heap[k]? = some (.cells cells 33 (0, 0))) : Inner w' g base x cs := by
  obtain ⟨A, c, e, r⟩ := h
  have r2 : Kd.R (Kd.int .u8) 5 w base (fun k => (base ≤ k ∧ k ≠ g) ∧ some k ≠ row) (.slice A x.f6.length c) x.f6 := Kd.R_mono (Kd.R_bound r) (fun k hk => ⟨hk.1, fun e => by
    obtain ⟨q, hq, cells, hc⟩ := hk.2.2.2
    obtain ⟨cells2, hc2⟩ := ht k e.symm
    have hE : q = 5 := by simpa [Kd.int, Kd.scalar] using hq
    rw [hc2, hE] at hc
    simp at hc⟩)
  exact ⟨A, c, e, Kd.R_mono (Kd.R_grown r2 hg (fun k hk => hk.2)) (fun k hk => hk.1)⟩
theorem DW.kept (h : DW w g base v xs) (hk : Kept w w' (fun k => k = g)) : DW w' g base v xs := by
  obtain ⟨rows, hl, hR, hI⟩ := h
  exact ⟨rows, hl, Kd.R_kept hR hk (fun k ho => ho.2), fun j x c h1 h2 => (hI j x c h1 h2).kept hk⟩
theorem DW.nil : DW w g base (.slice none 0 0) [] := ⟨[], rfl, Kd.R_nil _ _ _ _ _, fun j x c h => by simp at h⟩
theorem DW.slice (h : DW w g base v xs) : ∃ A c, v = .slice A xs.length c := by
  obtain ⟨rows, hl, hR, _⟩ := h
  obtain ⟨A, c, e⟩ := Kd.R_slice hR
  exact ⟨A, c, by rw [e, hl]⟩
theorem DW.own (h : DW w g base v xs) : ∀ k, v.ownBlock = some k → (base ≤ k ∧ k ≠ g) ∧ k < w.heap.size := by
  obtain ⟨rows, hl, hR, _⟩ := h
  exact fun k hk => ⟨hR.1 k hk, Kd.R_lt hR k hk⟩
/-- It is read as acts. -/
theorem DW.reads {A : Option Addr} {n c : Nat} (h : DW w g base (.slice A n c) xs) : n = xs.length ∧ n ≤ c ∧ Kd.C k33 w A xs.length xs := by
  obtain ⟨rows, hl, hR, hI⟩ := h
  obtain ⟨hn, hc, hC⟩ := Kd.R_reads' hR
  refine ⟨hn.trans hl, hc, ?_⟩
  rw [hl] at hC
  refine ⟨rfl, hC.2.1, fun hp => ?_⟩
  obtain ⟨ad, e, hcell⟩ := hC.2.2 hp
  refine ⟨ad, e, fun j p hj => ?_⟩
  have hlt : j < rows.length := by rw [hl]; exact (List.getElem?_eq_some_iff.1 hj).1
  obtain ⟨c1, q1, q2, q3⟩ := hcell j _ (List.getElem?_eq_getElem hlt)
  obtain ⟨A', c', e', r⟩ := hI j p _ hj (List.getElem?_eq_getElem hlt)
  refine ⟨c1, q1, ?_, q3⟩
  rw [q2.1, e']
  exact k33_mk w p (Kd.R_reads' r).2.1 (Kd.R_reads' r).2.2
end
theorem dw_app {w2 w3 : World} {g base : Nat} {own : Option Nat} {v1 : Value} {pre : List S33} {x : S33} {rows : List (List Value)} {cs : List Value} (hl : rows.length = pre.length) (hR : Kd.R (Kd.raw 7) 33 w3 base (fun k => base ≤ k ∧ k ≠ g) v1 (rows ++ [cs])) (hg : w2.grownBy w3 own) (ht : ∀ k, own = some k → ∃ cells, w2.heap[k]? = some (.cells cells 33 (0, 0)))
    (hI : ∀ (j : Nat) (x : S33) (c : List Value), pre[j]? = some x → rows[j]? = some c → Inner w2 g base x c) (hx : Inner w2 g base x cs) : DW w3 g base v1 (pre ++ [x]) := by
  refine ⟨rows ++ [cs], by simp [hl], hR, fun j y c h1 h2 => ?_⟩
  by_cases hj : j < pre.length
  · rw [List.getElem?_append_left hj] at h1
    rw [List.getElem?_append_left (by omega)] at h2
    exact (hI j y c h1 h2).grown hg ht
  · have hj2 : j = pre.length := by
      have := (List.getElem?_eq_some_iff.1 h1).1
      simp at this
      omega
    subst hj2
    rw [List.getElem?_append_right (Nat.le_refl _)] at h1
    rw [List.getElem?_append_right (by omega)] at h2
    simp only [Nat.sub_self, List.getElem?_cons_zero, Option.some.injEq] at h1
    rw [hl] at h2
    simp only [Nat.sub_self, List.getElem?_cons_zero, Option.some.injEq] at h2
    subst h1 h2
    exact hx.grown hg ht
set_option maxHeartbeats 8000000 in
set_option maxRecDepth 100000 in
theorem decode_o (w : World) (A : Option Addr) (c : Nat) (l : List Int) (hb : Bytes l) (hl : l.length ≤ 1000000000) (hr : Kd.C (Kd.int .u8) w A l.length l) (hc : l.length ≤ c) (HPOS : 0 < l.length) :
    Calls Try.prog 7 #[.slice A l.length c] w fun e w' => ∃ v, e = .returned v ∧ DW w' w.heap.size w.heap.size v (dec l) ∧ Below w.heap.size w w' := by
  have HB := Aside0.mk hb
  have HL := Aside0.mk hl
  have HLT : Aside0 (∀ ad, A = some ad → ad.block < w.heap.size) := ⟨fun ad h => row_lt hr HPOS h⟩
  have R := Aside0.mk (show RB (w.alloc (.cells #[.slice A l.length c] 52 (0, 0))) w.heap.size A c l from ⟨blk_new w _, Kd.C_alloc hr _, hc, HLT.out⟩)
  have B := Aside0.mk (below_alloc (Below.refl w.heap.size w) (.cells #[.slice A l.length c] 52 (0, 0)))
  clear hb hl hr hc HPOS HLT
  go_enter Try.func7, Try.ntmps7
  go_wp2
  generalize w.alloc (.cells #[.slice A l.length c] 52 (0, 0)) = W1 at R B ⊢
  have GE := Aside0.mk (Nat.le_refl w.heap.size)
  generalize hg : w.heap.size = g at R ⊢
  have HG := Aside0.mk hg
  clear hg
  go_loopg [4] (l.length + 1) (fun n v4 wr => ∃ (pre : List S33) (rest : List Int) (A1 : Option Addr) (c1 : Nat), Aside0 (DW wr g w.heap.size v4 pre) ∧ Aside0 (RB wr g A1 c1 rest) ∧ Aside0 (Bytes rest ∧ dec l = pre ++ dec rest ∧ rest.length < n ∧ pre.length + rest.length ≤ l.length) ∧ Aside0 (Below w.heap.size w wr))
  case atStart => exact ⟨[], l, A, c, ⟨DW.nil⟩, R, ⟨HB.out, rfl, by omega, by simp⟩, B⟩
  case round =>
    clear R B
    obtain ⟨pre, rest, A1, c1, HN, R, HP, B⟩ := hrel
    obtain ⟨Ao, co, eo⟩ := HN.out.slice
    subst eo
    have z0 := R.out.cell
    by_cases he : rest = []
    · have hz : Aside0 (pre = dec l) := ⟨by have h := HP.out.2.1; rw [he, dec_nil, List.append_nil] at h; exact h.symm⟩
      subst he
      go_wp2
      go_ret
      rw [← hz.out]
      exact ⟨_, rfl, by have h := HN.out; rw [← HG.out] at h; rw [HG.out] at h ⊢; exact h, B.out⟩
    · obtain ⟨k1, rfl⟩ : ∃ k1, gk = k1 + 1 := ⟨gk - 1, by have := HP.out.2.2.1; omega⟩
      have hpos : 0 < rest.length := List.length_pos_iff.2 he
      have HE := Aside0.mk he
      have d1 : (0 : Int) < (rest.length : Int) := by omega
      have d2 : decide ((0 : Int) < (rest.length : Int)) = true := decide_eq_true d1
      have d3 : decide (0 < rest.length) = true := decide_eq_true hpos
      clear he
      generalize hrl : rest.length = rl at z0 d1 d2 d3 hpos
      clear hrl
      go_wp2_with (fail)
      refine (act_c _ g A1 c1 rest HP.out.1 (by have h := HP.out.2.2.2; have h2 := HL.out; omega) R.out).mono ?_
      rintro e w2 ⟨A6, c6, A2, c2, rfl, hv, hr, hk⟩
      obtain ⟨x, hx⟩ : ∃ x, x = (decA rest).1 := ⟨_, rfl⟩
      rw [← hx] at hv ⊢
      have HX := Aside0.mk hx
      have LT := Aside0.mk HN.out.own
      have HN2 := Aside0.mk (HN.out.kept hk)
      have R2 := Aside0.mk hr
      have B2 := Aside0.mk (Kept.new B.out hk (fun k e => by have := HG.out; omega) (Nat.le_refl _))
      have SZ := Aside0.mk (And.intro hk.size (blk_lt R.out.box))
      have IX : Aside0 (Inner w2 g w.heap.size x [.int .i64 x.f0, .int .i64 x.f1, .int .u64 x.f2, .int .u32 x.f3, .int .i64 x.f4, .int .i64 x.f5, .slice A6 x.f6.length c6]) := ⟨_, _, rfl, Kd.R_lower (Kd.R_mono hv (fun k hk => ⟨Nat.le_trans B.out.size hk, by have := SZ.out.2; omega⟩)) B.out.size⟩
      clear hv hr hk hx
      have FR : Aside0 (∀ k, w2.heap.size ≤ k → w.heap.size ≤ k ∧ k ≠ g) := ⟨fun k hk => ⟨by have := B.out.size; have := SZ.out.1; omega, by have := SZ.out; omega⟩⟩
      have BA : Aside0 (w.heap.size ≤ w2.heap.size) := ⟨by have := B.out.size; have := SZ.out.1; omega⟩
      have HLN : Aside0 ((pre.length + 1) * 72 ≤ 140737488355328) := ⟨by have := HP.out.2.2.2; have := HL.out; omega⟩
      have OWN : Aside0 (∀ k, (Value.slice Ao pre.length co).ownBlock = some k → g < k) := ⟨fun k e => by have h := HN.out.own k e; have := HG.out; omega⟩
      have OWN2 : Aside0 (∀ k, (Value.slice Ao pre.length co).ownBlock = some k → w.heap.size ≤ k) := ⟨fun k e => (HN.out.own k e).1.1⟩
      have HPN : Aside0 (Bytes (decA rest).2 ∧ dec l = (pre ++ [x]) ++ dec (decA rest).2 ∧ (decA rest).2.length < k1 ∧ (pre ++ [x]).length + (decA rest).2.length ≤ l.length) := ⟨by
        have h := HP.out
        have hd := decA_len HE.out
        refine ⟨decA_bytes h.1, ?_, by omega, by simp only [List.length_append, List.length_cons, List.length_nil]; omega⟩
        rw [h.2.1, dec_step HE.out, HX.out]
        simp⟩
      obtain ⟨rows, hl2, hrr, hii⟩ := HN2.out
      have HL2 := Aside0.mk hl2
      have HRR := Aside0.mk hrr
      have HII := Aside0.mk hii
      have HTY := Aside0.mk (Kd.R_typed hrr)
      have MX : Aside0 ((Kd.raw 7).M w2 w.heap.size (fun _ => False) [.int .i64 x.f0, .int .i64 x.f1, .int .u64 x.f2, .int .u32 x.f3, .int .i64 x.f4, .int .i64 x.f5, .slice A6 x.f6.length c6] [.int .i64 x.f0, .int .i64 x.f1, .int .u64 x.f2, .int .u32 x.f3, .int .i64 x.f4, .int .i64 x.f5, .slice A6 x.f6.length c6]) := ⟨rfl, rfl, by intro u hu; simp at hu; rcases hu with rfl | rfl | rfl | rfl | rfl | rfl | rfl <;> rfl⟩
      have HLN : Aside0 ((rows.length + 1) * 72 ≤ 140737488355328) := ⟨by rw [hl2]; exact HLN.out⟩
      clear hl2 hrr hii
      unfold A33
      go_wp2_with (first | ((with_reducible refine gate_builtin (b := .append) (xs := #[.tmp 14, .tmp 17]) rfl ?_); at_builtin; refine Kd.R_append (Kd.raw 7) (w0 := w2) w.heap.size rfl (.tmp 14) (.tmp 17) 24 33 (.agg #[.int .i64 0, .int .i64 0, .int .u64 0, .int .u32 0, .int .i64 0, .int .i64 0, .slice none 0 0]) 72 rfl Try.underlying24 info33 rfl (by decide) (by decide) _ rows [.int .i64 x.f0, .int .i64 x.f1, .int .u64 x.f2, .int .u32 x.f3, .int .i64 x.f4, .int .i64 x.f5, .slice A6 x.f6.length c6] [.int .i64 x.f0, .int .i64 x.f1, .int .u64 x.f2, .int .u32 x.f3, .int .i64 x.f4, .int .i64 x.f5, .slice A6 x.f6.length c6] (fun k => w.heap.size ≤ k ∧ k ≠ g) (fun _ => False) rfl rfl MX.out (fun _ hk => hk.elim) FR.out HRR.out (Below.refl _ _) BA.out HLN.out ?_; intro v1 w3 ho hb hgr hat; have HN3 := Aside0.mk (show DW w3 g w.heap.size v1 (pre ++ [x]) from dw_app HL2.out ho hgr HTY.out HII.out IX.out); have R3 := Aside0.mk (R2.out.grown hgr OWN.out); have B3 := Aside0.mk (Kept.new B2.out (Kept.of_grown hgr (Kept.refl w2 (fun k => w.heap.size ≤ k)) (fun k e => .inl (OWN2.out k e))) (fun k hk => hk) (Nat.le_refl _)); clear ho hb hgr hat R2 B2) | fail)
      go_roundg k1
      case measure => omega
      case rel => exact ⟨pre ++ [x], (decA rest).2, A2, c2, HN3, R3, HPN, B3⟩
end Go.Proofs.Ytecbahciplnhfaa
