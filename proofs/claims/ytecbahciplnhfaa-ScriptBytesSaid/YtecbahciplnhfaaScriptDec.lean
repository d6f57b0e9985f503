/-
  Decoding all acts of bytes; are two lists of acts the same?
-/
import Derived.Test.YtecbahciplnhfaaScriptAct
namespace Go.Proofs.Ytecbahciplnhfaa
set_option linter.unusedVariables false
set_option linter.unusedSimpArgs false
open Go.RowKit Go.Proofs.YtecbahciplnhfaaW.PrintWords Go.Proofs.YtecbahciplnhfaaW.PrintLast Go.Proofs.YtecbahciplnhfaaW.PrintMore Go.Proofs.Ytecbahciplnhfaa.MScriptBytes Go.Proofs.Ytecbahciplnhfaa.Base
theorem tx_len {l : List Int} : (tx l).2.length ≤ l.length := by unfold tx; simp only [List.length_drop]; omega
theorem tx_bytes {l : List Int} (h : Bytes l) : Bytes (tx l).2 := (h.drop _).drop _
theorem decA_len {l : List Int} (h : l ≠ []) : (decA l).2.length < l.length := by
  have hp : 0 < l.length := List.length_pos_iff.2 h
  have t1 := @tx_len ((l.drop 1).drop 1)
  have t3 := @tx_len ((((l.drop 1).drop 4).drop 2).drop 2)
  simp only [List.length_drop] at t1 t3
  unfold decA
  split
  · show (tx ((l.drop 1).drop 1)).2.length < l.length; omega
  · split
    · show ((l.drop 1).drop 8).length < l.length; simp only [List.length_drop]; omega
    · split
      · show (tx ((((l.drop 1).drop 4).drop 2).drop 2)).2.length < l.length; omega
      · show (l.drop 1).length < l.length; simp only [List.length_drop]; omega
theorem decA_bytes {l : List Int} (h : Bytes l) : Bytes (decA l).2 := by
  unfold decA
  split
  · exact tx_bytes ((h.drop _).drop _)
  · split
    · exact (h.drop _).drop _
    · split
      · exact tx_bytes ((((h.drop _).drop _).drop _).drop _)
      · exact h.drop _
/-- The acts of bytes. -/
def decF : Nat → List Int → List S33
  | 0, _ => []
  | n + 1, l => if l = [] then [] else (decA l).1 :: decF n (decA l).2
def dec (l : List Int) : List S33 := decF l.length l
theorem decF_eq : ∀ (n m : Nat) (l : List Int), l.length ≤ n → l.length ≤ m → decF n l = decF m l
  | 0, 0, _, _, _ => rfl
  | 0, m + 1, l, h, _ => by
    have : l = [] := List.length_eq_zero_iff.1 (by omega)
    simp [decF, this]
  | n + 1, 0, l, _, h => by
    have : l = [] := List.length_eq_zero_iff.1 (by omega)
    simp [decF, this]
  | n + 1, m + 1, l, h, g => by
    unfold decF
    by_cases he : l = []
    · rw [if_pos he, if_pos he]
    · rw [if_neg he, if_neg he]
      have := decA_len he
      rw [decF_eq n m _ (by omega) (by omega)]
theorem dec_nil : dec [] = [] := rfl
theorem dec_step {l : List Int} (h : l ≠ []) : dec l = (decA l).1 :: dec (decA l).2 := by
  have hp : 0 < l.length := List.length_pos_iff.2 h
  have hd := decA_len h
  obtain ⟨n, hn⟩ : ∃ n, l.length = n + 1 := ⟨l.length - 1, by omega⟩
  unfold dec
  rw [hn]
  show (if l = [] then [] else (decA l).1 :: decF n (decA l).2) = _
  rw [if_neg h, decF_eq n (decA l).2.length _ (by omega) (Nat.le_refl _)]
theorem RB.grown {w w' : World} {g : Nat} {A : Option Addr} {c : Nat} {l : List Int} {row : Option Nat} (H : RB w g A c l) (hg : w.grownBy w' row) (ho : ∀ k, row = some k → g < k) : RB w' g A c l := by
  refine ⟨blk_grown H.box hg (fun e => absurd (ho g e.symm) (by omega)), ⟨H.row.1, H.row.2.1, fun hp => ?_⟩, H.le, H.lt⟩
  obtain ⟨ad, e, hcell⟩ := H.row.2.2 hp
  refine ⟨ad, e, fun j p hj => ?_⟩
  obtain ⟨cc, q1, q2, q3⟩ := hcell j p hj
  refine ⟨cc, q1, q2, fun i u hu => ?_⟩
  have h4 := q3 i u hu
  have hlt := World.block_lt_of_cell? w _ h4
  have hb := H.lt ad e
  refine (World.cell?_of_block (hg.block _ hlt (fun e2 => ?_))).trans h4
  have h5 := ho _ e2.symm
  rw [add_block] at h5
  omega
theorem row_lt {w : World} {A : Option Addr} {l : List Int} (hr : Kd.C (Kd.int .u8) w A l.length l) (hp : 0 < l.length) {ad : Addr} (h : A = some ad) : ad.block < w.heap.size := by
  obtain ⟨ad2, e, hcell⟩ := Kd.at_int hr 0 (by omega) (by omega)
  rw [h] at e
  injection e with e
  subst e
  have := World.block_lt_of_cell? w _ hcell
  rwa [add_block] at this
theorem info33 : (Try.prog.info? 33).map (fun i => (i.zero, i.size, i.bytes)) = some (some (.agg #[.int .i64 0, .int .i64 0, .int .u64 0, .int .u32 0, .int .i64 0, .int .i64 0, .slice none 0 0]), 7, 72) := by kernel_rfl
set_option maxHeartbeats 8000000 in
set_option maxRecDepth 100000 in
theorem decode_p (w : World) (A : Option Addr) (c : Nat) (l : List Int) (hb : Bytes l) (hl : l.length ≤ 1000000000) (hr : Kd.C (Kd.int .u8) w A l.length l) (hc : l.length ≤ c) (HPOS : 0 < l.length) :
    Calls Try.prog 7 #[.slice A l.length c] w fun e w' => ∃ A' c', e = .returned (.slice A' (dec l).length c') ∧ Kd.C k33 w' A' (dec l).length (dec l) ∧ (dec l).length ≤ c' ∧ Below w.heap.size w w' := by
  have HB := Aside0.mk hb
  have HL := Aside0.mk hl
  have HLT : Aside0 (∀ ad, A = some ad → ad.block < w.heap.size) := ⟨fun ad h => row_lt hr HPOS h⟩
  have R := Aside0.mk (show RB (w.alloc (.cells #[.slice A l.length c] 52 (0, 0))) w.heap.size A c l from ⟨blk_new w _, Kd.C_alloc hr _, hc, HLT.out⟩)
  have B := Aside0.mk (below_alloc (Below.refl w.heap.size w) (.cells #[.slice A l.length c] 52 (0, 0)))
  clear hb hl hr hc HPOS HLT
  go_enter Try.func7, Try.ntmps7
  go_wp2
  generalize w.alloc (.cells #[.slice A l.length c] 52 (0, 0)) = W1 at R B ⊢
  have GE := Aside0.mk (Nat.le_refl w.heap.size)
  generalize hg : w.heap.size = g at R ⊢
  have HG := Aside0.mk hg
  clear hg
  go_loopg [4] (l.length + 1) (fun n v4 wr => ∃ (pre : List S33) (rest : List Int) (A1 : Option Addr) (c1 : Nat), Aside0 (Kd.N k33 33 wr w.heap.size (fun k => w.heap.size ≤ k ∧ k ≠ g) v4 pre) ∧ Aside0 (RB wr g A1 c1 rest) ∧ Aside0 (Bytes rest ∧ dec l = pre ++ dec rest ∧ rest.length < n ∧ pre.length + rest.length ≤ l.length) ∧ Aside0 (Below w.heap.size w wr))
  case atStart => exact ⟨[], l, A, c, ⟨Kd.N_nil _ _ _ _ _⟩, R, ⟨HB.out, rfl, by omega, by simp⟩, B⟩
  case round =>
    clear R B
    obtain ⟨pre, rest, A1, c1, HN, R, HP, B⟩ := hrel
    obtain ⟨Ao, co, eo⟩ := Kd.N_slice HN.out
    subst eo
    have z0 := R.out.cell
    by_cases he : rest = []
    · have hz : Aside0 (pre = dec l) := ⟨by have h := HP.out.2.1; rw [he, dec_nil, List.append_nil] at h; exact h.symm⟩
      subst he
      go_wp2
      go_ret
      obtain ⟨A', c', e', hle, hC⟩ := Kd.N_reads HN.out
      injection e' with e1 e2 e3
      subst e1 e3
      rw [← hz.out]
      exact ⟨Ao, co, rfl, hC, hle, B.out⟩
    · obtain ⟨k1, rfl⟩ : ∃ k1, gk = k1 + 1 := ⟨gk - 1, by have := HP.out.2.2.1; omega⟩
      have hpos : 0 < rest.length := List.length_pos_iff.2 he
      have HE := Aside0.mk he
      have d1 : (0 : Int) < (rest.length : Int) := by omega
      have d2 : decide ((0 : Int) < (rest.length : Int)) = true := decide_eq_true d1
      have d3 : decide (0 < rest.length) = true := decide_eq_true hpos
      clear he
      generalize hrl : rest.length = rl at z0 d1 d2 d3 hpos
      clear hrl
      go_wp2_with (fail)
      refine (act_c _ g A1 c1 rest HP.out.1 (by have h := HP.out.2.2.2; have h2 := HL.out; omega) R.out).mono ?_
      rintro e w2 ⟨A6, c6, A2, c2, rfl, hv, hr, hk⟩
      obtain ⟨x, hx⟩ : ∃ x, x = (decA rest).1 := ⟨_, rfl⟩
      rw [← hx] at hv ⊢
      have HX := Aside0.mk hx
      have hlt := Kd.N_lt HN.out
      have LT := Aside0.mk hlt
      have HN2 := Aside0.mk (Kd.N_step HN.out (fun k ho hlt => hk.block k hlt ho.2))
      have FX := Aside0.mk (k33_mkF w2 (fun k => wr.heap.size ≤ k) x (Kd.R_reads' hv).2.1 (Kd.N_F (Kd.R_N hv)))
      have R2 := Aside0.mk hr
      have B2 := Aside0.mk (Kept.new B.out hk (fun k e => by have := HG.out; omega) (Nat.le_refl _))
      have SZ := Aside0.mk (And.intro hk.size (blk_lt R.out.box))
      clear hv hr hk hx hlt
      have OKP : Aside0 (∀ k, wr.heap.size ≤ k → (w.heap.size ≤ k ∧ k ≠ g) ∧ some k ≠ (Value.slice Ao pre.length co).ownBlock) := ⟨fun k hk => ⟨⟨Nat.le_trans B.out.size hk, by have := SZ.out.2; omega⟩, fun e => by have := LT.out k e.symm; omega⟩⟩
      have FR : Aside0 (∀ k, w2.heap.size ≤ k → w.heap.size ≤ k ∧ k ≠ g) := ⟨fun k hk => ⟨by have := B.out.size; have := SZ.out.1; omega, by have := SZ.out; omega⟩⟩
      have BA : Aside0 (w.heap.size ≤ w2.heap.size) := ⟨by have := B.out.size; have := SZ.out.1; omega⟩
      have HLN : Aside0 ((pre.length + 1) * 72 ≤ 140737488355328) := ⟨by have := HP.out.2.2.2; have := HL.out; omega⟩
      have OWN : Aside0 (∀ k, (Value.slice Ao pre.length co).ownBlock = some k → g < k) := ⟨fun k e => by have h := HN.out.1 k e; have := HG.out; omega⟩
      have OWN2 : Aside0 (∀ k, (Value.slice Ao pre.length co).ownBlock = some k → w.heap.size ≤ k) := ⟨fun k e => (HN.out.1 k e).1⟩
      have HPN : Aside0 (Bytes (decA rest).2 ∧ dec l = (pre ++ [x]) ++ dec (decA rest).2 ∧ (decA rest).2.length < k1 ∧ (pre ++ [x]).length + (decA rest).2.length ≤ l.length) := ⟨by
        have h := HP.out
        have hd := decA_len HE.out
        refine ⟨decA_bytes h.1, ?_, by omega, by simp only [List.length_append, List.length_cons, List.length_nil]; omega⟩
        rw [h.2.1, dec_step HE.out, HX.out]
        simp⟩
      unfold A33
      go_wp2_with (first | ((with_reducible refine gate_builtin (b := .append) (xs := #[.tmp 14, .tmp 17]) rfl ?_); at_builtin; refine Kd.N_append k33 (w0 := w2) w.heap.size rfl (.tmp 14) (.tmp 17) 24 33 (.agg #[.int .i64 0, .int .i64 0, .int .u64 0, .int .u32 0, .int .i64 0, .int .i64 0, .slice none 0 0]) 72 rfl Try.underlying24 info33 rfl (by decide) (by decide) _ pre x [.int .i64 x.f0, .int .i64 x.f1, .int .u64 x.f2, .int .u32 x.f3, .int .i64 x.f4, .int .i64 x.f5, .slice A6 x.f6.length c6] (fun k => w.heap.size ≤ k ∧ k ≠ g) (fun k => wr.heap.size ≤ k) rfl rfl FX.out OKP.out FR.out HN2.out (Below.refl _ _) BA.out HLN.out ?_; intro v1 w3 ho hb hgr hat; have HN3 := Aside0.mk ho; have R3 := Aside0.mk (R2.out.grown hgr OWN.out); have B3 := Aside0.mk (Kept.new B2.out (Kept.of_grown hgr (Kept.refl w2 (fun k => w.heap.size ≤ k)) (fun k e => .inl (OWN2.out k e))) (fun k hk => hk) (Nat.le_refl _)); clear ho hb hgr hat HN2 R2 B2) | fail)
      go_roundg k1
      case measure => omega
      case rel => exact ⟨pre ++ [x], (decA rest).2, A2, c2, HN3, R3, HPN, B3⟩
set_option maxHeartbeats 8000000 in
set_option maxRecDepth 100000 in
theorem decode_n (w : World) (A : Option Addr) (c : Nat) :
    Calls Try.prog 7 #[.slice A 0 c] w fun e w' => e = .returned (.slice none 0 0) ∧ Below w.heap.size w w' := by
  have B := Aside0.mk (below_alloc (Below.refl w.heap.size w) (.cells #[.slice A 0 c] 52 (0, 0)))
  have z0 := Aside0.mk (blk_new w (.cells #[.slice A 0 c] 52 (0, 0)))
  go_enter Try.func7, Try.ntmps7
  go_wp2
  generalize w.alloc (.cells #[.slice A 0 c] 52 (0, 0)) = W1 at B z0 ⊢
  generalize hg : w.heap.size = g at z0 ⊢
  clear hg
  go_loopw [4] (fun v wr => v = .slice none 0 0 ∧ wr = W1) (fun _ _ => 0)
  case atStart => exact ⟨rfl, by first | rfl | trivial⟩
  case round =>
    obtain ⟨rfl, rfl⟩ := hrel
    have z1 := (blk_cell z0.out 0).trans rfl
    go_wp2
    go_ret
    exact ⟨rfl, B.out⟩
theorem decode_c (w : World) (A : Option Addr) (c : Nat) (l : List Int) (hb : Bytes l) (hl : l.length ≤ 1000000000) (hr : Kd.C (Kd.int .u8) w A l.length l) (hc : l.length ≤ c) :
    Calls Try.prog 7 #[.slice A l.length c] w fun e w' => ∃ A' c', e = .returned (.slice A' (dec l).length c') ∧ Kd.C k33 w' A' (dec l).length (dec l) ∧ (dec l).length ≤ c' ∧ Below w.heap.size w w' := by
  cases l with
  | nil =>
    refine (decode_n w A c).mono ?_
    rintro e w' ⟨rfl, hb⟩
    exact ⟨none, 0, rfl, Kd.C_nil _ _, Nat.le_refl _, hb⟩
  | cons x l => exact decode_p w A c (x :: l) hb hl hr hc (by simp)
theorem alike_f (x : S33) : script_alike.f x.f0 x.f1 x.f2 x.f3 x.f4 x.f5 x.f6 x.f0 x.f1 x.f2 x.f3 x.f4 x.f5 x.f6 = some true := by
  unfold script_alike.f bytes_Equal.f
  simp
set_option maxHeartbeats 4000000 in
set_option maxRecDepth 100000 in
theorem equal_c (A0 : Option Addr) (c0 : Nat) (l : List S33) (A1 : Option Addr) (c1 : Nat) (w : World) (hr0 : Kd.C k33 w A0 l.length l) (hr1 : Kd.C k33 w A1 l.length l) :
    Calls Try.prog 27 #[.slice A0 l.length c0, .slice A1 l.length c1, .func (.func 23) #[] #[]] w fun e w' => e = .returned (.bool true) ∧ Below w.heap.size w w' := by
  have HR0 := Aside0.mk hr0
  have HR1 := Aside0.mk hr1
  have HMX := Aside0.mk (Kd.C_max hr0)
  clear hr0 hr1
  go_enter Try.func27, Try.ntmps27
  go_wp2
  go_loopw [17] (fun i wr => ∃ k : Nat, i = .int .i64 k ∧ Aside0 (k ≤ l.length) ∧ Aside0 (Below w.heap.size w wr)) (fun i _ => l.length - (intOf i).toNat)
  case atStart => exact ⟨0, rfl, ⟨Nat.zero_le _⟩, ⟨Below.refl _ _⟩⟩
  case round =>
    obtain ⟨k, rfl, hk, HB⟩ := hrel
    by_cases hlt : k < l.length
    · have HK := Aside0.mk hlt
      have hstep := nextw hlt HMX.out
      have hlt2 : (k : Int) < (l.length : Int) := by omega
      obtain ⟨ad0, A2, c2, rfl, x0, x1, x2, x3, x4, x5, x6, x7, x8⟩ := at_T33 (Kd.C_below HR0.out HB.out) (k : Int) (by omega) (by omega)
      obtain ⟨ad1, A3, c3, rfl, y0, y1, y2, y3, y4, y5, y6, y7, y8⟩ := at_T33 (Kd.C_below HR1.out HB.out) (k : Int) (by omega) (by omega)
      simp only [Int.toNat_natCast] at x0 x1 x2 x3 x4 x5 x6 y0 y1 y2 y3 y4 y5 y6
      have hS := alike_f (rd_T33 l (k : Int))
      generalize rd_T33 l (k : Int) = u at *
      have HS := Aside0.mk hS
      have X7 := Aside0.mk x7
      have X8 := Aside0.mk x8
      have Y7 := Aside0.mk y7
      have Y8 := Aside0.mk y8
      clear x7 x8 y7 y8 hS
      have y0a := fun o => pw_cell_below (below_alloc (Below.refl _ _) o) y0
      have y1a := fun o => pw_cell_below (below_alloc (Below.refl _ _) o) y1
      have y2a := fun o => pw_cell_below (below_alloc (Below.refl _ _) o) y2
      have y3a := fun o => pw_cell_below (below_alloc (Below.refl _ _) o) y3
      have y4a := fun o => pw_cell_below (below_alloc (Below.refl _ _) o) y4
      have y5a := fun o => pw_cell_below (below_alloc (Below.refl _ _) o) y5
      have y6a := fun o => pw_cell_below (below_alloc (Below.refl _ _) o) y6
      go_wp2_with (first | (go_at_call 23; refine (script_alike.calls _ _ _ _ _ _ _ _ _ _ _ _ _ _ _ _ _ _ true _ (Kd.C_alloc (Kd.C_alloc X8.out _) _) X7.out (Kd.C_alloc (Kd.C_alloc Y8.out _) _) Y7.out HS.out).mono ?_; rintro e w' ⟨rfl, hb⟩; have HB2 := Aside0.mk (below_step (below_alloc (below_alloc HB.out _) _) hb); clear hb) | fail)
      go_roundw
      case measure => exact measv (by rw [hstep]) HK.out
      case rel => exact ⟨k + 1, by rw [hstep], ⟨HK.out⟩, HB2⟩
    · obtain rfl : k = l.length := by have := hk.out; omega
      go_wp2
      go_ret
      exact ⟨rfl, HB.out⟩
set_option maxHeartbeats 4000000 in
theorem same_c (A0 : Option Addr) (c0 : Nat) (l : List S33) (A1 : Option Addr) (c1 : Nat) (w : World) (hr0 : Kd.C k33 w A0 l.length l) (hr1 : Kd.C k33 w A1 l.length l) :
    Calls Try.prog 18 #[.slice A0 l.length c0, .slice A1 l.length c1] w fun e w' => e = .returned (.bool true) ∧ Below w.heap.size w w' := by
  go_enter Try.func18, Try.ntmps18
  go_wp2_with (first | (go_at_call 27; refine (equal_c A0 c0 l A1 c1 _ hr0 hr1).mono ?_; rintro e w' ⟨rfl, hb⟩) | fail)
  go_ret
  exact ⟨rfl, hb⟩
end Go.Proofs.Ytecbahciplnhfaa
