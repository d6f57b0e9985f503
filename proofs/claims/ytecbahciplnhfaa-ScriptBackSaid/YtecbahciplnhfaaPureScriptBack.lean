/-
  ScriptBack: what has bytes is decoded as it was, and what is decoded has bytes, and is decoded of these the same. For every list of acts and all bytes; no further condition.
-/
import Derived.Test.YtecbahciplnhfaaScriptPure
import Derived.Lib.SlBytesConst
namespace Go.Proofs.Ytecbahciplnhfaa
set_option linter.unusedVariables false
set_option linter.unusedSimpArgs false
set_option linter.unnecessarySimpa false
open Go.RowKit Go.Proofs.YtecbahciplnhfaaW.PrintWords Go.Proofs.YtecbahciplnhfaaW.PrintLast Go.Proofs.YtecbahciplnhfaaW.PrintMore Go.Proofs.Ytecbahciplnhfaa.MScriptBack Go.Proofs.Ytecbahciplnhfaa.Base
theorem row_1 (w : World) (x : Int) (fr : Nat × Nat) : Kd.C (Kd.int .u8) (w.alloc (.cells #[.int .u8 x] 5 fr)) (some ⟨w.heap.size, 0, none⟩) 1 [x] := by
  refine ⟨rfl, by omega, fun _ => ⟨_, rfl, fun j p hp => ?_⟩⟩
  cases j with
  | succ j => simp at hp
  | zero =>
    obtain rfl : x = p := by simpa using hp
    refine ⟨[.int .u8 x], rfl, rfl, fun i u hu => ?_⟩
    cases i with
    | succ i => simp at hu
    | zero =>
      obtain rfl : Value.int .u8 x = u := by simpa using hu
      exact (cell_of_row _ w.heap.size 0 #[.int .u8 x] 5 fr (blk_new w (.cells #[.int .u8 x] 5 fr))).trans rfl
def x1 : S33 := ⟨4, 0, 0, 0, 0, 0, []⟩
def x2 : S33 := ⟨1, 3, 0, 0, 0, 0, [120]⟩
theorem ok_x1 : okA x1 ∧ wfA x1 := by
  have e : (decA [3]).1 = x1 := by unfold decA NV tx; simp [NV, x1]
  rw [← e]
  exact decA_ok (fun x hx => by simp at hx; rw [hx]; exact ⟨by decide, by decide⟩)
theorem ok_x2 : okA x2 ∧ wfA x2 :=
  ⟨⟨by decide, by decide, by decide, by decide, by decide, by decide, fun h => absurd rfl h, fun _ => rfl, fun _ => ⟨rfl, rfl, rfl⟩, fun h => absurd rfl h⟩, ⟨by decide, by decide, fun x hx => by simp [x2] at hx; rw [hx]; exact ⟨by decide, by decide⟩⟩⟩
theorem row_2 (w : World) (A : Option Addr) (h : Kd.C (Kd.int .u8) w A 1 [120]) : Kd.C k33 (w.alloc (.cells #[.int .i64 4, .int .i64 0, .int .u64 0, .int .u32 0, .int .i64 0, .int .i64 0, .slice none 0 0, .int .i64 1, .int .i64 3, .int .u64 0, .int .u32 0, .int .i64 0, .int .i64 0, .slice A 1 1] 33 (0, 0))) (some ⟨w.heap.size, 0, none⟩) 2 [x1, x2] := by
  refine ⟨rfl, by omega, fun _ => ⟨_, rfl, fun j p hp => ?_⟩⟩
  have hb := blk_new w (.cells #[.int .i64 4, .int .i64 0, .int .u64 0, .int .u32 0, .int .i64 0, .int .i64 0, .slice none 0 0, .int .i64 1, .int .i64 3, .int .u64 0, .int .u32 0, .int .i64 0, .int .i64 0, .slice A 1 1] 33 (0, 0))
  have e : ∀ i, (⟨w.heap.size, 0, none⟩ : Addr).add i = ⟨w.heap.size, i, none⟩ := fun i => by simp [Addr.add]; exact fun h => h.symm
  rcases j with _ | _ | j
  · obtain rfl : x1 = p := by simpa using hp
    refine ⟨_, rfl, k33_mk _ x1 (A6 := none) (c6 := 0) (Nat.le_refl 0) (Kd.C_nil _ _), fun i u hu => ?_⟩
    rw [e, blk_cell hb]
    rcases i with _ | _ | _ | _ | _ | _ | _ | i <;> first | (simpa [x1, k33, Kd.iso, Kd.pair, Kd.int, Kd.scalar] using hu) | (simp at hu)
  · obtain rfl : x2 = p := by simpa using hp
    refine ⟨_, rfl, k33_mk _ x2 (A6 := A) (c6 := 1) (Nat.le_refl 1) (Kd.C_alloc h _), fun i u hu => ?_⟩
    have e7 : (0 + 1) * k33.sz = 7 := rfl
    rw [e, blk_cell hb, e7]
    rcases i with _ | _ | _ | _ | _ | _ | _ | i <;> first | (simpa [x2] using hu) | (simp at hu)
  · simp at hp
theorem encode_c (w : World) (A : Option Addr) (c : Nat) (l : List S33) (hr : Kd.C k33 w A l.length l) (hc : l.length ≤ c) (hw : ∀ y ∈ l, wfA y) (hn : l.length ≤ 3000) :
    ∃ r : List Int × Option Int, ((∀ y ∈ l, okA y) → r = (encs l, none)) ∧ (r.2 = none → ∀ y ∈ l, okA y) ∧ Calls Try.prog 16 #[.slice A l.length c] w fun e w' => ∃ A' c', e = .returned (.tuple #[.slice A' r.1.length c', errW r.2]) ∧ Kd.C (Kd.int .u8) w' A' r.1.length r.1 ∧ r.1.length ≤ c' ∧ Below w.heap.size w w' := by
  obtain ⟨k, r, h, h1, h2⟩ := encode_all l hw hn
  refine ⟨r, h1, h2, (script_Encode.calls k A c l r.1 r.2 w hr hc h).mono ?_⟩
  rintro e w' ⟨v, rfl, hv, hb⟩
  obtain ⟨A', c', rfl⟩ := Kd.R_slice hv
  exact ⟨A', c', rfl, (Kd.R_reads' hv).2.2, (Kd.R_reads' hv).2.1, hb⟩
theorem dec_3 : dec [3] = [x1] := by
  rw [dec_step (by simp)]
  have e : decA [3] = (x1, []) := by unfold decA NV tx; simp [NV, x1]
  rw [e]
  rfl
theorem encs_12 : encs [x1, x2] = [3, 0, 3, 0, 1, 120] := by kernel_rfl
set_option maxHeartbeats 8000000 in
set_option maxRecDepth 100000 in
theorem alive_c (w : World) : Calls Try.prog 6 #[] w fun e w' => e = .returned (.bool true) ∧ Below w.heap.size w w' := by
  go_enter Try.func6, Try.ntmps6
  go_wp2_with (fail)
  have hdec := decode_c (w.alloc (.cells #[.int .u8 3] 5 (0, 0))) (some ⟨w.heap.size, 0, none⟩) 1 [3] (fun x hx => by simp at hx; rw [hx]; exact ⟨by decide, by decide⟩) (by simp) (row_1 w 3 (0, 0)) (Nat.le_refl 1)
  rw [dec_3] at hdec
  simp only [List.length_cons, List.length_nil, Nat.zero_add] at hdec
  with_reducible refine hdec.mono ?_
  rintro e w1 ⟨A1, c1, rfl, hC, hle, hb⟩
  have C1 := Aside0.mk hC
  have B1 := Aside0.mk (below_step (below_alloc (Below.refl w.heap.size w) _) hb)
  have hcv := Go.Lib.run_convert_bytes_const (P := Try.prog) w1 22 5 #[.int .u8 120] 1 1 Try.underlying22 Try.underlying5
  clear hdec hC hle hb
  go_wp2_with (fail)
  obtain ⟨r, hr, _, henc⟩ := encode_c ((w1.alloc (.cells #[.int .u8 120] 5 (1, 2))).alloc (.cells #[.int .i64 4, .int .i64 0, .int .u64 0, .int .u32 0, .int .i64 0, .int .i64 0, .slice none 0 0, .int .i64 1, .int .i64 3, .int .u64 0, .int .u32 0, .int .i64 0, .int .i64 0, .slice (some ⟨w1.heap.size, 0, none⟩) 1 1] 33 (0, 0))) (some ⟨(w1.alloc (.cells #[.int .u8 120] 5 (1, 2))).heap.size, 0, none⟩) 2 [x1, x2] (row_2 _ _ (row_1 w1 120 (1, 2))) (Nat.le_refl 2) (fun y hy => by simp at hy; rcases hy with rfl | rfl; exact ok_x1.2; exact ok_x2.2) (by simp)
  rw [hr (fun y hy => by simp at hy; rcases hy with rfl | rfl; exact ok_x1.1; exact ok_x2.1), encs_12] at henc
  simp only [List.length_cons, List.length_nil, Nat.zero_add, Nat.reduceAdd] at henc
  rw [show (w1.alloc (.cells #[.int .u8 120] 5 (1, 2))).heap.size = w1.heap.size + 1 from World.size_alloc _ _] at henc
  with_reducible refine henc.mono ?_
  rintro e w2 ⟨A2, c2, rfl, hC, hle, hb⟩
  have B2 := Aside0.mk (below_step (below_alloc (below_alloc B1.out (.cells #[.int .u8 120] 5 (1, 2))) _) hb)
  have C2 := Aside0.mk (Kd.C_below C1.out (below_step (below_alloc (below_alloc (Below.refl w1.heap.size w1) (.cells #[.int .u8 120] 5 (1, 2))) _) hb))
  have hcs := Kd.C_string (P := Try.prog) (A := A2) (c := c2) Try.underlying22 Try.underlying5 Try.underlying9 hC
  obtain ⟨ad0, A3, c3, hA, z0, _⟩ := at_T33 C2.out 0 (by omega) (by simp)
  subst hA
  have z0 : w2.cell? ad0 = some (.int .i64 4) := by
    have h := z0
    simp only [Int.toNat_zero, Nat.zero_mul] at h
    rw [show ad0.add 0 = ad0 from (by cases ad0; rfl)] at h
    exact h
  have hstr : ((strOfNums [3, 0, 3, 0, 1, 120]).toList == [3, 0, 3, 0, 1, 120]) = true := by first | kernel_rfl | decide +kernel | simp [strOfNums]
  clear henc hr hC hle hb
  simp only [errW_none]
  go_wp2
  go_ret
  exact ⟨rfl, B2.out⟩
theorem long_l0 (x0 : List S33) : ∀ (ys pre : List S33), (pre ++ ys).length ≤ 9223372036854775807 → ∃ b, Ev (fun k => horologelaw39_Long.l0 k x0 30 (pre ++ ys) ((pre ++ ys).length : Int) (pre.length : Int)) b ∧ (b = false → (x0.length : Int) ≤ 30)
  | [], pre, _ => by
    refine ⟨decide ((x0.length : Int) > 30), Ev.up ?_, fun h => by have := of_decide_eq_false h; omega⟩
    simp only [horologelaw39_Long.l0]
    exact Ev.neg (by simp) (Ev.now _)
  | y :: ys, pre, h => by
    have hlt : pre.length < (pre ++ y :: ys).length := by simp only [List.length_append, List.length_cons]; omega
    obtain ⟨b, hb, hf⟩ := long_l0 x0 ys (pre ++ [y]) (by simpa using h)
    have hj : ∀ c : Bool, ∃ b, Ev (fun k => horologelaw39_Long.j1 k x0 30 (pre ++ y :: ys) ((pre ++ y :: ys).length : Int) (pre.length : Int) c) b ∧ (b = false → (x0.length : Int) ≤ 30) := by
      intro c
      cases c with
      | true =>
        refine ⟨true, Ev.up ?_, fun h => by cases h⟩
        simp only [horologelaw39_Long.j1]
        exact Ev.pos (by first | trivial | rfl) (Ev.now _)
      | false =>
        refine ⟨b, Ev.up ?_, hf⟩
        simp only [horologelaw39_Long.j1]
        refine Ev.neg (by decide) ?_
        rw [nextw hlt h, show pre ++ y :: ys = (pre ++ [y]) ++ ys by simp, show pre.length + 1 = (pre ++ [y]).length by simp]
        exact hb
    by_cases c1 : (((rd_T33 (pre ++ y :: ys) (pre.length : Int)).f6).length : Int) > 1500
    · by_cases c2 : (((rd_T33 (pre ++ y :: ys) (pre.length : Int)).f6).length : Int) ≤ 65535
      · obtain ⟨b', hb', hf'⟩ := hj true
        refine ⟨b', Ev.up ?_, hf'⟩
        simp only [horologelaw39_Long.l0]
        exact Ev.pos (Int.ofNat_lt.2 hlt) (Ev.pos (Int.natCast_nonneg _) (Ev.pos (Int.ofNat_lt.2 hlt) (Ev.pos c1 (Ev.pos c2 hb'))))
      · obtain ⟨b', hb', hf'⟩ := hj (decide ((((rd_T33 (pre ++ y :: ys) (pre.length : Int)).f6).length : Int) > 66000))
        refine ⟨b', Ev.up ?_, hf'⟩
        simp only [horologelaw39_Long.l0]
        exact Ev.pos (Int.ofNat_lt.2 hlt) (Ev.pos (Int.natCast_nonneg _) (Ev.pos (Int.ofNat_lt.2 hlt) (Ev.pos c1 (Ev.neg c2 hb'))))
    · obtain ⟨b', hb', hf'⟩ := hj (decide ((((rd_T33 (pre ++ y :: ys) (pre.length : Int)).f6).length : Int) > 66000))
      refine ⟨b', Ev.up ?_, hf'⟩
      simp only [horologelaw39_Long.l0]
      exact Ev.pos (Int.ofNat_lt.2 hlt) (Ev.pos (Int.natCast_nonneg _) (Ev.pos (Int.ofNat_lt.2 hlt) (Ev.neg c1 hb')))
theorem long_c (w : World) (A : Option Addr) (c : Nat) (l : List S33) (hr : Kd.C k33 w A l.length l) (hc : l.length ≤ c) : ∃ b, (b = false → l.length ≤ 30) ∧ Calls Try.prog 12 #[.slice A l.length c, .int .i64 30] w fun e w' => e = .returned (.bool b) ∧ Below w.heap.size w w' := by
  obtain ⟨b, hb, hf⟩ := long_l0 l l [] (by have := Kd.C_max hr; simpa using this)
  obtain ⟨k, hk⟩ := Ev.ok hb
  exact ⟨b, fun h => by have := hf h; omega, horologelaw39_Long.calls k A c l 30 b w hr hc hk⟩
theorem same_r (A0 : Option Addr) (n c0 : Nat) (l : List S33) (A1 : Option Addr) (m c1 : Nat) (w : World) (hn : n = l.length) (hm : m = l.length) (hr0 : Kd.C k33 w A0 l.length l) (hr1 : Kd.C k33 w A1 l.length l) :
    Calls Try.prog 18 #[.slice A0 n c0, .slice A1 m c1] w fun e w' => e = .returned (.bool true) ∧ Below w.heap.size w w' := by
  subst hn hm
  exact same_c A0 c0 l A1 c1 w hr0 hr1
set_option maxHeartbeats 8000000 in
set_option maxRecDepth 100000 in
theorem back_walk (A0 : Option Addr) (c0 : Nat) (l : List S33) (A1 : Option Addr) (c1 : Nat) (b : List Int) (w : World) (h0 : Kd.C k33 w A0 l.length l) (hc0 : l.length ≤ c0) (h1 : Kd.C (Kd.int .u8) w A1 b.length b) (hc1 : b.length ≤ c1) (hwl : ∀ y ∈ l, wfA y) (hwb : Bytes b) :
    Calls Try.prog 5 #[.slice A0 l.length c0, .slice A1 b.length c1] w fun e w' => e = .returned (.bool true) ∧ Below w.heap.size w w' := by
  have H0 := Aside0.mk h0
  have H1 := Aside0.mk h1
  have WL := Aside0.mk hwl
  have WB := Aside0.mk hwb
  have C0 := Aside0.mk hc0
  have C1 := Aside0.mk hc1
  clear h0 h1 hwl hwb hc0 hc1
  go_enter Try.func5, Try.ntmps5
  go_wp2_with (fail)
  with_reducible refine (alive_c _).mono ?_
  rintro e w1 ⟨rfl, hb⟩
  have B1 := Aside0.mk hb
  clear hb
  go_wp2_with (fail)
  obtain ⟨lb, hlb, hlong⟩ := long_c w1 A0 c0 l (Kd.C_below H0.out B1.out) C0.out
  with_reducible refine hlong.mono ?_
  rintro e w2 ⟨rfl, hb⟩
  have B2 := Aside0.mk (below_step B1.out hb)
  have HLB := Aside0.mk hlb
  clear hb hlong hlb
  cases lb with
  | true =>
    go_wp2
    go_ret
    exact ⟨rfl, B2.out⟩
  | false =>
  have L30 := Aside0.mk (HLB.out rfl)
  clear HLB
  by_cases hb3 : 3000 < b.length
  · have d1 : decide ((3000 : Int) < (b.length : Int)) = true := decide_eq_true (by omega)
    clear hb3
    go_wp2
    go_ret
    exact ⟨rfl, B2.out⟩
  have HB3 := Aside0.mk hb3
  have d1 : decide ((3000 : Int) < (b.length : Int)) = false := decide_eq_false (by omega)
  clear hb3
  have DOK := Aside0.mk (decF_ok b.length b WB.out)
  go_wp2_with (fail)
  clear d1
  obtain ⟨r, hr1, hr2, henc⟩ := encode_c w2 A0 c0 l (Kd.C_below H0.out B2.out) C0.out WL.out (by have := L30.out; omega)
  with_reducible refine henc.mono ?_
  rintro e w3 ⟨A3, c3, rfl, hC, hle, hb⟩
  have B3 := Aside0.mk (below_step B2.out hb)
  have C3 := Aside0.mk hC
  have E3 := Aside0.mk hle
  have R1 := Aside0.mk hr1
  have R2 := Aside0.mk hr2
  clear hb hC hle henc hr1 hr2
  obtain ⟨rb, re⟩ := r
  simp only at C3 E3 ⊢
  cases re with
  | some er =>
    simp only [errW_some]
    go_wp2_with (fail)
    have hd := decode_c _ A1 c1 b WB.out (by have := HB3.out; omega) (Kd.C_below H1.out B3.out) C1.out
    with_reducible refine hd.mono ?_
    rintro e w6 ⟨A6, c6, rfl, hC, hle, hb⟩
    have C6 := Aside0.mk hC
    have E6 := Aside0.mk hle
    have B6 := Aside0.mk (below_step B3.out hb)
    clear hd hC hle hb
    go_wp2_with (fail)
    obtain ⟨r, hr1, hr2, henc⟩ := encode_c w6 A6 c6 (dec b) C6.out E6.out (fun y hy => (DOK.out.2 y hy).2) (by have := DOK.out.1; have := HB3.out; unfold dec; omega)
    rw [hr1 (fun y hy => (DOK.out.2 y hy).1)] at henc
    with_reducible refine henc.mono ?_
    rintro e w7 ⟨A7, c7, rfl, hC, hle, hb⟩
    have B7 := Aside0.mk (below_step B6.out hb)
    have D7 := Aside0.mk (Kd.C_below C6.out hb)
    have C7 := Aside0.mk hC
    have E7 := Aside0.mk hle
    clear hb hC hle henc hr1 hr2
    simp only [errW_none]
    go_wp2_with (fail)
    have hd := decode_c w7 A7 c7 (encs (dec b)) (encs_bytes _ (fun y hy => (DOK.out.2 y hy).1) (fun y hy => (DOK.out.2 y hy).2)) (by have h := encs_len (dec b) (fun y hy => (DOK.out.2 y hy).1); have h2 : (dec b).length ≤ b.length := DOK.out.1; have := HB3.out; omega) C7.out E7.out
    rw [dec_encs (dec b) (fun y hy => (DOK.out.2 y hy).1) (fun y hy => (DOK.out.2 y hy).2)] at hd
    with_reducible refine hd.mono ?_
    rintro e w8 ⟨A8, c8, rfl, hC, hle, hb⟩
    have C8 := Aside0.mk hC
    have D8 := Aside0.mk (Kd.C_below D7.out hb)
    have B8 := Aside0.mk (below_step B7.out hb)
    clear hd hC hle hb
    go_wp2_with (fail)
    with_reducible refine (same_c A8 c8 (dec b) A6 c6 w8 C8.out D8.out).mono ?_
    rintro e w9 ⟨rfl, hb⟩
    have B9 := Aside0.mk (below_step B8.out hb)
    clear hb
    go_wp2
    go_ret
    exact ⟨rfl, B9.out⟩
  | none =>
    have OK := Aside0.mk (R2.out rfl)
    have hrb : rb = encs l := congrArg Prod.fst (R1.out OK.out)
    subst hrb
    have LE := Aside0.mk (encs_len l OK.out)
    have DE := Aside0.mk (dec_encs l OK.out WL.out)
    simp only [errW_none]
    go_wp2_with (fail)
    have hd := decode_c w3 A3 c3 (encs l) (encs_bytes l OK.out WL.out) (by have := LE.out; have := L30.out; omega) C3.out E3.out
    rw [DE.out] at hd
    with_reducible refine hd.mono ?_
    rintro e w4 ⟨A4, c4, rfl, hC, hle, hb⟩
    have C4 := Aside0.mk hC
    have B4 := Aside0.mk (below_step B3.out hb)
    clear hd hC hle hb C3 E3 B3
    go_wp2_with (fail)
    with_reducible refine (same_c A4 c4 l A0 c0 w4 C4.out (Kd.C_below H0.out B4.out)).mono ?_
    rintro e w5 ⟨rfl, hb⟩
    have B3 := Aside0.mk (below_step B4.out hb)
    clear hb C4 B4
    go_wp2_with (fail)
    have hd := decode_c _ A1 c1 b WB.out (by have := HB3.out; omega) (Kd.C_below H1.out B3.out) C1.out
    with_reducible refine hd.mono ?_
    rintro e w6 ⟨A6, c6, rfl, hC, hle, hb⟩
    have C6 := Aside0.mk hC
    have E6 := Aside0.mk hle
    have B6 := Aside0.mk (below_step B3.out hb)
    clear hd hC hle hb
    go_wp2_with (fail)
    obtain ⟨r, hr1, hr2, henc⟩ := encode_c w6 A6 c6 (dec b) C6.out E6.out (fun y hy => (DOK.out.2 y hy).2) (by have := DOK.out.1; have := HB3.out; unfold dec; omega)
    rw [hr1 (fun y hy => (DOK.out.2 y hy).1)] at henc
    with_reducible refine henc.mono ?_
    rintro e w7 ⟨A7, c7, rfl, hC, hle, hb⟩
    have B7 := Aside0.mk (below_step B6.out hb)
    have D7 := Aside0.mk (Kd.C_below C6.out hb)
    have C7 := Aside0.mk hC
    have E7 := Aside0.mk hle
    clear hb hC hle henc hr1 hr2
    simp only [errW_none]
    go_wp2_with (fail)
    have hd := decode_c w7 A7 c7 (encs (dec b)) (encs_bytes _ (fun y hy => (DOK.out.2 y hy).1) (fun y hy => (DOK.out.2 y hy).2)) (by have h := encs_len (dec b) (fun y hy => (DOK.out.2 y hy).1); have h2 : (dec b).length ≤ b.length := DOK.out.1; have := HB3.out; omega) C7.out E7.out
    rw [dec_encs (dec b) (fun y hy => (DOK.out.2 y hy).1) (fun y hy => (DOK.out.2 y hy).2)] at hd
    with_reducible refine hd.mono ?_
    rintro e w8 ⟨A8, c8, rfl, hC, hle, hb⟩
    have C8 := Aside0.mk hC
    have D8 := Aside0.mk (Kd.C_below D7.out hb)
    have B8 := Aside0.mk (below_step B7.out hb)
    clear hd hC hle hb
    go_wp2_with (fail)
    with_reducible refine (same_c A8 c8 (dec b) A6 c6 w8 C8.out D8.out).mono ?_
    rintro e w9 ⟨rfl, hb⟩
    have B9 := Aside0.mk (below_step B8.out hb)
    clear hb
    go_wp2
    go_ret
    exact ⟨rfl, B9.out⟩
end Go.Proofs.Ytecbahciplnhfaa
