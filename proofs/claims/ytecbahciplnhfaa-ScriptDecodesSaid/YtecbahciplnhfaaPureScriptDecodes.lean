/-
  ScriptDecodes: the acts of any bytes, and that they are memory of their own. For all bytes; no further condition.
-/
import Derived.Test.YtecbahciplnhfaaScriptOwn
import Derived.Test.YtecbahciplnhfaaScriptAlive
import Derived.Test.YtecbahciplnhfaaScriptRef
import Derived.Test.YtecbahciplnhfaaScriptRdec
namespace Go.Proofs.Ytecbahciplnhfaa
set_option linter.unusedVariables false
set_option linter.unusedSimpArgs false
set_option linter.unnecessarySimpa false
open Go.RowKit Go.Proofs.YtecbahciplnhfaaW.PrintWords Go.Proofs.YtecbahciplnhfaaW.PrintLast Go.Proofs.YtecbahciplnhfaaW.PrintMore Go.Proofs.Ytecbahciplnhfaa.MScriptDecodes Go.Proofs.Ytecbahciplnhfaa.Base
theorem decode_all (w : World) (A : Option Addr) (c : Nat) (l : List Int) (hb : Bytes l) (hl : l.length ≤ 1000000000) (hr : Kd.C (Kd.int .u8) w A l.length l) (hc : l.length ≤ c) :
    Calls Try.prog 7 #[.slice A l.length c] w fun e w' => ∃ v, e = .returned v ∧ DW w' w.heap.size w.heap.size v (dec l) ∧ Below w.heap.size w w' := by
  cases l with
  | nil =>
    refine (decode_n w A c).mono ?_
    rintro e w' ⟨rfl, hb⟩
    exact ⟨_, rfl, DW.nil, hb⟩
  | cons x l => exact decode_o w A c (x :: l) hb hl hr hc (by simp)
/-- A row of bytes that may be written. -/
def Rw (w : World) (base : Nat) (A : Option Addr) (n : Nat) : Prop := 0 < n → ∃ g cur, A = some ⟨g, 0, none⟩ ∧ base ≤ g ∧ w.heap[g]? = some (.cells cur 5 (0, 0)) ∧ ∀ k, k < n → ∃ x, cur[k]? = some (.int .u8 x)
/-- A row of acts: its cells, and that each one's bytes may be written. -/
def LW (w : World) (base g : Nat) (cells : Array Value) (n : Nat) : Prop := w.heap[g]? = some (.cells cells 33 (0, 0)) ∧ ∀ j, j < n → ∃ A m c, cells[j * 7 + 6]? = some (.slice A m c) ∧ Rw w base A m ∧ m ≤ 9223372036854775807
theorem Rw.put {w : World} {base : Nat} {A : Option Addr} {n q k : Nat} {x : Int} {cur : Array Value} (h : Rw w base A n) (hq : w.heap[q]? = some (.cells cur 5 (0, 0))) : Rw (w.setCell ⟨q, k, none⟩ (.int .u8 x)) base A n := by
  intro hn
  obtain ⟨g, cu, e, hb, hh, hc⟩ := h hn
  by_cases hg : g = q
  · subst hg
    rw [hq] at hh
    injection hh with hh
    injection hh with hh
    subst hh
    refine ⟨g, _, e, hb, blk_set hq k _, fun i hi => ?_⟩
    obtain ⟨y, hy⟩ := hc i hi
    by_cases hik : k = i
    · subst hik
      have hlt := (Array.getElem?_eq_some_iff.1 hy).1
      exact ⟨x, by simp [Array.getElem?_setIfInBounds, hlt]⟩
    · exact ⟨y, by rw [Array.getElem?_setIfInBounds_ne hik]; exact hy⟩
  · exact ⟨g, cu, e, hb, blk_far hh hg _, hc⟩
theorem LW.put {w : World} {base g n q k : Nat} {x : Int} {cells cur : Array Value} (h : LW w base g cells n) (hq : w.heap[q]? = some (.cells cur 5 (0, 0))) : LW (w.setCell ⟨q, k, none⟩ (.int .u8 x)) base g cells n :=
  ⟨blk_far h.1 (blk_ne h.1 hq (by intro e; injection e with _ e2; exact absurd e2 (by decide))) _, fun j hj => by
    obtain ⟨A, m, c, h1, h2, h3⟩ := h.2 j hj
    exact ⟨A, m, c, h1, h2.put hq, h3⟩⟩
theorem Rw.below {w w' : World} {base n : Nat} {A : Option Addr} (h : Rw w base A n) (hb : Below w.heap.size w w') : Rw w' base A n := by
  intro hn
  obtain ⟨g, cu, e, hg, hh, hc⟩ := h hn
  exact ⟨g, cu, e, hg, blk_below hh hb, hc⟩
theorem LW.below {w w' : World} {base g n : Nat} {cells : Array Value} (h : LW w base g cells n) (hb : Below w.heap.size w w') : LW w' base g cells n :=
  ⟨blk_below h.1 hb, fun j hj => by
    obtain ⟨A, m, c, h1, h2, h3⟩ := h.2 j hj
    exact ⟨A, m, c, h1, h2.below hb, h3⟩⟩
theorem rw_of {w : World} {base : Nat} {ok : Nat → Prop} {A : Option Addr} {c : Nat} {xs : List Int} (h : Kd.R (Kd.int .u8) 5 w base ok (.slice A xs.length c) xs) : Rw w base A xs.length := by
  intro hn
  obtain ⟨g, cap, he, hb, hlt, cells, hc⟩ := Kd.R_form h hn
  injection he with e1 e2 e3
  subst e1 e3
  refine ⟨g, cells, rfl, hb, hc, fun k hk => ?_⟩
  have hcell := (Kd.R_cell (enc := Value.int .u8) (h1 := fun _ => rfl) (0 : Int) h (k : Int) (by omega) (by omega)).1
  rw [Int.toNat_natCast, blk_cell hc] at hcell
  exact ⟨_, hcell⟩
theorem DW.lw {w : World} {g base : Nat} {A : Option Addr} {c : Nat} {xs : List S33} (h : DW w g base (.slice A xs.length c) xs) (hp : 0 < xs.length) : ∃ gb cells, A = some ⟨gb, 0, none⟩ ∧ LW w base gb cells xs.length := by
  obtain ⟨rows, hl, hR, hI⟩ := h
  obtain ⟨gb, cap, he, hb, hlt, cells, hc⟩ := Kd.R_form hR (by omega)
  injection he with e1 e2 e3
  subst e1 e3
  refine ⟨gb, cells, rfl, hc, fun j hj => ?_⟩
  have hj2 : j < rows.length := by omega
  obtain ⟨hn, hcap, hC⟩ := Kd.R_reads' hR
  obtain ⟨ad, e, hcell⟩ := hC.2.2 (by omega)
  obtain rfl := Option.some.inj e
  obtain ⟨c1, q1, q2, q3⟩ := hcell j _ (List.getElem?_eq_getElem hj2)
  obtain ⟨A', c', e', r⟩ := hI j _ _ (List.getElem?_eq_getElem hj) (List.getElem?_eq_getElem hj2)
  refine ⟨A', _, c', ?_, rw_of r, by have := Kd.C_max (Kd.R_reads' r).2.2; simpa [maxLen] using this⟩
  rw [q2.1, e'] at q3
  have h6 := q3 6 _ rfl
  have e7 : (Kd.raw 7).sz = 7 := rfl
  rw [add_plain, e7, blk_cell hc] at h6
  exact h6
set_option maxHeartbeats 8000000 in
set_option maxRecDepth 100000 in
theorem decodes_walk (A : Option Addr) (c : Nat) (b : List Int) (w : World) (hr : Kd.C (Kd.int .u8) w A b.length b) (hc : b.length ≤ c) (hwb : Bytes b) :
    Calls Try.prog 3 #[.slice A b.length c] w fun e w' => e = .returned (.bool true) ∧ Below w.heap.size w w' := by
  have HR := Aside0.mk hr
  have HC := Aside0.mk hc
  have WB := Aside0.mk hwb
  clear hr hc hwb
  go_enter Try.func3, Try.ntmps3
  go_wp2_with (fail)
  with_reducible refine (alive_c _).mono ?_
  rintro e w1 ⟨rfl, hb⟩
  have B1 := Aside0.mk hb
  clear hb
  by_cases hb3 : 3000 < b.length
  · have d1 : decide ((3000 : Int) < (b.length : Int)) = true := decide_eq_true (by omega)
    clear hb3
    go_wp2
    go_ret
    exact ⟨rfl, B1.out⟩
  have HB3 := Aside0.mk (show b.length ≤ 3000 by omega)
  have d1 : decide ((3000 : Int) < (b.length : Int)) = false := decide_eq_false (by omega)
  clear hb3
  have DOK := Aside0.mk (decF_ok b.length b WB.out)
  have DL : Aside0 ((dec b).length ≤ 3000) := ⟨by have h1 : (dec b).length ≤ b.length := DOK.out.1; have := HB3.out; omega⟩
  have BL : Aside0 (b.length * 1 ≤ 140737488355328) := ⟨by have := HB3.out; omega⟩
  have R1b := Aside0.mk (Kd.C_below HR.out B1.out)
  go_wp2_with (first | ((with_reducible refine gate_dst (N := 12) rfl ?_); refine Kd.R_lit (Kd.int .u8) w1.heap.size 5 ?hg (N := 12) ?hd (xs := ([] : List Int)) (inner := []) (ok := fun _ => True) (okp := fun _ => True) ?hr ?hp (fun _ hk => hk) trivial (Below.refl _ _) (Nat.le_refl _) (by simp) ?_; (case hd => rfl); (case hg => rfl); (case hr => first | (go_simp; done) | (go_simp; rfl)); (case hp => exact (Reps.none _ _)); intro v1 w2 ho1 hb1 hg_ hnew_; clear hg_ hnew_; have R1 := Aside0.mk ho1; have B2 := Aside0.mk hb1; clear ho1 hb1) | ((with_reducible refine gate_builtin (b := .append) (xs := #[.tmp 12, .tmp 13]) rfl ?_); at_builtin; refine Kd.R_append_rows (Kd.int .u8) (w0 := w1) w1.heap.size rfl (.tmp 12) (.tmp 13) 22 5 (.int .u8 0) 1 rfl Try.underlying22 (by kernel_rfl) rfl (by decide) (by omega) v1 [] b _ _ _ (fun _ => True) (fun _ => False) rfl rfl ?aO ?aR (fun _ _ h => h) (fun _ h => h.elim) ?aF ?aB ?aS ?aL ?_; (case aR => exact (Kd.C_below R1b.out B2.out)); (case aB => exact B2.out); (case aF => exact (fun _ _ => trivial)); (case aO => exact R1.out); (case aS => exact below_size B2.out); (case aL => have := BL.out; simp only [List.length_nil, Nat.zero_add]; exact this); intro v2 w3 ho2 hb2 hg_ hat_; clear hg_ hat_; rw [List.nil_append] at ho2; obtain ⟨A5, c5, rfl⟩ := Kd.R_slice ho2; have R2 := Aside0.mk ho2; have B3 := Aside0.mk hb2; clear ho2 hb2) | fail)
  clear d1 R1 B2
  have hd := decode_all w3 A5 c5 b WB.out (by have := HB3.out; omega) (Kd.R_reads' R2.out).2.2 (Kd.R_reads' R2.out).2.1
  with_reducible refine hd.mono ?_
  rintro e w4 ⟨v, rfl, hD, hb⟩
  obtain ⟨A4, c4, rfl⟩ := hD.slice
  have D4 := Aside0.mk hD
  have B4 := Aside0.mk hb
  clear hd hD hb
  obtain ⟨kd, hkd⟩ := document_is (l := dec b) (by have := DL.out; omega)
  obtain ⟨D, hDD⟩ : ∃ D, D = (dec b).map doc := ⟨_, rfl⟩
  obtain ⟨ks, hks⟩ := rsame_is D (by rw [hDD, List.length_map]; have := DL.out; omega)
  rw [← hDD] at hkd
  obtain ⟨L, hL⟩ : ∃ L, L = (dec b).length := ⟨_, rfl⟩
  have hdc := horologelaw39_Document.calls kd A4 c4 (dec b) D w4 D4.out.reads.2.2 (by have := D4.out.reads.2.1; exact this) hkd
  have D4' := D4.out
  rw [← hL] at hdc ⊢
  have HD := Aside0.mk hDD
  have HKS := Aside0.mk hks
  clear hkd hks hDD
  obtain ⟨gb, cells, hgA, hLW⟩ : ∃ gb cells, (0 < L → A4 = some ⟨gb, 0, none⟩) ∧ (0 < L → LW w4 w3.heap.size gb cells L) := by
    by_cases hp : 0 < L
    · rw [hL] at hp ⊢
      obtain ⟨gb, cells, e1, e2⟩ := D4'.lw hp
      exact ⟨gb, cells, fun _ => e1, fun _ => e2⟩
    · exact ⟨0, #[], fun h => absurd h hp, fun h => absurd h hp⟩
  have GA := Aside0.mk hgA
  have W4 := Aside0.mk hLW
  have LB : Aside0 (L ≤ 3000) := ⟨by rw [hL]; exact DL.out⟩
  clear hgA hLW D4' D4 hL
  go_wp2_with (fail)
  with_reducible refine hdc.mono ?_
  rintro e w5 ⟨v, rfl, hR5, hb⟩
  obtain ⟨A6, c6, rfl⟩ := Kd.R_slice hR5
  have R5 := Aside0.mk hR5
  have B5 := Aside0.mk hb
  clear hdc hR5 hb
  go_wp2_with (fail)
  have hrc := refdec_c w5 A c b WB.out (by have := HB3.out; omega) (Kd.C_below R1b.out (below_step (below_step B3.out B4.out) B5.out)) HC.out
  rw [← HD.out] at hrc
  with_reducible refine hrc.mono ?_
  rintro e w6 ⟨v, rfl, hR6, hb⟩
  obtain ⟨A7, c7, rfl⟩ := Kd.R_slice hR6
  have R6 := Aside0.mk hR6
  have B6 := Aside0.mk hb
  clear hrc hR6 hb
  go_wp2_with (fail)
  with_reducible refine (horologelaw39_same.calls ks A6 c6 D A7 c7 D true w6 (Kd.C_below (Kd.R_reads' R5.out).2.2 B6.out) (Kd.R_reads' R5.out).2.1 (Kd.R_reads' R6.out).2.2 (Kd.R_reads' R6.out).2.1 HKS.out).mono ?_
  rintro e w7 ⟨rfl, ⟨m7, rfl⟩⟩
  obtain ⟨W7, hW7⟩ : ∃ W7, W7 = w6.drewN m7 := ⟨_, rfl⟩
  rw [← hW7]
  have B47 : Aside0 (Below w4.heap.size w4 W7) := ⟨by rw [hW7]; exact pw_below_drewN (below_step B5.out B6.out) _⟩
  have BB : Aside0 (Below w3.heap.size w3 W7) := ⟨below_step B4.out B47.out⟩
  have L7 : Aside0 (0 < L → LW W7 w3.heap.size gb cells L) := ⟨fun h => (W4.out h).below B47.out⟩
  clear hW7 W4 R5 R6
  go_wp2
  go_loopg [25] (L + 1) (fun n v25 wr => ∃ i : Nat, v25 = .int .i64 i ∧ Aside0 (i + n = L + 1 ∧ i ≤ L) ∧ Aside0 (0 < L → LW wr w3.heap.size gb cells L) ∧ Aside0 (Below w3.heap.size w3 wr))
  case atStart => exact ⟨0, rfl, ⟨by omega⟩, L7, BB⟩
  case round =>
    clear L7 BB B47
    obtain ⟨i, rfl, hn, hlw, BB⟩ := hrel
    by_cases hlt : i < L
    · obtain ⟨k1, rfl⟩ : ∃ k1, gk = k1 + 1 := ⟨gk - 1, by have := hn.out; omega⟩
      have HLT := Aside0.mk hlt
      have hstep := nextw hlt (by have := LB.out; omega)
      have hlt2 : (i : Int) < (L : Int) := by omega
      have d1 : decide ((i : Int) < (L : Int)) = true := decide_eq_true hlt2
      have hpos : 0 < L := by omega
      have eA := GA.out hpos
      obtain ⟨ad, had⟩ : ∃ ad, ad = (⟨gb, 0, none⟩ : Addr) := ⟨_, rfl⟩
      rw [← had] at eA
      subst eA
      have HAD := Aside0.mk had
      obtain ⟨A8, m8, c8, hcell, hrw8, hm8⟩ := (hlw.out hpos).2 i hlt
      have z6 : wr.cell? { block := (ad.add (i * 7)).block, off := (ad.add (i * 7)).off + 6 } = some (.slice A8 m8 c8) := by
        rw [had, add_plain]
        exact (blk_cell (hlw.out hpos).1 (i * 7 + 6)).trans hcell
      have LWI := Aside0.mk (hlw.out hpos)
      have CELL := Aside0.mk hcell
      have HM8 := Aside0.mk hm8
      have HPOS := Aside0.mk hpos
      clear hlw hcell hrw8 hm8 hlt hpos had
      go_wp2_with (fail)
      go_loopg [34] (m8 + 1) (fun n v34 wr => ∃ k : Nat, v34 = .int .i64 k ∧ Aside0 (k + n = m8 + 1 ∧ k ≤ m8) ∧ Aside0 (LW wr w3.heap.size gb cells L) ∧ Aside0 (Below w3.heap.size w3 wr))
      case atStart => exact ⟨0, rfl, ⟨by omega⟩, LWI, BB⟩
      case round =>
        clear z6 LWI BB
        obtain ⟨k, rfl, hn2, hlw, BB⟩ := hrel
        have z6 : wr.cell? { block := (ad.add (i * 7)).block, off := (ad.add (i * 7)).off + 6 } = some (.slice A8 m8 c8) := by
          rw [HAD.out, add_plain]
          exact (blk_cell hlw.out.1 (i * 7 + 6)).trans CELL.out
        by_cases hk : k < m8
        · obtain ⟨k2, rfl⟩ : ∃ k2, gk = k2 + 1 := ⟨gk - 1, by have := hn2.out; omega⟩
          have hstep2 := nextw hk HM8.out
          have hk2 : (k : Int) < (m8 : Int) := by omega
          have e1 : decide ((k : Int) < (m8 : Int)) = true := decide_eq_true hk2
          obtain ⟨A9, m9, c9, hcell9, hrw9, _⟩ := hlw.out.2 i HLT.out
          rw [CELL.out] at hcell9
          injection hcell9 with hcell9
          injection hcell9 with q1 q2 q3
          subst q1 q2 q3
          obtain ⟨q, cur, eA8, hq, hblk, hcur⟩ := hrw9 (by omega)
          obtain ⟨x, hx⟩ := hcur k hk
          obtain ⟨ad2, had2⟩ : ∃ ad2, ad2 = (⟨q, 0, none⟩ : Addr) := ⟨_, rfl⟩
          rw [← had2] at eA8
          subst eA8
          have y1 : wr.cell? (ad2.add k) = some (.int .u8 x) := by rw [had2, add_plain, blk_cell hblk]; exact hx
          have y2 : wr.frozen? (ad2.add k) = false := by rw [had2, add_plain]; exact blk_frozen hblk _
          have HAD2 := Aside0.mk had2
          have HK := Aside0.mk hk
          have HBLK := Aside0.mk hblk
          have HQ := Aside0.mk hq
          clear hrw9 hblk hcur hx hk had2 hq
          go_wp2
          go_roundg k2
          case measure => omega
          case rel => exact ⟨k + 1, by first | rw [hstep2] | rfl, ⟨by have := hn2.out; have := HK.out; omega⟩, ⟨by rw [HAD2.out, add_plain]; exact hlw.out.put HBLK.out⟩, ⟨by rw [HAD2.out, add_plain]; exact below_set BB.out HQ.out⟩⟩
        · obtain rfl : k = m8 := by have := hn2.out; omega
          have e1 : decide ((k : Int) < (k : Int)) = false := decide_eq_false (by omega)
          clear hk z6
          go_wp2
          go_roundg k1
          case measure => omega
          case rel => exact ⟨i + 1, by first | rw [hstep] | rfl, ⟨by have := hn.out; have := HLT.out; omega⟩, ⟨fun _ => hlw.out⟩, BB⟩
    · obtain rfl : i = L := by have := hn.out; omega
      have d1 : decide ((i : Int) < (i : Int)) = false := decide_eq_false (by omega)
      clear hlt
      go_wp2_with (fail)
      have hbytes := horologenum_Bytes.calls A5 c5 b A c b true wr (Kd.C_below (Kd.R_reads' R2.out).2.2 BB.out) (Kd.R_reads' R2.out).2.1 (Kd.C_below R1b.out (below_step B3.out BB.out)) HC.out (by unfold horologenum_Bytes.f; simp)
      with_reducible refine hbytes.mono ?_
      rintro e w9 ⟨rfl, ⟨m9, rfl⟩⟩
      clear hbytes
      go_wp2
      go_ret
      exact ⟨rfl, pw_below_drewN (below_step (below_step B1.out B3.out) BB.out) _⟩
theorem decodes_row (A0 : Option Addr) (n0 c0 : Nat) (l : List Int) (w : World) (e0 : l.length = n0) (h0 : Kd.C (Kd.int .u8) w A0 n0 l) (hc0 : n0 ≤ c0) (hw : ∀ y ∈ l, (Lit.int .u8 y).wf = true) :
    Calls Try.prog 3 #[.slice A0 n0 c0] w fun e w' => e = .returned (.bool true) ∧ Below w.heap.size w w' := by
  subst e0
  exact decodes_walk A0 c0 l w h0 hc0 (fun y hy => bounds_u8 (hw y hy))
end Go.Proofs.Ytecbahciplnhfaa
