/-
  SHA-1: parts of a text put behind each other (slices.Grow, slices.Concat) and their digest, walked by hand.
-/
import Derived.Test.YtjffbdgidddbjaaShaSteps
namespace Go.Proofs.Ytjffbdgidddbjaa
set_option linter.unusedVariables false
set_option linter.unusedSimpArgs false
open Go.RowKit Go.Proofs.YtjffbdgidddbjaaW.PrintWords Go.Proofs.YtjffbdgidddbjaaW.PrintLast Go.Proofs.YtjffbdgidddbjaaW.PrintMore Go.Proofs.Ytjffbdgidddbjaa.MSha1Sums Go.Proofs.Ytjffbdgidddbjaa.Base
/-- A part: a slice, and the bytes that it shows. -/
structure PT where
  A : Option Addr
  n : Nat
  c : Nat
  bs : List Int
def encP (p : PT) : Value := .slice p.A p.n p.c
def KP : Kd PT := Kd.scalar encP (fun _ => rfl)
def PT0 : PT := ⟨none, 0, 0, []⟩
structure GoodP (w : World) (p : PT) : Prop where
  hC : Kd.C (Kd.int .u8) w p.A p.n p.bs
  hc : p.n ≤ p.c
def cat (ps : List PT) : List Int := ps.flatMap (·.bs)
theorem cat_app (a b : List PT) : cat (a ++ b) = cat a ++ cat b := by simp [cat]
theorem cat_take (ps : List PT) (k : Nat) (h : k < ps.length) : cat (ps.take (k + 1)) = cat (ps.take k) ++ (ps.getD k PT0).bs := by
  rw [List.take_succ_eq_append_getElem h, cat_app]
  simp [cat, h]
theorem cat_len_le (ps : List PT) (k : Nat) : (cat (ps.take k)).length ≤ (cat ps).length := by
  have h : cat ps = cat (ps.take k) ++ cat (ps.drop k) := by rw [← cat_app, List.take_append_drop]
  rw [h, List.length_append]
  omega
theorem KP_cell {w : World} {ad : Addr} {ps : List PT} (h : KP.C w (some ad) ps.length ps) (k : Nat) (hk : k < ps.length) : w.cell? (ad.add k) = some (encP (ps.getD k PT0)) := by
  obtain ⟨ad', e, hc⟩ := (Kd.reads_of_C (enc := encP) (d := PT0) (h1 := fun _ => rfl) h).2.2 (by omega)
  cases e
  exact hc k hk
set_option maxHeartbeats 4000000 in
set_option maxRecDepth 100000 in
theorem grow_c (w : World) (m : Nat) (hm : m ≤ 1000000) : Calls Try.prog 38 #[.slice none 0 0, .int .i64 m] w fun e w' => ∃ v, e = .returned v ∧ Kd.R (Kd.int .u8) 5 w' w.heap.size (fun _ => True) v [] ∧ Below w.heap.size w w' := by
  have hu22 := Try.underlying22
  have d0 : decide ((m : Int) < 0) = false := decide_eq_false (by omega)
  have e0 : wrap64 ((m : Int) - 0) = (m : Int) := by unfold wrap64; omega
  have HM := Aside0.mk hm
  go_enter Try.func38, Try.ntmps38
  by_cases h0 : m = 0
  · subst h0
    go_wp2
    go_ret
    exact ⟨_, rfl, Kd.R_nil _ _ _ _ _, Below.refl _ _⟩
  · have d1 : decide ((m : Int) > 0) = true := decide_eq_true (by omega)
    have e1 : wrap64 (m : Int) = (m : Int) := by unfold wrap64; omega
    have d2 : decide (0 < m) = true := decide_eq_true (by omega)
    have d3 : 0 < m := by omega
    have HP : Aside0 (0 < m) := ⟨by omega⟩
    clear hm h0
    go_wp2_with (first | ((with_reducible refine gate_dst (N := 22) rfl ?_); refine Kd.R_append_zeros (Kd.int .u8) (w0 := w) w.heap.size rfl (.tmp 20) (.tmp 21) 22 3 5 (.int .u8 0) 1 rfl Try.underlying22 Try.underlying3 (by kernel_rfl) rfl (by decide) (by omega) (.slice none 0 0) [] 0 (m : Int) (fun _ => True) rfl (congrArg (Value.int .i64) e1) rfl (fun _ _ => trivial) (Kd.R_nil _ _ _ _ _) (by omega) (Below.refl _ _) (Nat.le_refl _) (by have := HM.out; rw [Int.toNat_natCast]; simp; omega) ?_; intro v1 w1 ho1 hb1 hg1 hat1; rw [Int.toNat_natCast, List.nil_append] at ho1; obtain ⟨go, co, eo, gb, gl, cl, HG⟩ := Kd.R_form ho1 (by rw [List.length_replicate]; exact HP.out); subst eo; rw [List.length_replicate] at ho1; have R1 := Aside0.mk (Kd.R_take (m := 0) ho1 (Nat.zero_le _)); have hco := (Kd.R_reads' ho1).2.1; have B1 := Aside0.mk hb1; clear ho1 hb1 hg1 hat1 gb gl cl HG))
    go_ret
    exact ⟨_, rfl, R1.out, B1.out⟩
set_option maxHeartbeats 4000000 in
set_option maxRecDepth 100000 in
theorem concat_c (w : World) (A : Option Addr) (c : Nat) (ps : List PT) (hC : KP.C w A ps.length ps) (hg : ∀ p ∈ ps, GoodP w p) (ht : (cat ps).length ≤ 1000000) (hp : ps.length ≤ 1000) :
    Calls Try.prog 32 #[.slice A ps.length c] w fun e w' => ∃ v, e = .returned v ∧ Kd.R (Kd.int .u8) 5 w' w.heap.size (fun _ => True) v (cat ps) ∧ Below w.heap.size w w' := by
  have hu22 := Try.underlying22
  have hu44 := Try.underlying44
  have HC := Aside0.mk hC
  have HG := Aside0.mk hg
  have HT := Aside0.mk ht
  obtain ⟨n, hn⟩ : ∃ n, ps.length = n := ⟨_, rfl⟩
  have HN := Aside0.mk hn
  rw [hn] at hp ⊢
  clear hC hg ht hn
  go_enter Try.func32, Try.ntmps32
  go_wp2
  go_loopw [3, 11] (fun v3 v11 wr => ∃ k : Nat, k ≤ n ∧ v11 = .int .i64 k ∧ v3 = .int .i64 ((cat (ps.take k)).length : Nat) ∧ Aside0 (Below w.heap.size w wr)) (fun _ v11 _ => n - (intOf v11).toNat)
  case atStart => exact ⟨0, by omega, rfl, rfl, ⟨Below.refl _ _⟩⟩
  case round =>
    obtain ⟨k, hk, rfl, rfl, B⟩ := hrel
    by_cases hkn : k < n
    · have d0 : decide ((k : Int) < (n : Int)) = true := by simp; omega
      have q0 : wrap64 ((k : Int) + 1) = ((k + 1 : Nat) : Int) := by unfold wrap64; omega
      have hlt : (k : Int) < (n : Int) := by omega
      obtain ⟨ad, hA, _⟩ := HC.out.2.2 (by rw [HN.out]; omega)
      have hcell : wr.cell? (ad.add k) = some (encP (ps.getD k PT0)) := by
        have h0 := HC.out
        rw [hA] at h0
        exact KP_cell (Kd.C_below h0 B.out) k (by rw [HN.out]; exact hkn)
      have HK := Aside0.mk (cat_take ps k (by rw [HN.out]; exact hkn))
      have hle := cat_len_le ps (k + 1)
      have HL := Aside0.mk (Nat.le_trans hle HT.out)
      obtain ⟨p, hp1⟩ : ∃ p, ps.getD k PT0 = p := ⟨_, rfl⟩
      have hmem : p ∈ ps := by rw [← hp1]; have : k < ps.length := by rw [HN.out]; exact hkn
                               simp [this]
      have gp := HG.out p hmem
      rw [hp1] at hcell HK
      have hbl : p.bs.length = p.n := gp.hC.1
      obtain ⟨Ap, np, cp, bp⟩ := p
      have hcell2 : wr.cell? (ad.add k) = some (.slice Ap np cp) := hcell
      simp only at hbl HK
      have hlen : (cat (ps.take (k + 1))).length = (cat (ps.take k)).length + np := by rw [HK.out, List.length_append, hbl]
      obtain ⟨s0, hs0⟩ : ∃ s0, (cat (ps.take k)).length = s0 := ⟨_, rfl⟩
      have HS := Aside0.mk hlen
      rw [hs0] at hlen HS ⊢
      have hl6 := HL.out
      rw [hlen] at hl6
      have q1 : wrap64 ((s0 : Int) + (np : Int)) = ((s0 + np : Nat) : Int) := by unfold wrap64; omega
      have d2 : decide (((s0 + np : Nat) : Int) < 0) = false := decide_eq_false (by omega)
      have d3 : decide ((s0 : Int) + (np : Int) < 0) = false := decide_eq_false (by omega)
      clear hcell hle hmem gp hp1 hbl hlen hs0
      subst hA
      go_wp2
      go_roundw
      case rel => exact ⟨k + 1, by omega, rfl, by rw [HS.out]; rfl, B⟩
      case measure => simp [intOf]; omega
    · obtain rfl : k = n := by omega
      have d0 : decide ((k : Int) < (k : Int)) = false := by simp
      have et : ps.take k = ps := List.take_of_length_le (by rw [HN.out]; omega)
      rw [et]
      obtain ⟨tot, htot⟩ : ∃ tot, (cat ps).length = tot := ⟨_, rfl⟩
      have HTT := HT.out
      rw [htot] at HTT ⊢
      have HTO := Aside0.mk htot
      clear htot et
      go_wp2_with (go_at_call 38; refine (grow_c _ tot HTT).mono ?_; rintro e_ w1 ⟨v6, rfl, hr6, hb6⟩; have R6 := Aside0.mk (Kd.R_lower hr6 B.out.size); have B6 := Aside0.mk (below_step B.out hb6); clear hr6 hb6)
      go_loopw [6, 27] (fun v6 v27 wr => ∃ k' : Nat, k' ≤ k ∧ v27 = .int .i64 k' ∧ Aside0 (Kd.R (Kd.int .u8) 5 wr w.heap.size (fun _ => True) v6 (cat (ps.take k'))) ∧ Aside0 (Below w.heap.size w wr)) (fun _ v27 _ => k - (intOf v27).toNat)
      case atStart => exact ⟨0, by omega, rfl, R6, B6⟩
      case round =>
        clear R6 B6
        obtain ⟨j, hj, rfl, R, B⟩ := hrel
        by_cases hkn : j < k
        · have d1 : decide ((j : Int) < (k : Int)) = true := by simp; omega
          have q0 : wrap64 ((j : Int) + 1) = ((j + 1 : Nat) : Int) := by unfold wrap64; omega
          have hlt : (j : Int) < (k : Int) := by omega
          obtain ⟨ad, hA, _⟩ := HC.out.2.2 (by rw [HN.out]; omega)
          have hcell : wr.cell? (ad.add j) = some (encP (ps.getD j PT0)) := by
            have h0 := HC.out
            rw [hA] at h0
            exact KP_cell (Kd.C_below h0 B.out) j (by rw [HN.out]; exact hkn)
          have HK := Aside0.mk (cat_take ps j (by rw [HN.out]; exact hkn))
          have HL := Aside0.mk (Nat.le_trans (cat_len_le ps (j + 1)) HT.out)
          obtain ⟨p, hp1⟩ : ∃ p, ps.getD j PT0 = p := ⟨_, rfl⟩
          have hmem : p ∈ ps := by rw [← hp1]; have : j < ps.length := by rw [HN.out]; exact hkn
                                   simp [this]
          have gp := HG.out p hmem
          rw [hp1] at hcell HK
          have hbl : p.bs.length = p.n := gp.hC.1
          obtain ⟨Ap, np, cp, bp⟩ := p
          have hcell2 : wr.cell? (ad.add j) = some (.slice Ap np cp) := hcell
          have CP := Aside0.mk (Kd.C_below gp.hC B.out)
          simp only at hbl HK CP
          have hlen : (cat (ps.take (j + 1))).length = (cat (ps.take j)).length + np := by rw [HK.out, List.length_append, hbl]
          have HS : Aside0 ((cat (ps.take j)).length + np ≤ 1000000) := ⟨by rw [← hlen]; exact HL.out⟩
          obtain ⟨acc, hacc⟩ : ∃ acc, cat (ps.take j) = acc := ⟨_, rfl⟩
          rw [hacc] at R HS HK
          clear hcell hmem gp hp1 hbl hlen hacc
          subst hA
          go_wp2_with (first | ((with_reducible refine gate_builtin (b := .append) (xs := #[.tmp 31, .tmp 32]) rfl ?_); at_builtin; refine Kd.R_append_rows (Kd.int .u8) (w0 := w) w.heap.size rfl (.tmp 31) (.tmp 32) 22 5 (.int .u8 0) 1 rfl Try.underlying22 (by kernel_rfl) rfl (by decide) (by omega) u6 acc bp Ap np cp (fun _ => True) (fun _ => False) rfl rfl R.out CP.out (fun _ _ h => h) (fun _ h => h.elim) (fun _ _ => trivial) B.out B.out.size (by have := HS.out; omega) ?_; intro v9 w9 ho9 hb9 hg9 hat9; have R9 := Aside0.mk ho9; have B9 := Aside0.mk hb9; clear ho9 hb9 hg9 hat9))
          go_roundw
          case rel => exact ⟨j + 1, by omega, rfl, ⟨by rw [HK.out]; exact R9.out⟩, B9⟩
          case measure => simp [intOf]; omega
        · obtain rfl : j = k := by omega
          have d1 : decide ((j : Int) < (j : Int)) = false := by simp
          have et : ps.take j = ps := List.take_of_length_le (by rw [HN.out]; omega)
          rw [et] at R
          go_wp2
          go_ret
          exact ⟨_, rfl, R.out, B.out⟩
set_option maxHeartbeats 4000000 in
set_option maxRecDepth 100000 in
theorem of_c (w : World) (A : Option Addr) (c : Nat) (ps : List PT) (hC : KP.C w A ps.length ps) (hg : ∀ p ∈ ps, GoodP w p) (ht : (cat ps).length ≤ 1000000) (hp : ps.length ≤ 1000) (hb : ∀ i, Byte ((cat ps).getD i 0)) :
    Calls Try.prog 19 #[.slice A ps.length c] w fun e w' => e = .returned (D20 (PB (DIG (cat ps)))) ∧ Below w.heap.size w w' := by
  have hu25 := Try.underlying25
  have z25 := zero_of (P := Try.prog) (t := 25) (v := .agg (Array.replicate 20 (.int .u8 0))) (by kernel_rfl)
  have HC := Aside0.mk hC
  have HG := Aside0.mk hg
  have HT := Aside0.mk ht
  have HBY := Aside0.mk hb
  have HP := Aside0.mk hp
  have hplen := PB_length (DIG (cat ps))
  clear hC hg ht hb hp
  unfold D20
  go_enter Try.func19, Try.ntmps19
  go_wp2_with (first | ((with_reducible refine gate_dst (N := 2) rfl ?_); refine box_event ?hg (N := 2) ?hd (cs := Array.replicate 20 (.int .u8 0)) (t := 25) ?hr ?_; (case hd => rfl); (case hg => rfl); (case hr => go_simp); intro g2 hg2_ w2 hx2 hb2; have hg2 := Aside0.mk hg2_; clear hg2_) | (go_at_call 32; refine (concat_c _ A c ps (Kd.C_below HC.out hb2) (fun p hp => ⟨Kd.C_below (HG.out p hp).hC hb2, (HG.out p hp).hc⟩) HT.out HP.out).mono ?_; rintro e_ w3 ⟨v3, rfl, hr3, hb3⟩; obtain ⟨A3, c3, rfl, hc3, hC3⟩ := Kd.R_reads hr3; have X3 := Aside0.mk (blk_below hx2 hb3); have B3 := Aside0.mk (below_step hb2 hb3); have C3 := Aside0.mk hC3; have Z3 := Aside0.mk hc3; have GW := Aside0.mk (show w.heap.size ≤ g2 by rw [hg2.out]; omega); clear hr3 hC3 hc3 hx2 hb2 hb3 hg2) | (go_at_call 7; refine (sum_c _ A3 c3 (cat ps) C3.out Z3.out HBY.out HT.out).mono ?_; rintro e_ w4 ⟨rfl, hb4⟩; have X4 := Aside0.mk (blk_below X3.out hb4); have B4 := Aside0.mk (below_step B3.out hb4); clear hb4) | (refine wpList_store_row rfl 25 _ _ rfl g2 ((PB (DIG (cat ps))).map (Value.int .u8)).toArray rfl rfl 25 _ X4.out (by rw [size_map .u8 _ 20 hplen]; kernel_rfl) (by rw [size_map .u8 _ 20 hplen]; simp) (one_cells _) ?_))
  refine bodyPost_ret (results_cell_row rfl _ _ g2 25 _ (0, 0) _ rfl (setRow_heap _ _ _ _ _ _ X4.out) hu25 rfl (by rw [size_map .u8 _ 20 hplen]; kernel_rfl)) rfl ?_
  exact ⟨rfl, below_setRow B4.out GW.out _⟩
end Go.Proofs.Ytjffbdgidddbjaa
