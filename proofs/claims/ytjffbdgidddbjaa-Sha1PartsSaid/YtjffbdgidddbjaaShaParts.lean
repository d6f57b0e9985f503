/-
  SHA-1: the law of parts, walked by hand.
-/
import Derived.Test.YtjffbdgidddbjaaShaConcat
namespace Go.Proofs.Ytjffbdgidddbjaa
set_option linter.unusedVariables false
set_option linter.unusedSimpArgs false
open Go.RowKit Go.Proofs.YtjffbdgidddbjaaW.PrintWords Go.Proofs.YtjffbdgidddbjaaW.PrintLast Go.Proofs.YtjffbdgidddbjaaW.PrintMore Go.Proofs.Ytjffbdgidddbjaa.MSha1Sums Go.Proofs.Ytjffbdgidddbjaa.Base
theorem eq25_self (l : List Int) (hl : l.length = 20) (w : World) : Sem.run Try.prog (Op.equalIn 10000 25 (.agg (l.map (Value.int .u8)).toArray) (.agg (l.map (Value.int .u8)).toArray)) w = .ok true w :=
  (run_equalIn_ints w .u8 9998 25 5 20 Try.underlying25 Try.underlying5 (size_one (by kernel_rfl)) l l hl hl).trans (by simp)
theorem part_good {w : World} {A : Option Addr} {c : Nat} {l : List Int} (hC : Kd.C (Kd.int .u8) w A l.length l) (hc : l.length ≤ c) (f h : Nat) (h1 : f ≤ h) (h2 : h ≤ l.length) :
    GoodP w ⟨if c = f then A else A.map (·.add f), h - f, c - f, (l.take h).drop f⟩ := by
  have h3 := Kd.C_mid (lo := f) (hi := h) (c := c) hC h1 h2 hc
  have hz : (Kd.int .u8).sz = 1 := rfl
  have hl : ((l.take h).drop f).length = h - f := by simp; omega
  simp only [hz, Nat.mul_one] at h3
  rw [hl] at h3
  exact ⟨h3, by show h - f ≤ c - f; omega⟩
theorem take_part (l : List Int) (f h : Nat) (h1 : f ≤ h) : l.take f ++ (l.take h).drop f = l.take h := by
  have e : l.take f = (l.take h).take f := by rw [List.take_take, Nat.min_eq_left h1]
  rw [e, List.take_append_drop]
set_option maxHeartbeats 4000000 in
set_option maxRecDepth 100000 in
theorem sha1parts_c (w : World) (A A1 : Option Addr) (n c n1 c1 : Nat) (l pl : List Int) (hln : l.length = n) (hpn : pl.length = n1) (hC : Kd.C (Kd.int .u8) w A n l) (hC1 : Kd.C (Kd.int .i64) w A1 n1 pl) (hc : n ≤ c) (hmx : n ≤ 9223372036854775807) (hmx1 : n1 ≤ 9223372036854775807) (hb : ∀ x ∈ l, Byte x) (hi : ∀ x ∈ pl, I64 x) :
    Calls Try.prog 5 #[.slice A n c, .slice A1 n1 c1] w fun e w' => e = .returned (.bool true) ∧ Below w.heap.size w w' := by
  have hu25 := Try.underlying25
  have hu22 := Try.underlying22
  have hu43 := Try.underlying43
  have hu44 := Try.underlying44
  have HLN := Aside0.mk hln
  have HPN := Aside0.mk hpn
  have HC := Aside0.mk hC
  have HC1 := Aside0.mk hC1
  have HBY := Aside0.mk (byte_of_mem hb)
  have HI := Aside0.mk hi
  have HCN := Aside0.mk hc
  clear hC hC1 hb hln hpn hi hc
  go_enter Try.func5, Try.ntmps5
  by_cases hbig : n > 1000
  · have d0 : decide ((n : Int) > 1000) = true := decide_eq_true (by omega)
    go_wp2_with (go_at_call 6; refine (alive_c _).mono ?_; rintro e_ w1 ⟨rfl, hb1⟩; have B1 := Aside0.mk hb1; clear hb1)
    go_ret
    exact ⟨rfl, B1.out⟩
  by_cases hbig1 : n1 > 20
  · have d0 : decide ((n : Int) > 1000) = false := decide_eq_false (by omega)
    have d1 : decide ((n1 : Int) > 20) = true := decide_eq_true (by omega)
    go_wp2_with (go_at_call 6; refine (alive_c _).mono ?_; rintro e_ w1 ⟨rfl, hb1⟩; have B1 := Aside0.mk hb1; clear hb1)
    go_ret
    exact ⟨rfl, B1.out⟩
  have d0 : decide ((n : Int) > 1000) = false := decide_eq_false (by omega)
  have d1 : decide ((n1 : Int) > 20) = false := decide_eq_false (by omega)
  have HN := Aside0.mk (show n ≤ 1000 by omega)
  have HN1 := Aside0.mk (show n1 ≤ 20 by omega)
  go_wp2_with (first | (go_at_call 6; refine (alive_c _).mono ?_; rintro e_ w1 ⟨rfl, hb1⟩; have B1 := Aside0.mk hb1; clear hb1) | ((with_reducible refine gate_dst (N := 19) rfl ?_); refine Kd.R_lit KP w.heap.size 22 ?hg (N := 19) ?hd (w0 := w) (xs := ([] : List PT)) (inner := []) (ok := fun _ => True) (okp := fun _ => True) ?hr ?hp (fun _ hk => hk) trivial B1.out B1.out.size (by simp) ?_; (case hd => rfl); (case hg => rfl); (case hr => first | (go_simp; done) | (go_simp; rfl)); (case hp => exact (Reps.none _ _)); intro v19 w2 ho2 hb2 hg2_ hnew_; clear hg2_ hnew_; have R2 := Aside0.mk ho2; have B2 := Aside0.mk hb2; clear ho2 hb2))
  go_loopw [5, 6, 22] (fun v5 v6 v22 wr => ∃ (k f : Nat) (ps : List PT), k ≤ n1 ∧ v22 = .int .i64 k ∧ v6 = .int .i64 f ∧ f ≤ n ∧ Aside0 (cat ps = l.take f) ∧ Aside0 (ps.length ≤ k) ∧ Aside0 (∀ p ∈ ps, GoodP w p) ∧ Aside0 (KP.R 22 wr w.heap.size (fun _ => True) v5 ps) ∧ Aside0 (Below w.heap.size w wr)) (fun _ _ v22 _ => n1 - (intOf v22).toNat)
  case atStart => exact ⟨0, 0, [], by omega, rfl, rfl, by omega, ⟨by simp [cat]⟩, ⟨Nat.le_refl _⟩, ⟨fun p hp => by cases hp⟩, R2, B2⟩
  case round =>
    clear R2 B2
    obtain ⟨k, f, ps, hk, rfl, rfl, hf, HCAT, HPS, HGP, R, B⟩ := hrel
    by_cases hkn : k < n1
    · have s0 : decide ((k : Int) < (n1 : Int)) = true := by simp; omega
      have q0 : wrap64 ((k : Int) + 1) = ((k + 1 : Nat) : Int) := by unfold wrap64; omega
      have hlt : (k : Int) < (n1 : Int) := by omega
      obtain ⟨ad1, hA1, _⟩ := HC1.out.2.2 (by omega)
      obtain ⟨x, hx⟩ : ∃ x, pl.getD k 0 = x := ⟨_, rfl⟩
      have hcell : wr.cell? (ad1.add k) = some (.int .i64 x) := by
        have h0 := HC1.out
        rw [hA1, ← HPN.out] at h0
        have h1 := C_cell .i64 pl (Kd.C_below h0 B.out) k (by rw [HPN.out]; exact hkn)
        rw [hx] at h1
        exact h1
      have hxi : I64 x := by
        refine HI.out x ?_
        rw [← hx]
        have : k < pl.length := by rw [HPN.out]; exact hkn
        simp [this]
      have HXI := Aside0.mk hxi
      clear hx hxi
      subst hA1
      have PS1 : Aside0 (ps.length ≤ 20) := ⟨by have := HPS.out; have := HN1.out; omega⟩
      by_cases h1 : (f : Int) ≤ x
      · have t1 : decide (x ≥ (f : Int)) = true := decide_eq_true h1
        by_cases h2 : x ≤ (n : Int)
        · have t2 : decide (x ≤ (n : Int)) = true := decide_eq_true h2
          obtain ⟨h, rfl⟩ := Int.eq_ofNat_of_zero_le (show 0 ≤ x by omega)
          have t3 : (f : Int) ≤ (h : Int) := h1
          have t4 : f ≤ h := by omega
          have t5 : (h : Int) ≤ (c : Int) := by have := HCN.out; omega
          have gp := part_good (f := f) (h := h) (A := A) (c := c) (l := l) (w := w) (by rw [HLN.out]; exact HC.out) (by rw [HLN.out]; exact HCN.out) t4 (by rw [HLN.out]; omega)
          have HT := Aside0.mk (take_part l f h t4)
          by_cases hcf : c = f
          · rw [if_pos hcf] at gp
            have e0 : c - f = 0 := by omega
            rw [e0] at gp
            have GP := Aside0.mk gp
            clear gp e0
            subst hcf
            go_wp2_with (first | ((with_reducible refine gate_builtin (b := .append) (xs := #[.tmp 35, .tmp 40]) rfl ?_); at_builtin; refine Kd.R_append KP (w0 := w) w.heap.size rfl (.tmp 35) (.tmp 40) 44 22 (.slice none 0 0) 24 rfl Try.underlying44 (by kernel_rfl) rfl (by decide) (by omega) u5 ps ⟨A, h - c, 0, (l.take h).drop c⟩ [.slice A (h - c) 0] (fun _ => True) (fun _ => False) rfl rfl rfl (fun _ hk => hk.elim) (fun _ _ => trivial) R.out B.out B.out.size (by have := PS1.out; omega) ?_; intro v9 w9 ho9 hb9 hg9 hat9; have R9 := Aside0.mk ho9; have B9 := Aside0.mk hb9; clear ho9 hb9 hg9 hat9))
            go_roundw
            case rel => exact ⟨k + 1, h, _, by omega, rfl, rfl, by omega, ⟨by rw [cat_app, HCAT.out]; simp only [cat, List.flatMap_cons, List.flatMap_nil, List.append_nil]; exact HT.out⟩, ⟨by have := HPS.out; simp; omega⟩, ⟨fun p hp => by
              rcases List.mem_append.1 hp with hp | hp
              · exact HGP.out p hp
              · obtain rfl := List.mem_singleton.1 hp
                exact GP.out⟩, R9, B9⟩
            case measure => simp [intOf]; omega
          · rw [if_neg hcf] at gp
            have GP := Aside0.mk gp
            clear gp
            go_wp2_with (first | ((with_reducible refine gate_builtin (b := .append) (xs := #[.tmp 35, .tmp 40]) rfl ?_); at_builtin; refine Kd.R_append KP (w0 := w) w.heap.size rfl (.tmp 35) (.tmp 40) 44 22 (.slice none 0 0) 24 rfl Try.underlying44 (by kernel_rfl) rfl (by decide) (by omega) u5 ps ⟨A.map (·.add f), h - f, c - f, (l.take h).drop f⟩ [.slice (A.map (·.add f)) (h - f) (c - f)] (fun _ => True) (fun _ => False) rfl rfl rfl (fun _ hk => hk.elim) (fun _ _ => trivial) R.out B.out B.out.size (by have := PS1.out; omega) ?_; intro v9 w9 ho9 hb9 hg9 hat9; have R9 := Aside0.mk ho9; have B9 := Aside0.mk hb9; clear ho9 hb9 hg9 hat9))
            go_roundw
            case rel => exact ⟨k + 1, h, _, by omega, rfl, rfl, by omega, ⟨by rw [cat_app, HCAT.out]; simp only [cat, List.flatMap_cons, List.flatMap_nil, List.append_nil]; exact HT.out⟩, ⟨by have := HPS.out; simp; omega⟩, ⟨fun p hp => by
              rcases List.mem_append.1 hp with hp | hp
              · exact HGP.out p hp
              · obtain rfl := List.mem_singleton.1 hp
                exact GP.out⟩, R9, B9⟩
            case measure => simp [intOf]; omega
        · have t2 : decide (x ≤ (n : Int)) = false := decide_eq_false h2
          go_wp2
          go_roundw
          case rel => exact ⟨k + 1, f, ps, by omega, rfl, rfl, hf, HCAT, ⟨by have := HPS.out; omega⟩, HGP, R, B⟩
          case measure => simp [intOf]; omega
      · have t1 : decide (x ≥ (f : Int)) = false := decide_eq_false h1
        go_wp2
        go_roundw
        case rel => exact ⟨k + 1, f, ps, by omega, rfl, rfl, hf, HCAT, ⟨by have := HPS.out; omega⟩, HGP, R, B⟩
        case measure => simp [intOf]; omega
    · obtain rfl : k = n1 := by omega
      have s0 : decide ((k : Int) < (k : Int)) = false := by simp
      have PS1 : Aside0 (ps.length ≤ 20) := ⟨by have := HPS.out; have := HN1.out; omega⟩
      have gp := part_good (f := f) (h := n) (A := A) (c := c) (l := l) (w := w) (by rw [HLN.out]; exact HC.out) (by rw [HLN.out]; exact HCN.out) hf (by rw [HLN.out]; omega)
      have hcatf : ∀ A' c', cat (ps ++ [⟨A', n - f, c', (l.take n).drop f⟩]) = l := by
        intro A' c'
        rw [cat_app, HCAT.out]
        simp only [cat, List.flatMap_cons, List.flatMap_nil, List.append_nil]
        rw [take_part l f n hf]
        exact List.take_of_length_le (by rw [HLN.out]; omega)
      have HF := Aside0.mk hcatf
      have hlb : (cat ps).length ≤ 1000 := by rw [HCAT.out]; have := HN.out; simp; omega
      have heq := fun W => eq25_self (PB (DIG l)) (PB_length _) W
      have HL := Aside0.mk (show l.length ≤ 1000000 by rw [HLN.out]; have := HN.out; omega)
      have t6 : (f : Int) ≤ (n : Int) := by omega
      clear hcatf hlb
      by_cases hcf : c = f
      · rw [if_pos hcf] at gp
        have e0 : c - f = 0 := by omega
        rw [e0] at gp
        have GP := Aside0.mk gp
        clear gp e0
        subst hcf
        go_wp2_with (first | ((with_reducible refine gate_builtin (b := .append) (xs := #[.tmp 44, .tmp 48]) rfl ?_); at_builtin; refine Kd.R_append KP (w0 := w) w.heap.size rfl (.tmp 44) (.tmp 48) 44 22 (.slice none 0 0) 24 rfl Try.underlying44 (by kernel_rfl) rfl (by decide) (by omega) u5 ps ⟨A, n - c, 0, (l.take n).drop c⟩ [.slice A (n - c) 0] (fun _ => True) (fun _ => False) rfl rfl rfl (fun _ hk => hk.elim) (fun _ _ => trivial) R.out B.out B.out.size (by have := PS1.out; omega) ?_; intro v9 w9 ho9 hb9 hg9 hat9; have FC := HF.out A 0; obtain ⟨ps9, hps9⟩ : ∃ ps9, ps ++ [(⟨A, n - c, 0, (l.take n).drop c⟩ : PT)] = ps9 := ⟨_, rfl⟩; rw [hps9] at ho9 FC; have G9 : Aside0 (∀ p ∈ ps9, GoodP w p) := ⟨(by rw [← hps9]; intro p hp; rcases List.mem_append.1 hp with hp | hp; exact HGP.out p hp; obtain rfl := List.mem_singleton.1 hp; exact GP.out)⟩; have L9 : Aside0 (ps9.length ≤ 1000) := ⟨(by rw [← hps9]; have := PS1.out; simp; omega)⟩; obtain ⟨A9, c9, rfl, hc9, hC9⟩ := Kd.R_reads ho9; have C9 := Aside0.mk hC9; have B9 := Aside0.mk hb9; have F9 := Aside0.mk FC; clear ho9 hb9 hg9 hat9 hC9 hc9 hps9 FC) | (go_at_call 19; refine (of_c _ A9 c9 ps9 C9.out (fun p hp => ⟨Kd.C_below (G9.out p hp).hC B9.out, (G9.out p hp).hc⟩) (by rw [F9.out]; exact HL.out) L9.out (by rw [F9.out]; exact HBY.out)).mono ?_; unfold D20; rw [F9.out]; rintro e_ w10 ⟨rfl, hb10⟩; have B10 := Aside0.mk (below_step B9.out hb10); clear hb10) | (go_at_call 7; refine calls_args (as' := #[.slice A l.length c]) (by rw [HLN.out]) ?_; refine (sum_c _ A c l (by rw [HLN.out]; exact Kd.C_below HC.out B10.out) (by rw [HLN.out]; exact HCN.out) HBY.out HL.out).mono ?_; unfold D20; rintro e_ w11 ⟨rfl, hb11⟩; have B11 := Aside0.mk (below_step B10.out hb11); clear hb11))
        go_ret
        exact ⟨rfl, B11.out⟩
      · rw [if_neg hcf] at gp
        have GP := Aside0.mk gp
        clear gp
        go_wp2_with (first | ((with_reducible refine gate_builtin (b := .append) (xs := #[.tmp 44, .tmp 48]) rfl ?_); at_builtin; refine Kd.R_append KP (w0 := w) w.heap.size rfl (.tmp 44) (.tmp 48) 44 22 (.slice none 0 0) 24 rfl Try.underlying44 (by kernel_rfl) rfl (by decide) (by omega) u5 ps ⟨A.map (·.add f), n - f, c - f, (l.take n).drop f⟩ [.slice (A.map (·.add f)) (n - f) (c - f)] (fun _ => True) (fun _ => False) rfl rfl rfl (fun _ hk => hk.elim) (fun _ _ => trivial) R.out B.out B.out.size (by have := PS1.out; omega) ?_; intro v9 w9 ho9 hb9 hg9 hat9; have FC := HF.out (A.map (·.add f)) (c - f); obtain ⟨ps9, hps9⟩ : ∃ ps9, ps ++ [(⟨A.map (·.add f), n - f, c - f, (l.take n).drop f⟩ : PT)] = ps9 := ⟨_, rfl⟩; rw [hps9] at ho9 FC; have G9 : Aside0 (∀ p ∈ ps9, GoodP w p) := ⟨(by rw [← hps9]; intro p hp; rcases List.mem_append.1 hp with hp | hp; exact HGP.out p hp; obtain rfl := List.mem_singleton.1 hp; exact GP.out)⟩; have L9 : Aside0 (ps9.length ≤ 1000) := ⟨(by rw [← hps9]; have := PS1.out; simp; omega)⟩; obtain ⟨A9, c9, rfl, hc9, hC9⟩ := Kd.R_reads ho9; have C9 := Aside0.mk hC9; have B9 := Aside0.mk hb9; have F9 := Aside0.mk FC; clear ho9 hb9 hg9 hat9 hC9 hc9 hps9 FC) | (go_at_call 19; refine (of_c _ A9 c9 ps9 C9.out (fun p hp => ⟨Kd.C_below (G9.out p hp).hC B9.out, (G9.out p hp).hc⟩) (by rw [F9.out]; exact HL.out) L9.out (by rw [F9.out]; exact HBY.out)).mono ?_; unfold D20; rw [F9.out]; rintro e_ w10 ⟨rfl, hb10⟩; have B10 := Aside0.mk (below_step B9.out hb10); clear hb10) | (go_at_call 7; refine calls_args (as' := #[.slice A l.length c]) (by rw [HLN.out]) ?_; refine (sum_c _ A c l (by rw [HLN.out]; exact Kd.C_below HC.out B10.out) (by rw [HLN.out]; exact HCN.out) HBY.out HL.out).mono ?_; unfold D20; rintro e_ w11 ⟨rfl, hb11⟩; have B11 := Aside0.mk (below_step B10.out hb11); clear hb11))
        go_ret
        exact ⟨rfl, B11.out⟩
theorem parts_row (A0 A1 : Option Addr) (n0 c0 n1 c1 : Nat) (l0 l1 : List Int) (W : World) (e0 : l0.length = n0) (C0 : Kd.C (Kd.int .u8) W A0 n0 l0) (h0 : n0 ≤ c0) (o0 : ∀ x ∈ l0, (Lit.int .u8 x).wf = true)
    (e1 : l1.length = n1) (C1 : Kd.C (Kd.int .i64) W A1 n1 l1) (o1 : ∀ x ∈ l1, (Lit.int .i64 x).wf = true) :
    Calls Try.prog 5 #[.slice A0 n0 c0, .slice A1 n1 c1] W fun e w' => e = .returned (.bool true) ∧ Below W.heap.size W w' :=
  sha1parts_c W A0 A1 n0 c0 n1 c1 l0 l1 e0 e1 C0 C1 h0 (by have := C0.2.1; simpa [maxLen] using this) (by have := C1.2.1; simpa [maxLen] using this) (fun x hx => bounds_u8 (o0 x hx)) (fun x hx => i64_of (o1 x hx))
end Go.Proofs.Ytjffbdgidddbjaa
