/-
  An act on two queues and on the document's (written by gen_act.py).
-/
import Derived.Test.YtdgeaadcidmmfaaQPlaysEnv
namespace Go.Proofs.Ytdgeaadcidmmfaa
set_option linter.unusedVariables false
set_option linter.unusedSimpArgs false
open Go.Conc Go.RowKit Go.Proofs.YtdgeaadcidmmfaaW.PrintWords Go.Proofs.YtdgeaadcidmmfaaW.PrintLast Go.Proofs.YtdgeaadcidmmfaaW.PrintMore Go.Proofs.Ytdgeaadcidmmfaa.MQueuePlays
set_option maxHeartbeats 32000000 in
set_option maxRecDepth 100000 in
theorem act_0p (w : World) (g0 c0 cap0 g1 c1 cap1 : Nat) (l0 l1 : List ByteArray) (A0 : Option Addr) (n0 : Nat) (A1 : Option Addr) (n1 : Nat) (kind : Int) (text : ByteArray) (F : Far g0 c0 cap0 g1 c1 cap1) (hq0 : QL w g0 c0 cap0 l0) (hq1 : QL w g1 c1 cap1 l1) (hs0 : SR w A0 n0 l0) (hs1 : SR w A1 n1 l1) (hl : l0.length ≤ cap0 ∧ l1.length ≤ cap1) (hkk : (IntKind.u64.wrap kind).tmod 7 ≠ 2 ∧ (IntKind.u64.wrap kind).tmod 7 ≠ 3 ∧ (IntKind.u64.wrap kind).tmod 7 ≠ 4 ∧ (IntKind.u64.wrap kind).tmod 7 ≠ 5 ∧ (IntKind.u64.wrap kind).tmod 7 ≠ 6) :
    Calls Try.prog 14 #[.agg #[.pointer (some ⟨g0, 0, none⟩), .pointer (some ⟨g1, 0, none⟩)], .agg #[.slice A0 l0.length n0, .int .i64 cap0, .slice A1 l1.length n1, .int .i64 cap1], .agg #[.int .i64 kind, .bool false, .string text]] w fun e w' => ∃ y0 y1 A0' n0' A1' n1', e = .returned (.tuple #[.agg #[.slice A0' (y0 : List ByteArray).length n0', .int .i64 cap0, .slice A1' (y1 : List ByteArray).length n1', .int .i64 cap1], .bool true]) ∧ QL w' g0 c0 cap0 y0 ∧ QL w' g1 c1 cap1 y1 ∧ SR w' A0' n0' y0 ∧ SR w' A1' n1' y1 ∧ (y0.length ≤ cap0 ∧ y1.length ≤ cap1) ∧ Kept w w' (fun k => k = c0 ∨ k = c1) := by
  have E0 := Aside0.mk (env_start A0 n0 A1 n1 kind false text F hq0 hq1)
  have hb := below_alloc (below_alloc (below_alloc (below_alloc (Below.refl w.heap.size w) (.cells #[.pointer (some ⟨g0, 0, none⟩), .pointer (some ⟨g1, 0, none⟩)] 38)) (.cells #[.slice A0 l0.length n0, .int .i64 cap0, .slice A1 l1.length n1, .int .i64 cap1] 42)) (.cells #[.int .i64 kind, .bool false, .string text] 48)) (.cells #[.slice none 0 0, .int .i64 0, .slice none 0 0, .int .i64 0] 42)
  have S0 := Aside0.mk (hs0.below hb)
  have S1 := Aside0.mk (hs1.below hb)
  have HM : Aside0 (cap0 ≤ 64 ∧ cap1 ≤ 64 ∧ l0.length ≤ cap0 ∧ l1.length ≤ cap1) := ⟨⟨F.m0, F.m1, hl⟩⟩
  clear hl F hq0 hq1 hs0 hs1 hb
  go_enter Try.func14, Try.ntmps14
  go_upto_block 0 with (fail)
  generalize ((((w.alloc (.cells #[.pointer (some ⟨g0, 0, none⟩), .pointer (some ⟨g1, 0, none⟩)] 38)).alloc (.cells #[.slice A0 l0.length n0, .int .i64 cap0, .slice A1 l1.length n1, .int .i64 cap1] 42)).alloc (.cells #[.int .i64 kind, .bool false, .string text] 48)).alloc (.cells #[.slice none 0 0, .int .i64 0, .slice none 0 0, .int .i64 0] 42)) = W1 at E0 S0 S1 ⊢
  generalize w.heap.size + 1 + 1 + 1 = b6 at E0 ⊢
  generalize w.heap.size + 1 + 1 = b5 at E0 ⊢
  generalize w.heap.size + 1 = b4 at E0 ⊢
  generalize w.heap.size = b3 at E0 ⊢
  generalize (IntKind.u64.wrap kind).tmod 7 = kk at hkk ⊢
  obtain ⟨k2, k3, k4, k5, k6⟩ := hkk
  have k2b : (kk == 2) = false := beq_eq_false_iff_ne.2 k2
  have k2d : decide (kk = 2) = false := decide_eq_false k2
  clear k2
  have k3b : (kk == 3) = false := beq_eq_false_iff_ne.2 k3
  have k3d : decide (kk = 3) = false := decide_eq_false k3
  clear k3
  have k4b : (kk == 4) = false := beq_eq_false_iff_ne.2 k4
  have k4d : decide (kk = 4) = false := decide_eq_false k4
  clear k4
  have k5b : (kk == 5) = false := beq_eq_false_iff_ne.2 k5
  have k5d : decide (kk = 5) = false := decide_eq_false k5
  clear k5
  have k6b : (kk == 6) = false := beq_eq_false_iff_ne.2 k6
  have k6d : decide (kk = 6) = false := decide_eq_false k6
  clear k6
  go_cut [9] (fun v9 wc => ∃ (y0 y1 : List ByteArray) (B0 : Option Addr) (m0 : Nat) (B1 : Option Addr) (m1 : Nat), v9 = .bool true ∧ Aside0 (Env w b3 b4 b5 b6 kind false text g0 c0 cap0 g1 c1 cap1 y0 y1 #[.slice B0 y0.length m0, .int .i64 cap0, .slice B1 y1.length m1, .int .i64 cap1] #[.slice none 0 0, .int .i64 0, .slice none 0 0, .int .i64 0] wc) ∧ Aside0 (SR wc B0 m0 y0) ∧ Aside0 (SR wc B1 m1 y1) ∧ Aside0 (y0.length ≤ cap0 ∧ y1.length ≤ cap1))
  case first =>
    obtain ⟨ya, hya⟩ : ∃ y, y = putl cap0 l0 text := ⟨_, rfl⟩
    obtain ⟨bb, hbb⟩ : ∃ b, b = decide (l0.length < cap0) := ⟨_, rfl⟩
    have HREF : Aside0 (∀ W, SR W A0 n0 l0 → Calls Try.prog 27 #[.agg #[.slice A0 l0.length n0, .int .i64 cap0], .string text] W fun e w' => ∃ v, e = .returned v ∧ PutQ w' v bb ya cap0 ∧ Below W.heap.size W w') := ⟨fun W h => by
        rw [hya, hbb]
        refine (refPut_c W A0 n0 l0 cap0 text h (by have h := HM.out; omega)).mono ?_
        rintro e w' ⟨a, b, rfl, s, hb⟩
        exact ⟨_, rfl, ⟨a, b, rfl, s⟩, hb⟩⟩
    have HPUT : Aside0 (∀ W, QL W g0 c0 cap0 l0 → Calls Try.prog 15 #[.pointer (some ⟨g0, 0, none⟩), .string text] W fun e w' => e = .returned (.bool bb) ∧ QL w' g0 c0 cap0 ya ∧ Kept W w' (fun k => k = c0)) := ⟨fun W h => by
        rw [hya, hbb]
        exact put_c W g0 c0 cap0 l0 text h⟩
    have HYL : Aside0 (ya.length ≤ cap0) := ⟨by
        rw [hya]
        unfold putl
        have h := HM.out
        by_cases hq : l0.length < cap0
        · rw [if_pos hq]; simp; omega
        · rw [if_neg hq]; omega⟩
    clear hya hbb
    go_wp2_with (fail)
    refine region_inv (T := ?T6) [some 41, some 42, some 43, some 44, some 45, some 46, some 40, some 47, some 48, some 33, some 32, none] ?hT6 (fun dn_ X w_ => Env w b3 b4 b5 b6 kind false text g0 c0 cap0 g1 c1 cap1 l0 l1 #[.slice A0 l0.length n0, .int .i64 cap0, .slice A1 l1.length n1, .int .i64 cap1] #[.slice none 0 0, .int .i64 0, .slice none 0 0, .int .i64 0] w_ ∧ SR w_ A0 n0 l0 ∧ SR w_ A1 n1 l1 ∧ (dn_ 0 = true → X 0 = .int .i64 0) ∧ (dn_ 1 = true → X 1 = .pointer (some ⟨b4, 0, none⟩)) ∧ (dn_ 2 = true → X 2 = .agg #[.slice A0 l0.length n0, .int .i64 cap0]) ∧ (dn_ 3 = true → X 3 = .pointer (some ⟨b5, 2, none⟩)) ∧ (dn_ 4 = true → X 4 = .string text) ∧ (dn_ 5 = true → PutQ w_ (X 5) bb ya cap0) ∧ (dn_ 6 = true → PutQ w_ (X 6) bb ya cap0) ∧ (dn_ 7 = true → X 7 = .bool bb) ∧ (dn_ 8 = true → RowQ w_ (X 8) ya cap0) ∧ (dn_ 9 = true → BoxS (dn_ 11) w.heap.size w_ (X 9) ya cap0) ∧ (dn_ 10 = true → X 10 = .bool bb) ∧ (dn_ 11 = true → True) ∧ (dn_ 11 = true → dn_ 9 = true)) (by kernel_rfl) (by kernel_rfl) (by rfl) [0, 1, 2, 3, 4, 5, 6, 7, 8, 9, 10, 11] rfl (.cons (some 41) rfl rfl (fun dn_ X w_ hd0_ hd_ hI_ K hK => ?_) (.cons (some 42) rfl rfl (fun dn_ X w_ hd0_ hd_ hI_ K hK => ?_) (.cons (some 43) rfl rfl (fun dn_ X w_ hd0_ hd_ hI_ K hK => ?_) (.cons (some 44) rfl rfl (fun dn_ X w_ hd0_ hd_ hI_ K hK => ?_) (.cons (some 45) rfl rfl (fun dn_ X w_ hd0_ hd_ hI_ K hK => ?_) (.cons (some 46) rfl rfl (fun dn_ X w_ hd0_ hd_ hI_ K hK => ?_) (.cons (some 40) rfl rfl (fun dn_ X w_ hd0_ hd_ hI_ K hK => ?_) (.cons (some 47) rfl rfl (fun dn_ X w_ hd0_ hd_ hI_ K hK => ?_) (.cons (some 48) rfl rfl (fun dn_ X w_ hd0_ hd_ hI_ K hK => ?_) (.cons (some 33) rfl rfl (fun dn_ X w_ hd0_ hd_ hI_ K hK => ?_) (.cons (some 32) rfl rfl (fun dn_ X w_ hd0_ hd_ hI_ K hK => ?_) (.cons none rfl rfl (fun dn_ X w_ hd0_ hd_ hI_ K hK => ?_) .nil)))))))))))) ?h06 ?hend6
    case hT6 =>
      intro X
      simp only [fill, Act.put, List.setIfInBounds_toArray, List.set_cons_zero, List.set_cons_succ, Nat.zero_add, Nat.reduceAdd]
      rfl
    case h06 =>
      exact ⟨E0.out.below (below_drew (Below.refl _ _)), S0.out.below (below_drew (Below.refl _ _)), S1.out.below (below_drew (Below.refl _ _)), noF, noF, noF, noF, noF, noF, noF, noF, noF, noF, noF, noF, noF⟩
    · -- 0
      refine val_ (w1 := w_) (v := .int .i64 0) (by rfl) rfl ?_ (hK.out _ _ _ rfl ⟨hI_.1, hI_.2.1, hI_.2.2.1, (fun _ => rfl), hI_.2.2.2.2.1, hI_.2.2.2.2.2.1, hI_.2.2.2.2.2.2.1, hI_.2.2.2.2.2.2.2.1, hI_.2.2.2.2.2.2.2.2.1, hI_.2.2.2.2.2.2.2.2.2.1, hI_.2.2.2.2.2.2.2.2.2.2.1, hI_.2.2.2.2.2.2.2.2.2.2.2.1, hI_.2.2.2.2.2.2.2.2.2.2.2.2.1, hI_.2.2.2.2.2.2.2.2.2.2.2.2.2.1, hI_.2.2.2.2.2.2.2.2.2.2.2.2.2.2.1, hI_.2.2.2.2.2.2.2.2.2.2.2.2.2.2.2⟩)
      go_simp
      all_goals (first | decide | rfl)
    · -- 1
      have e0 := hI_.2.2.2.1 (hd_ 1 0 (by kernel_rfl))
      refine val_ (w1 := w_) (v := .pointer (some ⟨b4, 0, none⟩)) (by rfl) rfl ?_ (hK.out _ _ _ rfl ⟨hI_.1, hI_.2.1, hI_.2.2.1, hI_.2.2.2.1, (fun _ => rfl), hI_.2.2.2.2.2.1, hI_.2.2.2.2.2.2.1, hI_.2.2.2.2.2.2.2.1, hI_.2.2.2.2.2.2.2.2.1, hI_.2.2.2.2.2.2.2.2.2.1, hI_.2.2.2.2.2.2.2.2.2.2.1, hI_.2.2.2.2.2.2.2.2.2.2.2.1, hI_.2.2.2.2.2.2.2.2.2.2.2.2.1, hI_.2.2.2.2.2.2.2.2.2.2.2.2.2.1, hI_.2.2.2.2.2.2.2.2.2.2.2.2.2.2.1, hI_.2.2.2.2.2.2.2.2.2.2.2.2.2.2.2⟩)
      go_simp
      all_goals (first | decide | rfl)
    · -- 2
      have wE := hI_.1
      have e1 := hI_.2.2.2.2.1 (hd_ 1 1 (by kernel_rfl))
      have z0_ := (blk_cell wE.e4 0).trans rfl
      have z1_ := (blk_cell wE.e4 1).trans rfl
      refine val_ (w1 := w_) (v := .agg #[.slice A0 l0.length n0, .int .i64 cap0]) (by rfl) rfl ?_ (hK.out _ _ _ rfl ⟨hI_.1, hI_.2.1, hI_.2.2.1, hI_.2.2.2.1, hI_.2.2.2.2.1, (fun _ => rfl), hI_.2.2.2.2.2.2.1, hI_.2.2.2.2.2.2.2.1, hI_.2.2.2.2.2.2.2.2.1, hI_.2.2.2.2.2.2.2.2.2.1, hI_.2.2.2.2.2.2.2.2.2.2.1, hI_.2.2.2.2.2.2.2.2.2.2.2.1, hI_.2.2.2.2.2.2.2.2.2.2.2.2.1, hI_.2.2.2.2.2.2.2.2.2.2.2.2.2.1, hI_.2.2.2.2.2.2.2.2.2.2.2.2.2.2.1, hI_.2.2.2.2.2.2.2.2.2.2.2.2.2.2.2⟩)
      go_simp
      all_goals (first | decide | rfl)
    · -- 3
      refine val_ (w1 := w_) (v := .pointer (some ⟨b5, 2, none⟩)) (by rfl) rfl ?_ (hK.out _ _ _ rfl ⟨hI_.1, hI_.2.1, hI_.2.2.1, hI_.2.2.2.1, hI_.2.2.2.2.1, hI_.2.2.2.2.2.1, (fun _ => rfl), hI_.2.2.2.2.2.2.2.1, hI_.2.2.2.2.2.2.2.2.1, hI_.2.2.2.2.2.2.2.2.2.1, hI_.2.2.2.2.2.2.2.2.2.2.1, hI_.2.2.2.2.2.2.2.2.2.2.2.1, hI_.2.2.2.2.2.2.2.2.2.2.2.2.1, hI_.2.2.2.2.2.2.2.2.2.2.2.2.2.1, hI_.2.2.2.2.2.2.2.2.2.2.2.2.2.2.1, hI_.2.2.2.2.2.2.2.2.2.2.2.2.2.2.2⟩)
      go_simp
      all_goals (first | decide | rfl)
    · -- 4
      have wE := hI_.1
      have e3 := hI_.2.2.2.2.2.2.1 (hd_ 1 3 (by kernel_rfl))
      have z0_ := (blk_cell wE.e5 2).trans rfl
      refine val_ (w1 := w_) (v := .string text) (by rfl) rfl ?_ (hK.out _ _ _ rfl ⟨hI_.1, hI_.2.1, hI_.2.2.1, hI_.2.2.2.1, hI_.2.2.2.2.1, hI_.2.2.2.2.2.1, hI_.2.2.2.2.2.2.1, (fun _ => rfl), hI_.2.2.2.2.2.2.2.2.1, hI_.2.2.2.2.2.2.2.2.2.1, hI_.2.2.2.2.2.2.2.2.2.2.1, hI_.2.2.2.2.2.2.2.2.2.2.2.1, hI_.2.2.2.2.2.2.2.2.2.2.2.2.1, hI_.2.2.2.2.2.2.2.2.2.2.2.2.2.1, hI_.2.2.2.2.2.2.2.2.2.2.2.2.2.2.1, hI_.2.2.2.2.2.2.2.2.2.2.2.2.2.2.2⟩)
      go_simp
      all_goals (first | decide | rfl)
    · -- 5
      have wE := hI_.1
      have wS0 := hI_.2.1
      have wS1 := hI_.2.2.1
      have h0 := hI_.2.2.2.1
      have h1 := hI_.2.2.2.2.1
      have h2 := hI_.2.2.2.2.2.1
      have h3 := hI_.2.2.2.2.2.2.1
      have h4 := hI_.2.2.2.2.2.2.2.1
      have h5 := hI_.2.2.2.2.2.2.2.2.1
      have h6 := hI_.2.2.2.2.2.2.2.2.2.1
      have h7 := hI_.2.2.2.2.2.2.2.2.2.2.1
      have h8 := hI_.2.2.2.2.2.2.2.2.2.2.2.1
      have h9 := hI_.2.2.2.2.2.2.2.2.2.2.2.2.1
      have h10 := hI_.2.2.2.2.2.2.2.2.2.2.2.2.2.1
      have h11 := hI_.2.2.2.2.2.2.2.2.2.2.2.2.2.2.1
      have p1 := hI_.2.2.2.2.2.2.2.2.2.2.2.2.2.2.2
      have e2 := h2 (hd_ 1 2 (by kernel_rfl))
      have e4 := h4 (hd_ 1 4 (by kernel_rfl))
      refine goes_ Try.func27 (by kernel_rfl) rfl #[X 2, X 4] (by rfl) rfl rfl (by simp only [List.map_toArray, List.map_cons, List.map_nil]; rfl) ?_
      refine calls_args (args2 e2 e4) ?_
      refine (HREF.out w_ wS0).mono ?_
      rintro e w' ⟨v, rfl, hm, hb⟩
      exact ⟨_, rfl, hK.out _ _ _ rfl ⟨(wE.below hb), (wS0.below hb), (wS1.below hb), h0, h1, h2, h3, h4, (fun _ => hm), (fun q_ => (h6 q_).below hb), h7, (fun q_ => (h8 q_).below hb), (fun q_ => (h9 q_).below hb), h10, h11, p1⟩⟩
    · -- 6
      have wE := hI_.1
      have wS0 := hI_.2.1
      have wS1 := hI_.2.2.1
      have h0 := hI_.2.2.2.1
      have h1 := hI_.2.2.2.2.1
      have h2 := hI_.2.2.2.2.2.1
      have h3 := hI_.2.2.2.2.2.2.1
      have h4 := hI_.2.2.2.2.2.2.2.1
      have h5 := hI_.2.2.2.2.2.2.2.2.1
      have h6 := hI_.2.2.2.2.2.2.2.2.2.1
      have h7 := hI_.2.2.2.2.2.2.2.2.2.2.1
      have h8 := hI_.2.2.2.2.2.2.2.2.2.2.2.1
      have h9 := hI_.2.2.2.2.2.2.2.2.2.2.2.2.1
      have h10 := hI_.2.2.2.2.2.2.2.2.2.2.2.2.2.1
      have h11 := hI_.2.2.2.2.2.2.2.2.2.2.2.2.2.2.1
      have p1 := hI_.2.2.2.2.2.2.2.2.2.2.2.2.2.2.2
      have e5 := h5 (hd_ 1 5 (by kernel_rfl))
      refine val_ (w1 := w_) (v := X 5) (by rfl) rfl ?_ (hK.out _ _ _ rfl ⟨wE, wS0, wS1, h0, h1, h2, h3, h4, h5, (fun _ => e5), h7, h8, h9, h10, h11, p1⟩)
      go_simp
    · -- 7
      have wE := hI_.1
      have wS0 := hI_.2.1
      have wS1 := hI_.2.2.1
      have h0 := hI_.2.2.2.1
      have h1 := hI_.2.2.2.2.1
      have h2 := hI_.2.2.2.2.2.1
      have h3 := hI_.2.2.2.2.2.2.1
      have h4 := hI_.2.2.2.2.2.2.2.1
      have h5 := hI_.2.2.2.2.2.2.2.2.1
      have h6 := hI_.2.2.2.2.2.2.2.2.2.1
      have h7 := hI_.2.2.2.2.2.2.2.2.2.2.1
      have h8 := hI_.2.2.2.2.2.2.2.2.2.2.2.1
      have h9 := hI_.2.2.2.2.2.2.2.2.2.2.2.2.1
      have h10 := hI_.2.2.2.2.2.2.2.2.2.2.2.2.2.1
      have h11 := hI_.2.2.2.2.2.2.2.2.2.2.2.2.2.2.1
      have p1 := hI_.2.2.2.2.2.2.2.2.2.2.2.2.2.2.2
      have e6 := h6 (hd_ 1 6 (by kernel_rfl))
      obtain ⟨A_, c_, ev_, s_⟩ := e6
      refine val_ (w1 := w_) (v := .bool bb) (by rfl) rfl ?_ (hK.out _ _ _ rfl ⟨wE, wS0, wS1, h0, h1, h2, h3, h4, h5, h6, (fun _ => rfl), h8, h9, h10, h11, p1⟩)
      go_simp
    · -- 8
      have wE := hI_.1
      have wS0 := hI_.2.1
      have wS1 := hI_.2.2.1
      have h0 := hI_.2.2.2.1
      have h1 := hI_.2.2.2.2.1
      have h2 := hI_.2.2.2.2.2.1
      have h3 := hI_.2.2.2.2.2.2.1
      have h4 := hI_.2.2.2.2.2.2.2.1
      have h5 := hI_.2.2.2.2.2.2.2.2.1
      have h6 := hI_.2.2.2.2.2.2.2.2.2.1
      have h7 := hI_.2.2.2.2.2.2.2.2.2.2.1
      have h8 := hI_.2.2.2.2.2.2.2.2.2.2.2.1
      have h9 := hI_.2.2.2.2.2.2.2.2.2.2.2.2.1
      have h10 := hI_.2.2.2.2.2.2.2.2.2.2.2.2.2.1
      have h11 := hI_.2.2.2.2.2.2.2.2.2.2.2.2.2.2.1
      have p1 := hI_.2.2.2.2.2.2.2.2.2.2.2.2.2.2.2
      have e6 := h6 (hd_ 1 6 (by kernel_rfl))
      obtain ⟨A_, c_, ev_, s_⟩ := e6
      refine val_ (w1 := w_) (v := .agg #[.slice A_ ya.length c_, .int .i64 cap0]) (by rfl) rfl ?_ (hK.out _ _ _ rfl ⟨wE, wS0, wS1, h0, h1, h2, h3, h4, h5, h6, h7, (fun _ => ⟨_, _, rfl, s_⟩), h9, h10, h11, p1⟩)
      go_simp
    · -- 9
      have wE := hI_.1
      have wS0 := hI_.2.1
      have wS1 := hI_.2.2.1
      have h0 := hI_.2.2.2.1
      have h1 := hI_.2.2.2.2.1
      have h2 := hI_.2.2.2.2.2.1
      have h3 := hI_.2.2.2.2.2.2.1
      have h4 := hI_.2.2.2.2.2.2.2.1
      have h5 := hI_.2.2.2.2.2.2.2.2.1
      have h6 := hI_.2.2.2.2.2.2.2.2.2.1
      have h7 := hI_.2.2.2.2.2.2.2.2.2.2.1
      have h8 := hI_.2.2.2.2.2.2.2.2.2.2.2.1
      have h9 := hI_.2.2.2.2.2.2.2.2.2.2.2.2.1
      have h10 := hI_.2.2.2.2.2.2.2.2.2.2.2.2.2.1
      have h11 := hI_.2.2.2.2.2.2.2.2.2.2.2.2.2.2.1
      have p1 := hI_.2.2.2.2.2.2.2.2.2.2.2.2.2.2.2
      rw [if_pos (by rfl)]
      go_simp
      have hb := below_alloc (Below.refl w_.heap.size w_) (.cells #[.slice none 0 0, .int .i64 0] 41 (0, 0))
      exact hK.out _ (.pointer (some ⟨w_.heap.size, 0, none⟩)) _ (by simp only [Act.put, List.setIfInBounds_toArray, List.set_cons_zero, List.set_cons_succ]) ⟨(wE.below hb), (wS0.below hb), (wS1.below hb), h0, h1, h2, h3, h4, (fun q_ => (h5 q_).below hb), (fun q_ => (h6 q_).below hb), h7, (fun q_ => (h8 q_).below hb), (fun _ => ⟨_, rfl, wE.k.1, fun _ => blk_new _ _, fun q_ => Bool.noConfusion (hd0_.symm.trans (p1 q_))⟩), h10, h11, (fun _ => rfl)⟩
    · -- 10
      have e7 := hI_.2.2.2.2.2.2.2.2.2.2.1 (hd_ 1 7 (by kernel_rfl))
      refine val_ (w1 := w_) (v := .bool bb) (by rfl) rfl ?_ (hK.out _ _ _ rfl ⟨hI_.1, hI_.2.1, hI_.2.2.1, hI_.2.2.2.1, hI_.2.2.2.2.1, hI_.2.2.2.2.2.1, hI_.2.2.2.2.2.2.1, hI_.2.2.2.2.2.2.2.1, hI_.2.2.2.2.2.2.2.2.1, hI_.2.2.2.2.2.2.2.2.2.1, hI_.2.2.2.2.2.2.2.2.2.2.1, hI_.2.2.2.2.2.2.2.2.2.2.2.1, hI_.2.2.2.2.2.2.2.2.2.2.2.2.1, (fun _ => rfl), hI_.2.2.2.2.2.2.2.2.2.2.2.2.2.2.1, hI_.2.2.2.2.2.2.2.2.2.2.2.2.2.2.2⟩)
      go_simp
      all_goals (first | decide | rfl)
    · -- 11
      have wE := hI_.1
      have wS0 := hI_.2.1
      have wS1 := hI_.2.2.1
      have h0 := hI_.2.2.2.1
      have h1 := hI_.2.2.2.2.1
      have h2 := hI_.2.2.2.2.2.1
      have h3 := hI_.2.2.2.2.2.2.1
      have h4 := hI_.2.2.2.2.2.2.2.1
      have h5 := hI_.2.2.2.2.2.2.2.2.1
      have h6 := hI_.2.2.2.2.2.2.2.2.2.1
      have h7 := hI_.2.2.2.2.2.2.2.2.2.2.1
      have h8 := hI_.2.2.2.2.2.2.2.2.2.2.2.1
      have h9 := hI_.2.2.2.2.2.2.2.2.2.2.2.2.1
      have h10 := hI_.2.2.2.2.2.2.2.2.2.2.2.2.2.1
      have h11 := hI_.2.2.2.2.2.2.2.2.2.2.2.2.2.2.1
      have p1 := hI_.2.2.2.2.2.2.2.2.2.2.2.2.2.2.2
      have e8 := h8 (hd_ 1 8 (by kernel_rfl))
      have e9 := h9 (hd_ 1 9 (by kernel_rfl))
      have d9 := hd_ 1 9 (by kernel_rfl)
      obtain ⟨A_, c_, ev_, s_⟩ := h8 (hd_ 1 8 (by kernel_rfl))
      obtain ⟨g_, eg_, og, hz, _⟩ := h9 d9
      have hz := hz hd0_
      have z0_ := (blk_cell hz 0).trans rfl
      have z1_ := (blk_cell hz 1).trans rfl
      have f0_ := blk_frozen hz 0
      have f1_ := blk_frozen hz 1
      rw [if_pos (by rfl)]
      go_simp
      exact hK.out _ undef _ (by simp only [Act.put, List.setIfInBounds_toArray, List.set_cons_zero, List.set_cons_succ, e8, e9, ev_, eg_]) ⟨(wE.w2 hz og _ _), (wS0.w2 hz _ _ _ _), (wS1.w2 hz _ _ _ _), h0, h1, h2, h3, h4, (fun q_ => (h5 q_).w2 hz _ _ _ _), (fun q_ => (h6 q_).w2 hz _ _ _ _), h7, (fun q_ => (h8 q_).w2 hz _ _ _ _), (fun _ => BoxS.write2 eg_ og hz s_), h10, (fun _ => trivial), (fun _ => d9)⟩
    intro dn_ X w3 hdn_ hI_
    clear E0 S0 S1
    obtain ⟨wE, wS0, wS1, h0, h1, h2, h3, h4, h5, h6, h7, h8, h9, h10, h11, p1⟩ := hI_
    have e10 := h10 (hdn_ 10 (by decide))
    obtain ⟨g33, e9, o33, _, f33⟩ := h9 (hdn_ 9 (by decide))
    obtain ⟨A33, c33, k33, s33⟩ := f33 (hdn_ 11 (by decide))
    have E0 := Aside0.mk wE
    have S0 := Aside0.mk wS0
    have S1 := Aside0.mk wS1
    have S33 := Aside0.mk s33
    have K33 := Aside0.mk k33
    rw [e9, e10]
    clear wE wS0 wS1 h0 h1 h2 h3 h4 h5 h6 h7 h8 h9 h10 h11 p1 f33 k33 s33 e9 e10 hdn_
    go_wp2_with (fail)
    refine region_inv (T := ?T7) [some 49, some 50, some 51, some 52, some 53, some 54, some 55, some 56, some 9] ?hT7 (fun dn_ X w_ => Env w b3 b4 b5 b6 kind false text g0 c0 cap0 g1 c1 cap1 (bif dn_ 5 then ya else l0) l1 #[.slice A0 l0.length n0, .int .i64 cap0, .slice A1 l1.length n1, .int .i64 cap1] #[.slice none 0 0, .int .i64 0, .slice none 0 0, .int .i64 0] w_ ∧ SR w_ A0 n0 l0 ∧ SR w_ A1 n1 l1 ∧ SR w_ A33 c33 ya ∧ w_.heap[g33]? = some (.cells #[.slice A33 ya.length c33, .int .i64 cap0] 41 (0, 0)) ∧ (dn_ 0 = true → X 0 = .int .i64 0) ∧ (dn_ 1 = true → X 1 = .pointer (some ⟨b3, 0, none⟩)) ∧ (dn_ 2 = true → X 2 = .pointer (some ⟨g0, 0, none⟩)) ∧ (dn_ 3 = true → X 3 = .pointer (some ⟨b5, 2, none⟩)) ∧ (dn_ 4 = true → X 4 = .string text) ∧ (dn_ 5 = true → X 5 = .bool bb) ∧ (dn_ 6 = true → X 6 = .bool bb) ∧ (dn_ 7 = true → X 7 = .bool true) ∧ (dn_ 8 = true → X 8 = .bool true)) (by kernel_rfl) (by kernel_rfl) (by rfl) [0, 1, 2, 3, 4, 5, 6, 7, 8] rfl (.cons (some 49) rfl rfl (fun dn_ X w_ hd0_ hd_ hI_ K hK => ?_) (.cons (some 50) rfl rfl (fun dn_ X w_ hd0_ hd_ hI_ K hK => ?_) (.cons (some 51) rfl rfl (fun dn_ X w_ hd0_ hd_ hI_ K hK => ?_) (.cons (some 52) rfl rfl (fun dn_ X w_ hd0_ hd_ hI_ K hK => ?_) (.cons (some 53) rfl rfl (fun dn_ X w_ hd0_ hd_ hI_ K hK => ?_) (.cons (some 54) rfl rfl (fun dn_ X w_ hd0_ hd_ hI_ K hK => ?_) (.cons (some 55) rfl rfl (fun dn_ X w_ hd0_ hd_ hI_ K hK => ?_) (.cons (some 56) rfl rfl (fun dn_ X w_ hd0_ hd_ hI_ K hK => ?_) (.cons (some 9) rfl rfl (fun dn_ X w_ hd0_ hd_ hI_ K hK => ?_) .nil))))))))) ?h07 ?hend7
    case hT7 =>
      intro X
      simp only [fill, Act.put, List.setIfInBounds_toArray, List.set_cons_zero, List.set_cons_succ, Nat.zero_add, Nat.reduceAdd]
      rfl
    case h07 =>
      exact ⟨E0.out.below (below_drew (Below.refl _ _)), S0.out.below (below_drew (Below.refl _ _)), S1.out.below (below_drew (Below.refl _ _)), S33.out.below (below_drew (Below.refl _ _)), blk_below K33.out (below_drew (Below.refl _ _)), noF, noF, noF, noF, noF, noF, noF, noF, noF⟩
    · -- 0
      refine val_ (w1 := w_) (v := .int .i64 0) (by rfl) rfl ?_ (hK.out _ _ _ rfl ⟨hI_.1, hI_.2.1, hI_.2.2.1, hI_.2.2.2.1, hI_.2.2.2.2.1, (fun _ => rfl), hI_.2.2.2.2.2.2.1, hI_.2.2.2.2.2.2.2.1, hI_.2.2.2.2.2.2.2.2.1, hI_.2.2.2.2.2.2.2.2.2.1, hI_.2.2.2.2.2.2.2.2.2.2.1, hI_.2.2.2.2.2.2.2.2.2.2.2.1, hI_.2.2.2.2.2.2.2.2.2.2.2.2.1, hI_.2.2.2.2.2.2.2.2.2.2.2.2.2⟩)
      go_simp
      all_goals (first | decide | rfl)
    · -- 1
      have e0 := hI_.2.2.2.2.2.1 (hd_ 1 0 (by kernel_rfl))
      refine val_ (w1 := w_) (v := .pointer (some ⟨b3, 0, none⟩)) (by rfl) rfl ?_ (hK.out _ _ _ rfl ⟨hI_.1, hI_.2.1, hI_.2.2.1, hI_.2.2.2.1, hI_.2.2.2.2.1, hI_.2.2.2.2.2.1, (fun _ => rfl), hI_.2.2.2.2.2.2.2.1, hI_.2.2.2.2.2.2.2.2.1, hI_.2.2.2.2.2.2.2.2.2.1, hI_.2.2.2.2.2.2.2.2.2.2.1, hI_.2.2.2.2.2.2.2.2.2.2.2.1, hI_.2.2.2.2.2.2.2.2.2.2.2.2.1, hI_.2.2.2.2.2.2.2.2.2.2.2.2.2⟩)
      go_simp
      all_goals (first | decide | rfl)
    · -- 2
      have wE := hI_.1
      have e1 := hI_.2.2.2.2.2.2.1 (hd_ 1 1 (by kernel_rfl))
      have z0_ := (blk_cell wE.e3 0).trans rfl
      refine val_ (w1 := w_) (v := .pointer (some ⟨g0, 0, none⟩)) (by rfl) rfl ?_ (hK.out _ _ _ rfl ⟨hI_.1, hI_.2.1, hI_.2.2.1, hI_.2.2.2.1, hI_.2.2.2.2.1, hI_.2.2.2.2.2.1, hI_.2.2.2.2.2.2.1, (fun _ => rfl), hI_.2.2.2.2.2.2.2.2.1, hI_.2.2.2.2.2.2.2.2.2.1, hI_.2.2.2.2.2.2.2.2.2.2.1, hI_.2.2.2.2.2.2.2.2.2.2.2.1, hI_.2.2.2.2.2.2.2.2.2.2.2.2.1, hI_.2.2.2.2.2.2.2.2.2.2.2.2.2⟩)
      go_simp
      all_goals (first | decide | rfl)
    · -- 3
      refine val_ (w1 := w_) (v := .pointer (some ⟨b5, 2, none⟩)) (by rfl) rfl ?_ (hK.out _ _ _ rfl ⟨hI_.1, hI_.2.1, hI_.2.2.1, hI_.2.2.2.1, hI_.2.2.2.2.1, hI_.2.2.2.2.2.1, hI_.2.2.2.2.2.2.1, hI_.2.2.2.2.2.2.2.1, (fun _ => rfl), hI_.2.2.2.2.2.2.2.2.2.1, hI_.2.2.2.2.2.2.2.2.2.2.1, hI_.2.2.2.2.2.2.2.2.2.2.2.1, hI_.2.2.2.2.2.2.2.2.2.2.2.2.1, hI_.2.2.2.2.2.2.2.2.2.2.2.2.2⟩)
      go_simp
      all_goals (first | decide | rfl)
    · -- 4
      have wE := hI_.1
      have e3 := hI_.2.2.2.2.2.2.2.2.1 (hd_ 1 3 (by kernel_rfl))
      have z0_ := (blk_cell wE.e5 2).trans rfl
      refine val_ (w1 := w_) (v := .string text) (by rfl) rfl ?_ (hK.out _ _ _ rfl ⟨hI_.1, hI_.2.1, hI_.2.2.1, hI_.2.2.2.1, hI_.2.2.2.2.1, hI_.2.2.2.2.2.1, hI_.2.2.2.2.2.2.1, hI_.2.2.2.2.2.2.2.1, hI_.2.2.2.2.2.2.2.2.1, (fun _ => rfl), hI_.2.2.2.2.2.2.2.2.2.2.1, hI_.2.2.2.2.2.2.2.2.2.2.2.1, hI_.2.2.2.2.2.2.2.2.2.2.2.2.1, hI_.2.2.2.2.2.2.2.2.2.2.2.2.2⟩)
      go_simp
      all_goals (first | decide | rfl)
    · -- 5
      have wE := hI_.1
      have wS0 := hI_.2.1
      have wS1 := hI_.2.2.1
      have wS33 := hI_.2.2.2.1
      have wK33 := hI_.2.2.2.2.1
      have h0 := hI_.2.2.2.2.2.1
      have h1 := hI_.2.2.2.2.2.2.1
      have h2 := hI_.2.2.2.2.2.2.2.1
      have h3 := hI_.2.2.2.2.2.2.2.2.1
      have h4 := hI_.2.2.2.2.2.2.2.2.2.1
      have h5 := hI_.2.2.2.2.2.2.2.2.2.2.1
      have h6 := hI_.2.2.2.2.2.2.2.2.2.2.2.1
      have h7 := hI_.2.2.2.2.2.2.2.2.2.2.2.2.1
      have h8 := hI_.2.2.2.2.2.2.2.2.2.2.2.2.2
      have e2 := h2 (hd_ 1 2 (by kernel_rfl))
      have e4 := h4 (hd_ 1 4 (by kernel_rfl))
      have wE0 : Env w b3 b4 b5 b6 kind false text g0 c0 cap0 g1 c1 cap1 l0 l1 #[.slice A0 l0.length n0, .int .i64 cap0, .slice A1 l1.length n1, .int .i64 cap1] #[.slice none 0 0, .int .i64 0, .slice none 0 0, .int .i64 0] w_ := by rw [hd0_] at wE; exact wE
      refine goes_ Try.func15 (by kernel_rfl) rfl #[X 2, X 4] (by rfl) rfl rfl (by simp only [List.map_toArray, List.map_cons, List.map_nil]; rfl) ?_
      refine calls_args (args2 e2 e4) ?_
      refine (HPUT.out w_ wE0.q0).mono ?_
      rintro e w' ⟨rfl, hq, hk⟩
      exact ⟨_, rfl, hK.out _ _ _ rfl ⟨(wE0.call0 hk hq), (SR.call wE0 wS0 hk (fun j_ h_ => .inl h_)), (SR.call wE0 wS1 hk (fun j_ h_ => .inl h_)), (SR.call wE0 wS33 hk (fun j_ h_ => .inl h_)), (wE0.keeps hk (fun j_ h_ => .inl h_) wK33), h0, h1, h2, h3, h4, (fun _ => rfl), h6, h7, h8⟩⟩
    · -- 6
      refine val_ (w1 := w_) (v := .bool bb) (by rfl) rfl ?_ (hK.out _ _ _ rfl ⟨hI_.1, hI_.2.1, hI_.2.2.1, hI_.2.2.2.1, hI_.2.2.2.2.1, hI_.2.2.2.2.2.1, hI_.2.2.2.2.2.2.1, hI_.2.2.2.2.2.2.2.1, hI_.2.2.2.2.2.2.2.2.1, hI_.2.2.2.2.2.2.2.2.2.1, hI_.2.2.2.2.2.2.2.2.2.2.1, (fun _ => rfl), hI_.2.2.2.2.2.2.2.2.2.2.2.2.1, hI_.2.2.2.2.2.2.2.2.2.2.2.2.2⟩)
      go_simp
      all_goals (first | decide | rfl)
    · -- 7
      have e5 := hI_.2.2.2.2.2.2.2.2.2.2.1 (hd_ 1 5 (by kernel_rfl))
      have e6 := hI_.2.2.2.2.2.2.2.2.2.2.2.1 (hd_ 1 6 (by kernel_rfl))
      refine val_ (w1 := w_) (v := .bool true) (by rfl) rfl ?_ (hK.out _ _ _ rfl ⟨hI_.1, hI_.2.1, hI_.2.2.1, hI_.2.2.2.1, hI_.2.2.2.2.1, hI_.2.2.2.2.2.1, hI_.2.2.2.2.2.2.1, hI_.2.2.2.2.2.2.2.1, hI_.2.2.2.2.2.2.2.2.1, hI_.2.2.2.2.2.2.2.2.2.1, hI_.2.2.2.2.2.2.2.2.2.2.1, hI_.2.2.2.2.2.2.2.2.2.2.2.1, (fun _ => rfl), hI_.2.2.2.2.2.2.2.2.2.2.2.2.2⟩)
      go_simp
      all_goals (first | decide | rfl)
    · -- 8
      have e7 := hI_.2.2.2.2.2.2.2.2.2.2.2.2.1 (hd_ 1 7 (by kernel_rfl))
      refine val_ (w1 := w_) (v := .bool true) (by rfl) rfl ?_ (hK.out _ _ _ rfl ⟨hI_.1, hI_.2.1, hI_.2.2.1, hI_.2.2.2.1, hI_.2.2.2.2.1, hI_.2.2.2.2.2.1, hI_.2.2.2.2.2.2.1, hI_.2.2.2.2.2.2.2.1, hI_.2.2.2.2.2.2.2.2.1, hI_.2.2.2.2.2.2.2.2.2.1, hI_.2.2.2.2.2.2.2.2.2.2.1, hI_.2.2.2.2.2.2.2.2.2.2.2.1, hI_.2.2.2.2.2.2.2.2.2.2.2.2.1, (fun _ => rfl)⟩)
      go_simp
      all_goals (first | decide | rfl)
    intro dn_ X w4 hdn_ hI_
    clear E0 S0 S1 S33 K33
    obtain ⟨wE, wS0, wS1, wS33, wK33, h0, h1, h2, h3, h4, h5, h6, h7, h8⟩ := hI_
    have e8 := h8 (hdn_ 8 (by decide))
    rw [hdn_ 5 (by decide)] at wE
    have E0 := Aside0.mk (show Env w b3 b4 b5 b6 kind false text g0 c0 cap0 g1 c1 cap1 ya l1 #[.slice A0 l0.length n0, .int .i64 cap0, .slice A1 l1.length n1, .int .i64 cap1] #[.slice none 0 0, .int .i64 0, .slice none 0 0, .int .i64 0] w4 from wE)
    have S0 := Aside0.mk wS0
    have S1 := Aside0.mk wS1
    have S33 := Aside0.mk wS33
    have K33 := Aside0.mk wK33
    rw [e8]
    clear wE wS0 wS1 wS33 wK33 h0 h1 h2 h3 h4 h5 h6 h7 h8 e8 hdn_
    have z40 := (blk_cell E0.out.e4 0).trans rfl
    have f40 := blk_frozen E0.out.e4 0
    have z41 := (blk_cell E0.out.e4 1).trans rfl
    have f41 := blk_frozen E0.out.e4 1
    have z42 := (blk_cell E0.out.e4 2).trans rfl
    have f42 := blk_frozen E0.out.e4 2
    have z43 := (blk_cell E0.out.e4 3).trans rfl
    have f43 := blk_frozen E0.out.e4 3
    have y0 := (blk_cell K33.out 0).trans rfl
    have y1 := (blk_cell K33.out 1).trans rfl
    go_wp2
    go_meet
    case rel => exact ⟨ya, l1, A33, c33, A1, n1, rfl, ⟨E0.out.s4 0 1 (.slice A33 ya.length c33) (.int .i64 cap0)⟩, ⟨((S33.out).set E0.out.e4 (nos4 A0 l0.length n0 cap0 A1 l1.length n1 cap1) 0 (.slice A33 ya.length c33)).set (E0.out.set4 0 (.slice A33 ya.length c33)).e4 (nos4 A33 ya.length c33 cap0 A1 l1.length n1 cap1) 1 (.int .i64 cap0)⟩, ⟨((S1.out).set E0.out.e4 (nos4 A0 l0.length n0 cap0 A1 l1.length n1 cap1) 0 (.slice A33 ya.length c33)).set (E0.out.set4 0 (.slice A33 ya.length c33)).e4 (nos4 A33 ya.length c33 cap0 A1 l1.length n1 cap1) 1 (.int .i64 cap0)⟩, ⟨by have h := HM.out; have h2 := HYL.out; omega⟩⟩
  case rest =>
    clear E0 S0 S1
    obtain ⟨y0, y1, B0, m0, B1, m1, rfl, E0, S0, S1, HL⟩ := hcut
    go_wp2_with (fail)
    refine region_inv (T := ?T37) [some 267, some 268, some 269, some 270, some 271, some 272, some 273, some 274, some 275, some 276, some 277, some 278, some 279, some 280, some 281, some 282, none, some 7] ?hT37 (fun dn_ X w_ => Env w b3 b4 b5 b6 kind false text g0 c0 cap0 g1 c1 cap1 y0 y1 #[.slice B0 y0.length m0, .int .i64 cap0, .slice B1 y1.length m1, .int .i64 cap1] (bif dn_ 16 then #[.slice B0 y0.length m0, .int .i64 cap0, .slice B1 y1.length m1, .int .i64 cap1] else #[.slice none 0 0, .int .i64 0, .slice none 0 0, .int .i64 0]) w_ ∧ SR w_ B0 m0 y0 ∧ SR w_ B1 m1 y1 ∧ (dn_ 0 = true → X 0 = .agg #[.slice B0 y0.length m0, .int .i64 cap0, .slice B1 y1.length m1, .int .i64 cap1]) ∧ (dn_ 1 = true → X 1 = .bool true) ∧ (dn_ 2 = true → X 2 = .bool true) ∧ (dn_ 3 = true → X 3 = .pointer (some ⟨b3, 0, none⟩)) ∧ (dn_ 4 = true → X 4 = .pointer (some ⟨g0, 0, none⟩)) ∧ (dn_ 5 = true → X 5 = .pointer (some ⟨b4, 0, none⟩)) ∧ (dn_ 6 = true → X 6 = .agg #[.slice B0 y0.length m0, .int .i64 cap0]) ∧ (dn_ 7 = true → X 7 = .bool true) ∧ (dn_ 8 = true → X 8 = .bool true) ∧ (dn_ 9 = true → X 9 = .bool true) ∧ (dn_ 10 = true → X 10 = .pointer (some ⟨b3, 1, none⟩)) ∧ (dn_ 11 = true → X 11 = .pointer (some ⟨g1, 0, none⟩)) ∧ (dn_ 12 = true → X 12 = .pointer (some ⟨b4, 2, none⟩)) ∧ (dn_ 13 = true → X 13 = .agg #[.slice B1 y1.length m1, .int .i64 cap1]) ∧ (dn_ 14 = true → X 14 = .bool true) ∧ (dn_ 15 = true → X 15 = .bool true) ∧ (dn_ 16 = true → True) ∧ (dn_ 17 = true → X 17 = .bool true)) (by kernel_rfl) (by kernel_rfl) (by rfl) [0, 1, 2, 3, 4, 5, 6, 7, 8, 9, 10, 11, 12, 13, 14, 15, 16, 17] rfl (.cons (some 267) rfl rfl (fun dn_ X w_ hd0_ hd_ hI_ K hK => ?_) (.cons (some 268) rfl rfl (fun dn_ X w_ hd0_ hd_ hI_ K hK => ?_) (.cons (some 269) rfl rfl (fun dn_ X w_ hd0_ hd_ hI_ K hK => ?_) (.cons (some 270) rfl rfl (fun dn_ X w_ hd0_ hd_ hI_ K hK => ?_) (.cons (some 271) rfl rfl (fun dn_ X w_ hd0_ hd_ hI_ K hK => ?_) (.cons (some 272) rfl rfl (fun dn_ X w_ hd0_ hd_ hI_ K hK => ?_) (.cons (some 273) rfl rfl (fun dn_ X w_ hd0_ hd_ hI_ K hK => ?_) (.cons (some 274) rfl rfl (fun dn_ X w_ hd0_ hd_ hI_ K hK => ?_) (.cons (some 275) rfl rfl (fun dn_ X w_ hd0_ hd_ hI_ K hK => ?_) (.cons (some 276) rfl rfl (fun dn_ X w_ hd0_ hd_ hI_ K hK => ?_) (.cons (some 277) rfl rfl (fun dn_ X w_ hd0_ hd_ hI_ K hK => ?_) (.cons (some 278) rfl rfl (fun dn_ X w_ hd0_ hd_ hI_ K hK => ?_) (.cons (some 279) rfl rfl (fun dn_ X w_ hd0_ hd_ hI_ K hK => ?_) (.cons (some 280) rfl rfl (fun dn_ X w_ hd0_ hd_ hI_ K hK => ?_) (.cons (some 281) rfl rfl (fun dn_ X w_ hd0_ hd_ hI_ K hK => ?_) (.cons (some 282) rfl rfl (fun dn_ X w_ hd0_ hd_ hI_ K hK => ?_) (.cons none rfl rfl (fun dn_ X w_ hd0_ hd_ hI_ K hK => ?_) (.cons (some 7) rfl rfl (fun dn_ X w_ hd0_ hd_ hI_ K hK => ?_) .nil)))))))))))))))))) ?h037 ?hend37
    case hT37 =>
      intro X
      simp only [fill, Act.put, List.setIfInBounds_toArray, List.set_cons_zero, List.set_cons_succ, Nat.zero_add, Nat.reduceAdd]
      rfl
    case h037 =>
      exact ⟨E0.out.below (below_drew (Below.refl _ _)), S0.out.below (below_drew (Below.refl _ _)), S1.out.below (below_drew (Below.refl _ _)), noF, noF, noF, noF, noF, noF, noF, noF, noF, noF, noF, noF, noF, noF, noF, noF, noF, noF⟩
    · -- 0
      have wE := hI_.1
      have z0_ := (blk_cell wE.e4 0).trans rfl
      have z1_ := (blk_cell wE.e4 1).trans rfl
      have z2_ := (blk_cell wE.e4 2).trans rfl
      have z3_ := (blk_cell wE.e4 3).trans rfl
      refine val_ (w1 := w_) (v := .agg #[.slice B0 y0.length m0, .int .i64 cap0, .slice B1 y1.length m1, .int .i64 cap1]) (by rfl) rfl ?_ (hK.out _ _ _ rfl ⟨hI_.1, hI_.2.1, hI_.2.2.1, (fun _ => rfl), hI_.2.2.2.2.1, hI_.2.2.2.2.2.1, hI_.2.2.2.2.2.2.1, hI_.2.2.2.2.2.2.2.1, hI_.2.2.2.2.2.2.2.2.1, hI_.2.2.2.2.2.2.2.2.2.1, hI_.2.2.2.2.2.2.2.2.2.2.1, hI_.2.2.2.2.2.2.2.2.2.2.2.1, hI_.2.2.2.2.2.2.2.2.2.2.2.2.1, hI_.2.2.2.2.2.2.2.2.2.2.2.2.2.1, hI_.2.2.2.2.2.2.2.2.2.2.2.2.2.2.1, hI_.2.2.2.2.2.2.2.2.2.2.2.2.2.2.2.1, hI_.2.2.2.2.2.2.2.2.2.2.2.2.2.2.2.2.1, hI_.2.2.2.2.2.2.2.2.2.2.2.2.2.2.2.2.2.1, hI_.2.2.2.2.2.2.2.2.2.2.2.2.2.2.2.2.2.2.1, hI_.2.2.2.2.2.2.2.2.2.2.2.2.2.2.2.2.2.2.2.1, hI_.2.2.2.2.2.2.2.2.2.2.2.2.2.2.2.2.2.2.2.2⟩)
      go_simp
      all_goals (first | decide | rfl)
    · -- 1
      refine val_ (w1 := w_) (v := .bool true) (by rfl) rfl ?_ (hK.out _ _ _ rfl ⟨hI_.1, hI_.2.1, hI_.2.2.1, hI_.2.2.2.1, (fun _ => rfl), hI_.2.2.2.2.2.1, hI_.2.2.2.2.2.2.1, hI_.2.2.2.2.2.2.2.1, hI_.2.2.2.2.2.2.2.2.1, hI_.2.2.2.2.2.2.2.2.2.1, hI_.2.2.2.2.2.2.2.2.2.2.1, hI_.2.2.2.2.2.2.2.2.2.2.2.1, hI_.2.2.2.2.2.2.2.2.2.2.2.2.1, hI_.2.2.2.2.2.2.2.2.2.2.2.2.2.1, hI_.2.2.2.2.2.2.2.2.2.2.2.2.2.2.1, hI_.2.2.2.2.2.2.2.2.2.2.2.2.2.2.2.1, hI_.2.2.2.2.2.2.2.2.2.2.2.2.2.2.2.2.1, hI_.2.2.2.2.2.2.2.2.2.2.2.2.2.2.2.2.2.1, hI_.2.2.2.2.2.2.2.2.2.2.2.2.2.2.2.2.2.2.1, hI_.2.2.2.2.2.2.2.2.2.2.2.2.2.2.2.2.2.2.2.1, hI_.2.2.2.2.2.2.2.2.2.2.2.2.2.2.2.2.2.2.2.2⟩)
      go_simp
      all_goals (first | decide | rfl)
    · -- 2
      have e1 := hI_.2.2.2.2.1 (hd_ 1 1 (by kernel_rfl))
      refine val_ (w1 := w_) (v := .bool true) (by rfl) rfl ?_ (hK.out _ _ _ rfl ⟨hI_.1, hI_.2.1, hI_.2.2.1, hI_.2.2.2.1, hI_.2.2.2.2.1, (fun _ => rfl), hI_.2.2.2.2.2.2.1, hI_.2.2.2.2.2.2.2.1, hI_.2.2.2.2.2.2.2.2.1, hI_.2.2.2.2.2.2.2.2.2.1, hI_.2.2.2.2.2.2.2.2.2.2.1, hI_.2.2.2.2.2.2.2.2.2.2.2.1, hI_.2.2.2.2.2.2.2.2.2.2.2.2.1, hI_.2.2.2.2.2.2.2.2.2.2.2.2.2.1, hI_.2.2.2.2.2.2.2.2.2.2.2.2.2.2.1, hI_.2.2.2.2.2.2.2.2.2.2.2.2.2.2.2.1, hI_.2.2.2.2.2.2.2.2.2.2.2.2.2.2.2.2.1, hI_.2.2.2.2.2.2.2.2.2.2.2.2.2.2.2.2.2.1, hI_.2.2.2.2.2.2.2.2.2.2.2.2.2.2.2.2.2.2.1, hI_.2.2.2.2.2.2.2.2.2.2.2.2.2.2.2.2.2.2.2.1, hI_.2.2.2.2.2.2.2.2.2.2.2.2.2.2.2.2.2.2.2.2⟩)
      go_simp
      all_goals (first | decide | rfl)
    · -- 3
      have e2 := hI_.2.2.2.2.2.1 (hd_ 1 2 (by kernel_rfl))
      refine val_ (w1 := w_) (v := .pointer (some ⟨b3, 0, none⟩)) (wanted_of rfl rfl (congrArg some e2)) rfl ?_ (hK.out _ _ _ rfl ⟨hI_.1, hI_.2.1, hI_.2.2.1, hI_.2.2.2.1, hI_.2.2.2.2.1, hI_.2.2.2.2.2.1, (fun _ => rfl), hI_.2.2.2.2.2.2.2.1, hI_.2.2.2.2.2.2.2.2.1, hI_.2.2.2.2.2.2.2.2.2.1, hI_.2.2.2.2.2.2.2.2.2.2.1, hI_.2.2.2.2.2.2.2.2.2.2.2.1, hI_.2.2.2.2.2.2.2.2.2.2.2.2.1, hI_.2.2.2.2.2.2.2.2.2.2.2.2.2.1, hI_.2.2.2.2.2.2.2.2.2.2.2.2.2.2.1, hI_.2.2.2.2.2.2.2.2.2.2.2.2.2.2.2.1, hI_.2.2.2.2.2.2.2.2.2.2.2.2.2.2.2.2.1, hI_.2.2.2.2.2.2.2.2.2.2.2.2.2.2.2.2.2.1, hI_.2.2.2.2.2.2.2.2.2.2.2.2.2.2.2.2.2.2.1, hI_.2.2.2.2.2.2.2.2.2.2.2.2.2.2.2.2.2.2.2.1, hI_.2.2.2.2.2.2.2.2.2.2.2.2.2.2.2.2.2.2.2.2⟩)
      go_simp
      all_goals (first | decide | rfl)
    · -- 4
      have wE := hI_.1
      have e2 := hI_.2.2.2.2.2.1 (hd_ 1 2 (by kernel_rfl))
      have e3 := hI_.2.2.2.2.2.2.1 (hd_ 1 3 (by kernel_rfl))
      have z0_ := (blk_cell wE.e3 0).trans rfl
      refine val_ (w1 := w_) (v := .pointer (some ⟨g0, 0, none⟩)) (wanted_of rfl rfl (congrArg some e2)) rfl ?_ (hK.out _ _ _ rfl ⟨hI_.1, hI_.2.1, hI_.2.2.1, hI_.2.2.2.1, hI_.2.2.2.2.1, hI_.2.2.2.2.2.1, hI_.2.2.2.2.2.2.1, (fun _ => rfl), hI_.2.2.2.2.2.2.2.2.1, hI_.2.2.2.2.2.2.2.2.2.1, hI_.2.2.2.2.2.2.2.2.2.2.1, hI_.2.2.2.2.2.2.2.2.2.2.2.1, hI_.2.2.2.2.2.2.2.2.2.2.2.2.1, hI_.2.2.2.2.2.2.2.2.2.2.2.2.2.1, hI_.2.2.2.2.2.2.2.2.2.2.2.2.2.2.1, hI_.2.2.2.2.2.2.2.2.2.2.2.2.2.2.2.1, hI_.2.2.2.2.2.2.2.2.2.2.2.2.2.2.2.2.1, hI_.2.2.2.2.2.2.2.2.2.2.2.2.2.2.2.2.2.1, hI_.2.2.2.2.2.2.2.2.2.2.2.2.2.2.2.2.2.2.1, hI_.2.2.2.2.2.2.2.2.2.2.2.2.2.2.2.2.2.2.2.1, hI_.2.2.2.2.2.2.2.2.2.2.2.2.2.2.2.2.2.2.2.2⟩)
      go_simp
      all_goals (first | decide | rfl)
    · -- 5
      have e2 := hI_.2.2.2.2.2.1 (hd_ 1 2 (by kernel_rfl))
      refine val_ (w1 := w_) (v := .pointer (some ⟨b4, 0, none⟩)) (wanted_of rfl rfl (congrArg some e2)) rfl ?_ (hK.out _ _ _ rfl ⟨hI_.1, hI_.2.1, hI_.2.2.1, hI_.2.2.2.1, hI_.2.2.2.2.1, hI_.2.2.2.2.2.1, hI_.2.2.2.2.2.2.1, hI_.2.2.2.2.2.2.2.1, (fun _ => rfl), hI_.2.2.2.2.2.2.2.2.2.1, hI_.2.2.2.2.2.2.2.2.2.2.1, hI_.2.2.2.2.2.2.2.2.2.2.2.1, hI_.2.2.2.2.2.2.2.2.2.2.2.2.1, hI_.2.2.2.2.2.2.2.2.2.2.2.2.2.1, hI_.2.2.2.2.2.2.2.2.2.2.2.2.2.2.1, hI_.2.2.2.2.2.2.2.2.2.2.2.2.2.2.2.1, hI_.2.2.2.2.2.2.2.2.2.2.2.2.2.2.2.2.1, hI_.2.2.2.2.2.2.2.2.2.2.2.2.2.2.2.2.2.1, hI_.2.2.2.2.2.2.2.2.2.2.2.2.2.2.2.2.2.2.1, hI_.2.2.2.2.2.2.2.2.2.2.2.2.2.2.2.2.2.2.2.1, hI_.2.2.2.2.2.2.2.2.2.2.2.2.2.2.2.2.2.2.2.2⟩)
      go_simp
      all_goals (first | decide | rfl)
    · -- 6
      have wE := hI_.1
      have e2 := hI_.2.2.2.2.2.1 (hd_ 1 2 (by kernel_rfl))
      have e5 := hI_.2.2.2.2.2.2.2.2.1 (hd_ 1 5 (by kernel_rfl))
      have z0_ := (blk_cell wE.e4 0).trans rfl
      have z1_ := (blk_cell wE.e4 1).trans rfl
      refine val_ (w1 := w_) (v := .agg #[.slice B0 y0.length m0, .int .i64 cap0]) (wanted_of rfl rfl (congrArg some e2)) rfl ?_ (hK.out _ _ _ rfl ⟨hI_.1, hI_.2.1, hI_.2.2.1, hI_.2.2.2.1, hI_.2.2.2.2.1, hI_.2.2.2.2.2.1, hI_.2.2.2.2.2.2.1, hI_.2.2.2.2.2.2.2.1, hI_.2.2.2.2.2.2.2.2.1, (fun _ => rfl), hI_.2.2.2.2.2.2.2.2.2.2.1, hI_.2.2.2.2.2.2.2.2.2.2.2.1, hI_.2.2.2.2.2.2.2.2.2.2.2.2.1, hI_.2.2.2.2.2.2.2.2.2.2.2.2.2.1, hI_.2.2.2.2.2.2.2.2.2.2.2.2.2.2.1, hI_.2.2.2.2.2.2.2.2.2.2.2.2.2.2.2.1, hI_.2.2.2.2.2.2.2.2.2.2.2.2.2.2.2.2.1, hI_.2.2.2.2.2.2.2.2.2.2.2.2.2.2.2.2.2.1, hI_.2.2.2.2.2.2.2.2.2.2.2.2.2.2.2.2.2.2.1, hI_.2.2.2.2.2.2.2.2.2.2.2.2.2.2.2.2.2.2.2.1, hI_.2.2.2.2.2.2.2.2.2.2.2.2.2.2.2.2.2.2.2.2⟩)
      go_simp
      all_goals (first | decide | rfl)
    · -- 7
      have wE := hI_.1
      have wS0 := hI_.2.1
      have wS1 := hI_.2.2.1
      have h0 := hI_.2.2.2.1
      have h1 := hI_.2.2.2.2.1
      have h2 := hI_.2.2.2.2.2.1
      have h3 := hI_.2.2.2.2.2.2.1
      have h4 := hI_.2.2.2.2.2.2.2.1
      have h5 := hI_.2.2.2.2.2.2.2.2.1
      have h6 := hI_.2.2.2.2.2.2.2.2.2.1
      have h7 := hI_.2.2.2.2.2.2.2.2.2.2.1
      have h8 := hI_.2.2.2.2.2.2.2.2.2.2.2.1
      have h9 := hI_.2.2.2.2.2.2.2.2.2.2.2.2.1
      have h10 := hI_.2.2.2.2.2.2.2.2.2.2.2.2.2.1
      have h11 := hI_.2.2.2.2.2.2.2.2.2.2.2.2.2.2.1
      have h12 := hI_.2.2.2.2.2.2.2.2.2.2.2.2.2.2.2.1
      have h13 := hI_.2.2.2.2.2.2.2.2.2.2.2.2.2.2.2.2.1
      have h14 := hI_.2.2.2.2.2.2.2.2.2.2.2.2.2.2.2.2.2.1
      have h15 := hI_.2.2.2.2.2.2.2.2.2.2.2.2.2.2.2.2.2.2.1
      have h16 := hI_.2.2.2.2.2.2.2.2.2.2.2.2.2.2.2.2.2.2.2.1
      have h17 := hI_.2.2.2.2.2.2.2.2.2.2.2.2.2.2.2.2.2.2.2.2
      have e2 := h2 (hd_ 1 2 (by kernel_rfl))
      have e4 := h4 (hd_ 1 4 (by kernel_rfl))
      have e6 := h6 (hd_ 1 6 (by kernel_rfl))
      refine goes_ Try.func28 (by kernel_rfl) rfl #[X 4, X 6] (wanted_of rfl rfl (congrArg some e2)) rfl rfl (by simp only [List.map_toArray, List.map_cons, List.map_nil]; rfl) ?_
      refine calls_args (args2 e4 e6) ?_
      refine (same_c w_ g0 c0 cap0 B0 m0 y0 wE.q0 wS0 HL.out.1 (by have h := HM.out; omega)).mono ?_
      rintro e w' ⟨rfl, hq, hk⟩
      exact ⟨_, rfl, hK.out _ _ _ rfl ⟨(wE.call0 hk hq), (SR.call wE wS0 hk (fun j_ h_ => .inl h_)), (SR.call wE wS1 hk (fun j_ h_ => .inl h_)), h0, h1, h2, h3, h4, h5, h6, (fun _ => rfl), h8, h9, h10, h11, h12, h13, h14, h15, h16, h17⟩⟩
    · -- 8
      have e2 := hI_.2.2.2.2.2.1 (hd_ 1 2 (by kernel_rfl))
      have e7 := hI_.2.2.2.2.2.2.2.2.2.2.1 (hd_ 1 7 (by kernel_rfl))
      refine val_ (w1 := w_) (v := .bool true) (by rfl) rfl ?_ (hK.out _ _ _ rfl ⟨hI_.1, hI_.2.1, hI_.2.2.1, hI_.2.2.2.1, hI_.2.2.2.2.1, hI_.2.2.2.2.2.1, hI_.2.2.2.2.2.2.1, hI_.2.2.2.2.2.2.2.1, hI_.2.2.2.2.2.2.2.2.1, hI_.2.2.2.2.2.2.2.2.2.1, hI_.2.2.2.2.2.2.2.2.2.2.1, (fun _ => rfl), hI_.2.2.2.2.2.2.2.2.2.2.2.2.1, hI_.2.2.2.2.2.2.2.2.2.2.2.2.2.1, hI_.2.2.2.2.2.2.2.2.2.2.2.2.2.2.1, hI_.2.2.2.2.2.2.2.2.2.2.2.2.2.2.2.1, hI_.2.2.2.2.2.2.2.2.2.2.2.2.2.2.2.2.1, hI_.2.2.2.2.2.2.2.2.2.2.2.2.2.2.2.2.2.1, hI_.2.2.2.2.2.2.2.2.2.2.2.2.2.2.2.2.2.2.1, hI_.2.2.2.2.2.2.2.2.2.2.2.2.2.2.2.2.2.2.2.1, hI_.2.2.2.2.2.2.2.2.2.2.2.2.2.2.2.2.2.2.2.2⟩)
      go_simp
      all_goals (first | decide | rfl)
    · -- 9
      have e8 := hI_.2.2.2.2.2.2.2.2.2.2.2.1 (hd_ 1 8 (by kernel_rfl))
      refine val_ (w1 := w_) (v := .bool true) (by rfl) rfl ?_ (hK.out _ _ _ rfl ⟨hI_.1, hI_.2.1, hI_.2.2.1, hI_.2.2.2.1, hI_.2.2.2.2.1, hI_.2.2.2.2.2.1, hI_.2.2.2.2.2.2.1, hI_.2.2.2.2.2.2.2.1, hI_.2.2.2.2.2.2.2.2.1, hI_.2.2.2.2.2.2.2.2.2.1, hI_.2.2.2.2.2.2.2.2.2.2.1, hI_.2.2.2.2.2.2.2.2.2.2.2.1, (fun _ => rfl), hI_.2.2.2.2.2.2.2.2.2.2.2.2.2.1, hI_.2.2.2.2.2.2.2.2.2.2.2.2.2.2.1, hI_.2.2.2.2.2.2.2.2.2.2.2.2.2.2.2.1, hI_.2.2.2.2.2.2.2.2.2.2.2.2.2.2.2.2.1, hI_.2.2.2.2.2.2.2.2.2.2.2.2.2.2.2.2.2.1, hI_.2.2.2.2.2.2.2.2.2.2.2.2.2.2.2.2.2.2.1, hI_.2.2.2.2.2.2.2.2.2.2.2.2.2.2.2.2.2.2.2.1, hI_.2.2.2.2.2.2.2.2.2.2.2.2.2.2.2.2.2.2.2.2⟩)
      go_simp
      all_goals (first | decide | rfl)
    · -- 10
      have e9 := hI_.2.2.2.2.2.2.2.2.2.2.2.2.1 (hd_ 1 9 (by kernel_rfl))
      refine val_ (w1 := w_) (v := .pointer (some ⟨b3, 1, none⟩)) (wanted_of rfl rfl (congrArg some e9)) rfl ?_ (hK.out _ _ _ rfl ⟨hI_.1, hI_.2.1, hI_.2.2.1, hI_.2.2.2.1, hI_.2.2.2.2.1, hI_.2.2.2.2.2.1, hI_.2.2.2.2.2.2.1, hI_.2.2.2.2.2.2.2.1, hI_.2.2.2.2.2.2.2.2.1, hI_.2.2.2.2.2.2.2.2.2.1, hI_.2.2.2.2.2.2.2.2.2.2.1, hI_.2.2.2.2.2.2.2.2.2.2.2.1, hI_.2.2.2.2.2.2.2.2.2.2.2.2.1, (fun _ => rfl), hI_.2.2.2.2.2.2.2.2.2.2.2.2.2.2.1, hI_.2.2.2.2.2.2.2.2.2.2.2.2.2.2.2.1, hI_.2.2.2.2.2.2.2.2.2.2.2.2.2.2.2.2.1, hI_.2.2.2.2.2.2.2.2.2.2.2.2.2.2.2.2.2.1, hI_.2.2.2.2.2.2.2.2.2.2.2.2.2.2.2.2.2.2.1, hI_.2.2.2.2.2.2.2.2.2.2.2.2.2.2.2.2.2.2.2.1, hI_.2.2.2.2.2.2.2.2.2.2.2.2.2.2.2.2.2.2.2.2⟩)
      go_simp
      all_goals (first | decide | rfl)
    · -- 11
      have wE := hI_.1
      have e9 := hI_.2.2.2.2.2.2.2.2.2.2.2.2.1 (hd_ 1 9 (by kernel_rfl))
      have e10 := hI_.2.2.2.2.2.2.2.2.2.2.2.2.2.1 (hd_ 1 10 (by kernel_rfl))
      have z0_ := (blk_cell wE.e3 1).trans rfl
      refine val_ (w1 := w_) (v := .pointer (some ⟨g1, 0, none⟩)) (wanted_of rfl rfl (congrArg some e9)) rfl ?_ (hK.out _ _ _ rfl ⟨hI_.1, hI_.2.1, hI_.2.2.1, hI_.2.2.2.1, hI_.2.2.2.2.1, hI_.2.2.2.2.2.1, hI_.2.2.2.2.2.2.1, hI_.2.2.2.2.2.2.2.1, hI_.2.2.2.2.2.2.2.2.1, hI_.2.2.2.2.2.2.2.2.2.1, hI_.2.2.2.2.2.2.2.2.2.2.1, hI_.2.2.2.2.2.2.2.2.2.2.2.1, hI_.2.2.2.2.2.2.2.2.2.2.2.2.1, hI_.2.2.2.2.2.2.2.2.2.2.2.2.2.1, (fun _ => rfl), hI_.2.2.2.2.2.2.2.2.2.2.2.2.2.2.2.1, hI_.2.2.2.2.2.2.2.2.2.2.2.2.2.2.2.2.1, hI_.2.2.2.2.2.2.2.2.2.2.2.2.2.2.2.2.2.1, hI_.2.2.2.2.2.2.2.2.2.2.2.2.2.2.2.2.2.2.1, hI_.2.2.2.2.2.2.2.2.2.2.2.2.2.2.2.2.2.2.2.1, hI_.2.2.2.2.2.2.2.2.2.2.2.2.2.2.2.2.2.2.2.2⟩)
      go_simp
      all_goals (first | decide | rfl)
    · -- 12
      have e9 := hI_.2.2.2.2.2.2.2.2.2.2.2.2.1 (hd_ 1 9 (by kernel_rfl))
      refine val_ (w1 := w_) (v := .pointer (some ⟨b4, 2, none⟩)) (wanted_of rfl rfl (congrArg some e9)) rfl ?_ (hK.out _ _ _ rfl ⟨hI_.1, hI_.2.1, hI_.2.2.1, hI_.2.2.2.1, hI_.2.2.2.2.1, hI_.2.2.2.2.2.1, hI_.2.2.2.2.2.2.1, hI_.2.2.2.2.2.2.2.1, hI_.2.2.2.2.2.2.2.2.1, hI_.2.2.2.2.2.2.2.2.2.1, hI_.2.2.2.2.2.2.2.2.2.2.1, hI_.2.2.2.2.2.2.2.2.2.2.2.1, hI_.2.2.2.2.2.2.2.2.2.2.2.2.1, hI_.2.2.2.2.2.2.2.2.2.2.2.2.2.1, hI_.2.2.2.2.2.2.2.2.2.2.2.2.2.2.1, (fun _ => rfl), hI_.2.2.2.2.2.2.2.2.2.2.2.2.2.2.2.2.1, hI_.2.2.2.2.2.2.2.2.2.2.2.2.2.2.2.2.2.1, hI_.2.2.2.2.2.2.2.2.2.2.2.2.2.2.2.2.2.2.1, hI_.2.2.2.2.2.2.2.2.2.2.2.2.2.2.2.2.2.2.2.1, hI_.2.2.2.2.2.2.2.2.2.2.2.2.2.2.2.2.2.2.2.2⟩)
      go_simp
      all_goals (first | decide | rfl)
    · -- 13
      have wE := hI_.1
      have e9 := hI_.2.2.2.2.2.2.2.2.2.2.2.2.1 (hd_ 1 9 (by kernel_rfl))
      have e12 := hI_.2.2.2.2.2.2.2.2.2.2.2.2.2.2.2.1 (hd_ 1 12 (by kernel_rfl))
      have z0_ := (blk_cell wE.e4 2).trans rfl
      have z1_ := (blk_cell wE.e4 3).trans rfl
      refine val_ (w1 := w_) (v := .agg #[.slice B1 y1.length m1, .int .i64 cap1]) (wanted_of rfl rfl (congrArg some e9)) rfl ?_ (hK.out _ _ _ rfl ⟨hI_.1, hI_.2.1, hI_.2.2.1, hI_.2.2.2.1, hI_.2.2.2.2.1, hI_.2.2.2.2.2.1, hI_.2.2.2.2.2.2.1, hI_.2.2.2.2.2.2.2.1, hI_.2.2.2.2.2.2.2.2.1, hI_.2.2.2.2.2.2.2.2.2.1, hI_.2.2.2.2.2.2.2.2.2.2.1, hI_.2.2.2.2.2.2.2.2.2.2.2.1, hI_.2.2.2.2.2.2.2.2.2.2.2.2.1, hI_.2.2.2.2.2.2.2.2.2.2.2.2.2.1, hI_.2.2.2.2.2.2.2.2.2.2.2.2.2.2.1, hI_.2.2.2.2.2.2.2.2.2.2.2.2.2.2.2.1, (fun _ => rfl), hI_.2.2.2.2.2.2.2.2.2.2.2.2.2.2.2.2.2.1, hI_.2.2.2.2.2.2.2.2.2.2.2.2.2.2.2.2.2.2.1, hI_.2.2.2.2.2.2.2.2.2.2.2.2.2.2.2.2.2.2.2.1, hI_.2.2.2.2.2.2.2.2.2.2.2.2.2.2.2.2.2.2.2.2⟩)
      go_simp
      all_goals (first | decide | rfl)
    · -- 14
      have wE := hI_.1
      have wS0 := hI_.2.1
      have wS1 := hI_.2.2.1
      have h0 := hI_.2.2.2.1
      have h1 := hI_.2.2.2.2.1
      have h2 := hI_.2.2.2.2.2.1
      have h3 := hI_.2.2.2.2.2.2.1
      have h4 := hI_.2.2.2.2.2.2.2.1
      have h5 := hI_.2.2.2.2.2.2.2.2.1
      have h6 := hI_.2.2.2.2.2.2.2.2.2.1
      have h7 := hI_.2.2.2.2.2.2.2.2.2.2.1
      have h8 := hI_.2.2.2.2.2.2.2.2.2.2.2.1
      have h9 := hI_.2.2.2.2.2.2.2.2.2.2.2.2.1
      have h10 := hI_.2.2.2.2.2.2.2.2.2.2.2.2.2.1
      have h11 := hI_.2.2.2.2.2.2.2.2.2.2.2.2.2.2.1
      have h12 := hI_.2.2.2.2.2.2.2.2.2.2.2.2.2.2.2.1
      have h13 := hI_.2.2.2.2.2.2.2.2.2.2.2.2.2.2.2.2.1
      have h14 := hI_.2.2.2.2.2.2.2.2.2.2.2.2.2.2.2.2.2.1
      have h15 := hI_.2.2.2.2.2.2.2.2.2.2.2.2.2.2.2.2.2.2.1
      have h16 := hI_.2.2.2.2.2.2.2.2.2.2.2.2.2.2.2.2.2.2.2.1
      have h17 := hI_.2.2.2.2.2.2.2.2.2.2.2.2.2.2.2.2.2.2.2.2
      have e9 := h9 (hd_ 1 9 (by kernel_rfl))
      have e11 := h11 (hd_ 1 11 (by kernel_rfl))
      have e13 := h13 (hd_ 1 13 (by kernel_rfl))
      refine goes_ Try.func28 (by kernel_rfl) rfl #[X 11, X 13] (wanted_of rfl rfl (congrArg some e9)) rfl rfl (by simp only [List.map_toArray, List.map_cons, List.map_nil]; rfl) ?_
      refine calls_args (args2 e11 e13) ?_
      refine (same_c w_ g1 c1 cap1 B1 m1 y1 wE.q1 wS1 HL.out.2 (by have h := HM.out; omega)).mono ?_
      rintro e w' ⟨rfl, hq, hk⟩
      exact ⟨_, rfl, hK.out _ _ _ rfl ⟨(wE.call1 hk hq), (SR.call wE wS0 hk (fun j_ h_ => .inr h_)), (SR.call wE wS1 hk (fun j_ h_ => .inr h_)), h0, h1, h2, h3, h4, h5, h6, h7, h8, h9, h10, h11, h12, h13, (fun _ => rfl), h15, h16, h17⟩⟩
    · -- 15
      have e9 := hI_.2.2.2.2.2.2.2.2.2.2.2.2.1 (hd_ 1 9 (by kernel_rfl))
      have e14 := hI_.2.2.2.2.2.2.2.2.2.2.2.2.2.2.2.2.2.1 (hd_ 1 14 (by kernel_rfl))
      refine val_ (w1 := w_) (v := .bool true) (by rfl) rfl ?_ (hK.out _ _ _ rfl ⟨hI_.1, hI_.2.1, hI_.2.2.1, hI_.2.2.2.1, hI_.2.2.2.2.1, hI_.2.2.2.2.2.1, hI_.2.2.2.2.2.2.1, hI_.2.2.2.2.2.2.2.1, hI_.2.2.2.2.2.2.2.2.1, hI_.2.2.2.2.2.2.2.2.2.1, hI_.2.2.2.2.2.2.2.2.2.2.1, hI_.2.2.2.2.2.2.2.2.2.2.2.1, hI_.2.2.2.2.2.2.2.2.2.2.2.2.1, hI_.2.2.2.2.2.2.2.2.2.2.2.2.2.1, hI_.2.2.2.2.2.2.2.2.2.2.2.2.2.2.1, hI_.2.2.2.2.2.2.2.2.2.2.2.2.2.2.2.1, hI_.2.2.2.2.2.2.2.2.2.2.2.2.2.2.2.2.1, hI_.2.2.2.2.2.2.2.2.2.2.2.2.2.2.2.2.2.1, (fun _ => rfl), hI_.2.2.2.2.2.2.2.2.2.2.2.2.2.2.2.2.2.2.2.1, hI_.2.2.2.2.2.2.2.2.2.2.2.2.2.2.2.2.2.2.2.2⟩)
      go_simp
      all_goals (first | decide | rfl)
    · -- 16
      have wE := hI_.1
      have wS0 := hI_.2.1
      have wS1 := hI_.2.2.1
      have h0 := hI_.2.2.2.1
      have h1 := hI_.2.2.2.2.1
      have h2 := hI_.2.2.2.2.2.1
      have h3 := hI_.2.2.2.2.2.2.1
      have h4 := hI_.2.2.2.2.2.2.2.1
      have h5 := hI_.2.2.2.2.2.2.2.2.1
      have h6 := hI_.2.2.2.2.2.2.2.2.2.1
      have h7 := hI_.2.2.2.2.2.2.2.2.2.2.1
      have h8 := hI_.2.2.2.2.2.2.2.2.2.2.2.1
      have h9 := hI_.2.2.2.2.2.2.2.2.2.2.2.2.1
      have h10 := hI_.2.2.2.2.2.2.2.2.2.2.2.2.2.1
      have h11 := hI_.2.2.2.2.2.2.2.2.2.2.2.2.2.2.1
      have h12 := hI_.2.2.2.2.2.2.2.2.2.2.2.2.2.2.2.1
      have h13 := hI_.2.2.2.2.2.2.2.2.2.2.2.2.2.2.2.2.1
      have h14 := hI_.2.2.2.2.2.2.2.2.2.2.2.2.2.2.2.2.2.1
      have h15 := hI_.2.2.2.2.2.2.2.2.2.2.2.2.2.2.2.2.2.2.1
      have h16 := hI_.2.2.2.2.2.2.2.2.2.2.2.2.2.2.2.2.2.2.2.1
      have h17 := hI_.2.2.2.2.2.2.2.2.2.2.2.2.2.2.2.2.2.2.2.2
      have e0 := h0 (hd_ 1 0 (by kernel_rfl))
      have wE0 : Env w b3 b4 b5 b6 kind false text g0 c0 cap0 g1 c1 cap1 y0 y1 #[.slice B0 y0.length m0, .int .i64 cap0, .slice B1 y1.length m1, .int .i64 cap1] #[.slice none 0 0, .int .i64 0, .slice none 0 0, .int .i64 0] w_ := by rw [hd0_] at wE; exact wE
      have z0_ := (blk_cell wE0.e6 0).trans rfl
      have f0_ := blk_frozen wE0.e6 0
      have z1_ := (blk_cell wE0.e6 1).trans rfl
      have f1_ := blk_frozen wE0.e6 1
      have z2_ := (blk_cell wE0.e6 2).trans rfl
      have f2_ := blk_frozen wE0.e6 2
      have z3_ := (blk_cell wE0.e6 3).trans rfl
      have f3_ := blk_frozen wE0.e6 3
      rw [if_pos (by rfl)]
      go_simp
      exact hK.out _ undef _ (by simp only [Act.put, List.setIfInBounds_toArray, List.set_cons_zero, List.set_cons_succ, e0]) ⟨(wE0.w4 _ _ _ _), (wS0.w4 wE0.e6 _ _ _ _ _ _ _ _), (wS1.w4 wE0.e6 _ _ _ _ _ _ _ _), h0, h1, h2, h3, h4, h5, h6, h7, h8, h9, h10, h11, h12, h13, h14, h15, (fun _ => trivial), h17⟩
    · -- 17
      have e15 := hI_.2.2.2.2.2.2.2.2.2.2.2.2.2.2.2.2.2.2.1 (hd_ 1 15 (by kernel_rfl))
      refine val_ (w1 := w_) (v := .bool true) (by rfl) rfl ?_ (hK.out _ _ _ rfl ⟨hI_.1, hI_.2.1, hI_.2.2.1, hI_.2.2.2.1, hI_.2.2.2.2.1, hI_.2.2.2.2.2.1, hI_.2.2.2.2.2.2.1, hI_.2.2.2.2.2.2.2.1, hI_.2.2.2.2.2.2.2.2.1, hI_.2.2.2.2.2.2.2.2.2.1, hI_.2.2.2.2.2.2.2.2.2.2.1, hI_.2.2.2.2.2.2.2.2.2.2.2.1, hI_.2.2.2.2.2.2.2.2.2.2.2.2.1, hI_.2.2.2.2.2.2.2.2.2.2.2.2.2.1, hI_.2.2.2.2.2.2.2.2.2.2.2.2.2.2.1, hI_.2.2.2.2.2.2.2.2.2.2.2.2.2.2.2.1, hI_.2.2.2.2.2.2.2.2.2.2.2.2.2.2.2.2.1, hI_.2.2.2.2.2.2.2.2.2.2.2.2.2.2.2.2.2.1, hI_.2.2.2.2.2.2.2.2.2.2.2.2.2.2.2.2.2.2.1, hI_.2.2.2.2.2.2.2.2.2.2.2.2.2.2.2.2.2.2.2.1, (fun _ => rfl)⟩)
      go_simp
      all_goals (first | decide | rfl)
    intro dn_ X wz hdn_ hI_
    clear E0 S0 S1
    obtain ⟨wE, wS0, wS1, h0, h1, h2, h3, h4, h5, h6, h7, h8, h9, h10, h11, h12, h13, h14, h15, h16, h17⟩ := hI_
    have e17 := h17 (hdn_ 17 (by decide))
    rw [hdn_ 16 (by decide)] at wE
    have E0 := Aside0.mk (show Env w b3 b4 b5 b6 kind false text g0 c0 cap0 g1 c1 cap1 y0 y1 #[.slice B0 y0.length m0, .int .i64 cap0, .slice B1 y1.length m1, .int .i64 cap1] #[.slice B0 y0.length m0, .int .i64 cap0, .slice B1 y1.length m1, .int .i64 cap1] wz from wE)
    have S0 := Aside0.mk wS0
    have S1 := Aside0.mk wS1
    rw [e17]
    clear wE wS0 wS1 h0 h1 h2 h3 h4 h5 h6 h7 h8 h9 h10 h11 h12 h13 h14 h15 h16 h17 e17 hdn_
    go_wp2
    refine bodyPost_ret (results_list (rs := [.cell 6 42, .tmp 7]) rfl (by simp) (.cell b6 42 #[.slice B0 y0.length m0, .int .i64 cap0, .slice B1 y1.length m1, .int .i64 cap1] (0, 0) _ rfl E0.out.e6 Try.underlying42 rfl (by kernel_rfl) (.tmp .nil))) rfl ?_
    exact ⟨y0, y1, B0, m0, B1, m1, rfl, E0.out.q0, E0.out.q1, S0.out, S1.out, HL.out, E0.out.k⟩
end Go.Proofs.Ytdgeaadcidmmfaa
