/-
  An act on two queues and on the document's (written by gen_act.py).
-/
import Derived.Test.YtdgeaadcidmmfaaQPlaysEnv
namespace Go.Proofs.Ytdgeaadcidmmfaa
set_option linter.unusedVariables false
set_option linter.unusedSimpArgs false
open Go.Conc Go.RowKit Go.Proofs.YtdgeaadcidmmfaaW.PrintWords Go.Proofs.YtdgeaadcidmmfaaW.PrintLast Go.Proofs.YtdgeaadcidmmfaaW.PrintMore Go.Proofs.Ytdgeaadcidmmfaa.MQueuePlays
set_option maxHeartbeats 32000000 in
set_option maxRecDepth 100000 in
theorem act_03 (w : World) (g0 c0 cap0 g1 c1 cap1 : Nat) (l0 l1 : List ByteArray) (A0 : Option Addr) (n0 : Nat) (A1 : Option Addr) (n1 : Nat) (kind : Int) (text : ByteArray) (F : Far g0 c0 cap0 g1 c1 cap1) (hq0 : QL w g0 c0 cap0 l0) (hq1 : QL w g1 c1 cap1 l1) (hs0 : SR w A0 n0 l0) (hs1 : SR w A1 n1 l1) (hl : l0.length ≤ cap0 ∧ l1.length ≤ cap1) (hkk : (IntKind.u64.wrap kind).tmod 7 = 3) :
    Calls Try.prog 14 #[.agg #[.pointer (some ⟨g0, 0, none⟩), .pointer (some ⟨g1, 0, none⟩)], .agg #[.slice A0 l0.length n0, .int .i64 cap0, .slice A1 l1.length n1, .int .i64 cap1], .agg #[.int .i64 kind, .bool false, .string text]] w fun e w' => ∃ y0 y1 A0' n0' A1' n1', e = .returned (.tuple #[.agg #[.slice A0' (y0 : List ByteArray).length n0', .int .i64 cap0, .slice A1' (y1 : List ByteArray).length n1', .int .i64 cap1], .bool true]) ∧ QL w' g0 c0 cap0 y0 ∧ QL w' g1 c1 cap1 y1 ∧ SR w' A0' n0' y0 ∧ SR w' A1' n1' y1 ∧ (y0.length ≤ cap0 ∧ y1.length ≤ cap1) ∧ Kept w w' (fun k => k = c0 ∨ k = c1) := by
  have E0 := Aside0.mk (env_start A0 n0 A1 n1 kind false text F hq0 hq1)
  have hb := below_alloc (below_alloc (below_alloc (below_alloc (Below.refl w.heap.size w) (.cells #[.pointer (some ⟨g0, 0, none⟩), .pointer (some ⟨g1, 0, none⟩)] 38)) (.cells #[.slice A0 l0.length n0, .int .i64 cap0, .slice A1 l1.length n1, .int .i64 cap1] 42)) (.cells #[.int .i64 kind, .bool false, .string text] 48)) (.cells #[.slice none 0 0, .int .i64 0, .slice none 0 0, .int .i64 0] 42)
  have S0 := Aside0.mk (hs0.below hb)
  have S1 := Aside0.mk (hs1.below hb)
  have HM : Aside0 (cap0 ≤ 64 ∧ cap1 ≤ 64 ∧ l0.length ≤ cap0 ∧ l1.length ≤ cap1) := ⟨⟨F.m0, F.m1, hl⟩⟩
  clear hl F hq0 hq1 hs0 hs1 hb
  go_enter Try.func14, Try.ntmps14
  go_upto_block 0 with (fail)
  generalize ((((w.alloc (.cells #[.pointer (some ⟨g0, 0, none⟩), .pointer (some ⟨g1, 0, none⟩)] 38)).alloc (.cells #[.slice A0 l0.length n0, .int .i64 cap0, .slice A1 l1.length n1, .int .i64 cap1] 42)).alloc (.cells #[.int .i64 kind, .bool false, .string text] 48)).alloc (.cells #[.slice none 0 0, .int .i64 0, .slice none 0 0, .int .i64 0] 42)) = W1 at E0 S0 S1 ⊢
  generalize w.heap.size + 1 + 1 + 1 = b6 at E0 ⊢
  generalize w.heap.size + 1 + 1 = b5 at E0 ⊢
  generalize w.heap.size + 1 = b4 at E0 ⊢
  generalize w.heap.size = b3 at E0 ⊢
  try rw [hkk]
  clear hkk
  go_cut [9] (fun v9 wc => ∃ (y0 y1 : List ByteArray) (B0 : Option Addr) (m0 : Nat) (B1 : Option Addr) (m1 : Nat), v9 = .bool true ∧ Aside0 (Env w b3 b4 b5 b6 kind false text g0 c0 cap0 g1 c1 cap1 y0 y1 #[.slice B0 y0.length m0, .int .i64 cap0, .slice B1 y1.length m1, .int .i64 cap1] #[.slice none 0 0, .int .i64 0, .slice none 0 0, .int .i64 0] wc) ∧ Aside0 (SR wc B0 m0 y0) ∧ Aside0 (SR wc B1 m1 y1) ∧ Aside0 (y0.length ≤ cap0 ∧ y1.length ≤ cap1))
  case first =>
    obtain ⟨ya, hya⟩ : ∃ y, y = l0.tail := ⟨_, rfl⟩
    have HY := Aside0.mk hya
    have HYL : Aside0 (ya.length ≤ l0.length) := ⟨by rw [hya, List.length_tail]; omega⟩
    clear hya
    have z30 := (blk_cell E0.out.e3 0).trans rfl
    have z31 := (blk_cell E0.out.e3 1).trans rfl
    have z40 := (blk_cell E0.out.e4 0).trans rfl
    have f40 := blk_frozen E0.out.e4 0
    have z41 := (blk_cell E0.out.e4 1).trans rfl
    have f41 := blk_frozen E0.out.e4 1
    have z42 := (blk_cell E0.out.e4 2).trans rfl
    have f42 := blk_frozen E0.out.e4 2
    have z43 := (blk_cell E0.out.e4 3).trans rfl
    have f43 := blk_frozen E0.out.e4 3
    go_wp2_with (first | (go_at_call 25; with_reducible refine (refTake_c _ A0 n0 l0 cap0 S0.out (by have h := HM.out; omega)).mono ?_; rintro e w2 ⟨AN, nN, rfl, hs, hb⟩; rw [← HY.out] at hs ⊢; have SN := Aside0.mk hs; have E0 := Aside0.mk (E0.out.below hb); have S0 := Aside0.mk (S0.out.below hb); have S1 := Aside0.mk (S1.out.below hb); clear hs hb; have z30 := (blk_cell E0.out.e3 0).trans rfl; have z31 := (blk_cell E0.out.e3 1).trans rfl; have a30 := fun o => pw_cell_below (below_alloc (Below.refl _ _) o) z30; have a31 := fun o => pw_cell_below (below_alloc (Below.refl _ _) o) z31; have z40 := (blk_cell E0.out.e4 0).trans rfl; have f40 := blk_frozen E0.out.e4 0; have z41 := (blk_cell E0.out.e4 1).trans rfl; have f41 := blk_frozen E0.out.e4 1; have z42 := (blk_cell E0.out.e4 2).trans rfl; have f42 := blk_frozen E0.out.e4 2; have z43 := (blk_cell E0.out.e4 3).trans rfl; have f43 := blk_frozen E0.out.e4 3) | (go_at_call 17; with_reducible refine (peek_c _ g0 c0 cap0 l0 ((E0.out.below (below_alloc (Below.refl _ _) _)).q0) (by have h := HM.out; omega) (by have h := HM.out; omega)).mono ?_; rintro e w3 ⟨rfl, hq, hk⟩; have hb := below_alloc (Below.refl w2.heap.size w2) (.cells #[.slice AN ya.length nN, .int .i64 cap0] 41 (0, 0)); have EB := E0.out.below hb; have B11 := Aside0.mk (blk_kept (blk_new w2 (.cells #[.slice AN ya.length nN, .int .i64 cap0] 41 (0, 0))) hk (fun e_ => absurd EB.q0.lt.2 (by have h_ := E0.out.q0.lt.2; have e2_ : w2.heap.size = c0 := e_; omega))); have SN := Aside0.mk (SR.call EB (SN.out.below hb) hk (fun j_ h_ => .inl h_)); have S0 := Aside0.mk (SR.call EB (S0.out.below hb) hk (fun j_ h_ => .inl h_)); have S1 := Aside0.mk (SR.call EB (S1.out.below hb) hk (fun j_ h_ => .inl h_)); have E0 := Aside0.mk (EB.call0 hk hq); clear hq hk hb EB; have z30 := (blk_cell E0.out.e3 0).trans rfl; have z31 := (blk_cell E0.out.e3 1).trans rfl; have z40 := (blk_cell E0.out.e4 0).trans rfl; have f40 := blk_frozen E0.out.e4 0; have z41 := (blk_cell E0.out.e4 1).trans rfl; have f41 := blk_frozen E0.out.e4 1; have z42 := (blk_cell E0.out.e4 2).trans rfl; have f42 := blk_frozen E0.out.e4 2; have z43 := (blk_cell E0.out.e4 3).trans rfl; have f43 := blk_frozen E0.out.e4 3; have y0 := (blk_cell B11.out 0).trans rfl; have y1 := (blk_cell B11.out 1).trans rfl) | fail)
    go_meet
    case rel => exact ⟨l0, l1, A0, n0, A1, n1, rfl, ⟨E0.out⟩, ⟨S0.out⟩, ⟨S1.out⟩, ⟨by have h := HM.out; omega⟩⟩
  case rest =>
    clear E0 S0 S1
    obtain ⟨y0, y1, B0, m0, B1, m1, rfl, E0, S0, S1, HL⟩ := hcut
    go_wp2_with (fail)
    refine region_inv (T := ?T37) [some 267, some 268, some 269, some 270, some 271, some 272, some 273, some 274, some 275, some 276, some 277, some 278, some 279, some 280, some 281, some 282, none, some 7] ?hT37 (fun dn_ X w_ => Env w b3 b4 b5 b6 kind false text g0 c0 cap0 g1 c1 cap1 y0 y1 #[.slice B0 y0.length m0, .int .i64 cap0, .slice B1 y1.length m1, .int .i64 cap1] (bif dn_ 16 then #[.slice B0 y0.length m0, .int .i64 cap0, .slice B1 y1.length m1, .int .i64 cap1] else #[.slice none 0 0, .int .i64 0, .slice none 0 0, .int .i64 0]) w_ ∧ SR w_ B0 m0 y0 ∧ SR w_ B1 m1 y1 ∧ (dn_ 0 = true → X 0 = .agg #[.slice B0 y0.length m0, .int .i64 cap0, .slice B1 y1.length m1, .int .i64 cap1]) ∧ (dn_ 1 = true → X 1 = .bool true) ∧ (dn_ 2 = true → X 2 = .bool true) ∧ (dn_ 3 = true → X 3 = .pointer (some ⟨b3, 0, none⟩)) ∧ (dn_ 4 = true → X 4 = .pointer (some ⟨g0, 0, none⟩)) ∧ (dn_ 5 = true → X 5 = .pointer (some ⟨b4, 0, none⟩)) ∧ (dn_ 6 = true → X 6 = .agg #[.slice B0 y0.length m0, .int .i64 cap0]) ∧ (dn_ 7 = true → X 7 = .bool true) ∧ (dn_ 8 = true → X 8 = .bool true) ∧ (dn_ 9 = true → X 9 = .bool true) ∧ (dn_ 10 = true → X 10 = .pointer (some ⟨b3, 1, none⟩)) ∧ (dn_ 11 = true → X 11 = .pointer (some ⟨g1, 0, none⟩)) ∧ (dn_ 12 = true → X 12 = .pointer (some ⟨b4, 2, none⟩)) ∧ (dn_ 13 = true → X 13 = .agg #[.slice B1 y1.length m1, .int .i64 cap1]) ∧ (dn_ 14 = true → X 14 = .bool true) ∧ (dn_ 15 = true → X 15 = .bool true) ∧ (dn_ 16 = true → True) ∧ (dn_ 17 = true → X 17 = .bool true)) (by kernel_rfl) (by kernel_rfl) (by rfl) [0, 1, 2, 3, 4, 5, 6, 7, 8, 9, 10, 11, 12, 13, 14, 15, 16, 17] rfl (.cons (some 267) rfl rfl (fun dn_ X w_ hd0_ hd_ hI_ K hK => ?_) (.cons (some 268) rfl rfl (fun dn_ X w_ hd0_ hd_ hI_ K hK => ?_) (.cons (some 269) rfl rfl (fun dn_ X w_ hd0_ hd_ hI_ K hK => ?_) (.cons (some 270) rfl rfl (fun dn_ X w_ hd0_ hd_ hI_ K hK => ?_) (.cons (some 271) rfl rfl (fun dn_ X w_ hd0_ hd_ hI_ K hK => ?_) (.cons (some 272) rfl rfl (fun dn_ X w_ hd0_ hd_ hI_ K hK => ?_) (.cons (some 273) rfl rfl (fun dn_ X w_ hd0_ hd_ hI_ K hK => ?_) (.cons (some 274) rfl rfl (fun dn_ X w_ hd0_ hd_ hI_ K hK => ?_) (.cons (some 275) rfl rfl (fun dn_ X w_ hd0_ hd_ hI_ K hK => ?_) (.cons (some 276) rfl rfl (fun dn_ X w_ hd0_ hd_ hI_ K hK => ?_) (.cons (some 277) rfl rfl (fun dn_ X w_ hd0_ hd_ hI_ K hK => ?_) (.cons (some 278) rfl rfl (fun dn_ X w_ hd0_ hd_ hI_ K hK => ?_) (.cons (some 279) rfl rfl (fun dn_ X w_ hd0_ hd_ hI_ K hK => ?_) (.cons (some 280) rfl rfl (fun dn_ X w_ hd0_ hd_ hI_ K hK => ?_) (.cons (some 281) rfl rfl (fun dn_ X w_ hd0_ hd_ hI_ K hK => ?_) (.cons (some 282) rfl rfl (fun dn_ X w_ hd0_ hd_ hI_ K hK => ?_) (.cons none rfl rfl (fun dn_ X w_ hd0_ hd_ hI_ K hK => ?_) (.cons (some 7) rfl rfl (fun dn_ X w_ hd0_ hd_ hI_ K hK => ?_) .nil)))))))))))))))))) ?h037 ?hend37
    case hT37 =>
      intro X
      simp only [fill, Act.put, List.setIfInBounds_toArray, List.set_cons_zero, List.set_cons_succ, Nat.zero_add, Nat.reduceAdd]
      rfl
    case h037 =>
      exact ⟨E0.out.below (below_drew (Below.refl _ _)), S0.out.below (below_drew (Below.refl _ _)), S1.out.below (below_drew (Below.refl _ _)), noF, noF, noF, noF, noF, noF, noF, noF, noF, noF, noF, noF, noF, noF, noF, noF, noF, noF⟩
    · -- 0
      have wE := hI_.1
      have z0_ := (blk_cell wE.e4 0).trans rfl
      have z1_ := (blk_cell wE.e4 1).trans rfl
      have z2_ := (blk_cell wE.e4 2).trans rfl
      have z3_ := (blk_cell wE.e4 3).trans rfl
      refine val_ (w1 := w_) (v := .agg #[.slice B0 y0.length m0, .int .i64 cap0, .slice B1 y1.length m1, .int .i64 cap1]) (by rfl) rfl ?_ (hK.out _ _ _ rfl ⟨hI_.1, hI_.2.1, hI_.2.2.1, (fun _ => rfl), hI_.2.2.2.2.1, hI_.2.2.2.2.2.1, hI_.2.2.2.2.2.2.1, hI_.2.2.2.2.2.2.2.1, hI_.2.2.2.2.2.2.2.2.1, hI_.2.2.2.2.2.2.2.2.2.1, hI_.2.2.2.2.2.2.2.2.2.2.1, hI_.2.2.2.2.2.2.2.2.2.2.2.1, hI_.2.2.2.2.2.2.2.2.2.2.2.2.1, hI_.2.2.2.2.2.2.2.2.2.2.2.2.2.1, hI_.2.2.2.2.2.2.2.2.2.2.2.2.2.2.1, hI_.2.2.2.2.2.2.2.2.2.2.2.2.2.2.2.1, hI_.2.2.2.2.2.2.2.2.2.2.2.2.2.2.2.2.1, hI_.2.2.2.2.2.2.2.2.2.2.2.2.2.2.2.2.2.1, hI_.2.2.2.2.2.2.2.2.2.2.2.2.2.2.2.2.2.2.1, hI_.2.2.2.2.2.2.2.2.2.2.2.2.2.2.2.2.2.2.2.1, hI_.2.2.2.2.2.2.2.2.2.2.2.2.2.2.2.2.2.2.2.2⟩)
      go_simp
      all_goals (first | decide | rfl)
    · -- 1
      refine val_ (w1 := w_) (v := .bool true) (by rfl) rfl ?_ (hK.out _ _ _ rfl ⟨hI_.1, hI_.2.1, hI_.2.2.1, hI_.2.2.2.1, (fun _ => rfl), hI_.2.2.2.2.2.1, hI_.2.2.2.2.2.2.1, hI_.2.2.2.2.2.2.2.1, hI_.2.2.2.2.2.2.2.2.1, hI_.2.2.2.2.2.2.2.2.2.1, hI_.2.2.2.2.2.2.2.2.2.2.1, hI_.2.2.2.2.2.2.2.2.2.2.2.1, hI_.2.2.2.2.2.2.2.2.2.2.2.2.1, hI_.2.2.2.2.2.2.2.2.2.2.2.2.2.1, hI_.2.2.2.2.2.2.2.2.2.2.2.2.2.2.1, hI_.2.2.2.2.2.2.2.2.2.2.2.2.2.2.2.1, hI_.2.2.2.2.2.2.2.2.2.2.2.2.2.2.2.2.1, hI_.2.2.2.2.2.2.2.2.2.2.2.2.2.2.2.2.2.1, hI_.2.2.2.2.2.2.2.2.2.2.2.2.2.2.2.2.2.2.1, hI_.2.2.2.2.2.2.2.2.2.2.2.2.2.2.2.2.2.2.2.1, hI_.2.2.2.2.2.2.2.2.2.2.2.2.2.2.2.2.2.2.2.2⟩)
      go_simp
      all_goals (first | decide | rfl)
    · -- 2
      have e1 := hI_.2.2.2.2.1 (hd_ 1 1 (by kernel_rfl))
      refine val_ (w1 := w_) (v := .bool true) (by rfl) rfl ?_ (hK.out _ _ _ rfl ⟨hI_.1, hI_.2.1, hI_.2.2.1, hI_.2.2.2.1, hI_.2.2.2.2.1, (fun _ => rfl), hI_.2.2.2.2.2.2.1, hI_.2.2.2.2.2.2.2.1, hI_.2.2.2.2.2.2.2.2.1, hI_.2.2.2.2.2.2.2.2.2.1, hI_.2.2.2.2.2.2.2.2.2.2.1, hI_.2.2.2.2.2.2.2.2.2.2.2.1, hI_.2.2.2.2.2.2.2.2.2.2.2.2.1, hI_.2.2.2.2.2.2.2.2.2.2.2.2.2.1, hI_.2.2.2.2.2.2.2.2.2.2.2.2.2.2.1, hI_.2.2.2.2.2.2.2.2.2.2.2.2.2.2.2.1, hI_.2.2.2.2.2.2.2.2.2.2.2.2.2.2.2.2.1, hI_.2.2.2.2.2.2.2.2.2.2.2.2.2.2.2.2.2.1, hI_.2.2.2.2.2.2.2.2.2.2.2.2.2.2.2.2.2.2.1, hI_.2.2.2.2.2.2.2.2.2.2.2.2.2.2.2.2.2.2.2.1, hI_.2.2.2.2.2.2.2.2.2.2.2.2.2.2.2.2.2.2.2.2⟩)
      go_simp
      all_goals (first | decide | rfl)
    · -- 3
      have e2 := hI_.2.2.2.2.2.1 (hd_ 1 2 (by kernel_rfl))
      refine val_ (w1 := w_) (v := .pointer (some ⟨b3, 0, none⟩)) (wanted_of rfl rfl (congrArg some e2)) rfl ?_ (hK.out _ _ _ rfl ⟨hI_.1, hI_.2.1, hI_.2.2.1, hI_.2.2.2.1, hI_.2.2.2.2.1, hI_.2.2.2.2.2.1, (fun _ => rfl), hI_.2.2.2.2.2.2.2.1, hI_.2.2.2.2.2.2.2.2.1, hI_.2.2.2.2.2.2.2.2.2.1, hI_.2.2.2.2.2.2.2.2.2.2.1, hI_.2.2.2.2.2.2.2.2.2.2.2.1, hI_.2.2.2.2.2.2.2.2.2.2.2.2.1, hI_.2.2.2.2.2.2.2.2.2.2.2.2.2.1, hI_.2.2.2.2.2.2.2.2.2.2.2.2.2.2.1, hI_.2.2.2.2.2.2.2.2.2.2.2.2.2.2.2.1, hI_.2.2.2.2.2.2.2.2.2.2.2.2.2.2.2.2.1, hI_.2.2.2.2.2.2.2.2.2.2.2.2.2.2.2.2.2.1, hI_.2.2.2.2.2.2.2.2.2.2.2.2.2.2.2.2.2.2.1, hI_.2.2.2.2.2.2.2.2.2.2.2.2.2.2.2.2.2.2.2.1, hI_.2.2.2.2.2.2.2.2.2.2.2.2.2.2.2.2.2.2.2.2⟩)
      go_simp
      all_goals (first | decide | rfl)
    · -- 4
      have wE := hI_.1
      have e2 := hI_.2.2.2.2.2.1 (hd_ 1 2 (by kernel_rfl))
      have e3 := hI_.2.2.2.2.2.2.1 (hd_ 1 3 (by kernel_rfl))
      have z0_ := (blk_cell wE.e3 0).trans rfl
      refine val_ (w1 := w_) (v := .pointer (some ⟨g0, 0, none⟩)) (wanted_of rfl rfl (congrArg some e2)) rfl ?_ (hK.out _ _ _ rfl ⟨hI_.1, hI_.2.1, hI_.2.2.1, hI_.2.2.2.1, hI_.2.2.2.2.1, hI_.2.2.2.2.2.1, hI_.2.2.2.2.2.2.1, (fun _ => rfl), hI_.2.2.2.2.2.2.2.2.1, hI_.2.2.2.2.2.2.2.2.2.1, hI_.2.2.2.2.2.2.2.2.2.2.1, hI_.2.2.2.2.2.2.2.2.2.2.2.1, hI_.2.2.2.2.2.2.2.2.2.2.2.2.1, hI_.2.2.2.2.2.2.2.2.2.2.2.2.2.1, hI_.2.2.2.2.2.2.2.2.2.2.2.2.2.2.1, hI_.2.2.2.2.2.2.2.2.2.2.2.2.2.2.2.1, hI_.2.2.2.2.2.2.2.2.2.2.2.2.2.2.2.2.1, hI_.2.2.2.2.2.2.2.2.2.2.2.2.2.2.2.2.2.1, hI_.2.2.2.2.2.2.2.2.2.2.2.2.2.2.2.2.2.2.1, hI_.2.2.2.2.2.2.2.2.2.2.2.2.2.2.2.2.2.2.2.1, hI_.2.2.2.2.2.2.2.2.2.2.2.2.2.2.2.2.2.2.2.2⟩)
      go_simp
      all_goals (first | decide | rfl)
    · -- 5
      have e2 := hI_.2.2.2.2.2.1 (hd_ 1 2 (by kernel_rfl))
      refine val_ (w1 := w_) (v := .pointer (some ⟨b4, 0, none⟩)) (wanted_of rfl rfl (congrArg some e2)) rfl ?_ (hK.out _ _ _ rfl ⟨hI_.1, hI_.2.1, hI_.2.2.1, hI_.2.2.2.1, hI_.2.2.2.2.1, hI_.2.2.2.2.2.1, hI_.2.2.2.2.2.2.1, hI_.2.2.2.2.2.2.2.1, (fun _ => rfl), hI_.2.2.2.2.2.2.2.2.2.1, hI_.2.2.2.2.2.2.2.2.2.2.1, hI_.2.2.2.2.2.2.2.2.2.2.2.1, hI_.2.2.2.2.2.2.2.2.2.2.2.2.1, hI_.2.2.2.2.2.2.2.2.2.2.2.2.2.1, hI_.2.2.2.2.2.2.2.2.2.2.2.2.2.2.1, hI_.2.2.2.2.2.2.2.2.2.2.2.2.2.2.2.1, hI_.2.2.2.2.2.2.2.2.2.2.2.2.2.2.2.2.1, hI_.2.2.2.2.2.2.2.2.2.2.2.2.2.2.2.2.2.1, hI_.2.2.2.2.2.2.2.2.2.2.2.2.2.2.2.2.2.2.1, hI_.2.2.2.2.2.2.2.2.2.2.2.2.2.2.2.2.2.2.2.1, hI_.2.2.2.2.2.2.2.2.2.2.2.2.2.2.2.2.2.2.2.2⟩)
      go_simp
      all_goals (first | decide | rfl)
    · -- 6
      have wE := hI_.1
      have e2 := hI_.2.2.2.2.2.1 (hd_ 1 2 (by kernel_rfl))
      have e5 := hI_.2.2.2.2.2.2.2.2.1 (hd_ 1 5 (by kernel_rfl))
      have z0_ := (blk_cell wE.e4 0).trans rfl
      have z1_ := (blk_cell wE.e4 1).trans rfl
      refine val_ (w1 := w_) (v := .agg #[.slice B0 y0.length m0, .int .i64 cap0]) (wanted_of rfl rfl (congrArg some e2)) rfl ?_ (hK.out _ _ _ rfl ⟨hI_.1, hI_.2.1, hI_.2.2.1, hI_.2.2.2.1, hI_.2.2.2.2.1, hI_.2.2.2.2.2.1, hI_.2.2.2.2.2.2.1, hI_.2.2.2.2.2.2.2.1, hI_.2.2.2.2.2.2.2.2.1, (fun _ => rfl), hI_.2.2.2.2.2.2.2.2.2.2.1, hI_.2.2.2.2.2.2.2.2.2.2.2.1, hI_.2.2.2.2.2.2.2.2.2.2.2.2.1, hI_.2.2.2.2.2.2.2.2.2.2.2.2.2.1, hI_.2.2.2.2.2.2.2.2.2.2.2.2.2.2.1, hI_.2.2.2.2.2.2.2.2.2.2.2.2.2.2.2.1, hI_.2.2.2.2.2.2.2.2.2.2.2.2.2.2.2.2.1, hI_.2.2.2.2.2.2.2.2.2.2.2.2.2.2.2.2.2.1, hI_.2.2.2.2.2.2.2.2.2.2.2.2.2.2.2.2.2.2.1, hI_.2.2.2.2.2.2.2.2.2.2.2.2.2.2.2.2.2.2.2.1, hI_.2.2.2.2.2.2.2.2.2.2.2.2.2.2.2.2.2.2.2.2⟩)
      go_simp
      all_goals (first | decide | rfl)
    · -- 7
      have wE := hI_.1
      have wS0 := hI_.2.1
      have wS1 := hI_.2.2.1
      have h0 := hI_.2.2.2.1
      have h1 := hI_.2.2.2.2.1
      have h2 := hI_.2.2.2.2.2.1
      have h3 := hI_.2.2.2.2.2.2.1
      have h4 := hI_.2.2.2.2.2.2.2.1
      have h5 := hI_.2.2.2.2.2.2.2.2.1
      have h6 := hI_.2.2.2.2.2.2.2.2.2.1
      have h7 := hI_.2.2.2.2.2.2.2.2.2.2.1
      have h8 := hI_.2.2.2.2.2.2.2.2.2.2.2.1
      have h9 := hI_.2.2.2.2.2.2.2.2.2.2.2.2.1
      have h10 := hI_.2.2.2.2.2.2.2.2.2.2.2.2.2.1
      have h11 := hI_.2.2.2.2.2.2.2.2.2.2.2.2.2.2.1
      have h12 := hI_.2.2.2.2.2.2.2.2.2.2.2.2.2.2.2.1
      have h13 := hI_.2.2.2.2.2.2.2.2.2.2.2.2.2.2.2.2.1
      have h14 := hI_.2.2.2.2.2.2.2.2.2.2.2.2.2.2.2.2.2.1
      have h15 := hI_.2.2.2.2.2.2.2.2.2.2.2.2.2.2.2.2.2.2.1
      have h16 := hI_.2.2.2.2.2.2.2.2.2.2.2.2.2.2.2.2.2.2.2.1
      have h17 := hI_.2.2.2.2.2.2.2.2.2.2.2.2.2.2.2.2.2.2.2.2
      have e2 := h2 (hd_ 1 2 (by kernel_rfl))
      have e4 := h4 (hd_ 1 4 (by kernel_rfl))
      have e6 := h6 (hd_ 1 6 (by kernel_rfl))
      refine goes_ Try.func28 (by kernel_rfl) rfl #[X 4, X 6] (wanted_of rfl rfl (congrArg some e2)) rfl rfl (by simp only [List.map_toArray, List.map_cons, List.map_nil]; rfl) ?_
      refine calls_args (args2 e4 e6) ?_
      refine (same_c w_ g0 c0 cap0 B0 m0 y0 wE.q0 wS0 HL.out.1 (by have h := HM.out; omega)).mono ?_
      rintro e w' ⟨rfl, hq, hk⟩
      exact ⟨_, rfl, hK.out _ _ _ rfl ⟨(wE.call0 hk hq), (SR.call wE wS0 hk (fun j_ h_ => .inl h_)), (SR.call wE wS1 hk (fun j_ h_ => .inl h_)), h0, h1, h2, h3, h4, h5, h6, (fun _ => rfl), h8, h9, h10, h11, h12, h13, h14, h15, h16, h17⟩⟩
    · -- 8
      have e2 := hI_.2.2.2.2.2.1 (hd_ 1 2 (by kernel_rfl))
      have e7 := hI_.2.2.2.2.2.2.2.2.2.2.1 (hd_ 1 7 (by kernel_rfl))
      refine val_ (w1 := w_) (v := .bool true) (by rfl) rfl ?_ (hK.out _ _ _ rfl ⟨hI_.1, hI_.2.1, hI_.2.2.1, hI_.2.2.2.1, hI_.2.2.2.2.1, hI_.2.2.2.2.2.1, hI_.2.2.2.2.2.2.1, hI_.2.2.2.2.2.2.2.1, hI_.2.2.2.2.2.2.2.2.1, hI_.2.2.2.2.2.2.2.2.2.1, hI_.2.2.2.2.2.2.2.2.2.2.1, (fun _ => rfl), hI_.2.2.2.2.2.2.2.2.2.2.2.2.1, hI_.2.2.2.2.2.2.2.2.2.2.2.2.2.1, hI_.2.2.2.2.2.2.2.2.2.2.2.2.2.2.1, hI_.2.2.2.2.2.2.2.2.2.2.2.2.2.2.2.1, hI_.2.2.2.2.2.2.2.2.2.2.2.2.2.2.2.2.1, hI_.2.2.2.2.2.2.2.2.2.2.2.2.2.2.2.2.2.1, hI_.2.2.2.2.2.2.2.2.2.2.2.2.2.2.2.2.2.2.1, hI_.2.2.2.2.2.2.2.2.2.2.2.2.2.2.2.2.2.2.2.1, hI_.2.2.2.2.2.2.2.2.2.2.2.2.2.2.2.2.2.2.2.2⟩)
      go_simp
      all_goals (first | decide | rfl)
    · -- 9
      have e8 := hI_.2.2.2.2.2.2.2.2.2.2.2.1 (hd_ 1 8 (by kernel_rfl))
      refine val_ (w1 := w_) (v := .bool true) (by rfl) rfl ?_ (hK.out _ _ _ rfl ⟨hI_.1, hI_.2.1, hI_.2.2.1, hI_.2.2.2.1, hI_.2.2.2.2.1, hI_.2.2.2.2.2.1, hI_.2.2.2.2.2.2.1, hI_.2.2.2.2.2.2.2.1, hI_.2.2.2.2.2.2.2.2.1, hI_.2.2.2.2.2.2.2.2.2.1, hI_.2.2.2.2.2.2.2.2.2.2.1, hI_.2.2.2.2.2.2.2.2.2.2.2.1, (fun _ => rfl), hI_.2.2.2.2.2.2.2.2.2.2.2.2.2.1, hI_.2.2.2.2.2.2.2.2.2.2.2.2.2.2.1, hI_.2.2.2.2.2.2.2.2.2.2.2.2.2.2.2.1, hI_.2.2.2.2.2.2.2.2.2.2.2.2.2.2.2.2.1, hI_.2.2.2.2.2.2.2.2.2.2.2.2.2.2.2.2.2.1, hI_.2.2.2.2.2.2.2.2.2.2.2.2.2.2.2.2.2.2.1, hI_.2.2.2.2.2.2.2.2.2.2.2.2.2.2.2.2.2.2.2.1, hI_.2.2.2.2.2.2.2.2.2.2.2.2.2.2.2.2.2.2.2.2⟩)
      go_simp
      all_goals (first | decide | rfl)
    · -- 10
      have e9 := hI_.2.2.2.2.2.2.2.2.2.2.2.2.1 (hd_ 1 9 (by kernel_rfl))
      refine val_ (w1 := w_) (v := .pointer (some ⟨b3, 1, none⟩)) (wanted_of rfl rfl (congrArg some e9)) rfl ?_ (hK.out _ _ _ rfl ⟨hI_.1, hI_.2.1, hI_.2.2.1, hI_.2.2.2.1, hI_.2.2.2.2.1, hI_.2.2.2.2.2.1, hI_.2.2.2.2.2.2.1, hI_.2.2.2.2.2.2.2.1, hI_.2.2.2.2.2.2.2.2.1, hI_.2.2.2.2.2.2.2.2.2.1, hI_.2.2.2.2.2.2.2.2.2.2.1, hI_.2.2.2.2.2.2.2.2.2.2.2.1, hI_.2.2.2.2.2.2.2.2.2.2.2.2.1, (fun _ => rfl), hI_.2.2.2.2.2.2.2.2.2.2.2.2.2.2.1, hI_.2.2.2.2.2.2.2.2.2.2.2.2.2.2.2.1, hI_.2.2.2.2.2.2.2.2.2.2.2.2.2.2.2.2.1, hI_.2.2.2.2.2.2.2.2.2.2.2.2.2.2.2.2.2.1, hI_.2.2.2.2.2.2.2.2.2.2.2.2.2.2.2.2.2.2.1, hI_.2.2.2.2.2.2.2.2.2.2.2.2.2.2.2.2.2.2.2.1, hI_.2.2.2.2.2.2.2.2.2.2.2.2.2.2.2.2.2.2.2.2⟩)
      go_simp
      all_goals (first | decide | rfl)
    · -- 11
      have wE := hI_.1
      have e9 := hI_.2.2.2.2.2.2.2.2.2.2.2.2.1 (hd_ 1 9 (by kernel_rfl))
      have e10 := hI_.2.2.2.2.2.2.2.2.2.2.2.2.2.1 (hd_ 1 10 (by kernel_rfl))
      have z0_ := (blk_cell wE.e3 1).trans rfl
      refine val_ (w1 := w_) (v := .pointer (some ⟨g1, 0, none⟩)) (wanted_of rfl rfl (congrArg some e9)) rfl ?_ (hK.out _ _ _ rfl ⟨hI_.1, hI_.2.1, hI_.2.2.1, hI_.2.2.2.1, hI_.2.2.2.2.1, hI_.2.2.2.2.2.1, hI_.2.2.2.2.2.2.1, hI_.2.2.2.2.2.2.2.1, hI_.2.2.2.2.2.2.2.2.1, hI_.2.2.2.2.2.2.2.2.2.1, hI_.2.2.2.2.2.2.2.2.2.2.1, hI_.2.2.2.2.2.2.2.2.2.2.2.1, hI_.2.2.2.2.2.2.2.2.2.2.2.2.1, hI_.2.2.2.2.2.2.2.2.2.2.2.2.2.1, (fun _ => rfl), hI_.2.2.2.2.2.2.2.2.2.2.2.2.2.2.2.1, hI_.2.2.2.2.2.2.2.2.2.2.2.2.2.2.2.2.1, hI_.2.2.2.2.2.2.2.2.2.2.2.2.2.2.2.2.2.1, hI_.2.2.2.2.2.2.2.2.2.2.2.2.2.2.2.2.2.2.1, hI_.2.2.2.2.2.2.2.2.2.2.2.2.2.2.2.2.2.2.2.1, hI_.2.2.2.2.2.2.2.2.2.2.2.2.2.2.2.2.2.2.2.2⟩)
      go_simp
      all_goals (first | decide | rfl)
    · -- 12
      have e9 := hI_.2.2.2.2.2.2.2.2.2.2.2.2.1 (hd_ 1 9 (by kernel_rfl))
      refine val_ (w1 := w_) (v := .pointer (some ⟨b4, 2, none⟩)) (wanted_of rfl rfl (congrArg some e9)) rfl ?_ (hK.out _ _ _ rfl ⟨hI_.1, hI_.2.1, hI_.2.2.1, hI_.2.2.2.1, hI_.2.2.2.2.1, hI_.2.2.2.2.2.1, hI_.2.2.2.2.2.2.1, hI_.2.2.2.2.2.2.2.1, hI_.2.2.2.2.2.2.2.2.1, hI_.2.2.2.2.2.2.2.2.2.1, hI_.2.2.2.2.2.2.2.2.2.2.1, hI_.2.2.2.2.2.2.2.2.2.2.2.1, hI_.2.2.2.2.2.2.2.2.2.2.2.2.1, hI_.2.2.2.2.2.2.2.2.2.2.2.2.2.1, hI_.2.2.2.2.2.2.2.2.2.2.2.2.2.2.1, (fun _ => rfl), hI_.2.2.2.2.2.2.2.2.2.2.2.2.2.2.2.2.1, hI_.2.2.2.2.2.2.2.2.2.2.2.2.2.2.2.2.2.1, hI_.2.2.2.2.2.2.2.2.2.2.2.2.2.2.2.2.2.2.1, hI_.2.2.2.2.2.2.2.2.2.2.2.2.2.2.2.2.2.2.2.1, hI_.2.2.2.2.2.2.2.2.2.2.2.2.2.2.2.2.2.2.2.2⟩)
      go_simp
      all_goals (first | decide | rfl)
    · -- 13
      have wE := hI_.1
      have e9 := hI_.2.2.2.2.2.2.2.2.2.2.2.2.1 (hd_ 1 9 (by kernel_rfl))
      have e12 := hI_.2.2.2.2.2.2.2.2.2.2.2.2.2.2.2.1 (hd_ 1 12 (by kernel_rfl))
      have z0_ := (blk_cell wE.e4 2).trans rfl
      have z1_ := (blk_cell wE.e4 3).trans rfl
      refine val_ (w1 := w_) (v := .agg #[.slice B1 y1.length m1, .int .i64 cap1]) (wanted_of rfl rfl (congrArg some e9)) rfl ?_ (hK.out _ _ _ rfl ⟨hI_.1, hI_.2.1, hI_.2.2.1, hI_.2.2.2.1, hI_.2.2.2.2.1, hI_.2.2.2.2.2.1, hI_.2.2.2.2.2.2.1, hI_.2.2.2.2.2.2.2.1, hI_.2.2.2.2.2.2.2.2.1, hI_.2.2.2.2.2.2.2.2.2.1, hI_.2.2.2.2.2.2.2.2.2.2.1, hI_.2.2.2.2.2.2.2.2.2.2.2.1, hI_.2.2.2.2.2.2.2.2.2.2.2.2.1, hI_.2.2.2.2.2.2.2.2.2.2.2.2.2.1, hI_.2.2.2.2.2.2.2.2.2.2.2.2.2.2.1, hI_.2.2.2.2.2.2.2.2.2.2.2.2.2.2.2.1, (fun _ => rfl), hI_.2.2.2.2.2.2.2.2.2.2.2.2.2.2.2.2.2.1, hI_.2.2.2.2.2.2.2.2.2.2.2.2.2.2.2.2.2.2.1, hI_.2.2.2.2.2.2.2.2.2.2.2.2.2.2.2.2.2.2.2.1, hI_.2.2.2.2.2.2.2.2.2.2.2.2.2.2.2.2.2.2.2.2⟩)
      go_simp
      all_goals (first | decide | rfl)
    · -- 14
      have wE := hI_.1
      have wS0 := hI_.2.1
      have wS1 := hI_.2.2.1
      have h0 := hI_.2.2.2.1
      have h1 := hI_.2.2.2.2.1
      have h2 := hI_.2.2.2.2.2.1
      have h3 := hI_.2.2.2.2.2.2.1
      have h4 := hI_.2.2.2.2.2.2.2.1
      have h5 := hI_.2.2.2.2.2.2.2.2.1
      have h6 := hI_.2.2.2.2.2.2.2.2.2.1
      have h7 := hI_.2.2.2.2.2.2.2.2.2.2.1
      have h8 := hI_.2.2.2.2.2.2.2.2.2.2.2.1
      have h9 := hI_.2.2.2.2.2.2.2.2.2.2.2.2.1
      have h10 := hI_.2.2.2.2.2.2.2.2.2.2.2.2.2.1
      have h11 := hI_.2.2.2.2.2.2.2.2.2.2.2.2.2.2.1
      have h12 := hI_.2.2.2.2.2.2.2.2.2.2.2.2.2.2.2.1
      have h13 := hI_.2.2.2.2.2.2.2.2.2.2.2.2.2.2.2.2.1
      have h14 := hI_.2.2.2.2.2.2.2.2.2.2.2.2.2.2.2.2.2.1
      have h15 := hI_.2.2.2.2.2.2.2.2.2.2.2.2.2.2.2.2.2.2.1
      have h16 := hI_.2.2.2.2.2.2.2.2.2.2.2.2.2.2.2.2.2.2.2.1
      have h17 := hI_.2.2.2.2.2.2.2.2.2.2.2.2.2.2.2.2.2.2.2.2
      have e9 := h9 (hd_ 1 9 (by kernel_rfl))
      have e11 := h11 (hd_ 1 11 (by kernel_rfl))
      have e13 := h13 (hd_ 1 13 (by kernel_rfl))
      refine goes_ Try.func28 (by kernel_rfl) rfl #[X 11, X 13] (wanted_of rfl rfl (congrArg some e9)) rfl rfl (by simp only [List.map_toArray, List.map_cons, List.map_nil]; rfl) ?_
      refine calls_args (args2 e11 e13) ?_
      refine (same_c w_ g1 c1 cap1 B1 m1 y1 wE.q1 wS1 HL.out.2 (by have h := HM.out; omega)).mono ?_
      rintro e w' ⟨rfl, hq, hk⟩
      exact ⟨_, rfl, hK.out _ _ _ rfl ⟨(wE.call1 hk hq), (SR.call wE wS0 hk (fun j_ h_ => .inr h_)), (SR.call wE wS1 hk (fun j_ h_ => .inr h_)), h0, h1, h2, h3, h4, h5, h6, h7, h8, h9, h10, h11, h12, h13, (fun _ => rfl), h15, h16, h17⟩⟩
    · -- 15
      have e9 := hI_.2.2.2.2.2.2.2.2.2.2.2.2.1 (hd_ 1 9 (by kernel_rfl))
      have e14 := hI_.2.2.2.2.2.2.2.2.2.2.2.2.2.2.2.2.2.1 (hd_ 1 14 (by kernel_rfl))
      refine val_ (w1 := w_) (v := .bool true) (by rfl) rfl ?_ (hK.out _ _ _ rfl ⟨hI_.1, hI_.2.1, hI_.2.2.1, hI_.2.2.2.1, hI_.2.2.2.2.1, hI_.2.2.2.2.2.1, hI_.2.2.2.2.2.2.1, hI_.2.2.2.2.2.2.2.1, hI_.2.2.2.2.2.2.2.2.1, hI_.2.2.2.2.2.2.2.2.2.1, hI_.2.2.2.2.2.2.2.2.2.2.1, hI_.2.2.2.2.2.2.2.2.2.2.2.1, hI_.2.2.2.2.2.2.2.2.2.2.2.2.1, hI_.2.2.2.2.2.2.2.2.2.2.2.2.2.1, hI_.2.2.2.2.2.2.2.2.2.2.2.2.2.2.1, hI_.2.2.2.2.2.2.2.2.2.2.2.2.2.2.2.1, hI_.2.2.2.2.2.2.2.2.2.2.2.2.2.2.2.2.1, hI_.2.2.2.2.2.2.2.2.2.2.2.2.2.2.2.2.2.1, (fun _ => rfl), hI_.2.2.2.2.2.2.2.2.2.2.2.2.2.2.2.2.2.2.2.1, hI_.2.2.2.2.2.2.2.2.2.2.2.2.2.2.2.2.2.2.2.2⟩)
      go_simp
      all_goals (first | decide | rfl)
    · -- 16
      have wE := hI_.1
      have wS0 := hI_.2.1
      have wS1 := hI_.2.2.1
      have h0 := hI_.2.2.2.1
      have h1 := hI_.2.2.2.2.1
      have h2 := hI_.2.2.2.2.2.1
      have h3 := hI_.2.2.2.2.2.2.1
      have h4 := hI_.2.2.2.2.2.2.2.1
      have h5 := hI_.2.2.2.2.2.2.2.2.1
      have h6 := hI_.2.2.2.2.2.2.2.2.2.1
      have h7 := hI_.2.2.2.2.2.2.2.2.2.2.1
      have h8 := hI_.2.2.2.2.2.2.2.2.2.2.2.1
      have h9 := hI_.2.2.2.2.2.2.2.2.2.2.2.2.1
      have h10 := hI_.2.2.2.2.2.2.2.2.2.2.2.2.2.1
      have h11 := hI_.2.2.2.2.2.2.2.2.2.2.2.2.2.2.1
      have h12 := hI_.2.2.2.2.2.2.2.2.2.2.2.2.2.2.2.1
      have h13 := hI_.2.2.2.2.2.2.2.2.2.2.2.2.2.2.2.2.1
      have h14 := hI_.2.2.2.2.2.2.2.2.2.2.2.2.2.2.2.2.2.1
      have h15 := hI_.2.2.2.2.2.2.2.2.2.2.2.2.2.2.2.2.2.2.1
      have h16 := hI_.2.2.2.2.2.2.2.2.2.2.2.2.2.2.2.2.2.2.2.1
      have h17 := hI_.2.2.2.2.2.2.2.2.2.2.2.2.2.2.2.2.2.2.2.2
      have e0 := h0 (hd_ 1 0 (by kernel_rfl))
      have wE0 : Env w b3 b4 b5 b6 kind false text g0 c0 cap0 g1 c1 cap1 y0 y1 #[.slice B0 y0.length m0, .int .i64 cap0, .slice B1 y1.length m1, .int .i64 cap1] #[.slice none 0 0, .int .i64 0, .slice none 0 0, .int .i64 0] w_ := by rw [hd0_] at wE; exact wE
      have z0_ := (blk_cell wE0.e6 0).trans rfl
      have f0_ := blk_frozen wE0.e6 0
      have z1_ := (blk_cell wE0.e6 1).trans rfl
      have f1_ := blk_frozen wE0.e6 1
      have z2_ := (blk_cell wE0.e6 2).trans rfl
      have f2_ := blk_frozen wE0.e6 2
      have z3_ := (blk_cell wE0.e6 3).trans rfl
      have f3_ := blk_frozen wE0.e6 3
      rw [if_pos (by rfl)]
      go_simp
      exact hK.out _ undef _ (by simp only [Act.put, List.setIfInBounds_toArray, List.set_cons_zero, List.set_cons_succ, e0]) ⟨(wE0.w4 _ _ _ _), (wS0.w4 wE0.e6 _ _ _ _ _ _ _ _), (wS1.w4 wE0.e6 _ _ _ _ _ _ _ _), h0, h1, h2, h3, h4, h5, h6, h7, h8, h9, h10, h11, h12, h13, h14, h15, (fun _ => trivial), h17⟩
    · -- 17
      have e15 := hI_.2.2.2.2.2.2.2.2.2.2.2.2.2.2.2.2.2.2.1 (hd_ 1 15 (by kernel_rfl))
      refine val_ (w1 := w_) (v := .bool true) (by rfl) rfl ?_ (hK.out _ _ _ rfl ⟨hI_.1, hI_.2.1, hI_.2.2.1, hI_.2.2.2.1, hI_.2.2.2.2.1, hI_.2.2.2.2.2.1, hI_.2.2.2.2.2.2.1, hI_.2.2.2.2.2.2.2.1, hI_.2.2.2.2.2.2.2.2.1, hI_.2.2.2.2.2.2.2.2.2.1, hI_.2.2.2.2.2.2.2.2.2.2.1, hI_.2.2.2.2.2.2.2.2.2.2.2.1, hI_.2.2.2.2.2.2.2.2.2.2.2.2.1, hI_.2.2.2.2.2.2.2.2.2.2.2.2.2.1, hI_.2.2.2.2.2.2.2.2.2.2.2.2.2.2.1, hI_.2.2.2.2.2.2.2.2.2.2.2.2.2.2.2.1, hI_.2.2.2.2.2.2.2.2.2.2.2.2.2.2.2.2.1, hI_.2.2.2.2.2.2.2.2.2.2.2.2.2.2.2.2.2.1, hI_.2.2.2.2.2.2.2.2.2.2.2.2.2.2.2.2.2.2.1, hI_.2.2.2.2.2.2.2.2.2.2.2.2.2.2.2.2.2.2.2.1, (fun _ => rfl)⟩)
      go_simp
      all_goals (first | decide | rfl)
    intro dn_ X wz hdn_ hI_
    clear E0 S0 S1
    obtain ⟨wE, wS0, wS1, h0, h1, h2, h3, h4, h5, h6, h7, h8, h9, h10, h11, h12, h13, h14, h15, h16, h17⟩ := hI_
    have e17 := h17 (hdn_ 17 (by decide))
    rw [hdn_ 16 (by decide)] at wE
    have E0 := Aside0.mk (show Env w b3 b4 b5 b6 kind false text g0 c0 cap0 g1 c1 cap1 y0 y1 #[.slice B0 y0.length m0, .int .i64 cap0, .slice B1 y1.length m1, .int .i64 cap1] #[.slice B0 y0.length m0, .int .i64 cap0, .slice B1 y1.length m1, .int .i64 cap1] wz from wE)
    have S0 := Aside0.mk wS0
    have S1 := Aside0.mk wS1
    rw [e17]
    clear wE wS0 wS1 h0 h1 h2 h3 h4 h5 h6 h7 h8 h9 h10 h11 h12 h13 h14 h15 h16 h17 e17 hdn_
    go_wp2
    refine bodyPost_ret (results_list (rs := [.cell 6 42, .tmp 7]) rfl (by simp) (.cell b6 42 #[.slice B0 y0.length m0, .int .i64 cap0, .slice B1 y1.length m1, .int .i64 cap1] (0, 0) _ rfl E0.out.e6 Try.underlying42 rfl (by kernel_rfl) (.tmp .nil))) rfl ?_
    exact ⟨y0, y1, B0, m0, B1, m1, rfl, E0.out.q0, E0.out.q1, S0.out, S1.out, HL.out, E0.out.k⟩
end Go.Proofs.Ytdgeaadcidmmfaa
