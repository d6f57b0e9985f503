/-
  An act on two queues and on the document's (written by gen_act.py).
-/
import Derived.Test.YtdgeaadcidmmfaaQPlaysEnv
namespace Go.Proofs.Ytdgeaadcidmmfaa
set_option linter.unusedVariables false
set_option linter.unusedSimpArgs false
open Go.Conc Go.RowKit Go.Proofs.YtdgeaadcidmmfaaW.PrintWords Go.Proofs.YtdgeaadcidmmfaaW.PrintLast Go.Proofs.YtdgeaadcidmmfaaW.PrintMore Go.Proofs.Ytdgeaadcidmmfaa.MQueuePlays
set_option maxHeartbeats 32000000 in
set_option maxRecDepth 100000 in
theorem act_15 (w : World) (g0 c0 cap0 g1 c1 cap1 : Nat) (l0 l1 : List ByteArray) (A0 : Option Addr) (n0 : Nat) (A1 : Option Addr) (n1 : Nat) (kind : Int) (text : ByteArray) (F : Far g0 c0 cap0 g1 c1 cap1) (hq0 : QL w g0 c0 cap0 l0) (hq1 : QL w g1 c1 cap1 l1) (hs0 : SR w A0 n0 l0) (hs1 : SR w A1 n1 l1) (hl : l0.length ≤ cap0 ∧ l1.length ≤ cap1) (hkk : (IntKind.u64.wrap kind).tmod 7 = 5) :
    Calls Try.prog 14 #[.agg #[.pointer (some ⟨g0, 0, none⟩), .pointer (some ⟨g1, 0, none⟩)], .agg #[.slice A0 l0.length n0, .int .i64 cap0, .slice A1 l1.length n1, .int .i64 cap1], .agg #[.int .i64 kind, .bool true, .string text]] w fun e w' => ∃ y0 y1 A0' n0' A1' n1', e = .returned (.tuple #[.agg #[.slice A0' (y0 : List ByteArray).length n0', .int .i64 cap0, .slice A1' (y1 : List ByteArray).length n1', .int .i64 cap1], .bool true]) ∧ QL w' g0 c0 cap0 y0 ∧ QL w' g1 c1 cap1 y1 ∧ SR w' A0' n0' y0 ∧ SR w' A1' n1' y1 ∧ (y0.length ≤ cap0 ∧ y1.length ≤ cap1) ∧ Kept w w' (fun k => k = c0 ∨ k = c1) := by
  have E0 := Aside0.mk (env_start A0 n0 A1 n1 kind true text F hq0 hq1)
  have hb := below_alloc (below_alloc (below_alloc (below_alloc (Below.refl w.heap.size w) (.cells #[.pointer (some ⟨g0, 0, none⟩), .pointer (some ⟨g1, 0, none⟩)] 38)) (.cells #[.slice A0 l0.length n0, .int .i64 cap0, .slice A1 l1.length n1, .int .i64 cap1] 42)) (.cells #[.int .i64 kind, .bool true, .string text] 48)) (.cells #[.slice none 0 0, .int .i64 0, .slice none 0 0, .int .i64 0] 42)
  have S0 := Aside0.mk (hs0.below hb)
  have S1 := Aside0.mk (hs1.below hb)
  have HM : Aside0 (cap0 ≤ 64 ∧ cap1 ≤ 64 ∧ l0.length ≤ cap0 ∧ l1.length ≤ cap1) := ⟨⟨F.m0, F.m1, hl⟩⟩
  clear hl F hq0 hq1 hs0 hs1 hb
  go_enter Try.func14, Try.ntmps14
  go_upto_block 0 with (fail)
  generalize ((((w.alloc (.cells #[.pointer (some ⟨g0, 0, none⟩), .pointer (some ⟨g1, 0, none⟩)] 38)).alloc (.cells #[.slice A0 l0.length n0, .int .i64 cap0, .slice A1 l1.length n1, .int .i64 cap1] 42)).alloc (.cells #[.int .i64 kind, .bool true, .string text] 48)).alloc (.cells #[.slice none 0 0, .int .i64 0, .slice none 0 0, .int .i64 0] 42)) = W1 at E0 S0 S1 ⊢
  generalize w.heap.size + 1 + 1 + 1 = b6 at E0 ⊢
  generalize w.heap.size + 1 + 1 = b5 at E0 ⊢
  generalize w.heap.size + 1 = b4 at E0 ⊢
  generalize w.heap.size = b3 at E0 ⊢
  try rw [hkk]
  clear hkk
  go_cut [9] (fun v9 wc => ∃ (y0 y1 : List ByteArray) (B0 : Option Addr) (m0 : Nat) (B1 : Option Addr) (m1 : Nat), v9 = .bool true ∧ Aside0 (Env w b3 b4 b5 b6 kind true text g0 c0 cap0 g1 c1 cap1 y0 y1 #[.slice B0 y0.length m0, .int .i64 cap0, .slice B1 y1.length m1, .int .i64 cap1] #[.slice none 0 0, .int .i64 0, .slice none 0 0, .int .i64 0] wc) ∧ Aside0 (SR wc B0 m0 y0) ∧ Aside0 (SR wc B1 m1 y1) ∧ Aside0 (y0.length ≤ cap0 ∧ y1.length ≤ cap1))
  case first =>
    obtain ⟨mm, hmm⟩ : ∃ m, m = mv l1 l0 cap0 := ⟨_, rfl⟩
    obtain ⟨ya, hya⟩ : ∃ y, y = l1.drop mm := ⟨_, rfl⟩
    obtain ⟨yb, hyb⟩ : ∃ y, y = l0 ++ l1.take mm := ⟨_, rfl⟩
    have HREF : Aside0 (∀ W, SR W A1 n1 l1 → SR W A0 n0 l0 → Calls Try.prog 26 #[.agg #[.slice A1 l1.length n1, .int .i64 cap1], .agg #[.slice A0 l0.length n0, .int .i64 cap0]] W fun e w' => ∃ v, e = .returned v ∧ MoveQ w' v mm ya cap1 yb cap0 ∧ Below W.heap.size W w') := ⟨fun W h h' => by
        rw [hya, hyb, hmm]
        refine (refMove_c W A1 n1 l1 cap1 A0 n0 l0 cap0 h h' (by have h := HM.out; omega) (by have h := HM.out; omega) (by have h := HM.out; omega)).mono ?_
        rintro e w' ⟨a, b, c, d, rfl, s, s', hb⟩
        exact ⟨_, rfl, ⟨a, b, c, d, rfl, s, s'⟩, hb⟩⟩
    have HMOV : Aside0 (∀ W, QL W g1 c1 cap1 l1 → QL W g0 c0 cap0 l0 → Calls Try.prog 23 #[.pointer (some ⟨g1, 0, none⟩), .pointer (some ⟨g0, 0, none⟩)] W fun e w' => e = .returned (.int .i64 mm) ∧ QL w' g1 c1 cap1 ya ∧ QL w' g0 c0 cap0 yb ∧ Kept W w' (fun k => k = c1 ∨ k = c0)) := ⟨fun W h h' => by
        rw [hya, hyb, hmm]
        exact move_c W g1 c1 cap1 g0 c0 cap0 l1 l0 E0.out.F.gg.symm E0.out.F.cc.symm E0.out.F.cg E0.out.F.gc h h' (by have h := HM.out; omega) (by have h := HM.out; omega) (by have h := HM.out; omega)⟩
    have HYL : Aside0 (ya.length ≤ cap1 ∧ yb.length ≤ cap0) := ⟨by rw [hya, hyb, hmm, List.length_drop, List.length_append, List.length_take]; have h := HM.out; unfold mv; omega⟩
    clear hya hyb hmm
    go_wp2_with (fail)
    refine region_inv (T := ?T26) [some 154, some 155, some 156, some 157, some 158, some 159, some 160, some 161, some 153, some 162, some 163, some 164, some 23, some 24, some 22, none, none] ?hT26 (fun dn_ X w_ => Env w b3 b4 b5 b6 kind true text g0 c0 cap0 g1 c1 cap1 l0 l1 #[.slice A0 l0.length n0, .int .i64 cap0, .slice A1 l1.length n1, .int .i64 cap1] #[.slice none 0 0, .int .i64 0, .slice none 0 0, .int .i64 0] w_ ∧ SR w_ A0 n0 l0 ∧ SR w_ A1 n1 l1 ∧ (dn_ 0 = true → X 0 = .int .i64 1) ∧ (dn_ 1 = true → X 1 = .pointer (some ⟨b4, 2, none⟩)) ∧ (dn_ 2 = true → X 2 = .agg #[.slice A1 l1.length n1, .int .i64 cap1]) ∧ (dn_ 3 = true → X 3 = .int .i64 1) ∧ (dn_ 4 = true → X 4 = .int .i64 0) ∧ (dn_ 5 = true → X 5 = .pointer (some ⟨b4, 0, none⟩)) ∧ (dn_ 6 = true → X 6 = .agg #[.slice A0 l0.length n0, .int .i64 cap0]) ∧ (dn_ 7 = true → MoveQ w_ (X 7) mm ya cap1 yb cap0) ∧ (dn_ 8 = true → MoveQ w_ (X 8) mm ya cap1 yb cap0) ∧ (dn_ 9 = true → X 9 = .int .i64 mm) ∧ (dn_ 10 = true → RowQ w_ (X 10) ya cap1) ∧ (dn_ 11 = true → RowQ w_ (X 11) yb cap0) ∧ (dn_ 12 = true → BoxS (dn_ 15) w.heap.size w_ (X 12) ya cap1) ∧ (dn_ 13 = true → BoxS (dn_ 16) w.heap.size w_ (X 13) yb cap0) ∧ (dn_ 14 = true → X 14 = .int .i64 mm) ∧ (dn_ 15 = true → True) ∧ (dn_ 16 = true → True) ∧ (dn_ 15 = true → dn_ 12 = true) ∧ (dn_ 16 = true → dn_ 13 = true) ∧ (dn_ 12 = true → dn_ 13 = true → X 12 ≠ X 13)) (by kernel_rfl) (by kernel_rfl) (by rfl) [0, 1, 2, 3, 4, 5, 6, 7, 8, 9, 10, 11, 12, 13, 14, 15, 16] rfl (.cons (some 154) rfl rfl (fun dn_ X w_ hd0_ hd_ hI_ K hK => ?_) (.cons (some 155) rfl rfl (fun dn_ X w_ hd0_ hd_ hI_ K hK => ?_) (.cons (some 156) rfl rfl (fun dn_ X w_ hd0_ hd_ hI_ K hK => ?_) (.cons (some 157) rfl rfl (fun dn_ X w_ hd0_ hd_ hI_ K hK => ?_) (.cons (some 158) rfl rfl (fun dn_ X w_ hd0_ hd_ hI_ K hK => ?_) (.cons (some 159) rfl rfl (fun dn_ X w_ hd0_ hd_ hI_ K hK => ?_) (.cons (some 160) rfl rfl (fun dn_ X w_ hd0_ hd_ hI_ K hK => ?_) (.cons (some 161) rfl rfl (fun dn_ X w_ hd0_ hd_ hI_ K hK => ?_) (.cons (some 153) rfl rfl (fun dn_ X w_ hd0_ hd_ hI_ K hK => ?_) (.cons (some 162) rfl rfl (fun dn_ X w_ hd0_ hd_ hI_ K hK => ?_) (.cons (some 163) rfl rfl (fun dn_ X w_ hd0_ hd_ hI_ K hK => ?_) (.cons (some 164) rfl rfl (fun dn_ X w_ hd0_ hd_ hI_ K hK => ?_) (.cons (some 23) rfl rfl (fun dn_ X w_ hd0_ hd_ hI_ K hK => ?_) (.cons (some 24) rfl rfl (fun dn_ X w_ hd0_ hd_ hI_ K hK => ?_) (.cons (some 22) rfl rfl (fun dn_ X w_ hd0_ hd_ hI_ K hK => ?_) (.cons none rfl rfl (fun dn_ X w_ hd0_ hd_ hI_ K hK => ?_) (.cons none rfl rfl (fun dn_ X w_ hd0_ hd_ hI_ K hK => ?_) .nil))))))))))))))))) ?h026 ?hend26
    case hT26 =>
      intro X
      simp only [fill, Act.put, List.setIfInBounds_toArray, List.set_cons_zero, List.set_cons_succ, Nat.zero_add, Nat.reduceAdd]
      rfl
    case h026 =>
      exact ⟨E0.out.below (below_drew (Below.refl _ _)), S0.out.below (below_drew (Below.refl _ _)), S1.out.below (below_drew (Below.refl _ _)), noF, noF, noF, noF, noF, noF, noF, noF, noF, noF, noF, noF, noF, noF, noF, noF, noF, noF, noF, noF⟩
    · -- 0
      refine val_ (w1 := w_) (v := .int .i64 1) (by rfl) rfl ?_ (hK.out _ _ _ rfl ⟨hI_.1, hI_.2.1, hI_.2.2.1, (fun _ => rfl), hI_.2.2.2.2.1, hI_.2.2.2.2.2.1, hI_.2.2.2.2.2.2.1, hI_.2.2.2.2.2.2.2.1, hI_.2.2.2.2.2.2.2.2.1, hI_.2.2.2.2.2.2.2.2.2.1, hI_.2.2.2.2.2.2.2.2.2.2.1, hI_.2.2.2.2.2.2.2.2.2.2.2.1, hI_.2.2.2.2.2.2.2.2.2.2.2.2.1, hI_.2.2.2.2.2.2.2.2.2.2.2.2.2.1, hI_.2.2.2.2.2.2.2.2.2.2.2.2.2.2.1, hI_.2.2.2.2.2.2.2.2.2.2.2.2.2.2.2.1, hI_.2.2.2.2.2.2.2.2.2.2.2.2.2.2.2.2.1, hI_.2.2.2.2.2.2.2.2.2.2.2.2.2.2.2.2.2.1, hI_.2.2.2.2.2.2.2.2.2.2.2.2.2.2.2.2.2.2.1, hI_.2.2.2.2.2.2.2.2.2.2.2.2.2.2.2.2.2.2.2.1, hI_.2.2.2.2.2.2.2.2.2.2.2.2.2.2.2.2.2.2.2.2.1, hI_.2.2.2.2.2.2.2.2.2.2.2.2.2.2.2.2.2.2.2.2.2.1, hI_.2.2.2.2.2.2.2.2.2.2.2.2.2.2.2.2.2.2.2.2.2.2⟩)
      go_simp
      all_goals (first | decide | rfl)
    · -- 1
      have e0 := hI_.2.2.2.1 (hd_ 1 0 (by kernel_rfl))
      refine val_ (w1 := w_) (v := .pointer (some ⟨b4, 2, none⟩)) (by rfl) rfl ?_ (hK.out _ _ _ rfl ⟨hI_.1, hI_.2.1, hI_.2.2.1, hI_.2.2.2.1, (fun _ => rfl), hI_.2.2.2.2.2.1, hI_.2.2.2.2.2.2.1, hI_.2.2.2.2.2.2.2.1, hI_.2.2.2.2.2.2.2.2.1, hI_.2.2.2.2.2.2.2.2.2.1, hI_.2.2.2.2.2.2.2.2.2.2.1, hI_.2.2.2.2.2.2.2.2.2.2.2.1, hI_.2.2.2.2.2.2.2.2.2.2.2.2.1, hI_.2.2.2.2.2.2.2.2.2.2.2.2.2.1, hI_.2.2.2.2.2.2.2.2.2.2.2.2.2.2.1, hI_.2.2.2.2.2.2.2.2.2.2.2.2.2.2.2.1, hI_.2.2.2.2.2.2.2.2.2.2.2.2.2.2.2.2.1, hI_.2.2.2.2.2.2.2.2.2.2.2.2.2.2.2.2.2.1, hI_.2.2.2.2.2.2.2.2.2.2.2.2.2.2.2.2.2.2.1, hI_.2.2.2.2.2.2.2.2.2.2.2.2.2.2.2.2.2.2.2.1, hI_.2.2.2.2.2.2.2.2.2.2.2.2.2.2.2.2.2.2.2.2.1, hI_.2.2.2.2.2.2.2.2.2.2.2.2.2.2.2.2.2.2.2.2.2.1, hI_.2.2.2.2.2.2.2.2.2.2.2.2.2.2.2.2.2.2.2.2.2.2⟩)
      go_simp
      all_goals (first | decide | rfl)
    · -- 2
      have wE := hI_.1
      have e1 := hI_.2.2.2.2.1 (hd_ 1 1 (by kernel_rfl))
      have z0_ := (blk_cell wE.e4 2).trans rfl
      have z1_ := (blk_cell wE.e4 3).trans rfl
      refine val_ (w1 := w_) (v := .agg #[.slice A1 l1.length n1, .int .i64 cap1]) (by rfl) rfl ?_ (hK.out _ _ _ rfl ⟨hI_.1, hI_.2.1, hI_.2.2.1, hI_.2.2.2.1, hI_.2.2.2.2.1, (fun _ => rfl), hI_.2.2.2.2.2.2.1, hI_.2.2.2.2.2.2.2.1, hI_.2.2.2.2.2.2.2.2.1, hI_.2.2.2.2.2.2.2.2.2.1, hI_.2.2.2.2.2.2.2.2.2.2.1, hI_.2.2.2.2.2.2.2.2.2.2.2.1, hI_.2.2.2.2.2.2.2.2.2.2.2.2.1, hI_.2.2.2.2.2.2.2.2.2.2.2.2.2.1, hI_.2.2.2.2.2.2.2.2.2.2.2.2.2.2.1, hI_.2.2.2.2.2.2.2.2.2.2.2.2.2.2.2.1, hI_.2.2.2.2.2.2.2.2.2.2.2.2.2.2.2.2.1, hI_.2.2.2.2.2.2.2.2.2.2.2.2.2.2.2.2.2.1, hI_.2.2.2.2.2.2.2.2.2.2.2.2.2.2.2.2.2.2.1, hI_.2.2.2.2.2.2.2.2.2.2.2.2.2.2.2.2.2.2.2.1, hI_.2.2.2.2.2.2.2.2.2.2.2.2.2.2.2.2.2.2.2.2.1, hI_.2.2.2.2.2.2.2.2.2.2.2.2.2.2.2.2.2.2.2.2.2.1, hI_.2.2.2.2.2.2.2.2.2.2.2.2.2.2.2.2.2.2.2.2.2.2⟩)
      go_simp
      all_goals (first | decide | rfl)
    · -- 3
      refine val_ (w1 := w_) (v := .int .i64 1) (by rfl) rfl ?_ (hK.out _ _ _ rfl ⟨hI_.1, hI_.2.1, hI_.2.2.1, hI_.2.2.2.1, hI_.2.2.2.2.1, hI_.2.2.2.2.2.1, (fun _ => rfl), hI_.2.2.2.2.2.2.2.1, hI_.2.2.2.2.2.2.2.2.1, hI_.2.2.2.2.2.2.2.2.2.1, hI_.2.2.2.2.2.2.2.2.2.2.1, hI_.2.2.2.2.2.2.2.2.2.2.2.1, hI_.2.2.2.2.2.2.2.2.2.2.2.2.1, hI_.2.2.2.2.2.2.2.2.2.2.2.2.2.1, hI_.2.2.2.2.2.2.2.2.2.2.2.2.2.2.1, hI_.2.2.2.2.2.2.2.2.2.2.2.2.2.2.2.1, hI_.2.2.2.2.2.2.2.2.2.2.2.2.2.2.2.2.1, hI_.2.2.2.2.2.2.2.2.2.2.2.2.2.2.2.2.2.1, hI_.2.2.2.2.2.2.2.2.2.2.2.2.2.2.2.2.2.2.1, hI_.2.2.2.2.2.2.2.2.2.2.2.2.2.2.2.2.2.2.2.1, hI_.2.2.2.2.2.2.2.2.2.2.2.2.2.2.2.2.2.2.2.2.1, hI_.2.2.2.2.2.2.2.2.2.2.2.2.2.2.2.2.2.2.2.2.2.1, hI_.2.2.2.2.2.2.2.2.2.2.2.2.2.2.2.2.2.2.2.2.2.2⟩)
      go_simp
      all_goals (first | decide | rfl)
    · -- 4
      have e3 := hI_.2.2.2.2.2.2.1 (hd_ 1 3 (by kernel_rfl))
      refine val_ (w1 := w_) (v := .int .i64 0) (by rfl) rfl ?_ (hK.out _ _ _ rfl ⟨hI_.1, hI_.2.1, hI_.2.2.1, hI_.2.2.2.1, hI_.2.2.2.2.1, hI_.2.2.2.2.2.1, hI_.2.2.2.2.2.2.1, (fun _ => rfl), hI_.2.2.2.2.2.2.2.2.1, hI_.2.2.2.2.2.2.2.2.2.1, hI_.2.2.2.2.2.2.2.2.2.2.1, hI_.2.2.2.2.2.2.2.2.2.2.2.1, hI_.2.2.2.2.2.2.2.2.2.2.2.2.1, hI_.2.2.2.2.2.2.2.2.2.2.2.2.2.1, hI_.2.2.2.2.2.2.2.2.2.2.2.2.2.2.1, hI_.2.2.2.2.2.2.2.2.2.2.2.2.2.2.2.1, hI_.2.2.2.2.2.2.2.2.2.2.2.2.2.2.2.2.1, hI_.2.2.2.2.2.2.2.2.2.2.2.2.2.2.2.2.2.1, hI_.2.2.2.2.2.2.2.2.2.2.2.2.2.2.2.2.2.2.1, hI_.2.2.2.2.2.2.2.2.2.2.2.2.2.2.2.2.2.2.2.1, hI_.2.2.2.2.2.2.2.2.2.2.2.2.2.2.2.2.2.2.2.2.1, hI_.2.2.2.2.2.2.2.2.2.2.2.2.2.2.2.2.2.2.2.2.2.1, hI_.2.2.2.2.2.2.2.2.2.2.2.2.2.2.2.2.2.2.2.2.2.2⟩)
      go_simp
      all_goals (first | decide | rfl)
    · -- 5
      have e4 := hI_.2.2.2.2.2.2.2.1 (hd_ 1 4 (by kernel_rfl))
      refine val_ (w1 := w_) (v := .pointer (some ⟨b4, 0, none⟩)) (by rfl) rfl ?_ (hK.out _ _ _ rfl ⟨hI_.1, hI_.2.1, hI_.2.2.1, hI_.2.2.2.1, hI_.2.2.2.2.1, hI_.2.2.2.2.2.1, hI_.2.2.2.2.2.2.1, hI_.2.2.2.2.2.2.2.1, (fun _ => rfl), hI_.2.2.2.2.2.2.2.2.2.1, hI_.2.2.2.2.2.2.2.2.2.2.1, hI_.2.2.2.2.2.2.2.2.2.2.2.1, hI_.2.2.2.2.2.2.2.2.2.2.2.2.1, hI_.2.2.2.2.2.2.2.2.2.2.2.2.2.1, hI_.2.2.2.2.2.2.2.2.2.2.2.2.2.2.1, hI_.2.2.2.2.2.2.2.2.2.2.2.2.2.2.2.1, hI_.2.2.2.2.2.2.2.2.2.2.2.2.2.2.2.2.1, hI_.2.2.2.2.2.2.2.2.2.2.2.2.2.2.2.2.2.1, hI_.2.2.2.2.2.2.2.2.2.2.2.2.2.2.2.2.2.2.1, hI_.2.2.2.2.2.2.2.2.2.2.2.2.2.2.2.2.2.2.2.1, hI_.2.2.2.2.2.2.2.2.2.2.2.2.2.2.2.2.2.2.2.2.1, hI_.2.2.2.2.2.2.2.2.2.2.2.2.2.2.2.2.2.2.2.2.2.1, hI_.2.2.2.2.2.2.2.2.2.2.2.2.2.2.2.2.2.2.2.2.2.2⟩)
      go_simp
      all_goals (first | decide | rfl)
    · -- 6
      have wE := hI_.1
      have e5 := hI_.2.2.2.2.2.2.2.2.1 (hd_ 1 5 (by kernel_rfl))
      have z0_ := (blk_cell wE.e4 0).trans rfl
      have z1_ := (blk_cell wE.e4 1).trans rfl
      refine val_ (w1 := w_) (v := .agg #[.slice A0 l0.length n0, .int .i64 cap0]) (by rfl) rfl ?_ (hK.out _ _ _ rfl ⟨hI_.1, hI_.2.1, hI_.2.2.1, hI_.2.2.2.1, hI_.2.2.2.2.1, hI_.2.2.2.2.2.1, hI_.2.2.2.2.2.2.1, hI_.2.2.2.2.2.2.2.1, hI_.2.2.2.2.2.2.2.2.1, (fun _ => rfl), hI_.2.2.2.2.2.2.2.2.2.2.1, hI_.2.2.2.2.2.2.2.2.2.2.2.1, hI_.2.2.2.2.2.2.2.2.2.2.2.2.1, hI_.2.2.2.2.2.2.2.2.2.2.2.2.2.1, hI_.2.2.2.2.2.2.2.2.2.2.2.2.2.2.1, hI_.2.2.2.2.2.2.2.2.2.2.2.2.2.2.2.1, hI_.2.2.2.2.2.2.2.2.2.2.2.2.2.2.2.2.1, hI_.2.2.2.2.2.2.2.2.2.2.2.2.2.2.2.2.2.1, hI_.2.2.2.2.2.2.2.2.2.2.2.2.2.2.2.2.2.2.1, hI_.2.2.2.2.2.2.2.2.2.2.2.2.2.2.2.2.2.2.2.1, hI_.2.2.2.2.2.2.2.2.2.2.2.2.2.2.2.2.2.2.2.2.1, hI_.2.2.2.2.2.2.2.2.2.2.2.2.2.2.2.2.2.2.2.2.2.1, hI_.2.2.2.2.2.2.2.2.2.2.2.2.2.2.2.2.2.2.2.2.2.2⟩)
      go_simp
      all_goals (first | decide | rfl)
    · -- 7
      have wE := hI_.1
      have wS0 := hI_.2.1
      have wS1 := hI_.2.2.1
      have h0 := hI_.2.2.2.1
      have h1 := hI_.2.2.2.2.1
      have h2 := hI_.2.2.2.2.2.1
      have h3 := hI_.2.2.2.2.2.2.1
      have h4 := hI_.2.2.2.2.2.2.2.1
      have h5 := hI_.2.2.2.2.2.2.2.2.1
      have h6 := hI_.2.2.2.2.2.2.2.2.2.1
      have h7 := hI_.2.2.2.2.2.2.2.2.2.2.1
      have h8 := hI_.2.2.2.2.2.2.2.2.2.2.2.1
      have h9 := hI_.2.2.2.2.2.2.2.2.2.2.2.2.1
      have h10 := hI_.2.2.2.2.2.2.2.2.2.2.2.2.2.1
      have h11 := hI_.2.2.2.2.2.2.2.2.2.2.2.2.2.2.1
      have h12 := hI_.2.2.2.2.2.2.2.2.2.2.2.2.2.2.2.1
      have h13 := hI_.2.2.2.2.2.2.2.2.2.2.2.2.2.2.2.2.1
      have h14 := hI_.2.2.2.2.2.2.2.2.2.2.2.2.2.2.2.2.2.1
      have h15 := hI_.2.2.2.2.2.2.2.2.2.2.2.2.2.2.2.2.2.2.1
      have h16 := hI_.2.2.2.2.2.2.2.2.2.2.2.2.2.2.2.2.2.2.2.1
      have p1 := hI_.2.2.2.2.2.2.2.2.2.2.2.2.2.2.2.2.2.2.2.2.1
      have p2 := hI_.2.2.2.2.2.2.2.2.2.2.2.2.2.2.2.2.2.2.2.2.2.1
      have pp := hI_.2.2.2.2.2.2.2.2.2.2.2.2.2.2.2.2.2.2.2.2.2.2
      have e2 := h2 (hd_ 1 2 (by kernel_rfl))
      have e6 := h6 (hd_ 1 6 (by kernel_rfl))
      refine goes_ Try.func26 (by kernel_rfl) rfl #[X 2, X 6] (by rfl) rfl rfl (by simp only [List.map_toArray, List.map_cons, List.map_nil]; rfl) ?_
      refine calls_args (args2 e2 e6) ?_
      refine (HREF.out w_ wS1 wS0).mono ?_
      rintro e w' ⟨v, rfl, hm, hb⟩
      exact ⟨_, rfl, hK.out _ _ _ rfl ⟨(wE.below hb), (wS0.below hb), (wS1.below hb), h0, h1, h2, h3, h4, h5, h6, (fun _ => hm), (fun q_ => (h8 q_).below hb), h9, (fun q_ => (h10 q_).below hb), (fun q_ => (h11 q_).below hb), (fun q_ => (h12 q_).below hb), (fun q_ => (h13 q_).below hb), h14, h15, h16, p1, p2, pp⟩⟩
    · -- 8
      have wE := hI_.1
      have wS0 := hI_.2.1
      have wS1 := hI_.2.2.1
      have h0 := hI_.2.2.2.1
      have h1 := hI_.2.2.2.2.1
      have h2 := hI_.2.2.2.2.2.1
      have h3 := hI_.2.2.2.2.2.2.1
      have h4 := hI_.2.2.2.2.2.2.2.1
      have h5 := hI_.2.2.2.2.2.2.2.2.1
      have h6 := hI_.2.2.2.2.2.2.2.2.2.1
      have h7 := hI_.2.2.2.2.2.2.2.2.2.2.1
      have h8 := hI_.2.2.2.2.2.2.2.2.2.2.2.1
      have h9 := hI_.2.2.2.2.2.2.2.2.2.2.2.2.1
      have h10 := hI_.2.2.2.2.2.2.2.2.2.2.2.2.2.1
      have h11 := hI_.2.2.2.2.2.2.2.2.2.2.2.2.2.2.1
      have h12 := hI_.2.2.2.2.2.2.2.2.2.2.2.2.2.2.2.1
      have h13 := hI_.2.2.2.2.2.2.2.2.2.2.2.2.2.2.2.2.1
      have h14 := hI_.2.2.2.2.2.2.2.2.2.2.2.2.2.2.2.2.2.1
      have h15 := hI_.2.2.2.2.2.2.2.2.2.2.2.2.2.2.2.2.2.2.1
      have h16 := hI_.2.2.2.2.2.2.2.2.2.2.2.2.2.2.2.2.2.2.2.1
      have p1 := hI_.2.2.2.2.2.2.2.2.2.2.2.2.2.2.2.2.2.2.2.2.1
      have p2 := hI_.2.2.2.2.2.2.2.2.2.2.2.2.2.2.2.2.2.2.2.2.2.1
      have pp := hI_.2.2.2.2.2.2.2.2.2.2.2.2.2.2.2.2.2.2.2.2.2.2
      have e7 := h7 (hd_ 1 7 (by kernel_rfl))
      refine val_ (w1 := w_) (v := X 7) (by rfl) rfl ?_ (hK.out _ _ _ rfl ⟨wE, wS0, wS1, h0, h1, h2, h3, h4, h5, h6, h7, (fun _ => e7), h9, h10, h11, h12, h13, h14, h15, h16, p1, p2, pp⟩)
      go_simp
    · -- 9
      have wE := hI_.1
      have wS0 := hI_.2.1
      have wS1 := hI_.2.2.1
      have h0 := hI_.2.2.2.1
      have h1 := hI_.2.2.2.2.1
      have h2 := hI_.2.2.2.2.2.1
      have h3 := hI_.2.2.2.2.2.2.1
      have h4 := hI_.2.2.2.2.2.2.2.1
      have h5 := hI_.2.2.2.2.2.2.2.2.1
      have h6 := hI_.2.2.2.2.2.2.2.2.2.1
      have h7 := hI_.2.2.2.2.2.2.2.2.2.2.1
      have h8 := hI_.2.2.2.2.2.2.2.2.2.2.2.1
      have h9 := hI_.2.2.2.2.2.2.2.2.2.2.2.2.1
      have h10 := hI_.2.2.2.2.2.2.2.2.2.2.2.2.2.1
      have h11 := hI_.2.2.2.2.2.2.2.2.2.2.2.2.2.2.1
      have h12 := hI_.2.2.2.2.2.2.2.2.2.2.2.2.2.2.2.1
      have h13 := hI_.2.2.2.2.2.2.2.2.2.2.2.2.2.2.2.2.1
      have h14 := hI_.2.2.2.2.2.2.2.2.2.2.2.2.2.2.2.2.2.1
      have h15 := hI_.2.2.2.2.2.2.2.2.2.2.2.2.2.2.2.2.2.2.1
      have h16 := hI_.2.2.2.2.2.2.2.2.2.2.2.2.2.2.2.2.2.2.2.1
      have p1 := hI_.2.2.2.2.2.2.2.2.2.2.2.2.2.2.2.2.2.2.2.2.1
      have p2 := hI_.2.2.2.2.2.2.2.2.2.2.2.2.2.2.2.2.2.2.2.2.2.1
      have pp := hI_.2.2.2.2.2.2.2.2.2.2.2.2.2.2.2.2.2.2.2.2.2.2
      have e8 := h8 (hd_ 1 8 (by kernel_rfl))
      obtain ⟨A_, c_, A2_, c2_, ev_, s_, s2_⟩ := e8
      refine val_ (w1 := w_) (v := .int .i64 mm) (by rfl) rfl ?_ (hK.out _ _ _ rfl ⟨wE, wS0, wS1, h0, h1, h2, h3, h4, h5, h6, h7, h8, (fun _ => rfl), h10, h11, h12, h13, h14, h15, h16, p1, p2, pp⟩)
      go_simp
    · -- 10
      have wE := hI_.1
      have wS0 := hI_.2.1
      have wS1 := hI_.2.2.1
      have h0 := hI_.2.2.2.1
      have h1 := hI_.2.2.2.2.1
      have h2 := hI_.2.2.2.2.2.1
      have h3 := hI_.2.2.2.2.2.2.1
      have h4 := hI_.2.2.2.2.2.2.2.1
      have h5 := hI_.2.2.2.2.2.2.2.2.1
      have h6 := hI_.2.2.2.2.2.2.2.2.2.1
      have h7 := hI_.2.2.2.2.2.2.2.2.2.2.1
      have h8 := hI_.2.2.2.2.2.2.2.2.2.2.2.1
      have h9 := hI_.2.2.2.2.2.2.2.2.2.2.2.2.1
      have h10 := hI_.2.2.2.2.2.2.2.2.2.2.2.2.2.1
      have h11 := hI_.2.2.2.2.2.2.2.2.2.2.2.2.2.2.1
      have h12 := hI_.2.2.2.2.2.2.2.2.2.2.2.2.2.2.2.1
      have h13 := hI_.2.2.2.2.2.2.2.2.2.2.2.2.2.2.2.2.1
      have h14 := hI_.2.2.2.2.2.2.2.2.2.2.2.2.2.2.2.2.2.1
      have h15 := hI_.2.2.2.2.2.2.2.2.2.2.2.2.2.2.2.2.2.2.1
      have h16 := hI_.2.2.2.2.2.2.2.2.2.2.2.2.2.2.2.2.2.2.2.1
      have p1 := hI_.2.2.2.2.2.2.2.2.2.2.2.2.2.2.2.2.2.2.2.2.1
      have p2 := hI_.2.2.2.2.2.2.2.2.2.2.2.2.2.2.2.2.2.2.2.2.2.1
      have pp := hI_.2.2.2.2.2.2.2.2.2.2.2.2.2.2.2.2.2.2.2.2.2.2
      have e8 := h8 (hd_ 1 8 (by kernel_rfl))
      obtain ⟨A_, c_, A2_, c2_, ev_, s_, s2_⟩ := e8
      refine val_ (w1 := w_) (v := .agg #[.slice A_ ya.length c_, .int .i64 cap1]) (by rfl) rfl ?_ (hK.out _ _ _ rfl ⟨wE, wS0, wS1, h0, h1, h2, h3, h4, h5, h6, h7, h8, h9, (fun _ => ⟨_, _, rfl, s_⟩), h11, h12, h13, h14, h15, h16, p1, p2, pp⟩)
      go_simp
    · -- 11
      have wE := hI_.1
      have wS0 := hI_.2.1
      have wS1 := hI_.2.2.1
      have h0 := hI_.2.2.2.1
      have h1 := hI_.2.2.2.2.1
      have h2 := hI_.2.2.2.2.2.1
      have h3 := hI_.2.2.2.2.2.2.1
      have h4 := hI_.2.2.2.2.2.2.2.1
      have h5 := hI_.2.2.2.2.2.2.2.2.1
      have h6 := hI_.2.2.2.2.2.2.2.2.2.1
      have h7 := hI_.2.2.2.2.2.2.2.2.2.2.1
      have h8 := hI_.2.2.2.2.2.2.2.2.2.2.2.1
      have h9 := hI_.2.2.2.2.2.2.2.2.2.2.2.2.1
      have h10 := hI_.2.2.2.2.2.2.2.2.2.2.2.2.2.1
      have h11 := hI_.2.2.2.2.2.2.2.2.2.2.2.2.2.2.1
      have h12 := hI_.2.2.2.2.2.2.2.2.2.2.2.2.2.2.2.1
      have h13 := hI_.2.2.2.2.2.2.2.2.2.2.2.2.2.2.2.2.1
      have h14 := hI_.2.2.2.2.2.2.2.2.2.2.2.2.2.2.2.2.2.1
      have h15 := hI_.2.2.2.2.2.2.2.2.2.2.2.2.2.2.2.2.2.2.1
      have h16 := hI_.2.2.2.2.2.2.2.2.2.2.2.2.2.2.2.2.2.2.2.1
      have p1 := hI_.2.2.2.2.2.2.2.2.2.2.2.2.2.2.2.2.2.2.2.2.1
      have p2 := hI_.2.2.2.2.2.2.2.2.2.2.2.2.2.2.2.2.2.2.2.2.2.1
      have pp := hI_.2.2.2.2.2.2.2.2.2.2.2.2.2.2.2.2.2.2.2.2.2.2
      have e8 := h8 (hd_ 1 8 (by kernel_rfl))
      obtain ⟨A_, c_, A2_, c2_, ev_, s_, s2_⟩ := e8
      refine val_ (w1 := w_) (v := .agg #[.slice A2_ yb.length c2_, .int .i64 cap0]) (by rfl) rfl ?_ (hK.out _ _ _ rfl ⟨wE, wS0, wS1, h0, h1, h2, h3, h4, h5, h6, h7, h8, h9, h10, (fun _ => ⟨_, _, rfl, s2_⟩), h12, h13, h14, h15, h16, p1, p2, pp⟩)
      go_simp
    · -- 12
      have wE := hI_.1
      have wS0 := hI_.2.1
      have wS1 := hI_.2.2.1
      have h0 := hI_.2.2.2.1
      have h1 := hI_.2.2.2.2.1
      have h2 := hI_.2.2.2.2.2.1
      have h3 := hI_.2.2.2.2.2.2.1
      have h4 := hI_.2.2.2.2.2.2.2.1
      have h5 := hI_.2.2.2.2.2.2.2.2.1
      have h6 := hI_.2.2.2.2.2.2.2.2.2.1
      have h7 := hI_.2.2.2.2.2.2.2.2.2.2.1
      have h8 := hI_.2.2.2.2.2.2.2.2.2.2.2.1
      have h9 := hI_.2.2.2.2.2.2.2.2.2.2.2.2.1
      have h10 := hI_.2.2.2.2.2.2.2.2.2.2.2.2.2.1
      have h11 := hI_.2.2.2.2.2.2.2.2.2.2.2.2.2.2.1
      have h12 := hI_.2.2.2.2.2.2.2.2.2.2.2.2.2.2.2.1
      have h13 := hI_.2.2.2.2.2.2.2.2.2.2.2.2.2.2.2.2.1
      have h14 := hI_.2.2.2.2.2.2.2.2.2.2.2.2.2.2.2.2.2.1
      have h15 := hI_.2.2.2.2.2.2.2.2.2.2.2.2.2.2.2.2.2.2.1
      have h16 := hI_.2.2.2.2.2.2.2.2.2.2.2.2.2.2.2.2.2.2.2.1
      have p1 := hI_.2.2.2.2.2.2.2.2.2.2.2.2.2.2.2.2.2.2.2.2.1
      have p2 := hI_.2.2.2.2.2.2.2.2.2.2.2.2.2.2.2.2.2.2.2.2.2.1
      have pp := hI_.2.2.2.2.2.2.2.2.2.2.2.2.2.2.2.2.2.2.2.2.2.2
      rw [if_pos (by rfl)]
      go_simp
      have hb := below_alloc (Below.refl w_.heap.size w_) (.cells #[.slice none 0 0, .int .i64 0] 41 (0, 0))
      exact hK.out _ (.pointer (some ⟨w_.heap.size, 0, none⟩)) _ (by simp only [Act.put, List.setIfInBounds_toArray, List.set_cons_zero, List.set_cons_succ]) ⟨(wE.below hb), (wS0.below hb), (wS1.below hb), h0, h1, h2, h3, h4, h5, h6, (fun q_ => (h7 q_).below hb), (fun q_ => (h8 q_).below hb), h9, (fun q_ => (h10 q_).below hb), (fun q_ => (h11 q_).below hb), (fun _ => ⟨_, rfl, wE.k.1, fun _ => blk_new _ _, fun q_ => Bool.noConfusion (hd0_.symm.trans (p1 q_))⟩), (fun q_ => (h13 q_).below hb), h14, h15, h16, (fun _ => rfl), p2, (fun _ q_ => (h13 q_).lt.symm)⟩
    · -- 13
      have wE := hI_.1
      have wS0 := hI_.2.1
      have wS1 := hI_.2.2.1
      have h0 := hI_.2.2.2.1
      have h1 := hI_.2.2.2.2.1
      have h2 := hI_.2.2.2.2.2.1
      have h3 := hI_.2.2.2.2.2.2.1
      have h4 := hI_.2.2.2.2.2.2.2.1
      have h5 := hI_.2.2.2.2.2.2.2.2.1
      have h6 := hI_.2.2.2.2.2.2.2.2.2.1
      have h7 := hI_.2.2.2.2.2.2.2.2.2.2.1
      have h8 := hI_.2.2.2.2.2.2.2.2.2.2.2.1
      have h9 := hI_.2.2.2.2.2.2.2.2.2.2.2.2.1
      have h10 := hI_.2.2.2.2.2.2.2.2.2.2.2.2.2.1
      have h11 := hI_.2.2.2.2.2.2.2.2.2.2.2.2.2.2.1
      have h12 := hI_.2.2.2.2.2.2.2.2.2.2.2.2.2.2.2.1
      have h13 := hI_.2.2.2.2.2.2.2.2.2.2.2.2.2.2.2.2.1
      have h14 := hI_.2.2.2.2.2.2.2.2.2.2.2.2.2.2.2.2.2.1
      have h15 := hI_.2.2.2.2.2.2.2.2.2.2.2.2.2.2.2.2.2.2.1
      have h16 := hI_.2.2.2.2.2.2.2.2.2.2.2.2.2.2.2.2.2.2.2.1
      have p1 := hI_.2.2.2.2.2.2.2.2.2.2.2.2.2.2.2.2.2.2.2.2.1
      have p2 := hI_.2.2.2.2.2.2.2.2.2.2.2.2.2.2.2.2.2.2.2.2.2.1
      have pp := hI_.2.2.2.2.2.2.2.2.2.2.2.2.2.2.2.2.2.2.2.2.2.2
      rw [if_pos (by rfl)]
      go_simp
      have hb := below_alloc (Below.refl w_.heap.size w_) (.cells #[.slice none 0 0, .int .i64 0] 41 (0, 0))
      exact hK.out _ (.pointer (some ⟨w_.heap.size, 0, none⟩)) _ (by simp only [Act.put, List.setIfInBounds_toArray, List.set_cons_zero, List.set_cons_succ]) ⟨(wE.below hb), (wS0.below hb), (wS1.below hb), h0, h1, h2, h3, h4, h5, h6, (fun q_ => (h7 q_).below hb), (fun q_ => (h8 q_).below hb), h9, (fun q_ => (h10 q_).below hb), (fun q_ => (h11 q_).below hb), (fun q_ => (h12 q_).below hb), (fun _ => ⟨_, rfl, wE.k.1, fun _ => blk_new _ _, fun q_ => Bool.noConfusion (hd0_.symm.trans (p2 q_))⟩), h14, h15, h16, p1, (fun _ => rfl), (fun q_ _ => (h12 q_).lt)⟩
    · -- 14
      have e9 := hI_.2.2.2.2.2.2.2.2.2.2.2.2.1 (hd_ 1 9 (by kernel_rfl))
      refine val_ (w1 := w_) (v := .int .i64 mm) (by rfl) rfl ?_ (hK.out _ _ _ rfl ⟨hI_.1, hI_.2.1, hI_.2.2.1, hI_.2.2.2.1, hI_.2.2.2.2.1, hI_.2.2.2.2.2.1, hI_.2.2.2.2.2.2.1, hI_.2.2.2.2.2.2.2.1, hI_.2.2.2.2.2.2.2.2.1, hI_.2.2.2.2.2.2.2.2.2.1, hI_.2.2.2.2.2.2.2.2.2.2.1, hI_.2.2.2.2.2.2.2.2.2.2.2.1, hI_.2.2.2.2.2.2.2.2.2.2.2.2.1, hI_.2.2.2.2.2.2.2.2.2.2.2.2.2.1, hI_.2.2.2.2.2.2.2.2.2.2.2.2.2.2.1, hI_.2.2.2.2.2.2.2.2.2.2.2.2.2.2.2.1, hI_.2.2.2.2.2.2.2.2.2.2.2.2.2.2.2.2.1, (fun _ => rfl), hI_.2.2.2.2.2.2.2.2.2.2.2.2.2.2.2.2.2.2.1, hI_.2.2.2.2.2.2.2.2.2.2.2.2.2.2.2.2.2.2.2.1, hI_.2.2.2.2.2.2.2.2.2.2.2.2.2.2.2.2.2.2.2.2.1, hI_.2.2.2.2.2.2.2.2.2.2.2.2.2.2.2.2.2.2.2.2.2.1, hI_.2.2.2.2.2.2.2.2.2.2.2.2.2.2.2.2.2.2.2.2.2.2⟩)
      go_simp
      all_goals (first | decide | rfl)
    · -- 15
      have wE := hI_.1
      have wS0 := hI_.2.1
      have wS1 := hI_.2.2.1
      have h0 := hI_.2.2.2.1
      have h1 := hI_.2.2.2.2.1
      have h2 := hI_.2.2.2.2.2.1
      have h3 := hI_.2.2.2.2.2.2.1
      have h4 := hI_.2.2.2.2.2.2.2.1
      have h5 := hI_.2.2.2.2.2.2.2.2.1
      have h6 := hI_.2.2.2.2.2.2.2.2.2.1
      have h7 := hI_.2.2.2.2.2.2.2.2.2.2.1
      have h8 := hI_.2.2.2.2.2.2.2.2.2.2.2.1
      have h9 := hI_.2.2.2.2.2.2.2.2.2.2.2.2.1
      have h10 := hI_.2.2.2.2.2.2.2.2.2.2.2.2.2.1
      have h11 := hI_.2.2.2.2.2.2.2.2.2.2.2.2.2.2.1
      have h12 := hI_.2.2.2.2.2.2.2.2.2.2.2.2.2.2.2.1
      have h13 := hI_.2.2.2.2.2.2.2.2.2.2.2.2.2.2.2.2.1
      have h14 := hI_.2.2.2.2.2.2.2.2.2.2.2.2.2.2.2.2.2.1
      have h15 := hI_.2.2.2.2.2.2.2.2.2.2.2.2.2.2.2.2.2.2.1
      have h16 := hI_.2.2.2.2.2.2.2.2.2.2.2.2.2.2.2.2.2.2.2.1
      have p1 := hI_.2.2.2.2.2.2.2.2.2.2.2.2.2.2.2.2.2.2.2.2.1
      have p2 := hI_.2.2.2.2.2.2.2.2.2.2.2.2.2.2.2.2.2.2.2.2.2.1
      have pp := hI_.2.2.2.2.2.2.2.2.2.2.2.2.2.2.2.2.2.2.2.2.2.2
      have e10 := h10 (hd_ 1 10 (by kernel_rfl))
      have e12 := h12 (hd_ 1 12 (by kernel_rfl))
      have d12 := hd_ 1 12 (by kernel_rfl)
      have d13 := hd_ 1 13 (by kernel_rfl)
      obtain ⟨A_, c_, ev_, s_⟩ := h10 (hd_ 1 10 (by kernel_rfl))
      obtain ⟨g_, eg_, og, hz, _⟩ := h12 d12
      have hz := hz hd0_
      have z0_ := (blk_cell hz 0).trans rfl
      have z1_ := (blk_cell hz 1).trans rfl
      have f0_ := blk_frozen hz 0
      have f1_ := blk_frozen hz 1
      rw [if_pos (by rfl)]
      go_simp
      exact hK.out _ undef _ (by simp only [Act.put, List.setIfInBounds_toArray, List.set_cons_zero, List.set_cons_succ, e10, e12, ev_, eg_]) ⟨(wE.w2 hz og _ _), (wS0.w2 hz _ _ _ _), (wS1.w2 hz _ _ _ _), h0, h1, h2, h3, h4, h5, h6, (fun q_ => (h7 q_).w2 hz _ _ _ _), (fun q_ => (h8 q_).w2 hz _ _ _ _), h9, (fun q_ => (h10 q_).w2 hz _ _ _ _), (fun q_ => (h11 q_).w2 hz _ _ _ _), (fun _ => BoxS.write2 eg_ og hz s_), (fun q_ => (h13 q_).w2 hz (fun e_ => pp d12 d13 (eg_.trans e_.symm)) _ _ _ _), h14, (fun _ => trivial), h16, (fun _ => d12), p2, pp⟩
    · -- 16
      have wE := hI_.1
      have wS0 := hI_.2.1
      have wS1 := hI_.2.2.1
      have h0 := hI_.2.2.2.1
      have h1 := hI_.2.2.2.2.1
      have h2 := hI_.2.2.2.2.2.1
      have h3 := hI_.2.2.2.2.2.2.1
      have h4 := hI_.2.2.2.2.2.2.2.1
      have h5 := hI_.2.2.2.2.2.2.2.2.1
      have h6 := hI_.2.2.2.2.2.2.2.2.2.1
      have h7 := hI_.2.2.2.2.2.2.2.2.2.2.1
      have h8 := hI_.2.2.2.2.2.2.2.2.2.2.2.1
      have h9 := hI_.2.2.2.2.2.2.2.2.2.2.2.2.1
      have h10 := hI_.2.2.2.2.2.2.2.2.2.2.2.2.2.1
      have h11 := hI_.2.2.2.2.2.2.2.2.2.2.2.2.2.2.1
      have h12 := hI_.2.2.2.2.2.2.2.2.2.2.2.2.2.2.2.1
      have h13 := hI_.2.2.2.2.2.2.2.2.2.2.2.2.2.2.2.2.1
      have h14 := hI_.2.2.2.2.2.2.2.2.2.2.2.2.2.2.2.2.2.1
      have h15 := hI_.2.2.2.2.2.2.2.2.2.2.2.2.2.2.2.2.2.2.1
      have h16 := hI_.2.2.2.2.2.2.2.2.2.2.2.2.2.2.2.2.2.2.2.1
      have p1 := hI_.2.2.2.2.2.2.2.2.2.2.2.2.2.2.2.2.2.2.2.2.1
      have p2 := hI_.2.2.2.2.2.2.2.2.2.2.2.2.2.2.2.2.2.2.2.2.2.1
      have pp := hI_.2.2.2.2.2.2.2.2.2.2.2.2.2.2.2.2.2.2.2.2.2.2
      have e11 := h11 (hd_ 1 11 (by kernel_rfl))
      have e13 := h13 (hd_ 1 13 (by kernel_rfl))
      have d12 := hd_ 1 12 (by kernel_rfl)
      have d13 := hd_ 1 13 (by kernel_rfl)
      obtain ⟨A_, c_, ev_, s_⟩ := h11 (hd_ 1 11 (by kernel_rfl))
      obtain ⟨g_, eg_, og, hz, _⟩ := h13 d13
      have hz := hz hd0_
      have z0_ := (blk_cell hz 0).trans rfl
      have z1_ := (blk_cell hz 1).trans rfl
      have f0_ := blk_frozen hz 0
      have f1_ := blk_frozen hz 1
      rw [if_pos (by rfl)]
      go_simp
      exact hK.out _ undef _ (by simp only [Act.put, List.setIfInBounds_toArray, List.set_cons_zero, List.set_cons_succ, e11, e13, ev_, eg_]) ⟨(wE.w2 hz og _ _), (wS0.w2 hz _ _ _ _), (wS1.w2 hz _ _ _ _), h0, h1, h2, h3, h4, h5, h6, (fun q_ => (h7 q_).w2 hz _ _ _ _), (fun q_ => (h8 q_).w2 hz _ _ _ _), h9, (fun q_ => (h10 q_).w2 hz _ _ _ _), (fun q_ => (h11 q_).w2 hz _ _ _ _), (fun q_ => (h12 q_).w2 hz (fun e_ => pp d12 d13 (e_.trans eg_.symm)) _ _ _ _), (fun _ => BoxS.write2 eg_ og hz s_), h14, h15, (fun _ => trivial), p1, (fun _ => d13), pp⟩
    intro dn_ X w3 hdn_ hI_
    clear E0 S0 S1
    obtain ⟨wE, wS0, wS1, h0, h1, h2, h3, h4, h5, h6, h7, h8, h9, h10, h11, h12, h13, h14, h15, h16, p1, p2, pp⟩ := hI_
    have e14 := h14 (hdn_ 14 (by decide))
    obtain ⟨g23, e12, o23, _, f23⟩ := h12 (hdn_ 12 (by decide))
    obtain ⟨A23, c23, k23, s23⟩ := f23 (hdn_ 15 (by decide))
    obtain ⟨g24, e13, o24, _, f24⟩ := h13 (hdn_ 13 (by decide))
    obtain ⟨A24, c24, k24, s24⟩ := f24 (hdn_ 16 (by decide))
    have E0 := Aside0.mk wE
    have S0 := Aside0.mk wS0
    have S1 := Aside0.mk wS1
    have S23 := Aside0.mk s23
    have S24 := Aside0.mk s24
    have K23 := Aside0.mk k23
    have K24 := Aside0.mk k24
    rw [e12, e13, e14]
    clear wE wS0 wS1 h0 h1 h2 h3 h4 h5 h6 h7 h8 h9 h10 h11 h12 h13 h14 h15 h16 p1 p2 pp f23 f24 k23 k24 s23 s24 e12 e13 e14 hdn_
    go_wp2_with (fail)
    refine region_inv (T := ?T27) [some 165, some 166, some 167, some 168, some 169, some 170, some 171, some 172, some 173, some 174, some 175, some 176, some 177, some 178, some 179, some 180, some 181, some 182, some 183, some 184, some 9] ?hT27 (fun dn_ X w_ => Env w b3 b4 b5 b6 kind true text g0 c0 cap0 g1 c1 cap1 (bif dn_ 7 then yb else l0) (bif dn_ 7 then ya else l1) #[.slice A0 l0.length n0, .int .i64 cap0, .slice A1 l1.length n1, .int .i64 cap1] #[.slice none 0 0, .int .i64 0, .slice none 0 0, .int .i64 0] w_ ∧ SR w_ A23 c23 ya ∧ SR w_ A24 c24 yb ∧ w_.heap[g23]? = some (.cells #[.slice A23 ya.length c23, .int .i64 cap1] 41 (0, 0)) ∧ w_.heap[g24]? = some (.cells #[.slice A24 yb.length c24, .int .i64 cap0] 41 (0, 0)) ∧ (dn_ 0 = true → X 0 = .int .i64 1) ∧ (dn_ 1 = true → X 1 = .pointer (some ⟨b3, 1, none⟩)) ∧ (dn_ 2 = true → X 2 = .pointer (some ⟨g1, 0, none⟩)) ∧ (dn_ 3 = true → X 3 = .int .i64 1) ∧ (dn_ 4 = true → X 4 = .int .i64 0) ∧ (dn_ 5 = true → X 5 = .pointer (some ⟨b3, 0, none⟩)) ∧ (dn_ 6 = true → X 6 = .pointer (some ⟨g0, 0, none⟩)) ∧ (dn_ 7 = true → X 7 = .int .i64 mm) ∧ (dn_ 8 = true → X 8 = .int .i64 mm) ∧ (dn_ 9 = true → X 9 = .bool true) ∧ (dn_ 10 = true → X 10 = .bool true) ∧ (dn_ 11 = true → X 11 = .int .i64 1) ∧ (dn_ 12 = true → X 12 = .pointer (some ⟨b3, 1, none⟩)) ∧ (dn_ 13 = true → X 13 = .pointer (some ⟨g1, 0, none⟩)) ∧ (dn_ 14 = true → X 14 = .int .i64 1) ∧ (dn_ 15 = true → X 15 = .pointer (some ⟨b3, 1, none⟩)) ∧ (dn_ 16 = true → X 16 = .pointer (some ⟨g1, 0, none⟩)) ∧ (dn_ 17 = true → X 17 = .int .i64 0) ∧ (dn_ 18 = true → X 18 = .bool true) ∧ (dn_ 19 = true → X 19 = .bool true) ∧ (dn_ 20 = true → X 20 = .bool true)) (by kernel_rfl) (by kernel_rfl) (by rfl) [0, 1, 2, 3, 4, 5, 6, 7, 8, 9, 10, 11, 12, 13, 14, 15, 16, 17, 18, 19, 20] rfl (.cons (some 165) rfl rfl (fun dn_ X w_ hd0_ hd_ hI_ K hK => ?_) (.cons (some 166) rfl rfl (fun dn_ X w_ hd0_ hd_ hI_ K hK => ?_) (.cons (some 167) rfl rfl (fun dn_ X w_ hd0_ hd_ hI_ K hK => ?_) (.cons (some 168) rfl rfl (fun dn_ X w_ hd0_ hd_ hI_ K hK => ?_) (.cons (some 169) rfl rfl (fun dn_ X w_ hd0_ hd_ hI_ K hK => ?_) (.cons (some 170) rfl rfl (fun dn_ X w_ hd0_ hd_ hI_ K hK => ?_) (.cons (some 171) rfl rfl (fun dn_ X w_ hd0_ hd_ hI_ K hK => ?_) (.cons (some 172) rfl rfl (fun dn_ X w_ hd0_ hd_ hI_ K hK => ?_) (.cons (some 173) rfl rfl (fun dn_ X w_ hd0_ hd_ hI_ K hK => ?_) (.cons (some 174) rfl rfl (fun dn_ X w_ hd0_ hd_ hI_ K hK => ?_) (.cons (some 175) rfl rfl (fun dn_ X w_ hd0_ hd_ hI_ K hK => ?_) (.cons (some 176) rfl rfl (fun dn_ X w_ hd0_ hd_ hI_ K hK => ?_) (.cons (some 177) rfl rfl (fun dn_ X w_ hd0_ hd_ hI_ K hK => ?_) (.cons (some 178) rfl rfl (fun dn_ X w_ hd0_ hd_ hI_ K hK => ?_) (.cons (some 179) rfl rfl (fun dn_ X w_ hd0_ hd_ hI_ K hK => ?_) (.cons (some 180) rfl rfl (fun dn_ X w_ hd0_ hd_ hI_ K hK => ?_) (.cons (some 181) rfl rfl (fun dn_ X w_ hd0_ hd_ hI_ K hK => ?_) (.cons (some 182) rfl rfl (fun dn_ X w_ hd0_ hd_ hI_ K hK => ?_) (.cons (some 183) rfl rfl (fun dn_ X w_ hd0_ hd_ hI_ K hK => ?_) (.cons (some 184) rfl rfl (fun dn_ X w_ hd0_ hd_ hI_ K hK => ?_) (.cons (some 9) rfl rfl (fun dn_ X w_ hd0_ hd_ hI_ K hK => ?_) .nil))))))))))))))))))))) ?h027 ?hend27
    case hT27 =>
      intro X
      simp only [fill, Act.put, List.setIfInBounds_toArray, List.set_cons_zero, List.set_cons_succ, Nat.zero_add, Nat.reduceAdd]
      rfl
    case h027 =>
      exact ⟨E0.out.below (below_drew (Below.refl _ _)), S23.out.below (below_drew (Below.refl _ _)), S24.out.below (below_drew (Below.refl _ _)), blk_below K23.out (below_drew (Below.refl _ _)), blk_below K24.out (below_drew (Below.refl _ _)), noF, noF, noF, noF, noF, noF, noF, noF, noF, noF, noF, noF, noF, noF, noF, noF, noF, noF, noF, noF, noF⟩
    · -- 0
      refine val_ (w1 := w_) (v := .int .i64 1) (by rfl) rfl ?_ (hK.out _ _ _ rfl ⟨hI_.1, hI_.2.1, hI_.2.2.1, hI_.2.2.2.1, hI_.2.2.2.2.1, (fun _ => rfl), hI_.2.2.2.2.2.2.1, hI_.2.2.2.2.2.2.2.1, hI_.2.2.2.2.2.2.2.2.1, hI_.2.2.2.2.2.2.2.2.2.1, hI_.2.2.2.2.2.2.2.2.2.2.1, hI_.2.2.2.2.2.2.2.2.2.2.2.1, hI_.2.2.2.2.2.2.2.2.2.2.2.2.1, hI_.2.2.2.2.2.2.2.2.2.2.2.2.2.1, hI_.2.2.2.2.2.2.2.2.2.2.2.2.2.2.1, hI_.2.2.2.2.2.2.2.2.2.2.2.2.2.2.2.1, hI_.2.2.2.2.2.2.2.2.2.2.2.2.2.2.2.2.1, hI_.2.2.2.2.2.2.2.2.2.2.2.2.2.2.2.2.2.1, hI_.2.2.2.2.2.2.2.2.2.2.2.2.2.2.2.2.2.2.1, hI_.2.2.2.2.2.2.2.2.2.2.2.2.2.2.2.2.2.2.2.1, hI_.2.2.2.2.2.2.2.2.2.2.2.2.2.2.2.2.2.2.2.2.1, hI_.2.2.2.2.2.2.2.2.2.2.2.2.2.2.2.2.2.2.2.2.2.1, hI_.2.2.2.2.2.2.2.2.2.2.2.2.2.2.2.2.2.2.2.2.2.2.1, hI_.2.2.2.2.2.2.2.2.2.2.2.2.2.2.2.2.2.2.2.2.2.2.2.1, hI_.2.2.2.2.2.2.2.2.2.2.2.2.2.2.2.2.2.2.2.2.2.2.2.2.1, hI_.2.2.2.2.2.2.2.2.2.2.2.2.2.2.2.2.2.2.2.2.2.2.2.2.2⟩)
      go_simp
      all_goals (first | decide | rfl)
    · -- 1
      have e0 := hI_.2.2.2.2.2.1 (hd_ 1 0 (by kernel_rfl))
      refine val_ (w1 := w_) (v := .pointer (some ⟨b3, 1, none⟩)) (by rfl) rfl ?_ (hK.out _ _ _ rfl ⟨hI_.1, hI_.2.1, hI_.2.2.1, hI_.2.2.2.1, hI_.2.2.2.2.1, hI_.2.2.2.2.2.1, (fun _ => rfl), hI_.2.2.2.2.2.2.2.1, hI_.2.2.2.2.2.2.2.2.1, hI_.2.2.2.2.2.2.2.2.2.1, hI_.2.2.2.2.2.2.2.2.2.2.1, hI_.2.2.2.2.2.2.2.2.2.2.2.1, hI_.2.2.2.2.2.2.2.2.2.2.2.2.1, hI_.2.2.2.2.2.2.2.2.2.2.2.2.2.1, hI_.2.2.2.2.2.2.2.2.2.2.2.2.2.2.1, hI_.2.2.2.2.2.2.2.2.2.2.2.2.2.2.2.1, hI_.2.2.2.2.2.2.2.2.2.2.2.2.2.2.2.2.1, hI_.2.2.2.2.2.2.2.2.2.2.2.2.2.2.2.2.2.1, hI_.2.2.2.2.2.2.2.2.2.2.2.2.2.2.2.2.2.2.1, hI_.2.2.2.2.2.2.2.2.2.2.2.2.2.2.2.2.2.2.2.1, hI_.2.2.2.2.2.2.2.2.2.2.2.2.2.2.2.2.2.2.2.2.1, hI_.2.2.2.2.2.2.2.2.2.2.2.2.2.2.2.2.2.2.2.2.2.1, hI_.2.2.2.2.2.2.2.2.2.2.2.2.2.2.2.2.2.2.2.2.2.2.1, hI_.2.2.2.2.2.2.2.2.2.2.2.2.2.2.2.2.2.2.2.2.2.2.2.1, hI_.2.2.2.2.2.2.2.2.2.2.2.2.2.2.2.2.2.2.2.2.2.2.2.2.1, hI_.2.2.2.2.2.2.2.2.2.2.2.2.2.2.2.2.2.2.2.2.2.2.2.2.2⟩)
      go_simp
      all_goals (first | decide | rfl)
    · -- 2
      have wE := hI_.1
      have e1 := hI_.2.2.2.2.2.2.1 (hd_ 1 1 (by kernel_rfl))
      have z0_ := (blk_cell wE.e3 1).trans rfl
      refine val_ (w1 := w_) (v := .pointer (some ⟨g1, 0, none⟩)) (by rfl) rfl ?_ (hK.out _ _ _ rfl ⟨hI_.1, hI_.2.1, hI_.2.2.1, hI_.2.2.2.1, hI_.2.2.2.2.1, hI_.2.2.2.2.2.1, hI_.2.2.2.2.2.2.1, (fun _ => rfl), hI_.2.2.2.2.2.2.2.2.1, hI_.2.2.2.2.2.2.2.2.2.1, hI_.2.2.2.2.2.2.2.2.2.2.1, hI_.2.2.2.2.2.2.2.2.2.2.2.1, hI_.2.2.2.2.2.2.2.2.2.2.2.2.1, hI_.2.2.2.2.2.2.2.2.2.2.2.2.2.1, hI_.2.2.2.2.2.2.2.2.2.2.2.2.2.2.1, hI_.2.2.2.2.2.2.2.2.2.2.2.2.2.2.2.1, hI_.2.2.2.2.2.2.2.2.2.2.2.2.2.2.2.2.1, hI_.2.2.2.2.2.2.2.2.2.2.2.2.2.2.2.2.2.1, hI_.2.2.2.2.2.2.2.2.2.2.2.2.2.2.2.2.2.2.1, hI_.2.2.2.2.2.2.2.2.2.2.2.2.2.2.2.2.2.2.2.1, hI_.2.2.2.2.2.2.2.2.2.2.2.2.2.2.2.2.2.2.2.2.1, hI_.2.2.2.2.2.2.2.2.2.2.2.2.2.2.2.2.2.2.2.2.2.1, hI_.2.2.2.2.2.2.2.2.2.2.2.2.2.2.2.2.2.2.2.2.2.2.1, hI_.2.2.2.2.2.2.2.2.2.2.2.2.2.2.2.2.2.2.2.2.2.2.2.1, hI_.2.2.2.2.2.2.2.2.2.2.2.2.2.2.2.2.2.2.2.2.2.2.2.2.1, hI_.2.2.2.2.2.2.2.2.2.2.2.2.2.2.2.2.2.2.2.2.2.2.2.2.2⟩)
      go_simp
      all_goals (first | decide | rfl)
    · -- 3
      refine val_ (w1 := w_) (v := .int .i64 1) (by rfl) rfl ?_ (hK.out _ _ _ rfl ⟨hI_.1, hI_.2.1, hI_.2.2.1, hI_.2.2.2.1, hI_.2.2.2.2.1, hI_.2.2.2.2.2.1, hI_.2.2.2.2.2.2.1, hI_.2.2.2.2.2.2.2.1, (fun _ => rfl), hI_.2.2.2.2.2.2.2.2.2.1, hI_.2.2.2.2.2.2.2.2.2.2.1, hI_.2.2.2.2.2.2.2.2.2.2.2.1, hI_.2.2.2.2.2.2.2.2.2.2.2.2.1, hI_.2.2.2.2.2.2.2.2.2.2.2.2.2.1, hI_.2.2.2.2.2.2.2.2.2.2.2.2.2.2.1, hI_.2.2.2.2.2.2.2.2.2.2.2.2.2.2.2.1, hI_.2.2.2.2.2.2.2.2.2.2.2.2.2.2.2.2.1, hI_.2.2.2.2.2.2.2.2.2.2.2.2.2.2.2.2.2.1, hI_.2.2.2.2.2.2.2.2.2.2.2.2.2.2.2.2.2.2.1, hI_.2.2.2.2.2.2.2.2.2.2.2.2.2.2.2.2.2.2.2.1, hI_.2.2.2.2.2.2.2.2.2.2.2.2.2.2.2.2.2.2.2.2.1, hI_.2.2.2.2.2.2.2.2.2.2.2.2.2.2.2.2.2.2.2.2.2.1, hI_.2.2.2.2.2.2.2.2.2.2.2.2.2.2.2.2.2.2.2.2.2.2.1, hI_.2.2.2.2.2.2.2.2.2.2.2.2.2.2.2.2.2.2.2.2.2.2.2.1, hI_.2.2.2.2.2.2.2.2.2.2.2.2.2.2.2.2.2.2.2.2.2.2.2.2.1, hI_.2.2.2.2.2.2.2.2.2.2.2.2.2.2.2.2.2.2.2.2.2.2.2.2.2⟩)
      go_simp
      all_goals (first | decide | rfl)
    · -- 4
      have e3 := hI_.2.2.2.2.2.2.2.2.1 (hd_ 1 3 (by kernel_rfl))
      refine val_ (w1 := w_) (v := .int .i64 0) (by rfl) rfl ?_ (hK.out _ _ _ rfl ⟨hI_.1, hI_.2.1, hI_.2.2.1, hI_.2.2.2.1, hI_.2.2.2.2.1, hI_.2.2.2.2.2.1, hI_.2.2.2.2.2.2.1, hI_.2.2.2.2.2.2.2.1, hI_.2.2.2.2.2.2.2.2.1, (fun _ => rfl), hI_.2.2.2.2.2.2.2.2.2.2.1, hI_.2.2.2.2.2.2.2.2.2.2.2.1, hI_.2.2.2.2.2.2.2.2.2.2.2.2.1, hI_.2.2.2.2.2.2.2.2.2.2.2.2.2.1, hI_.2.2.2.2.2.2.2.2.2.2.2.2.2.2.1, hI_.2.2.2.2.2.2.2.2.2.2.2.2.2.2.2.1, hI_.2.2.2.2.2.2.2.2.2.2.2.2.2.2.2.2.1, hI_.2.2.2.2.2.2.2.2.2.2.2.2.2.2.2.2.2.1, hI_.2.2.2.2.2.2.2.2.2.2.2.2.2.2.2.2.2.2.1, hI_.2.2.2.2.2.2.2.2.2.2.2.2.2.2.2.2.2.2.2.1, hI_.2.2.2.2.2.2.2.2.2.2.2.2.2.2.2.2.2.2.2.2.1, hI_.2.2.2.2.2.2.2.2.2.2.2.2.2.2.2.2.2.2.2.2.2.1, hI_.2.2.2.2.2.2.2.2.2.2.2.2.2.2.2.2.2.2.2.2.2.2.1, hI_.2.2.2.2.2.2.2.2.2.2.2.2.2.2.2.2.2.2.2.2.2.2.2.1, hI_.2.2.2.2.2.2.2.2.2.2.2.2.2.2.2.2.2.2.2.2.2.2.2.2.1, hI_.2.2.2.2.2.2.2.2.2.2.2.2.2.2.2.2.2.2.2.2.2.2.2.2.2⟩)
      go_simp
      all_goals (first | decide | rfl)
    · -- 5
      have e4 := hI_.2.2.2.2.2.2.2.2.2.1 (hd_ 1 4 (by kernel_rfl))
      refine val_ (w1 := w_) (v := .pointer (some ⟨b3, 0, none⟩)) (by rfl) rfl ?_ (hK.out _ _ _ rfl ⟨hI_.1, hI_.2.1, hI_.2.2.1, hI_.2.2.2.1, hI_.2.2.2.2.1, hI_.2.2.2.2.2.1, hI_.2.2.2.2.2.2.1, hI_.2.2.2.2.2.2.2.1, hI_.2.2.2.2.2.2.2.2.1, hI_.2.2.2.2.2.2.2.2.2.1, (fun _ => rfl), hI_.2.2.2.2.2.2.2.2.2.2.2.1, hI_.2.2.2.2.2.2.2.2.2.2.2.2.1, hI_.2.2.2.2.2.2.2.2.2.2.2.2.2.1, hI_.2.2.2.2.2.2.2.2.2.2.2.2.2.2.1, hI_.2.2.2.2.2.2.2.2.2.2.2.2.2.2.2.1, hI_.2.2.2.2.2.2.2.2.2.2.2.2.2.2.2.2.1, hI_.2.2.2.2.2.2.2.2.2.2.2.2.2.2.2.2.2.1, hI_.2.2.2.2.2.2.2.2.2.2.2.2.2.2.2.2.2.2.1, hI_.2.2.2.2.2.2.2.2.2.2.2.2.2.2.2.2.2.2.2.1, hI_.2.2.2.2.2.2.2.2.2.2.2.2.2.2.2.2.2.2.2.2.1, hI_.2.2.2.2.2.2.2.2.2.2.2.2.2.2.2.2.2.2.2.2.2.1, hI_.2.2.2.2.2.2.2.2.2.2.2.2.2.2.2.2.2.2.2.2.2.2.1, hI_.2.2.2.2.2.2.2.2.2.2.2.2.2.2.2.2.2.2.2.2.2.2.2.1, hI_.2.2.2.2.2.2.2.2.2.2.2.2.2.2.2.2.2.2.2.2.2.2.2.2.1, hI_.2.2.2.2.2.2.2.2.2.2.2.2.2.2.2.2.2.2.2.2.2.2.2.2.2⟩)
      go_simp
      all_goals (first | decide | rfl)
    · -- 6
      have wE := hI_.1
      have e5 := hI_.2.2.2.2.2.2.2.2.2.2.1 (hd_ 1 5 (by kernel_rfl))
      have z0_ := (blk_cell wE.e3 0).trans rfl
      refine val_ (w1 := w_) (v := .pointer (some ⟨g0, 0, none⟩)) (by rfl) rfl ?_ (hK.out _ _ _ rfl ⟨hI_.1, hI_.2.1, hI_.2.2.1, hI_.2.2.2.1, hI_.2.2.2.2.1, hI_.2.2.2.2.2.1, hI_.2.2.2.2.2.2.1, hI_.2.2.2.2.2.2.2.1, hI_.2.2.2.2.2.2.2.2.1, hI_.2.2.2.2.2.2.2.2.2.1, hI_.2.2.2.2.2.2.2.2.2.2.1, (fun _ => rfl), hI_.2.2.2.2.2.2.2.2.2.2.2.2.1, hI_.2.2.2.2.2.2.2.2.2.2.2.2.2.1, hI_.2.2.2.2.2.2.2.2.2.2.2.2.2.2.1, hI_.2.2.2.2.2.2.2.2.2.2.2.2.2.2.2.1, hI_.2.2.2.2.2.2.2.2.2.2.2.2.2.2.2.2.1, hI_.2.2.2.2.2.2.2.2.2.2.2.2.2.2.2.2.2.1, hI_.2.2.2.2.2.2.2.2.2.2.2.2.2.2.2.2.2.2.1, hI_.2.2.2.2.2.2.2.2.2.2.2.2.2.2.2.2.2.2.2.1, hI_.2.2.2.2.2.2.2.2.2.2.2.2.2.2.2.2.2.2.2.2.1, hI_.2.2.2.2.2.2.2.2.2.2.2.2.2.2.2.2.2.2.2.2.2.1, hI_.2.2.2.2.2.2.2.2.2.2.2.2.2.2.2.2.2.2.2.2.2.2.1, hI_.2.2.2.2.2.2.2.2.2.2.2.2.2.2.2.2.2.2.2.2.2.2.2.1, hI_.2.2.2.2.2.2.2.2.2.2.2.2.2.2.2.2.2.2.2.2.2.2.2.2.1, hI_.2.2.2.2.2.2.2.2.2.2.2.2.2.2.2.2.2.2.2.2.2.2.2.2.2⟩)
      go_simp
      all_goals (first | decide | rfl)
    · -- 7
      have wE := hI_.1
      have wS23 := hI_.2.1
      have wS24 := hI_.2.2.1
      have wK23 := hI_.2.2.2.1
      have wK24 := hI_.2.2.2.2.1
      have h0 := hI_.2.2.2.2.2.1
      have h1 := hI_.2.2.2.2.2.2.1
      have h2 := hI_.2.2.2.2.2.2.2.1
      have h3 := hI_.2.2.2.2.2.2.2.2.1
      have h4 := hI_.2.2.2.2.2.2.2.2.2.1
      have h5 := hI_.2.2.2.2.2.2.2.2.2.2.1
      have h6 := hI_.2.2.2.2.2.2.2.2.2.2.2.1
      have h7 := hI_.2.2.2.2.2.2.2.2.2.2.2.2.1
      have h8 := hI_.2.2.2.2.2.2.2.2.2.2.2.2.2.1
      have h9 := hI_.2.2.2.2.2.2.2.2.2.2.2.2.2.2.1
      have h10 := hI_.2.2.2.2.2.2.2.2.2.2.2.2.2.2.2.1
      have h11 := hI_.2.2.2.2.2.2.2.2.2.2.2.2.2.2.2.2.1
      have h12 := hI_.2.2.2.2.2.2.2.2.2.2.2.2.2.2.2.2.2.1
      have h13 := hI_.2.2.2.2.2.2.2.2.2.2.2.2.2.2.2.2.2.2.1
      have h14 := hI_.2.2.2.2.2.2.2.2.2.2.2.2.2.2.2.2.2.2.2.1
      have h15 := hI_.2.2.2.2.2.2.2.2.2.2.2.2.2.2.2.2.2.2.2.2.1
      have h16 := hI_.2.2.2.2.2.2.2.2.2.2.2.2.2.2.2.2.2.2.2.2.2.1
      have h17 := hI_.2.2.2.2.2.2.2.2.2.2.2.2.2.2.2.2.2.2.2.2.2.2.1
      have h18 := hI_.2.2.2.2.2.2.2.2.2.2.2.2.2.2.2.2.2.2.2.2.2.2.2.1
      have h19 := hI_.2.2.2.2.2.2.2.2.2.2.2.2.2.2.2.2.2.2.2.2.2.2.2.2.1
      have h20 := hI_.2.2.2.2.2.2.2.2.2.2.2.2.2.2.2.2.2.2.2.2.2.2.2.2.2
      have e2 := h2 (hd_ 1 2 (by kernel_rfl))
      have e6 := h6 (hd_ 1 6 (by kernel_rfl))
      have wE0 : Env w b3 b4 b5 b6 kind true text g0 c0 cap0 g1 c1 cap1 l0 l1 #[.slice A0 l0.length n0, .int .i64 cap0, .slice A1 l1.length n1, .int .i64 cap1] #[.slice none 0 0, .int .i64 0, .slice none 0 0, .int .i64 0] w_ := by rw [hd0_] at wE; exact wE
      refine goes_ Try.func23 (by kernel_rfl) rfl #[X 2, X 6] (by rfl) rfl rfl (by simp only [List.map_toArray, List.map_cons, List.map_nil]; rfl) ?_
      refine calls_args (args2 e2 e6) ?_
      refine (HMOV.out w_ wE0.q1 wE0.q0).mono ?_
      rintro e w' ⟨rfl, hq, hq2, hk⟩
      exact ⟨_, rfl, hK.out _ _ _ rfl ⟨(wE0.call hk (fun j_ h_ => h_.symm) hq2 hq), (SR.call wE0 wS23 hk (fun j_ h_ => h_.symm)), (SR.call wE0 wS24 hk (fun j_ h_ => h_.symm)), (wE0.keeps hk (fun j_ h_ => h_.symm) wK23), (wE0.keeps hk (fun j_ h_ => h_.symm) wK24), h0, h1, h2, h3, h4, h5, h6, (fun _ => rfl), h8, h9, h10, h11, h12, h13, h14, h15, h16, h17, h18, h19, h20⟩⟩
    · -- 8
      refine val_ (w1 := w_) (v := .int .i64 mm) (by rfl) rfl ?_ (hK.out _ _ _ rfl ⟨hI_.1, hI_.2.1, hI_.2.2.1, hI_.2.2.2.1, hI_.2.2.2.2.1, hI_.2.2.2.2.2.1, hI_.2.2.2.2.2.2.1, hI_.2.2.2.2.2.2.2.1, hI_.2.2.2.2.2.2.2.2.1, hI_.2.2.2.2.2.2.2.2.2.1, hI_.2.2.2.2.2.2.2.2.2.2.1, hI_.2.2.2.2.2.2.2.2.2.2.2.1, hI_.2.2.2.2.2.2.2.2.2.2.2.2.1, (fun _ => rfl), hI_.2.2.2.2.2.2.2.2.2.2.2.2.2.2.1, hI_.2.2.2.2.2.2.2.2.2.2.2.2.2.2.2.1, hI_.2.2.2.2.2.2.2.2.2.2.2.2.2.2.2.2.1, hI_.2.2.2.2.2.2.2.2.2.2.2.2.2.2.2.2.2.1, hI_.2.2.2.2.2.2.2.2.2.2.2.2.2.2.2.2.2.2.1, hI_.2.2.2.2.2.2.2.2.2.2.2.2.2.2.2.2.2.2.2.1, hI_.2.2.2.2.2.2.2.2.2.2.2.2.2.2.2.2.2.2.2.2.1, hI_.2.2.2.2.2.2.2.2.2.2.2.2.2.2.2.2.2.2.2.2.2.1, hI_.2.2.2.2.2.2.2.2.2.2.2.2.2.2.2.2.2.2.2.2.2.2.1, hI_.2.2.2.2.2.2.2.2.2.2.2.2.2.2.2.2.2.2.2.2.2.2.2.1, hI_.2.2.2.2.2.2.2.2.2.2.2.2.2.2.2.2.2.2.2.2.2.2.2.2.1, hI_.2.2.2.2.2.2.2.2.2.2.2.2.2.2.2.2.2.2.2.2.2.2.2.2.2⟩)
      go_simp
      all_goals (first | decide | rfl)
    · -- 9
      have e7 := hI_.2.2.2.2.2.2.2.2.2.2.2.2.1 (hd_ 1 7 (by kernel_rfl))
      have e8 := hI_.2.2.2.2.2.2.2.2.2.2.2.2.2.1 (hd_ 1 8 (by kernel_rfl))
      refine val_ (w1 := w_) (v := .bool true) (by rfl) rfl ?_ (hK.out _ _ _ rfl ⟨hI_.1, hI_.2.1, hI_.2.2.1, hI_.2.2.2.1, hI_.2.2.2.2.1, hI_.2.2.2.2.2.1, hI_.2.2.2.2.2.2.1, hI_.2.2.2.2.2.2.2.1, hI_.2.2.2.2.2.2.2.2.1, hI_.2.2.2.2.2.2.2.2.2.1, hI_.2.2.2.2.2.2.2.2.2.2.1, hI_.2.2.2.2.2.2.2.2.2.2.2.1, hI_.2.2.2.2.2.2.2.2.2.2.2.2.1, hI_.2.2.2.2.2.2.2.2.2.2.2.2.2.1, (fun _ => rfl), hI_.2.2.2.2.2.2.2.2.2.2.2.2.2.2.2.1, hI_.2.2.2.2.2.2.2.2.2.2.2.2.2.2.2.2.1, hI_.2.2.2.2.2.2.2.2.2.2.2.2.2.2.2.2.2.1, hI_.2.2.2.2.2.2.2.2.2.2.2.2.2.2.2.2.2.2.1, hI_.2.2.2.2.2.2.2.2.2.2.2.2.2.2.2.2.2.2.2.1, hI_.2.2.2.2.2.2.2.2.2.2.2.2.2.2.2.2.2.2.2.2.1, hI_.2.2.2.2.2.2.2.2.2.2.2.2.2.2.2.2.2.2.2.2.2.1, hI_.2.2.2.2.2.2.2.2.2.2.2.2.2.2.2.2.2.2.2.2.2.2.1, hI_.2.2.2.2.2.2.2.2.2.2.2.2.2.2.2.2.2.2.2.2.2.2.2.1, hI_.2.2.2.2.2.2.2.2.2.2.2.2.2.2.2.2.2.2.2.2.2.2.2.2.1, hI_.2.2.2.2.2.2.2.2.2.2.2.2.2.2.2.2.2.2.2.2.2.2.2.2.2⟩)
      go_simp
      all_goals (first | decide | rfl)
    · -- 10
      have e9 := hI_.2.2.2.2.2.2.2.2.2.2.2.2.2.2.1 (hd_ 1 9 (by kernel_rfl))
      refine val_ (w1 := w_) (v := .bool true) (by rfl) rfl ?_ (hK.out _ _ _ rfl ⟨hI_.1, hI_.2.1, hI_.2.2.1, hI_.2.2.2.1, hI_.2.2.2.2.1, hI_.2.2.2.2.2.1, hI_.2.2.2.2.2.2.1, hI_.2.2.2.2.2.2.2.1, hI_.2.2.2.2.2.2.2.2.1, hI_.2.2.2.2.2.2.2.2.2.1, hI_.2.2.2.2.2.2.2.2.2.2.1, hI_.2.2.2.2.2.2.2.2.2.2.2.1, hI_.2.2.2.2.2.2.2.2.2.2.2.2.1, hI_.2.2.2.2.2.2.2.2.2.2.2.2.2.1, hI_.2.2.2.2.2.2.2.2.2.2.2.2.2.2.1, (fun _ => rfl), hI_.2.2.2.2.2.2.2.2.2.2.2.2.2.2.2.2.1, hI_.2.2.2.2.2.2.2.2.2.2.2.2.2.2.2.2.2.1, hI_.2.2.2.2.2.2.2.2.2.2.2.2.2.2.2.2.2.2.1, hI_.2.2.2.2.2.2.2.2.2.2.2.2.2.2.2.2.2.2.2.1, hI_.2.2.2.2.2.2.2.2.2.2.2.2.2.2.2.2.2.2.2.2.1, hI_.2.2.2.2.2.2.2.2.2.2.2.2.2.2.2.2.2.2.2.2.2.1, hI_.2.2.2.2.2.2.2.2.2.2.2.2.2.2.2.2.2.2.2.2.2.2.1, hI_.2.2.2.2.2.2.2.2.2.2.2.2.2.2.2.2.2.2.2.2.2.2.2.1, hI_.2.2.2.2.2.2.2.2.2.2.2.2.2.2.2.2.2.2.2.2.2.2.2.2.1, hI_.2.2.2.2.2.2.2.2.2.2.2.2.2.2.2.2.2.2.2.2.2.2.2.2.2⟩)
      go_simp
      all_goals (first | decide | rfl)
    · -- 11
      have e10 := hI_.2.2.2.2.2.2.2.2.2.2.2.2.2.2.2.1 (hd_ 1 10 (by kernel_rfl))
      refine val_ (w1 := w_) (v := .int .i64 1) (wanted_of rfl rfl (congrArg some e10)) rfl ?_ (hK.out _ _ _ rfl ⟨hI_.1, hI_.2.1, hI_.2.2.1, hI_.2.2.2.1, hI_.2.2.2.2.1, hI_.2.2.2.2.2.1, hI_.2.2.2.2.2.2.1, hI_.2.2.2.2.2.2.2.1, hI_.2.2.2.2.2.2.2.2.1, hI_.2.2.2.2.2.2.2.2.2.1, hI_.2.2.2.2.2.2.2.2.2.2.1, hI_.2.2.2.2.2.2.2.2.2.2.2.1, hI_.2.2.2.2.2.2.2.2.2.2.2.2.1, hI_.2.2.2.2.2.2.2.2.2.2.2.2.2.1, hI_.2.2.2.2.2.2.2.2.2.2.2.2.2.2.1, hI_.2.2.2.2.2.2.2.2.2.2.2.2.2.2.2.1, (fun _ => rfl), hI_.2.2.2.2.2.2.2.2.2.2.2.2.2.2.2.2.2.1, hI_.2.2.2.2.2.2.2.2.2.2.2.2.2.2.2.2.2.2.1, hI_.2.2.2.2.2.2.2.2.2.2.2.2.2.2.2.2.2.2.2.1, hI_.2.2.2.2.2.2.2.2.2.2.2.2.2.2.2.2.2.2.2.2.1, hI_.2.2.2.2.2.2.2.2.2.2.2.2.2.2.2.2.2.2.2.2.2.1, hI_.2.2.2.2.2.2.2.2.2.2.2.2.2.2.2.2.2.2.2.2.2.2.1, hI_.2.2.2.2.2.2.2.2.2.2.2.2.2.2.2.2.2.2.2.2.2.2.2.1, hI_.2.2.2.2.2.2.2.2.2.2.2.2.2.2.2.2.2.2.2.2.2.2.2.2.1, hI_.2.2.2.2.2.2.2.2.2.2.2.2.2.2.2.2.2.2.2.2.2.2.2.2.2⟩)
      go_simp
      all_goals (first | decide | rfl)
    · -- 12
      have e10 := hI_.2.2.2.2.2.2.2.2.2.2.2.2.2.2.2.1 (hd_ 1 10 (by kernel_rfl))
      have e11 := hI_.2.2.2.2.2.2.2.2.2.2.2.2.2.2.2.2.1 (hd_ 1 11 (by kernel_rfl))
      refine val_ (w1 := w_) (v := .pointer (some ⟨b3, 1, none⟩)) (wanted_of rfl rfl (congrArg some e10)) rfl ?_ (hK.out _ _ _ rfl ⟨hI_.1, hI_.2.1, hI_.2.2.1, hI_.2.2.2.1, hI_.2.2.2.2.1, hI_.2.2.2.2.2.1, hI_.2.2.2.2.2.2.1, hI_.2.2.2.2.2.2.2.1, hI_.2.2.2.2.2.2.2.2.1, hI_.2.2.2.2.2.2.2.2.2.1, hI_.2.2.2.2.2.2.2.2.2.2.1, hI_.2.2.2.2.2.2.2.2.2.2.2.1, hI_.2.2.2.2.2.2.2.2.2.2.2.2.1, hI_.2.2.2.2.2.2.2.2.2.2.2.2.2.1, hI_.2.2.2.2.2.2.2.2.2.2.2.2.2.2.1, hI_.2.2.2.2.2.2.2.2.2.2.2.2.2.2.2.1, hI_.2.2.2.2.2.2.2.2.2.2.2.2.2.2.2.2.1, (fun _ => rfl), hI_.2.2.2.2.2.2.2.2.2.2.2.2.2.2.2.2.2.2.1, hI_.2.2.2.2.2.2.2.2.2.2.2.2.2.2.2.2.2.2.2.1, hI_.2.2.2.2.2.2.2.2.2.2.2.2.2.2.2.2.2.2.2.2.1, hI_.2.2.2.2.2.2.2.2.2.2.2.2.2.2.2.2.2.2.2.2.2.1, hI_.2.2.2.2.2.2.2.2.2.2.2.2.2.2.2.2.2.2.2.2.2.2.1, hI_.2.2.2.2.2.2.2.2.2.2.2.2.2.2.2.2.2.2.2.2.2.2.2.1, hI_.2.2.2.2.2.2.2.2.2.2.2.2.2.2.2.2.2.2.2.2.2.2.2.2.1, hI_.2.2.2.2.2.2.2.2.2.2.2.2.2.2.2.2.2.2.2.2.2.2.2.2.2⟩)
      go_simp
      all_goals (first | decide | rfl)
    · -- 13
      have wE := hI_.1
      have e10 := hI_.2.2.2.2.2.2.2.2.2.2.2.2.2.2.2.1 (hd_ 1 10 (by kernel_rfl))
      have e12 := hI_.2.2.2.2.2.2.2.2.2.2.2.2.2.2.2.2.2.1 (hd_ 1 12 (by kernel_rfl))
      have z0_ := (blk_cell wE.e3 1).trans rfl
      refine val_ (w1 := w_) (v := .pointer (some ⟨g1, 0, none⟩)) (wanted_of rfl rfl (congrArg some e10)) rfl ?_ (hK.out _ _ _ rfl ⟨hI_.1, hI_.2.1, hI_.2.2.1, hI_.2.2.2.1, hI_.2.2.2.2.1, hI_.2.2.2.2.2.1, hI_.2.2.2.2.2.2.1, hI_.2.2.2.2.2.2.2.1, hI_.2.2.2.2.2.2.2.2.1, hI_.2.2.2.2.2.2.2.2.2.1, hI_.2.2.2.2.2.2.2.2.2.2.1, hI_.2.2.2.2.2.2.2.2.2.2.2.1, hI_.2.2.2.2.2.2.2.2.2.2.2.2.1, hI_.2.2.2.2.2.2.2.2.2.2.2.2.2.1, hI_.2.2.2.2.2.2.2.2.2.2.2.2.2.2.1, hI_.2.2.2.2.2.2.2.2.2.2.2.2.2.2.2.1, hI_.2.2.2.2.2.2.2.2.2.2.2.2.2.2.2.2.1, hI_.2.2.2.2.2.2.2.2.2.2.2.2.2.2.2.2.2.1, (fun _ => rfl), hI_.2.2.2.2.2.2.2.2.2.2.2.2.2.2.2.2.2.2.2.1, hI_.2.2.2.2.2.2.2.2.2.2.2.2.2.2.2.2.2.2.2.2.1, hI_.2.2.2.2.2.2.2.2.2.2.2.2.2.2.2.2.2.2.2.2.2.1, hI_.2.2.2.2.2.2.2.2.2.2.2.2.2.2.2.2.2.2.2.2.2.2.1, hI_.2.2.2.2.2.2.2.2.2.2.2.2.2.2.2.2.2.2.2.2.2.2.2.1, hI_.2.2.2.2.2.2.2.2.2.2.2.2.2.2.2.2.2.2.2.2.2.2.2.2.1, hI_.2.2.2.2.2.2.2.2.2.2.2.2.2.2.2.2.2.2.2.2.2.2.2.2.2⟩)
      go_simp
      all_goals (first | decide | rfl)
    · -- 14
      have e10 := hI_.2.2.2.2.2.2.2.2.2.2.2.2.2.2.2.1 (hd_ 1 10 (by kernel_rfl))
      refine val_ (w1 := w_) (v := .int .i64 1) (wanted_of rfl rfl (congrArg some e10)) rfl ?_ (hK.out _ _ _ rfl ⟨hI_.1, hI_.2.1, hI_.2.2.1, hI_.2.2.2.1, hI_.2.2.2.2.1, hI_.2.2.2.2.2.1, hI_.2.2.2.2.2.2.1, hI_.2.2.2.2.2.2.2.1, hI_.2.2.2.2.2.2.2.2.1, hI_.2.2.2.2.2.2.2.2.2.1, hI_.2.2.2.2.2.2.2.2.2.2.1, hI_.2.2.2.2.2.2.2.2.2.2.2.1, hI_.2.2.2.2.2.2.2.2.2.2.2.2.1, hI_.2.2.2.2.2.2.2.2.2.2.2.2.2.1, hI_.2.2.2.2.2.2.2.2.2.2.2.2.2.2.1, hI_.2.2.2.2.2.2.2.2.2.2.2.2.2.2.2.1, hI_.2.2.2.2.2.2.2.2.2.2.2.2.2.2.2.2.1, hI_.2.2.2.2.2.2.2.2.2.2.2.2.2.2.2.2.2.1, hI_.2.2.2.2.2.2.2.2.2.2.2.2.2.2.2.2.2.2.1, (fun _ => rfl), hI_.2.2.2.2.2.2.2.2.2.2.2.2.2.2.2.2.2.2.2.2.1, hI_.2.2.2.2.2.2.2.2.2.2.2.2.2.2.2.2.2.2.2.2.2.1, hI_.2.2.2.2.2.2.2.2.2.2.2.2.2.2.2.2.2.2.2.2.2.2.1, hI_.2.2.2.2.2.2.2.2.2.2.2.2.2.2.2.2.2.2.2.2.2.2.2.1, hI_.2.2.2.2.2.2.2.2.2.2.2.2.2.2.2.2.2.2.2.2.2.2.2.2.1, hI_.2.2.2.2.2.2.2.2.2.2.2.2.2.2.2.2.2.2.2.2.2.2.2.2.2⟩)
      go_simp
      all_goals (first | decide | rfl)
    · -- 15
      have e10 := hI_.2.2.2.2.2.2.2.2.2.2.2.2.2.2.2.1 (hd_ 1 10 (by kernel_rfl))
      have e14 := hI_.2.2.2.2.2.2.2.2.2.2.2.2.2.2.2.2.2.2.2.1 (hd_ 1 14 (by kernel_rfl))
      refine val_ (w1 := w_) (v := .pointer (some ⟨b3, 1, none⟩)) (wanted_of rfl rfl (congrArg some e10)) rfl ?_ (hK.out _ _ _ rfl ⟨hI_.1, hI_.2.1, hI_.2.2.1, hI_.2.2.2.1, hI_.2.2.2.2.1, hI_.2.2.2.2.2.1, hI_.2.2.2.2.2.2.1, hI_.2.2.2.2.2.2.2.1, hI_.2.2.2.2.2.2.2.2.1, hI_.2.2.2.2.2.2.2.2.2.1, hI_.2.2.2.2.2.2.2.2.2.2.1, hI_.2.2.2.2.2.2.2.2.2.2.2.1, hI_.2.2.2.2.2.2.2.2.2.2.2.2.1, hI_.2.2.2.2.2.2.2.2.2.2.2.2.2.1, hI_.2.2.2.2.2.2.2.2.2.2.2.2.2.2.1, hI_.2.2.2.2.2.2.2.2.2.2.2.2.2.2.2.1, hI_.2.2.2.2.2.2.2.2.2.2.2.2.2.2.2.2.1, hI_.2.2.2.2.2.2.2.2.2.2.2.2.2.2.2.2.2.1, hI_.2.2.2.2.2.2.2.2.2.2.2.2.2.2.2.2.2.2.1, hI_.2.2.2.2.2.2.2.2.2.2.2.2.2.2.2.2.2.2.2.1, (fun _ => rfl), hI_.2.2.2.2.2.2.2.2.2.2.2.2.2.2.2.2.2.2.2.2.2.1, hI_.2.2.2.2.2.2.2.2.2.2.2.2.2.2.2.2.2.2.2.2.2.2.1, hI_.2.2.2.2.2.2.2.2.2.2.2.2.2.2.2.2.2.2.2.2.2.2.2.1, hI_.2.2.2.2.2.2.2.2.2.2.2.2.2.2.2.2.2.2.2.2.2.2.2.2.1, hI_.2.2.2.2.2.2.2.2.2.2.2.2.2.2.2.2.2.2.2.2.2.2.2.2.2⟩)
      go_simp
      all_goals (first | decide | rfl)
    · -- 16
      have wE := hI_.1
      have e10 := hI_.2.2.2.2.2.2.2.2.2.2.2.2.2.2.2.1 (hd_ 1 10 (by kernel_rfl))
      have e15 := hI_.2.2.2.2.2.2.2.2.2.2.2.2.2.2.2.2.2.2.2.2.1 (hd_ 1 15 (by kernel_rfl))
      have z0_ := (blk_cell wE.e3 1).trans rfl
      refine val_ (w1 := w_) (v := .pointer (some ⟨g1, 0, none⟩)) (wanted_of rfl rfl (congrArg some e10)) rfl ?_ (hK.out _ _ _ rfl ⟨hI_.1, hI_.2.1, hI_.2.2.1, hI_.2.2.2.1, hI_.2.2.2.2.1, hI_.2.2.2.2.2.1, hI_.2.2.2.2.2.2.1, hI_.2.2.2.2.2.2.2.1, hI_.2.2.2.2.2.2.2.2.1, hI_.2.2.2.2.2.2.2.2.2.1, hI_.2.2.2.2.2.2.2.2.2.2.1, hI_.2.2.2.2.2.2.2.2.2.2.2.1, hI_.2.2.2.2.2.2.2.2.2.2.2.2.1, hI_.2.2.2.2.2.2.2.2.2.2.2.2.2.1, hI_.2.2.2.2.2.2.2.2.2.2.2.2.2.2.1, hI_.2.2.2.2.2.2.2.2.2.2.2.2.2.2.2.1, hI_.2.2.2.2.2.2.2.2.2.2.2.2.2.2.2.2.1, hI_.2.2.2.2.2.2.2.2.2.2.2.2.2.2.2.2.2.1, hI_.2.2.2.2.2.2.2.2.2.2.2.2.2.2.2.2.2.2.1, hI_.2.2.2.2.2.2.2.2.2.2.2.2.2.2.2.2.2.2.2.1, hI_.2.2.2.2.2.2.2.2.2.2.2.2.2.2.2.2.2.2.2.2.1, (fun _ => rfl), hI_.2.2.2.2.2.2.2.2.2.2.2.2.2.2.2.2.2.2.2.2.2.2.1, hI_.2.2.2.2.2.2.2.2.2.2.2.2.2.2.2.2.2.2.2.2.2.2.2.1, hI_.2.2.2.2.2.2.2.2.2.2.2.2.2.2.2.2.2.2.2.2.2.2.2.2.1, hI_.2.2.2.2.2.2.2.2.2.2.2.2.2.2.2.2.2.2.2.2.2.2.2.2.2⟩)
      go_simp
      all_goals (first | decide | rfl)
    · -- 17
      have wE := hI_.1
      have wS23 := hI_.2.1
      have wS24 := hI_.2.2.1
      have wK23 := hI_.2.2.2.1
      have wK24 := hI_.2.2.2.2.1
      have h0 := hI_.2.2.2.2.2.1
      have h1 := hI_.2.2.2.2.2.2.1
      have h2 := hI_.2.2.2.2.2.2.2.1
      have h3 := hI_.2.2.2.2.2.2.2.2.1
      have h4 := hI_.2.2.2.2.2.2.2.2.2.1
      have h5 := hI_.2.2.2.2.2.2.2.2.2.2.1
      have h6 := hI_.2.2.2.2.2.2.2.2.2.2.2.1
      have h7 := hI_.2.2.2.2.2.2.2.2.2.2.2.2.1
      have h8 := hI_.2.2.2.2.2.2.2.2.2.2.2.2.2.1
      have h9 := hI_.2.2.2.2.2.2.2.2.2.2.2.2.2.2.1
      have h10 := hI_.2.2.2.2.2.2.2.2.2.2.2.2.2.2.2.1
      have h11 := hI_.2.2.2.2.2.2.2.2.2.2.2.2.2.2.2.2.1
      have h12 := hI_.2.2.2.2.2.2.2.2.2.2.2.2.2.2.2.2.2.1
      have h13 := hI_.2.2.2.2.2.2.2.2.2.2.2.2.2.2.2.2.2.2.1
      have h14 := hI_.2.2.2.2.2.2.2.2.2.2.2.2.2.2.2.2.2.2.2.1
      have h15 := hI_.2.2.2.2.2.2.2.2.2.2.2.2.2.2.2.2.2.2.2.2.1
      have h16 := hI_.2.2.2.2.2.2.2.2.2.2.2.2.2.2.2.2.2.2.2.2.2.1
      have h17 := hI_.2.2.2.2.2.2.2.2.2.2.2.2.2.2.2.2.2.2.2.2.2.2.1
      have h18 := hI_.2.2.2.2.2.2.2.2.2.2.2.2.2.2.2.2.2.2.2.2.2.2.2.1
      have h19 := hI_.2.2.2.2.2.2.2.2.2.2.2.2.2.2.2.2.2.2.2.2.2.2.2.2.1
      have h20 := hI_.2.2.2.2.2.2.2.2.2.2.2.2.2.2.2.2.2.2.2.2.2.2.2.2.2
      have e10 := h10 (hd_ 1 10 (by kernel_rfl))
      have e13 := h13 (hd_ 1 13 (by kernel_rfl))
      have e16 := h16 (hd_ 1 16 (by kernel_rfl))
      refine goes_ Try.func23 (by kernel_rfl) rfl #[X 13, X 16] (wanted_of rfl rfl (congrArg some e10)) rfl rfl (by simp only [List.map_toArray, List.map_cons, List.map_nil]; rfl) ?_
      refine calls_args (args2 e13 e16) ?_
      refine (move_same w_ g1).mono ?_
      rintro e w' ⟨rfl, hw⟩
      rw [hw]
      exact ⟨_, rfl, hK.out _ _ _ rfl ⟨wE, wS23, wS24, wK23, wK24, h0, h1, h2, h3, h4, h5, h6, h7, h8, h9, h10, h11, h12, h13, h14, h15, h16, (fun _ => rfl), h18, h19, h20⟩⟩
    · -- 18
      have e10 := hI_.2.2.2.2.2.2.2.2.2.2.2.2.2.2.2.1 (hd_ 1 10 (by kernel_rfl))
      have e17 := hI_.2.2.2.2.2.2.2.2.2.2.2.2.2.2.2.2.2.2.2.2.2.2.1 (hd_ 1 17 (by kernel_rfl))
      refine val_ (w1 := w_) (v := .bool true) (wanted_of rfl rfl (congrArg some e10)) rfl ?_ (hK.out _ _ _ rfl ⟨hI_.1, hI_.2.1, hI_.2.2.1, hI_.2.2.2.1, hI_.2.2.2.2.1, hI_.2.2.2.2.2.1, hI_.2.2.2.2.2.2.1, hI_.2.2.2.2.2.2.2.1, hI_.2.2.2.2.2.2.2.2.1, hI_.2.2.2.2.2.2.2.2.2.1, hI_.2.2.2.2.2.2.2.2.2.2.1, hI_.2.2.2.2.2.2.2.2.2.2.2.1, hI_.2.2.2.2.2.2.2.2.2.2.2.2.1, hI_.2.2.2.2.2.2.2.2.2.2.2.2.2.1, hI_.2.2.2.2.2.2.2.2.2.2.2.2.2.2.1, hI_.2.2.2.2.2.2.2.2.2.2.2.2.2.2.2.1, hI_.2.2.2.2.2.2.2.2.2.2.2.2.2.2.2.2.1, hI_.2.2.2.2.2.2.2.2.2.2.2.2.2.2.2.2.2.1, hI_.2.2.2.2.2.2.2.2.2.2.2.2.2.2.2.2.2.2.1, hI_.2.2.2.2.2.2.2.2.2.2.2.2.2.2.2.2.2.2.2.1, hI_.2.2.2.2.2.2.2.2.2.2.2.2.2.2.2.2.2.2.2.2.1, hI_.2.2.2.2.2.2.2.2.2.2.2.2.2.2.2.2.2.2.2.2.2.1, hI_.2.2.2.2.2.2.2.2.2.2.2.2.2.2.2.2.2.2.2.2.2.2.1, (fun _ => rfl), hI_.2.2.2.2.2.2.2.2.2.2.2.2.2.2.2.2.2.2.2.2.2.2.2.2.1, hI_.2.2.2.2.2.2.2.2.2.2.2.2.2.2.2.2.2.2.2.2.2.2.2.2.2⟩)
      go_simp
      all_goals (first | decide | rfl)
    · -- 19
      have e10 := hI_.2.2.2.2.2.2.2.2.2.2.2.2.2.2.2.1 (hd_ 1 10 (by kernel_rfl))
      have e18 := hI_.2.2.2.2.2.2.2.2.2.2.2.2.2.2.2.2.2.2.2.2.2.2.2.1 (hd_ 1 18 (by kernel_rfl))
      refine val_ (w1 := w_) (v := .bool true) (by rfl) rfl ?_ (hK.out _ _ _ rfl ⟨hI_.1, hI_.2.1, hI_.2.2.1, hI_.2.2.2.1, hI_.2.2.2.2.1, hI_.2.2.2.2.2.1, hI_.2.2.2.2.2.2.1, hI_.2.2.2.2.2.2.2.1, hI_.2.2.2.2.2.2.2.2.1, hI_.2.2.2.2.2.2.2.2.2.1, hI_.2.2.2.2.2.2.2.2.2.2.1, hI_.2.2.2.2.2.2.2.2.2.2.2.1, hI_.2.2.2.2.2.2.2.2.2.2.2.2.1, hI_.2.2.2.2.2.2.2.2.2.2.2.2.2.1, hI_.2.2.2.2.2.2.2.2.2.2.2.2.2.2.1, hI_.2.2.2.2.2.2.2.2.2.2.2.2.2.2.2.1, hI_.2.2.2.2.2.2.2.2.2.2.2.2.2.2.2.2.1, hI_.2.2.2.2.2.2.2.2.2.2.2.2.2.2.2.2.2.1, hI_.2.2.2.2.2.2.2.2.2.2.2.2.2.2.2.2.2.2.1, hI_.2.2.2.2.2.2.2.2.2.2.2.2.2.2.2.2.2.2.2.1, hI_.2.2.2.2.2.2.2.2.2.2.2.2.2.2.2.2.2.2.2.2.1, hI_.2.2.2.2.2.2.2.2.2.2.2.2.2.2.2.2.2.2.2.2.2.1, hI_.2.2.2.2.2.2.2.2.2.2.2.2.2.2.2.2.2.2.2.2.2.2.1, hI_.2.2.2.2.2.2.2.2.2.2.2.2.2.2.2.2.2.2.2.2.2.2.2.1, (fun _ => rfl), hI_.2.2.2.2.2.2.2.2.2.2.2.2.2.2.2.2.2.2.2.2.2.2.2.2.2⟩)
      go_simp
      all_goals (first | decide | rfl)
    · -- 20
      have e19 := hI_.2.2.2.2.2.2.2.2.2.2.2.2.2.2.2.2.2.2.2.2.2.2.2.2.1 (hd_ 1 19 (by kernel_rfl))
      refine val_ (w1 := w_) (v := .bool true) (by rfl) rfl ?_ (hK.out _ _ _ rfl ⟨hI_.1, hI_.2.1, hI_.2.2.1, hI_.2.2.2.1, hI_.2.2.2.2.1, hI_.2.2.2.2.2.1, hI_.2.2.2.2.2.2.1, hI_.2.2.2.2.2.2.2.1, hI_.2.2.2.2.2.2.2.2.1, hI_.2.2.2.2.2.2.2.2.2.1, hI_.2.2.2.2.2.2.2.2.2.2.1, hI_.2.2.2.2.2.2.2.2.2.2.2.1, hI_.2.2.2.2.2.2.2.2.2.2.2.2.1, hI_.2.2.2.2.2.2.2.2.2.2.2.2.2.1, hI_.2.2.2.2.2.2.2.2.2.2.2.2.2.2.1, hI_.2.2.2.2.2.2.2.2.2.2.2.2.2.2.2.1, hI_.2.2.2.2.2.2.2.2.2.2.2.2.2.2.2.2.1, hI_.2.2.2.2.2.2.2.2.2.2.2.2.2.2.2.2.2.1, hI_.2.2.2.2.2.2.2.2.2.2.2.2.2.2.2.2.2.2.1, hI_.2.2.2.2.2.2.2.2.2.2.2.2.2.2.2.2.2.2.2.1, hI_.2.2.2.2.2.2.2.2.2.2.2.2.2.2.2.2.2.2.2.2.1, hI_.2.2.2.2.2.2.2.2.2.2.2.2.2.2.2.2.2.2.2.2.2.1, hI_.2.2.2.2.2.2.2.2.2.2.2.2.2.2.2.2.2.2.2.2.2.2.1, hI_.2.2.2.2.2.2.2.2.2.2.2.2.2.2.2.2.2.2.2.2.2.2.2.1, hI_.2.2.2.2.2.2.2.2.2.2.2.2.2.2.2.2.2.2.2.2.2.2.2.2.1, (fun _ => rfl)⟩)
      go_simp
      all_goals (first | decide | rfl)
    intro dn_ X w4 hdn_ hI_
    clear E0 S0 S1 S23 S24 K23 K24
    obtain ⟨wE, wS23, wS24, wK23, wK24, h0, h1, h2, h3, h4, h5, h6, h7, h8, h9, h10, h11, h12, h13, h14, h15, h16, h17, h18, h19, h20⟩ := hI_
    have e20 := h20 (hdn_ 20 (by decide))
    rw [hdn_ 7 (by decide)] at wE
    have E0 := Aside0.mk (show Env w b3 b4 b5 b6 kind true text g0 c0 cap0 g1 c1 cap1 yb ya #[.slice A0 l0.length n0, .int .i64 cap0, .slice A1 l1.length n1, .int .i64 cap1] #[.slice none 0 0, .int .i64 0, .slice none 0 0, .int .i64 0] w4 from wE)
    have S23 := Aside0.mk wS23
    have S24 := Aside0.mk wS24
    have K23 := Aside0.mk wK23
    have K24 := Aside0.mk wK24
    rw [e20]
    clear wE wS23 wS24 wK23 wK24 h0 h1 h2 h3 h4 h5 h6 h7 h8 h9 h10 h11 h12 h13 h14 h15 h16 h17 h18 h19 h20 e20 hdn_
    go_wp2_with (fail)
    refine region_inv (T := ?T28) [some 185, some 186, some 187, some 188, some 189, some 190, none, some 191, none] ?hT28 (fun dn_ X w_ => Env w b3 b4 b5 b6 kind true text g0 c0 cap0 g1 c1 cap1 yb ya (bif dn_ 8 then #[.slice A24 yb.length c24, .int .i64 cap0, .slice A23 ya.length c23, .int .i64 cap1] else bif dn_ 6 then #[.slice A0 l0.length n0, .int .i64 cap0, .slice A23 ya.length c23, .int .i64 cap1] else #[.slice A0 l0.length n0, .int .i64 cap0, .slice A1 l1.length n1, .int .i64 cap1]) #[.slice none 0 0, .int .i64 0, .slice none 0 0, .int .i64 0] w_ ∧ SR w_ A23 c23 ya ∧ SR w_ A24 c24 yb ∧ w_.heap[g23]? = some (.cells #[.slice A23 ya.length c23, .int .i64 cap1] 41 (0, 0)) ∧ w_.heap[g24]? = some (.cells #[.slice A24 yb.length c24, .int .i64 cap0] 41 (0, 0)) ∧ (dn_ 0 = true → X 0 = .int .i64 1) ∧ (dn_ 1 = true → X 1 = .int .i64 1) ∧ (dn_ 2 = true → X 2 = .int .i64 0) ∧ (dn_ 3 = true → X 3 = .agg #[.slice A23 ya.length c23, .int .i64 cap1]) ∧ (dn_ 4 = true → X 4 = .agg #[.slice A24 yb.length c24, .int .i64 cap0]) ∧ (dn_ 5 = true → X 5 = .pointer (some ⟨b4, 2, none⟩)) ∧ (dn_ 6 = true → True) ∧ (dn_ 7 = true → X 7 = .pointer (some ⟨b4, 0, none⟩)) ∧ (dn_ 8 = true → True) ∧ (dn_ 8 = true → dn_ 6 = true)) (by kernel_rfl) (by kernel_rfl) (by rfl) [0, 1, 2, 3, 4, 5, 6, 7, 8] rfl (.cons (some 185) rfl rfl (fun dn_ X w_ hd0_ hd_ hI_ K hK => ?_) (.cons (some 186) rfl rfl (fun dn_ X w_ hd0_ hd_ hI_ K hK => ?_) (.cons (some 187) rfl rfl (fun dn_ X w_ hd0_ hd_ hI_ K hK => ?_) (.cons (some 188) rfl rfl (fun dn_ X w_ hd0_ hd_ hI_ K hK => ?_) (.cons (some 189) rfl rfl (fun dn_ X w_ hd0_ hd_ hI_ K hK => ?_) (.cons (some 190) rfl rfl (fun dn_ X w_ hd0_ hd_ hI_ K hK => ?_) (.cons none rfl rfl (fun dn_ X w_ hd0_ hd_ hI_ K hK => ?_) (.cons (some 191) rfl rfl (fun dn_ X w_ hd0_ hd_ hI_ K hK => ?_) (.cons none rfl rfl (fun dn_ X w_ hd0_ hd_ hI_ K hK => ?_) .nil))))))))) ?h028 ?hend28
    case hT28 =>
      intro X
      simp only [fill, Act.put, List.setIfInBounds_toArray, List.set_cons_zero, List.set_cons_succ, Nat.zero_add, Nat.reduceAdd]
      rfl
    case h028 =>
      exact ⟨E0.out.below (below_drew (Below.refl _ _)), S23.out.below (below_drew (Below.refl _ _)), S24.out.below (below_drew (Below.refl _ _)), blk_below K23.out (below_drew (Below.refl _ _)), blk_below K24.out (below_drew (Below.refl _ _)), noF, noF, noF, noF, noF, noF, noF, noF, noF, noF⟩
    · -- 0
      refine val_ (w1 := w_) (v := .int .i64 1) (by rfl) rfl ?_ (hK.out _ _ _ rfl ⟨hI_.1, hI_.2.1, hI_.2.2.1, hI_.2.2.2.1, hI_.2.2.2.2.1, (fun _ => rfl), hI_.2.2.2.2.2.2.1, hI_.2.2.2.2.2.2.2.1, hI_.2.2.2.2.2.2.2.2.1, hI_.2.2.2.2.2.2.2.2.2.1, hI_.2.2.2.2.2.2.2.2.2.2.1, hI_.2.2.2.2.2.2.2.2.2.2.2.1, hI_.2.2.2.2.2.2.2.2.2.2.2.2.1, hI_.2.2.2.2.2.2.2.2.2.2.2.2.2.1, hI_.2.2.2.2.2.2.2.2.2.2.2.2.2.2⟩)
      go_simp
      all_goals (first | decide | rfl)
    · -- 1
      refine val_ (w1 := w_) (v := .int .i64 1) (by rfl) rfl ?_ (hK.out _ _ _ rfl ⟨hI_.1, hI_.2.1, hI_.2.2.1, hI_.2.2.2.1, hI_.2.2.2.2.1, hI_.2.2.2.2.2.1, (fun _ => rfl), hI_.2.2.2.2.2.2.2.1, hI_.2.2.2.2.2.2.2.2.1, hI_.2.2.2.2.2.2.2.2.2.1, hI_.2.2.2.2.2.2.2.2.2.2.1, hI_.2.2.2.2.2.2.2.2.2.2.2.1, hI_.2.2.2.2.2.2.2.2.2.2.2.2.1, hI_.2.2.2.2.2.2.2.2.2.2.2.2.2.1, hI_.2.2.2.2.2.2.2.2.2.2.2.2.2.2⟩)
      go_simp
      all_goals (first | decide | rfl)
    · -- 2
      have e1 := hI_.2.2.2.2.2.2.1 (hd_ 1 1 (by kernel_rfl))
      refine val_ (w1 := w_) (v := .int .i64 0) (by rfl) rfl ?_ (hK.out _ _ _ rfl ⟨hI_.1, hI_.2.1, hI_.2.2.1, hI_.2.2.2.1, hI_.2.2.2.2.1, hI_.2.2.2.2.2.1, hI_.2.2.2.2.2.2.1, (fun _ => rfl), hI_.2.2.2.2.2.2.2.2.1, hI_.2.2.2.2.2.2.2.2.2.1, hI_.2.2.2.2.2.2.2.2.2.2.1, hI_.2.2.2.2.2.2.2.2.2.2.2.1, hI_.2.2.2.2.2.2.2.2.2.2.2.2.1, hI_.2.2.2.2.2.2.2.2.2.2.2.2.2.1, hI_.2.2.2.2.2.2.2.2.2.2.2.2.2.2⟩)
      go_simp
      all_goals (first | decide | rfl)
    · -- 3
      have wK23 := hI_.2.2.2.1
      have z0_ := (blk_cell wK23 0).trans rfl
      have z1_ := (blk_cell wK23 1).trans rfl
      refine val_ (w1 := w_) (v := .agg #[.slice A23 ya.length c23, .int .i64 cap1]) (by rfl) rfl ?_ (hK.out _ _ _ rfl ⟨hI_.1, hI_.2.1, hI_.2.2.1, hI_.2.2.2.1, hI_.2.2.2.2.1, hI_.2.2.2.2.2.1, hI_.2.2.2.2.2.2.1, hI_.2.2.2.2.2.2.2.1, (fun _ => rfl), hI_.2.2.2.2.2.2.2.2.2.1, hI_.2.2.2.2.2.2.2.2.2.2.1, hI_.2.2.2.2.2.2.2.2.2.2.2.1, hI_.2.2.2.2.2.2.2.2.2.2.2.2.1, hI_.2.2.2.2.2.2.2.2.2.2.2.2.2.1, hI_.2.2.2.2.2.2.2.2.2.2.2.2.2.2⟩)
      go_simp
      all_goals (first | decide | rfl)
    · -- 4
      have wK24 := hI_.2.2.2.2.1
      have z0_ := (blk_cell wK24 0).trans rfl
      have z1_ := (blk_cell wK24 1).trans rfl
      refine val_ (w1 := w_) (v := .agg #[.slice A24 yb.length c24, .int .i64 cap0]) (by rfl) rfl ?_ (hK.out _ _ _ rfl ⟨hI_.1, hI_.2.1, hI_.2.2.1, hI_.2.2.2.1, hI_.2.2.2.2.1, hI_.2.2.2.2.2.1, hI_.2.2.2.2.2.2.1, hI_.2.2.2.2.2.2.2.1, hI_.2.2.2.2.2.2.2.2.1, (fun _ => rfl), hI_.2.2.2.2.2.2.2.2.2.2.1, hI_.2.2.2.2.2.2.2.2.2.2.2.1, hI_.2.2.2.2.2.2.2.2.2.2.2.2.1, hI_.2.2.2.2.2.2.2.2.2.2.2.2.2.1, hI_.2.2.2.2.2.2.2.2.2.2.2.2.2.2⟩)
      go_simp
      all_goals (first | decide | rfl)
    · -- 5
      have e0 := hI_.2.2.2.2.2.1 (hd_ 1 0 (by kernel_rfl))
      refine val_ (w1 := w_) (v := .pointer (some ⟨b4, 2, none⟩)) (by rfl) rfl ?_ (hK.out _ _ _ rfl ⟨hI_.1, hI_.2.1, hI_.2.2.1, hI_.2.2.2.1, hI_.2.2.2.2.1, hI_.2.2.2.2.2.1, hI_.2.2.2.2.2.2.1, hI_.2.2.2.2.2.2.2.1, hI_.2.2.2.2.2.2.2.2.1, hI_.2.2.2.2.2.2.2.2.2.1, (fun _ => rfl), hI_.2.2.2.2.2.2.2.2.2.2.2.1, hI_.2.2.2.2.2.2.2.2.2.2.2.2.1, hI_.2.2.2.2.2.2.2.2.2.2.2.2.2.1, hI_.2.2.2.2.2.2.2.2.2.2.2.2.2.2⟩)
      go_simp
      all_goals (first | decide | rfl)
    · -- 6
      have wE := hI_.1
      have wS23 := hI_.2.1
      have wS24 := hI_.2.2.1
      have wK23 := hI_.2.2.2.1
      have wK24 := hI_.2.2.2.2.1
      have h0 := hI_.2.2.2.2.2.1
      have h1 := hI_.2.2.2.2.2.2.1
      have h2 := hI_.2.2.2.2.2.2.2.1
      have h3 := hI_.2.2.2.2.2.2.2.2.1
      have h4 := hI_.2.2.2.2.2.2.2.2.2.1
      have h5 := hI_.2.2.2.2.2.2.2.2.2.2.1
      have h6 := hI_.2.2.2.2.2.2.2.2.2.2.2.1
      have h7 := hI_.2.2.2.2.2.2.2.2.2.2.2.2.1
      have h8 := hI_.2.2.2.2.2.2.2.2.2.2.2.2.2.1
      have p1 := hI_.2.2.2.2.2.2.2.2.2.2.2.2.2.2
      have e3 := h3 (hd_ 1 3 (by kernel_rfl))
      have e5 := h5 (hd_ 1 5 (by kernel_rfl))
      have d8 : dn_ 8 = false := by
        cases hq : dn_ 8 with
        | false => rfl
        | true => exact Bool.noConfusion (hd0_.symm.trans (p1 hq))
      have wE0 : Env w b3 b4 b5 b6 kind true text g0 c0 cap0 g1 c1 cap1 yb ya #[.slice A0 l0.length n0, .int .i64 cap0, .slice A1 l1.length n1, .int .i64 cap1] #[.slice none 0 0, .int .i64 0, .slice none 0 0, .int .i64 0] w_ := by rw [d8, hd0_] at wE; exact wE
      have z0_ := (blk_cell wE0.e4 2).trans rfl
      have f0_ := blk_frozen wE0.e4 2
      have z1_ := (blk_cell wE0.e4 3).trans rfl
      have f1_ := blk_frozen wE0.e4 3
      rw [if_pos (by rfl)]
      go_simp
      exact hK.out _ undef _ (by simp only [Act.put, List.setIfInBounds_toArray, List.set_cons_zero, List.set_cons_succ, e3, e5]) ⟨(by show Env w b3 b4 b5 b6 kind true text g0 c0 cap0 g1 c1 cap1 yb ya (bif dn_ 8 then #[.slice A24 yb.length c24, .int .i64 cap0, .slice A23 ya.length c23, .int .i64 cap1] else #[.slice A0 l0.length n0, .int .i64 cap0, .slice A23 ya.length c23, .int .i64 cap1]) #[.slice none 0 0, .int .i64 0, .slice none 0 0, .int .i64 0] _; rw [d8]; exact wE0.s4 2 3 (.slice A23 ya.length c23) (.int .i64 cap1)), (((wS23).set wE0.e4 (nos4 A0 l0.length n0 cap0 A1 l1.length n1 cap1) 2 (.slice A23 ya.length c23)).set (wE0.set4 2 (.slice A23 ya.length c23)).e4 (nos4 A0 l0.length n0 cap0 A23 ya.length c23 cap1) 3 (.int .i64 cap1)), (((wS24).set wE0.e4 (nos4 A0 l0.length n0 cap0 A1 l1.length n1 cap1) 2 (.slice A23 ya.length c23)).set (wE0.set4 2 (.slice A23 ya.length c23)).e4 (nos4 A0 l0.length n0 cap0 A23 ya.length c23 cap1) 3 (.int .i64 cap1)), (keep4 wK23 wE0.e4 (by decide) _ _ _ _), (keep4 wK24 wE0.e4 (by decide) _ _ _ _), h0, h1, h2, h3, h4, h5, (fun _ => trivial), h7, h8, (fun q_ => rfl)⟩
    · -- 7
      have e2 := hI_.2.2.2.2.2.2.2.1 (hd_ 1 2 (by kernel_rfl))
      refine val_ (w1 := w_) (v := .pointer (some ⟨b4, 0, none⟩)) (by rfl) rfl ?_ (hK.out _ _ _ rfl ⟨hI_.1, hI_.2.1, hI_.2.2.1, hI_.2.2.2.1, hI_.2.2.2.2.1, hI_.2.2.2.2.2.1, hI_.2.2.2.2.2.2.1, hI_.2.2.2.2.2.2.2.1, hI_.2.2.2.2.2.2.2.2.1, hI_.2.2.2.2.2.2.2.2.2.1, hI_.2.2.2.2.2.2.2.2.2.2.1, hI_.2.2.2.2.2.2.2.2.2.2.2.1, (fun _ => rfl), hI_.2.2.2.2.2.2.2.2.2.2.2.2.2.1, hI_.2.2.2.2.2.2.2.2.2.2.2.2.2.2⟩)
      go_simp
      all_goals (first | decide | rfl)
    · -- 8
      have wE := hI_.1
      have wS23 := hI_.2.1
      have wS24 := hI_.2.2.1
      have wK23 := hI_.2.2.2.1
      have wK24 := hI_.2.2.2.2.1
      have h0 := hI_.2.2.2.2.2.1
      have h1 := hI_.2.2.2.2.2.2.1
      have h2 := hI_.2.2.2.2.2.2.2.1
      have h3 := hI_.2.2.2.2.2.2.2.2.1
      have h4 := hI_.2.2.2.2.2.2.2.2.2.1
      have h5 := hI_.2.2.2.2.2.2.2.2.2.2.1
      have h6 := hI_.2.2.2.2.2.2.2.2.2.2.2.1
      have h7 := hI_.2.2.2.2.2.2.2.2.2.2.2.2.1
      have h8 := hI_.2.2.2.2.2.2.2.2.2.2.2.2.2.1
      have p1 := hI_.2.2.2.2.2.2.2.2.2.2.2.2.2.2
      have e4 := h4 (hd_ 1 4 (by kernel_rfl))
      have e7 := h7 (hd_ 1 7 (by kernel_rfl))
      have d6 := hd_ 1 6 (by kernel_rfl)
      have wE0 : Env w b3 b4 b5 b6 kind true text g0 c0 cap0 g1 c1 cap1 yb ya #[.slice A0 l0.length n0, .int .i64 cap0, .slice A23 ya.length c23, .int .i64 cap1] #[.slice none 0 0, .int .i64 0, .slice none 0 0, .int .i64 0] w_ := by rw [hd0_, d6] at wE; exact wE
      have z0_ := (blk_cell wE0.e4 0).trans rfl
      have f0_ := blk_frozen wE0.e4 0
      have z1_ := (blk_cell wE0.e4 1).trans rfl
      have f1_ := blk_frozen wE0.e4 1
      rw [if_pos (by rfl)]
      go_simp
      exact hK.out _ undef _ (by simp only [Act.put, List.setIfInBounds_toArray, List.set_cons_zero, List.set_cons_succ, e4, e7]) ⟨(wE0.s4 0 1 (.slice A24 yb.length c24) (.int .i64 cap0)), (((wS23).set wE0.e4 (nos4 A0 l0.length n0 cap0 A23 ya.length c23 cap1) 0 (.slice A24 yb.length c24)).set (wE0.set4 0 (.slice A24 yb.length c24)).e4 (nos4 A24 yb.length c24 cap0 A23 ya.length c23 cap1) 1 (.int .i64 cap0)), (((wS24).set wE0.e4 (nos4 A0 l0.length n0 cap0 A23 ya.length c23 cap1) 0 (.slice A24 yb.length c24)).set (wE0.set4 0 (.slice A24 yb.length c24)).e4 (nos4 A24 yb.length c24 cap0 A23 ya.length c23 cap1) 1 (.int .i64 cap0)), (keep4 wK23 wE0.e4 (by decide) _ _ _ _), (keep4 wK24 wE0.e4 (by decide) _ _ _ _), h0, h1, h2, h3, h4, h5, h6, h7, (fun _ => trivial), (fun _ => d6)⟩
    intro dn_ X w5 hdn_ hI_
    clear E0 S23 S24 K23 K24
    obtain ⟨wE, wS23, wS24, wK23, wK24, h0, h1, h2, h3, h4, h5, h6, h7, h8, p1⟩ := hI_
    rw [hdn_ 8 (by decide)] at wE
    have E0 := Aside0.mk (show Env w b3 b4 b5 b6 kind true text g0 c0 cap0 g1 c1 cap1 yb ya #[.slice A24 yb.length c24, .int .i64 cap0, .slice A23 ya.length c23, .int .i64 cap1] #[.slice none 0 0, .int .i64 0, .slice none 0 0, .int .i64 0] w5 from wE)
    have S23 := Aside0.mk wS23
    have S24 := Aside0.mk wS24
    clear wE wS23 wS24 wK23 wK24 h0 h1 h2 h3 h4 h5 h6 h7 h8 p1 hdn_
    go_wp2
    go_meet
    case rel => exact ⟨yb, ya, A24, c24, A23, c23, rfl, ⟨E0.out⟩, ⟨S24.out⟩, ⟨S23.out⟩, ⟨⟨HYL.out.2, HYL.out.1⟩⟩⟩
  case rest =>
    clear E0 S0 S1
    obtain ⟨y0, y1, B0, m0, B1, m1, rfl, E0, S0, S1, HL⟩ := hcut
    go_wp2_with (fail)
    refine region_inv (T := ?T37) [some 267, some 268, some 269, some 270, some 271, some 272, some 273, some 274, some 275, some 276, some 277, some 278, some 279, some 280, some 281, some 282, none, some 7] ?hT37 (fun dn_ X w_ => Env w b3 b4 b5 b6 kind true text g0 c0 cap0 g1 c1 cap1 y0 y1 #[.slice B0 y0.length m0, .int .i64 cap0, .slice B1 y1.length m1, .int .i64 cap1] (bif dn_ 16 then #[.slice B0 y0.length m0, .int .i64 cap0, .slice B1 y1.length m1, .int .i64 cap1] else #[.slice none 0 0, .int .i64 0, .slice none 0 0, .int .i64 0]) w_ ∧ SR w_ B0 m0 y0 ∧ SR w_ B1 m1 y1 ∧ (dn_ 0 = true → X 0 = .agg #[.slice B0 y0.length m0, .int .i64 cap0, .slice B1 y1.length m1, .int .i64 cap1]) ∧ (dn_ 1 = true → X 1 = .bool true) ∧ (dn_ 2 = true → X 2 = .bool true) ∧ (dn_ 3 = true → X 3 = .pointer (some ⟨b3, 0, none⟩)) ∧ (dn_ 4 = true → X 4 = .pointer (some ⟨g0, 0, none⟩)) ∧ (dn_ 5 = true → X 5 = .pointer (some ⟨b4, 0, none⟩)) ∧ (dn_ 6 = true → X 6 = .agg #[.slice B0 y0.length m0, .int .i64 cap0]) ∧ (dn_ 7 = true → X 7 = .bool true) ∧ (dn_ 8 = true → X 8 = .bool true) ∧ (dn_ 9 = true → X 9 = .bool true) ∧ (dn_ 10 = true → X 10 = .pointer (some ⟨b3, 1, none⟩)) ∧ (dn_ 11 = true → X 11 = .pointer (some ⟨g1, 0, none⟩)) ∧ (dn_ 12 = true → X 12 = .pointer (some ⟨b4, 2, none⟩)) ∧ (dn_ 13 = true → X 13 = .agg #[.slice B1 y1.length m1, .int .i64 cap1]) ∧ (dn_ 14 = true → X 14 = .bool true) ∧ (dn_ 15 = true → X 15 = .bool true) ∧ (dn_ 16 = true → True) ∧ (dn_ 17 = true → X 17 = .bool true)) (by kernel_rfl) (by kernel_rfl) (by rfl) [0, 1, 2, 3, 4, 5, 6, 7, 8, 9, 10, 11, 12, 13, 14, 15, 16, 17] rfl (.cons (some 267) rfl rfl (fun dn_ X w_ hd0_ hd_ hI_ K hK => ?_) (.cons (some 268) rfl rfl (fun dn_ X w_ hd0_ hd_ hI_ K hK => ?_) (.cons (some 269) rfl rfl (fun dn_ X w_ hd0_ hd_ hI_ K hK => ?_) (.cons (some 270) rfl rfl (fun dn_ X w_ hd0_ hd_ hI_ K hK => ?_) (.cons (some 271) rfl rfl (fun dn_ X w_ hd0_ hd_ hI_ K hK => ?_) (.cons (some 272) rfl rfl (fun dn_ X w_ hd0_ hd_ hI_ K hK => ?_) (.cons (some 273) rfl rfl (fun dn_ X w_ hd0_ hd_ hI_ K hK => ?_) (.cons (some 274) rfl rfl (fun dn_ X w_ hd0_ hd_ hI_ K hK => ?_) (.cons (some 275) rfl rfl (fun dn_ X w_ hd0_ hd_ hI_ K hK => ?_) (.cons (some 276) rfl rfl (fun dn_ X w_ hd0_ hd_ hI_ K hK => ?_) (.cons (some 277) rfl rfl (fun dn_ X w_ hd0_ hd_ hI_ K hK => ?_) (.cons (some 278) rfl rfl (fun dn_ X w_ hd0_ hd_ hI_ K hK => ?_) (.cons (some 279) rfl rfl (fun dn_ X w_ hd0_ hd_ hI_ K hK => ?_) (.cons (some 280) rfl rfl (fun dn_ X w_ hd0_ hd_ hI_ K hK => ?_) (.cons (some 281) rfl rfl (fun dn_ X w_ hd0_ hd_ hI_ K hK => ?_) (.cons (some 282) rfl rfl (fun dn_ X w_ hd0_ hd_ hI_ K hK => ?_) (.cons none rfl rfl (fun dn_ X w_ hd0_ hd_ hI_ K hK => ?_) (.cons (some 7) rfl rfl (fun dn_ X w_ hd0_ hd_ hI_ K hK => ?_) .nil)))))))))))))))))) ?h037 ?hend37
    case hT37 =>
      intro X
      simp only [fill, Act.put, List.setIfInBounds_toArray, List.set_cons_zero, List.set_cons_succ, Nat.zero_add, Nat.reduceAdd]
      rfl
    case h037 =>
      exact ⟨E0.out.below (below_drew (Below.refl _ _)), S0.out.below (below_drew (Below.refl _ _)), S1.out.below (below_drew (Below.refl _ _)), noF, noF, noF, noF, noF, noF, noF, noF, noF, noF, noF, noF, noF, noF, noF, noF, noF, noF⟩
    · -- 0
      have wE := hI_.1
      have z0_ := (blk_cell wE.e4 0).trans rfl
      have z1_ := (blk_cell wE.e4 1).trans rfl
      have z2_ := (blk_cell wE.e4 2).trans rfl
      have z3_ := (blk_cell wE.e4 3).trans rfl
      refine val_ (w1 := w_) (v := .agg #[.slice B0 y0.length m0, .int .i64 cap0, .slice B1 y1.length m1, .int .i64 cap1]) (by rfl) rfl ?_ (hK.out _ _ _ rfl ⟨hI_.1, hI_.2.1, hI_.2.2.1, (fun _ => rfl), hI_.2.2.2.2.1, hI_.2.2.2.2.2.1, hI_.2.2.2.2.2.2.1, hI_.2.2.2.2.2.2.2.1, hI_.2.2.2.2.2.2.2.2.1, hI_.2.2.2.2.2.2.2.2.2.1, hI_.2.2.2.2.2.2.2.2.2.2.1, hI_.2.2.2.2.2.2.2.2.2.2.2.1, hI_.2.2.2.2.2.2.2.2.2.2.2.2.1, hI_.2.2.2.2.2.2.2.2.2.2.2.2.2.1, hI_.2.2.2.2.2.2.2.2.2.2.2.2.2.2.1, hI_.2.2.2.2.2.2.2.2.2.2.2.2.2.2.2.1, hI_.2.2.2.2.2.2.2.2.2.2.2.2.2.2.2.2.1, hI_.2.2.2.2.2.2.2.2.2.2.2.2.2.2.2.2.2.1, hI_.2.2.2.2.2.2.2.2.2.2.2.2.2.2.2.2.2.2.1, hI_.2.2.2.2.2.2.2.2.2.2.2.2.2.2.2.2.2.2.2.1, hI_.2.2.2.2.2.2.2.2.2.2.2.2.2.2.2.2.2.2.2.2⟩)
      go_simp
      all_goals (first | decide | rfl)
    · -- 1
      refine val_ (w1 := w_) (v := .bool true) (by rfl) rfl ?_ (hK.out _ _ _ rfl ⟨hI_.1, hI_.2.1, hI_.2.2.1, hI_.2.2.2.1, (fun _ => rfl), hI_.2.2.2.2.2.1, hI_.2.2.2.2.2.2.1, hI_.2.2.2.2.2.2.2.1, hI_.2.2.2.2.2.2.2.2.1, hI_.2.2.2.2.2.2.2.2.2.1, hI_.2.2.2.2.2.2.2.2.2.2.1, hI_.2.2.2.2.2.2.2.2.2.2.2.1, hI_.2.2.2.2.2.2.2.2.2.2.2.2.1, hI_.2.2.2.2.2.2.2.2.2.2.2.2.2.1, hI_.2.2.2.2.2.2.2.2.2.2.2.2.2.2.1, hI_.2.2.2.2.2.2.2.2.2.2.2.2.2.2.2.1, hI_.2.2.2.2.2.2.2.2.2.2.2.2.2.2.2.2.1, hI_.2.2.2.2.2.2.2.2.2.2.2.2.2.2.2.2.2.1, hI_.2.2.2.2.2.2.2.2.2.2.2.2.2.2.2.2.2.2.1, hI_.2.2.2.2.2.2.2.2.2.2.2.2.2.2.2.2.2.2.2.1, hI_.2.2.2.2.2.2.2.2.2.2.2.2.2.2.2.2.2.2.2.2⟩)
      go_simp
      all_goals (first | decide | rfl)
    · -- 2
      have e1 := hI_.2.2.2.2.1 (hd_ 1 1 (by kernel_rfl))
      refine val_ (w1 := w_) (v := .bool true) (by rfl) rfl ?_ (hK.out _ _ _ rfl ⟨hI_.1, hI_.2.1, hI_.2.2.1, hI_.2.2.2.1, hI_.2.2.2.2.1, (fun _ => rfl), hI_.2.2.2.2.2.2.1, hI_.2.2.2.2.2.2.2.1, hI_.2.2.2.2.2.2.2.2.1, hI_.2.2.2.2.2.2.2.2.2.1, hI_.2.2.2.2.2.2.2.2.2.2.1, hI_.2.2.2.2.2.2.2.2.2.2.2.1, hI_.2.2.2.2.2.2.2.2.2.2.2.2.1, hI_.2.2.2.2.2.2.2.2.2.2.2.2.2.1, hI_.2.2.2.2.2.2.2.2.2.2.2.2.2.2.1, hI_.2.2.2.2.2.2.2.2.2.2.2.2.2.2.2.1, hI_.2.2.2.2.2.2.2.2.2.2.2.2.2.2.2.2.1, hI_.2.2.2.2.2.2.2.2.2.2.2.2.2.2.2.2.2.1, hI_.2.2.2.2.2.2.2.2.2.2.2.2.2.2.2.2.2.2.1, hI_.2.2.2.2.2.2.2.2.2.2.2.2.2.2.2.2.2.2.2.1, hI_.2.2.2.2.2.2.2.2.2.2.2.2.2.2.2.2.2.2.2.2⟩)
      go_simp
      all_goals (first | decide | rfl)
    · -- 3
      have e2 := hI_.2.2.2.2.2.1 (hd_ 1 2 (by kernel_rfl))
      refine val_ (w1 := w_) (v := .pointer (some ⟨b3, 0, none⟩)) (wanted_of rfl rfl (congrArg some e2)) rfl ?_ (hK.out _ _ _ rfl ⟨hI_.1, hI_.2.1, hI_.2.2.1, hI_.2.2.2.1, hI_.2.2.2.2.1, hI_.2.2.2.2.2.1, (fun _ => rfl), hI_.2.2.2.2.2.2.2.1, hI_.2.2.2.2.2.2.2.2.1, hI_.2.2.2.2.2.2.2.2.2.1, hI_.2.2.2.2.2.2.2.2.2.2.1, hI_.2.2.2.2.2.2.2.2.2.2.2.1, hI_.2.2.2.2.2.2.2.2.2.2.2.2.1, hI_.2.2.2.2.2.2.2.2.2.2.2.2.2.1, hI_.2.2.2.2.2.2.2.2.2.2.2.2.2.2.1, hI_.2.2.2.2.2.2.2.2.2.2.2.2.2.2.2.1, hI_.2.2.2.2.2.2.2.2.2.2.2.2.2.2.2.2.1, hI_.2.2.2.2.2.2.2.2.2.2.2.2.2.2.2.2.2.1, hI_.2.2.2.2.2.2.2.2.2.2.2.2.2.2.2.2.2.2.1, hI_.2.2.2.2.2.2.2.2.2.2.2.2.2.2.2.2.2.2.2.1, hI_.2.2.2.2.2.2.2.2.2.2.2.2.2.2.2.2.2.2.2.2⟩)
      go_simp
      all_goals (first | decide | rfl)
    · -- 4
      have wE := hI_.1
      have e2 := hI_.2.2.2.2.2.1 (hd_ 1 2 (by kernel_rfl))
      have e3 := hI_.2.2.2.2.2.2.1 (hd_ 1 3 (by kernel_rfl))
      have z0_ := (blk_cell wE.e3 0).trans rfl
      refine val_ (w1 := w_) (v := .pointer (some ⟨g0, 0, none⟩)) (wanted_of rfl rfl (congrArg some e2)) rfl ?_ (hK.out _ _ _ rfl ⟨hI_.1, hI_.2.1, hI_.2.2.1, hI_.2.2.2.1, hI_.2.2.2.2.1, hI_.2.2.2.2.2.1, hI_.2.2.2.2.2.2.1, (fun _ => rfl), hI_.2.2.2.2.2.2.2.2.1, hI_.2.2.2.2.2.2.2.2.2.1, hI_.2.2.2.2.2.2.2.2.2.2.1, hI_.2.2.2.2.2.2.2.2.2.2.2.1, hI_.2.2.2.2.2.2.2.2.2.2.2.2.1, hI_.2.2.2.2.2.2.2.2.2.2.2.2.2.1, hI_.2.2.2.2.2.2.2.2.2.2.2.2.2.2.1, hI_.2.2.2.2.2.2.2.2.2.2.2.2.2.2.2.1, hI_.2.2.2.2.2.2.2.2.2.2.2.2.2.2.2.2.1, hI_.2.2.2.2.2.2.2.2.2.2.2.2.2.2.2.2.2.1, hI_.2.2.2.2.2.2.2.2.2.2.2.2.2.2.2.2.2.2.1, hI_.2.2.2.2.2.2.2.2.2.2.2.2.2.2.2.2.2.2.2.1, hI_.2.2.2.2.2.2.2.2.2.2.2.2.2.2.2.2.2.2.2.2⟩)
      go_simp
      all_goals (first | decide | rfl)
    · -- 5
      have e2 := hI_.2.2.2.2.2.1 (hd_ 1 2 (by kernel_rfl))
      refine val_ (w1 := w_) (v := .pointer (some ⟨b4, 0, none⟩)) (wanted_of rfl rfl (congrArg some e2)) rfl ?_ (hK.out _ _ _ rfl ⟨hI_.1, hI_.2.1, hI_.2.2.1, hI_.2.2.2.1, hI_.2.2.2.2.1, hI_.2.2.2.2.2.1, hI_.2.2.2.2.2.2.1, hI_.2.2.2.2.2.2.2.1, (fun _ => rfl), hI_.2.2.2.2.2.2.2.2.2.1, hI_.2.2.2.2.2.2.2.2.2.2.1, hI_.2.2.2.2.2.2.2.2.2.2.2.1, hI_.2.2.2.2.2.2.2.2.2.2.2.2.1, hI_.2.2.2.2.2.2.2.2.2.2.2.2.2.1, hI_.2.2.2.2.2.2.2.2.2.2.2.2.2.2.1, hI_.2.2.2.2.2.2.2.2.2.2.2.2.2.2.2.1, hI_.2.2.2.2.2.2.2.2.2.2.2.2.2.2.2.2.1, hI_.2.2.2.2.2.2.2.2.2.2.2.2.2.2.2.2.2.1, hI_.2.2.2.2.2.2.2.2.2.2.2.2.2.2.2.2.2.2.1, hI_.2.2.2.2.2.2.2.2.2.2.2.2.2.2.2.2.2.2.2.1, hI_.2.2.2.2.2.2.2.2.2.2.2.2.2.2.2.2.2.2.2.2⟩)
      go_simp
      all_goals (first | decide | rfl)
    · -- 6
      have wE := hI_.1
      have e2 := hI_.2.2.2.2.2.1 (hd_ 1 2 (by kernel_rfl))
      have e5 := hI_.2.2.2.2.2.2.2.2.1 (hd_ 1 5 (by kernel_rfl))
      have z0_ := (blk_cell wE.e4 0).trans rfl
      have z1_ := (blk_cell wE.e4 1).trans rfl
      refine val_ (w1 := w_) (v := .agg #[.slice B0 y0.length m0, .int .i64 cap0]) (wanted_of rfl rfl (congrArg some e2)) rfl ?_ (hK.out _ _ _ rfl ⟨hI_.1, hI_.2.1, hI_.2.2.1, hI_.2.2.2.1, hI_.2.2.2.2.1, hI_.2.2.2.2.2.1, hI_.2.2.2.2.2.2.1, hI_.2.2.2.2.2.2.2.1, hI_.2.2.2.2.2.2.2.2.1, (fun _ => rfl), hI_.2.2.2.2.2.2.2.2.2.2.1, hI_.2.2.2.2.2.2.2.2.2.2.2.1, hI_.2.2.2.2.2.2.2.2.2.2.2.2.1, hI_.2.2.2.2.2.2.2.2.2.2.2.2.2.1, hI_.2.2.2.2.2.2.2.2.2.2.2.2.2.2.1, hI_.2.2.2.2.2.2.2.2.2.2.2.2.2.2.2.1, hI_.2.2.2.2.2.2.2.2.2.2.2.2.2.2.2.2.1, hI_.2.2.2.2.2.2.2.2.2.2.2.2.2.2.2.2.2.1, hI_.2.2.2.2.2.2.2.2.2.2.2.2.2.2.2.2.2.2.1, hI_.2.2.2.2.2.2.2.2.2.2.2.2.2.2.2.2.2.2.2.1, hI_.2.2.2.2.2.2.2.2.2.2.2.2.2.2.2.2.2.2.2.2⟩)
      go_simp
      all_goals (first | decide | rfl)
    · -- 7
      have wE := hI_.1
      have wS0 := hI_.2.1
      have wS1 := hI_.2.2.1
      have h0 := hI_.2.2.2.1
      have h1 := hI_.2.2.2.2.1
      have h2 := hI_.2.2.2.2.2.1
      have h3 := hI_.2.2.2.2.2.2.1
      have h4 := hI_.2.2.2.2.2.2.2.1
      have h5 := hI_.2.2.2.2.2.2.2.2.1
      have h6 := hI_.2.2.2.2.2.2.2.2.2.1
      have h7 := hI_.2.2.2.2.2.2.2.2.2.2.1
      have h8 := hI_.2.2.2.2.2.2.2.2.2.2.2.1
      have h9 := hI_.2.2.2.2.2.2.2.2.2.2.2.2.1
      have h10 := hI_.2.2.2.2.2.2.2.2.2.2.2.2.2.1
      have h11 := hI_.2.2.2.2.2.2.2.2.2.2.2.2.2.2.1
      have h12 := hI_.2.2.2.2.2.2.2.2.2.2.2.2.2.2.2.1
      have h13 := hI_.2.2.2.2.2.2.2.2.2.2.2.2.2.2.2.2.1
      have h14 := hI_.2.2.2.2.2.2.2.2.2.2.2.2.2.2.2.2.2.1
      have h15 := hI_.2.2.2.2.2.2.2.2.2.2.2.2.2.2.2.2.2.2.1
      have h16 := hI_.2.2.2.2.2.2.2.2.2.2.2.2.2.2.2.2.2.2.2.1
      have h17 := hI_.2.2.2.2.2.2.2.2.2.2.2.2.2.2.2.2.2.2.2.2
      have e2 := h2 (hd_ 1 2 (by kernel_rfl))
      have e4 := h4 (hd_ 1 4 (by kernel_rfl))
      have e6 := h6 (hd_ 1 6 (by kernel_rfl))
      refine goes_ Try.func28 (by kernel_rfl) rfl #[X 4, X 6] (wanted_of rfl rfl (congrArg some e2)) rfl rfl (by simp only [List.map_toArray, List.map_cons, List.map_nil]; rfl) ?_
      refine calls_args (args2 e4 e6) ?_
      refine (same_c w_ g0 c0 cap0 B0 m0 y0 wE.q0 wS0 HL.out.1 (by have h := HM.out; omega)).mono ?_
      rintro e w' ⟨rfl, hq, hk⟩
      exact ⟨_, rfl, hK.out _ _ _ rfl ⟨(wE.call0 hk hq), (SR.call wE wS0 hk (fun j_ h_ => .inl h_)), (SR.call wE wS1 hk (fun j_ h_ => .inl h_)), h0, h1, h2, h3, h4, h5, h6, (fun _ => rfl), h8, h9, h10, h11, h12, h13, h14, h15, h16, h17⟩⟩
    · -- 8
      have e2 := hI_.2.2.2.2.2.1 (hd_ 1 2 (by kernel_rfl))
      have e7 := hI_.2.2.2.2.2.2.2.2.2.2.1 (hd_ 1 7 (by kernel_rfl))
      refine val_ (w1 := w_) (v := .bool true) (by rfl) rfl ?_ (hK.out _ _ _ rfl ⟨hI_.1, hI_.2.1, hI_.2.2.1, hI_.2.2.2.1, hI_.2.2.2.2.1, hI_.2.2.2.2.2.1, hI_.2.2.2.2.2.2.1, hI_.2.2.2.2.2.2.2.1, hI_.2.2.2.2.2.2.2.2.1, hI_.2.2.2.2.2.2.2.2.2.1, hI_.2.2.2.2.2.2.2.2.2.2.1, (fun _ => rfl), hI_.2.2.2.2.2.2.2.2.2.2.2.2.1, hI_.2.2.2.2.2.2.2.2.2.2.2.2.2.1, hI_.2.2.2.2.2.2.2.2.2.2.2.2.2.2.1, hI_.2.2.2.2.2.2.2.2.2.2.2.2.2.2.2.1, hI_.2.2.2.2.2.2.2.2.2.2.2.2.2.2.2.2.1, hI_.2.2.2.2.2.2.2.2.2.2.2.2.2.2.2.2.2.1, hI_.2.2.2.2.2.2.2.2.2.2.2.2.2.2.2.2.2.2.1, hI_.2.2.2.2.2.2.2.2.2.2.2.2.2.2.2.2.2.2.2.1, hI_.2.2.2.2.2.2.2.2.2.2.2.2.2.2.2.2.2.2.2.2⟩)
      go_simp
      all_goals (first | decide | rfl)
    · -- 9
      have e8 := hI_.2.2.2.2.2.2.2.2.2.2.2.1 (hd_ 1 8 (by kernel_rfl))
      refine val_ (w1 := w_) (v := .bool true) (by rfl) rfl ?_ (hK.out _ _ _ rfl ⟨hI_.1, hI_.2.1, hI_.2.2.1, hI_.2.2.2.1, hI_.2.2.2.2.1, hI_.2.2.2.2.2.1, hI_.2.2.2.2.2.2.1, hI_.2.2.2.2.2.2.2.1, hI_.2.2.2.2.2.2.2.2.1, hI_.2.2.2.2.2.2.2.2.2.1, hI_.2.2.2.2.2.2.2.2.2.2.1, hI_.2.2.2.2.2.2.2.2.2.2.2.1, (fun _ => rfl), hI_.2.2.2.2.2.2.2.2.2.2.2.2.2.1, hI_.2.2.2.2.2.2.2.2.2.2.2.2.2.2.1, hI_.2.2.2.2.2.2.2.2.2.2.2.2.2.2.2.1, hI_.2.2.2.2.2.2.2.2.2.2.2.2.2.2.2.2.1, hI_.2.2.2.2.2.2.2.2.2.2.2.2.2.2.2.2.2.1, hI_.2.2.2.2.2.2.2.2.2.2.2.2.2.2.2.2.2.2.1, hI_.2.2.2.2.2.2.2.2.2.2.2.2.2.2.2.2.2.2.2.1, hI_.2.2.2.2.2.2.2.2.2.2.2.2.2.2.2.2.2.2.2.2⟩)
      go_simp
      all_goals (first | decide | rfl)
    · -- 10
      have e9 := hI_.2.2.2.2.2.2.2.2.2.2.2.2.1 (hd_ 1 9 (by kernel_rfl))
      refine val_ (w1 := w_) (v := .pointer (some ⟨b3, 1, none⟩)) (wanted_of rfl rfl (congrArg some e9)) rfl ?_ (hK.out _ _ _ rfl ⟨hI_.1, hI_.2.1, hI_.2.2.1, hI_.2.2.2.1, hI_.2.2.2.2.1, hI_.2.2.2.2.2.1, hI_.2.2.2.2.2.2.1, hI_.2.2.2.2.2.2.2.1, hI_.2.2.2.2.2.2.2.2.1, hI_.2.2.2.2.2.2.2.2.2.1, hI_.2.2.2.2.2.2.2.2.2.2.1, hI_.2.2.2.2.2.2.2.2.2.2.2.1, hI_.2.2.2.2.2.2.2.2.2.2.2.2.1, (fun _ => rfl), hI_.2.2.2.2.2.2.2.2.2.2.2.2.2.2.1, hI_.2.2.2.2.2.2.2.2.2.2.2.2.2.2.2.1, hI_.2.2.2.2.2.2.2.2.2.2.2.2.2.2.2.2.1, hI_.2.2.2.2.2.2.2.2.2.2.2.2.2.2.2.2.2.1, hI_.2.2.2.2.2.2.2.2.2.2.2.2.2.2.2.2.2.2.1, hI_.2.2.2.2.2.2.2.2.2.2.2.2.2.2.2.2.2.2.2.1, hI_.2.2.2.2.2.2.2.2.2.2.2.2.2.2.2.2.2.2.2.2⟩)
      go_simp
      all_goals (first | decide | rfl)
    · -- 11
      have wE := hI_.1
      have e9 := hI_.2.2.2.2.2.2.2.2.2.2.2.2.1 (hd_ 1 9 (by kernel_rfl))
      have e10 := hI_.2.2.2.2.2.2.2.2.2.2.2.2.2.1 (hd_ 1 10 (by kernel_rfl))
      have z0_ := (blk_cell wE.e3 1).trans rfl
      refine val_ (w1 := w_) (v := .pointer (some ⟨g1, 0, none⟩)) (wanted_of rfl rfl (congrArg some e9)) rfl ?_ (hK.out _ _ _ rfl ⟨hI_.1, hI_.2.1, hI_.2.2.1, hI_.2.2.2.1, hI_.2.2.2.2.1, hI_.2.2.2.2.2.1, hI_.2.2.2.2.2.2.1, hI_.2.2.2.2.2.2.2.1, hI_.2.2.2.2.2.2.2.2.1, hI_.2.2.2.2.2.2.2.2.2.1, hI_.2.2.2.2.2.2.2.2.2.2.1, hI_.2.2.2.2.2.2.2.2.2.2.2.1, hI_.2.2.2.2.2.2.2.2.2.2.2.2.1, hI_.2.2.2.2.2.2.2.2.2.2.2.2.2.1, (fun _ => rfl), hI_.2.2.2.2.2.2.2.2.2.2.2.2.2.2.2.1, hI_.2.2.2.2.2.2.2.2.2.2.2.2.2.2.2.2.1, hI_.2.2.2.2.2.2.2.2.2.2.2.2.2.2.2.2.2.1, hI_.2.2.2.2.2.2.2.2.2.2.2.2.2.2.2.2.2.2.1, hI_.2.2.2.2.2.2.2.2.2.2.2.2.2.2.2.2.2.2.2.1, hI_.2.2.2.2.2.2.2.2.2.2.2.2.2.2.2.2.2.2.2.2⟩)
      go_simp
      all_goals (first | decide | rfl)
    · -- 12
      have e9 := hI_.2.2.2.2.2.2.2.2.2.2.2.2.1 (hd_ 1 9 (by kernel_rfl))
      refine val_ (w1 := w_) (v := .pointer (some ⟨b4, 2, none⟩)) (wanted_of rfl rfl (congrArg some e9)) rfl ?_ (hK.out _ _ _ rfl ⟨hI_.1, hI_.2.1, hI_.2.2.1, hI_.2.2.2.1, hI_.2.2.2.2.1, hI_.2.2.2.2.2.1, hI_.2.2.2.2.2.2.1, hI_.2.2.2.2.2.2.2.1, hI_.2.2.2.2.2.2.2.2.1, hI_.2.2.2.2.2.2.2.2.2.1, hI_.2.2.2.2.2.2.2.2.2.2.1, hI_.2.2.2.2.2.2.2.2.2.2.2.1, hI_.2.2.2.2.2.2.2.2.2.2.2.2.1, hI_.2.2.2.2.2.2.2.2.2.2.2.2.2.1, hI_.2.2.2.2.2.2.2.2.2.2.2.2.2.2.1, (fun _ => rfl), hI_.2.2.2.2.2.2.2.2.2.2.2.2.2.2.2.2.1, hI_.2.2.2.2.2.2.2.2.2.2.2.2.2.2.2.2.2.1, hI_.2.2.2.2.2.2.2.2.2.2.2.2.2.2.2.2.2.2.1, hI_.2.2.2.2.2.2.2.2.2.2.2.2.2.2.2.2.2.2.2.1, hI_.2.2.2.2.2.2.2.2.2.2.2.2.2.2.2.2.2.2.2.2⟩)
      go_simp
      all_goals (first | decide | rfl)
    · -- 13
      have wE := hI_.1
      have e9 := hI_.2.2.2.2.2.2.2.2.2.2.2.2.1 (hd_ 1 9 (by kernel_rfl))
      have e12 := hI_.2.2.2.2.2.2.2.2.2.2.2.2.2.2.2.1 (hd_ 1 12 (by kernel_rfl))
      have z0_ := (blk_cell wE.e4 2).trans rfl
      have z1_ := (blk_cell wE.e4 3).trans rfl
      refine val_ (w1 := w_) (v := .agg #[.slice B1 y1.length m1, .int .i64 cap1]) (wanted_of rfl rfl (congrArg some e9)) rfl ?_ (hK.out _ _ _ rfl ⟨hI_.1, hI_.2.1, hI_.2.2.1, hI_.2.2.2.1, hI_.2.2.2.2.1, hI_.2.2.2.2.2.1, hI_.2.2.2.2.2.2.1, hI_.2.2.2.2.2.2.2.1, hI_.2.2.2.2.2.2.2.2.1, hI_.2.2.2.2.2.2.2.2.2.1, hI_.2.2.2.2.2.2.2.2.2.2.1, hI_.2.2.2.2.2.2.2.2.2.2.2.1, hI_.2.2.2.2.2.2.2.2.2.2.2.2.1, hI_.2.2.2.2.2.2.2.2.2.2.2.2.2.1, hI_.2.2.2.2.2.2.2.2.2.2.2.2.2.2.1, hI_.2.2.2.2.2.2.2.2.2.2.2.2.2.2.2.1, (fun _ => rfl), hI_.2.2.2.2.2.2.2.2.2.2.2.2.2.2.2.2.2.1, hI_.2.2.2.2.2.2.2.2.2.2.2.2.2.2.2.2.2.2.1, hI_.2.2.2.2.2.2.2.2.2.2.2.2.2.2.2.2.2.2.2.1, hI_.2.2.2.2.2.2.2.2.2.2.2.2.2.2.2.2.2.2.2.2⟩)
      go_simp
      all_goals (first | decide | rfl)
    · -- 14
      have wE := hI_.1
      have wS0 := hI_.2.1
      have wS1 := hI_.2.2.1
      have h0 := hI_.2.2.2.1
      have h1 := hI_.2.2.2.2.1
      have h2 := hI_.2.2.2.2.2.1
      have h3 := hI_.2.2.2.2.2.2.1
      have h4 := hI_.2.2.2.2.2.2.2.1
      have h5 := hI_.2.2.2.2.2.2.2.2.1
      have h6 := hI_.2.2.2.2.2.2.2.2.2.1
      have h7 := hI_.2.2.2.2.2.2.2.2.2.2.1
      have h8 := hI_.2.2.2.2.2.2.2.2.2.2.2.1
      have h9 := hI_.2.2.2.2.2.2.2.2.2.2.2.2.1
      have h10 := hI_.2.2.2.2.2.2.2.2.2.2.2.2.2.1
      have h11 := hI_.2.2.2.2.2.2.2.2.2.2.2.2.2.2.1
      have h12 := hI_.2.2.2.2.2.2.2.2.2.2.2.2.2.2.2.1
      have h13 := hI_.2.2.2.2.2.2.2.2.2.2.2.2.2.2.2.2.1
      have h14 := hI_.2.2.2.2.2.2.2.2.2.2.2.2.2.2.2.2.2.1
      have h15 := hI_.2.2.2.2.2.2.2.2.2.2.2.2.2.2.2.2.2.2.1
      have h16 := hI_.2.2.2.2.2.2.2.2.2.2.2.2.2.2.2.2.2.2.2.1
      have h17 := hI_.2.2.2.2.2.2.2.2.2.2.2.2.2.2.2.2.2.2.2.2
      have e9 := h9 (hd_ 1 9 (by kernel_rfl))
      have e11 := h11 (hd_ 1 11 (by kernel_rfl))
      have e13 := h13 (hd_ 1 13 (by kernel_rfl))
      refine goes_ Try.func28 (by kernel_rfl) rfl #[X 11, X 13] (wanted_of rfl rfl (congrArg some e9)) rfl rfl (by simp only [List.map_toArray, List.map_cons, List.map_nil]; rfl) ?_
      refine calls_args (args2 e11 e13) ?_
      refine (same_c w_ g1 c1 cap1 B1 m1 y1 wE.q1 wS1 HL.out.2 (by have h := HM.out; omega)).mono ?_
      rintro e w' ⟨rfl, hq, hk⟩
      exact ⟨_, rfl, hK.out _ _ _ rfl ⟨(wE.call1 hk hq), (SR.call wE wS0 hk (fun j_ h_ => .inr h_)), (SR.call wE wS1 hk (fun j_ h_ => .inr h_)), h0, h1, h2, h3, h4, h5, h6, h7, h8, h9, h10, h11, h12, h13, (fun _ => rfl), h15, h16, h17⟩⟩
    · -- 15
      have e9 := hI_.2.2.2.2.2.2.2.2.2.2.2.2.1 (hd_ 1 9 (by kernel_rfl))
      have e14 := hI_.2.2.2.2.2.2.2.2.2.2.2.2.2.2.2.2.2.1 (hd_ 1 14 (by kernel_rfl))
      refine val_ (w1 := w_) (v := .bool true) (by rfl) rfl ?_ (hK.out _ _ _ rfl ⟨hI_.1, hI_.2.1, hI_.2.2.1, hI_.2.2.2.1, hI_.2.2.2.2.1, hI_.2.2.2.2.2.1, hI_.2.2.2.2.2.2.1, hI_.2.2.2.2.2.2.2.1, hI_.2.2.2.2.2.2.2.2.1, hI_.2.2.2.2.2.2.2.2.2.1, hI_.2.2.2.2.2.2.2.2.2.2.1, hI_.2.2.2.2.2.2.2.2.2.2.2.1, hI_.2.2.2.2.2.2.2.2.2.2.2.2.1, hI_.2.2.2.2.2.2.2.2.2.2.2.2.2.1, hI_.2.2.2.2.2.2.2.2.2.2.2.2.2.2.1, hI_.2.2.2.2.2.2.2.2.2.2.2.2.2.2.2.1, hI_.2.2.2.2.2.2.2.2.2.2.2.2.2.2.2.2.1, hI_.2.2.2.2.2.2.2.2.2.2.2.2.2.2.2.2.2.1, (fun _ => rfl), hI_.2.2.2.2.2.2.2.2.2.2.2.2.2.2.2.2.2.2.2.1, hI_.2.2.2.2.2.2.2.2.2.2.2.2.2.2.2.2.2.2.2.2⟩)
      go_simp
      all_goals (first | decide | rfl)
    · -- 16
      have wE := hI_.1
      have wS0 := hI_.2.1
      have wS1 := hI_.2.2.1
      have h0 := hI_.2.2.2.1
      have h1 := hI_.2.2.2.2.1
      have h2 := hI_.2.2.2.2.2.1
      have h3 := hI_.2.2.2.2.2.2.1
      have h4 := hI_.2.2.2.2.2.2.2.1
      have h5 := hI_.2.2.2.2.2.2.2.2.1
      have h6 := hI_.2.2.2.2.2.2.2.2.2.1
      have h7 := hI_.2.2.2.2.2.2.2.2.2.2.1
      have h8 := hI_.2.2.2.2.2.2.2.2.2.2.2.1
      have h9 := hI_.2.2.2.2.2.2.2.2.2.2.2.2.1
      have h10 := hI_.2.2.2.2.2.2.2.2.2.2.2.2.2.1
      have h11 := hI_.2.2.2.2.2.2.2.2.2.2.2.2.2.2.1
      have h12 := hI_.2.2.2.2.2.2.2.2.2.2.2.2.2.2.2.1
      have h13 := hI_.2.2.2.2.2.2.2.2.2.2.2.2.2.2.2.2.1
      have h14 := hI_.2.2.2.2.2.2.2.2.2.2.2.2.2.2.2.2.2.1
      have h15 := hI_.2.2.2.2.2.2.2.2.2.2.2.2.2.2.2.2.2.2.1
      have h16 := hI_.2.2.2.2.2.2.2.2.2.2.2.2.2.2.2.2.2.2.2.1
      have h17 := hI_.2.2.2.2.2.2.2.2.2.2.2.2.2.2.2.2.2.2.2.2
      have e0 := h0 (hd_ 1 0 (by kernel_rfl))
      have wE0 : Env w b3 b4 b5 b6 kind true text g0 c0 cap0 g1 c1 cap1 y0 y1 #[.slice B0 y0.length m0, .int .i64 cap0, .slice B1 y1.length m1, .int .i64 cap1] #[.slice none 0 0, .int .i64 0, .slice none 0 0, .int .i64 0] w_ := by rw [hd0_] at wE; exact wE
      have z0_ := (blk_cell wE0.e6 0).trans rfl
      have f0_ := blk_frozen wE0.e6 0
      have z1_ := (blk_cell wE0.e6 1).trans rfl
      have f1_ := blk_frozen wE0.e6 1
      have z2_ := (blk_cell wE0.e6 2).trans rfl
      have f2_ := blk_frozen wE0.e6 2
      have z3_ := (blk_cell wE0.e6 3).trans rfl
      have f3_ := blk_frozen wE0.e6 3
      rw [if_pos (by rfl)]
      go_simp
      exact hK.out _ undef _ (by simp only [Act.put, List.setIfInBounds_toArray, List.set_cons_zero, List.set_cons_succ, e0]) ⟨(wE0.w4 _ _ _ _), (wS0.w4 wE0.e6 _ _ _ _ _ _ _ _), (wS1.w4 wE0.e6 _ _ _ _ _ _ _ _), h0, h1, h2, h3, h4, h5, h6, h7, h8, h9, h10, h11, h12, h13, h14, h15, (fun _ => trivial), h17⟩
    · -- 17
      have e15 := hI_.2.2.2.2.2.2.2.2.2.2.2.2.2.2.2.2.2.2.1 (hd_ 1 15 (by kernel_rfl))
      refine val_ (w1 := w_) (v := .bool true) (by rfl) rfl ?_ (hK.out _ _ _ rfl ⟨hI_.1, hI_.2.1, hI_.2.2.1, hI_.2.2.2.1, hI_.2.2.2.2.1, hI_.2.2.2.2.2.1, hI_.2.2.2.2.2.2.1, hI_.2.2.2.2.2.2.2.1, hI_.2.2.2.2.2.2.2.2.1, hI_.2.2.2.2.2.2.2.2.2.1, hI_.2.2.2.2.2.2.2.2.2.2.1, hI_.2.2.2.2.2.2.2.2.2.2.2.1, hI_.2.2.2.2.2.2.2.2.2.2.2.2.1, hI_.2.2.2.2.2.2.2.2.2.2.2.2.2.1, hI_.2.2.2.2.2.2.2.2.2.2.2.2.2.2.1, hI_.2.2.2.2.2.2.2.2.2.2.2.2.2.2.2.1, hI_.2.2.2.2.2.2.2.2.2.2.2.2.2.2.2.2.1, hI_.2.2.2.2.2.2.2.2.2.2.2.2.2.2.2.2.2.1, hI_.2.2.2.2.2.2.2.2.2.2.2.2.2.2.2.2.2.2.1, hI_.2.2.2.2.2.2.2.2.2.2.2.2.2.2.2.2.2.2.2.1, (fun _ => rfl)⟩)
      go_simp
      all_goals (first | decide | rfl)
    intro dn_ X wz hdn_ hI_
    clear E0 S0 S1
    obtain ⟨wE, wS0, wS1, h0, h1, h2, h3, h4, h5, h6, h7, h8, h9, h10, h11, h12, h13, h14, h15, h16, h17⟩ := hI_
    have e17 := h17 (hdn_ 17 (by decide))
    rw [hdn_ 16 (by decide)] at wE
    have E0 := Aside0.mk (show Env w b3 b4 b5 b6 kind true text g0 c0 cap0 g1 c1 cap1 y0 y1 #[.slice B0 y0.length m0, .int .i64 cap0, .slice B1 y1.length m1, .int .i64 cap1] #[.slice B0 y0.length m0, .int .i64 cap0, .slice B1 y1.length m1, .int .i64 cap1] wz from wE)
    have S0 := Aside0.mk wS0
    have S1 := Aside0.mk wS1
    rw [e17]
    clear wE wS0 wS1 h0 h1 h2 h3 h4 h5 h6 h7 h8 h9 h10 h11 h12 h13 h14 h15 h16 h17 e17 hdn_
    go_wp2
    refine bodyPost_ret (results_list (rs := [.cell 6 42, .tmp 7]) rfl (by simp) (.cell b6 42 #[.slice B0 y0.length m0, .int .i64 cap0, .slice B1 y1.length m1, .int .i64 cap1] (0, 0) _ rfl E0.out.e6 Try.underlying42 rfl (by kernel_rfl) (.tmp .nil))) rfl ?_
    exact ⟨y0, y1, B0, m0, B1, m1, rfl, E0.out.q0, E0.out.q1, S0.out, S1.out, HL.out, E0.out.k⟩
end Go.Proofs.Ytdgeaadcidmmfaa
