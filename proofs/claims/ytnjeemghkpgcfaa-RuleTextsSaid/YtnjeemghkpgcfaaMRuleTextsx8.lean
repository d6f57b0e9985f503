-- This text was written by a program of this session (a changed scratch copy of a tool of the kit; NOTES.md tells the changes).
import Derived.Test.YtnjeemghkpgcfaaMRuleTextsx0
import Derived.Test.YtnjeemghkpgcfaaMRuleTextsx2
import Derived.Test.YtnjeemghkpgcfaaMRuleTextsx7
namespace Go.Proofs.Ytnjeemghkpgcfaa.MRuleTexts
open Go.RowKit Go.Proofs.YtnjeemghkpgcfaaW.PrintWords Go.Proofs.YtnjeemghkpgcfaaW.PrintLast Go.Proofs.YtnjeemghkpgcfaaW.PrintMore
attribute [local go_sem] max2_int min2_int max_two min_two max_three min_three max_four min_four   -- for this text's walks alone
set_option linter.unusedVariables false
set_option linter.unusedSimpArgs false

/-! ### slices_Reverse_byte_byte: function 79 -/
def slices_Reverse_byte_byte.l0 : Nat → List Int → Int → Int → Option (List Int)
  | 0, _, _, _ => none
  | k + 1, x0, x2, x3 => if x2 < x3 then (if 0 ≤ x3 then (if x3 < (x0.length : Int) then (if 0 ≤ x2 then (if x2 < (x0.length : Int) then (slices_Reverse_byte_byte.l0 k ((x0.set (x2 : Int).toNat (rd x0 x3)).set (x3 : Int).toNat (rd x0 x2)) (wrap64 (x2 + 1)) (wrap64 (x3 - 1))) else (none)) else (none)) else (none)) else (none)) else (some x0)
def slices_Reverse_byte_byte.f (k : Nat) (l0 : List Int) : Option (List Int) := slices_Reverse_byte_byte.l0 k l0 0 (wrap64 ((l0.length : Int) - 1))
theorem slices_Reverse_byte_byte.mono_l : ∀ k, (∀ y0 y1 y2, LeO (slices_Reverse_byte_byte.l0 k y0 y1 y2) (slices_Reverse_byte_byte.l0 (k + 1) y0 y1 y2))
  | 0 => fun _ _ _ r h => by simp [slices_Reverse_byte_byte.l0] at h
  | k + 1 => by
    have ih0 := slices_Reverse_byte_byte.mono_l k
    · intro y0 y1 y2
      unfold slices_Reverse_byte_byte.l0
      repeat' first
      | (with_reducible exact ih0 _ _ _)
      | (with_reducible exact LeO.refl _)
      | (with_reducible exact LeO.none _)
      | (with_reducible refine LeO.ite ?_ ?_)
      | (with_reducible refine LeO.bind ?_ (fun _ => ?_))
      | exact ih0 _ _ _
      | exact LeO.none _
      | refine LeO.ite ?_ ?_
      | refine LeO.bind ?_ (fun _ => ?_)
theorem slices_Reverse_byte_byte.mono : ∀ a0 k, LeO (slices_Reverse_byte_byte.f k a0) (slices_Reverse_byte_byte.f (k + 1) a0) := by
  intro a0 k
  have ih0 := slices_Reverse_byte_byte.mono_l k
  unfold slices_Reverse_byte_byte.f
  repeat' first
      | (with_reducible exact ih0 _ _ _)
      | (with_reducible exact LeO.refl _)
      | (with_reducible exact LeO.none _)
      | (with_reducible refine LeO.ite ?_ ?_)
      | (with_reducible refine LeO.bind ?_ (fun _ => ?_))
      | exact ih0 _ _ _
      | exact LeO.none _
      | refine LeO.ite ?_ ?_
      | refine LeO.bind ?_ (fun _ => ?_)
def slices_Reverse_byte_byte.T3 : Bool × List (List Nat × List Nat) := (true, [([], []), ([], []), ([], []), ([], []), ([], []), ([], []), ([4, 5], [4, 5]), ([6], [6]), ([], []), ([], []), ([8, 9], [8, 9]), ([10], [10]), ([0, 1, 0, 1, 4, 5, 6, 7, 11], [0, 1]), ([12, 7, 0, 1, 4, 5, 6, 7, 11], [7, 12]), ([2, 3, 0, 1, 2, 3, 4, 5, 6, 7, 8, 9, 10, 11, 12, 13], [2, 3]), ([14, 11, 13, 0, 1, 2, 3, 4, 5, 6, 7, 8, 9, 10, 11, 12, 13], [11, 14])])
def slices_Reverse_byte_byte.B3 : List Nat := [0, 0, 0, 0, 0, 0, 48, 112, 0, 0, 768, 1792, 4083, 8179, 16383, 32767]
theorem slices_Reverse_byte_byte.tab3 : rtab .any (opsOf Try.f79 3) = slices_Reverse_byte_byte.T3 := by kernel_rfl
theorem slices_Reverse_byte_byte.bits3 : waitsOk slices_Reverse_byte_byte.T3.2 slices_Reverse_byte_byte.B3 = true := by kernel_rfl
set_option maxHeartbeats 8000000 in
set_option maxRecDepth 100000 in
theorem slices_Reverse_byte_byte.calls (k : Nat) (P0_ : Nat → Prop) (u9000_ : Value) (l0 : List Int) (r : List Int) (w0 w : World) (hB : Below w0.heap.size w0 w) (ho0 : Kd.R (Kd.int .u8) 5 w w0.heap.size P0_ u9000_ l0) (h : slices_Reverse_byte_byte.f k l0 = some r) :
    Calls Try.prog 79 #[u9000_] w fun e w' => e = .returned (.tuple #[]) ∧ Kd.R (Kd.int .u8) 5 w' w0.heap.size (fun k_ => (P0_ k_ ∨ w.heap.size ≤ k_)) u9000_ r ∧ Below w0.heap.size w0 w' ∧ Kept w w' (fun k_ => P0_ k_) := by
  have HO0 := Aside0.mk (show Kd.R (Kd.int .u8) 5 w w0.heap.size (fun k_ => (P0_ k_ ∨ w.heap.size ≤ k_)) u9000_ l0 from Kd.R_mono ho0 (fun k_ hk => (.inl hk)))
  have HK := Aside0.mk (Kept.refl w (fun k_ => P0_ k_))
  have HW0 := Aside0.mk hB.size
  have HB := Aside0.mk hB
  clear hB
  have H : (slices_Reverse_byte_byte.l0 k l0 0 (wrap64 ((l0.length : Int) - 1))) = some r := h
  clear h
  have H' := Aside0.mk H
  clear H
  obtain ⟨Ao2, co2, eo2⟩ := Kd.R_slice HO0.out
  subst eo2
  go_enter Try.func79, Try.ntmps79
  go_wp2
  go_loopg [2, 3] k (fun kq v2 v3 w' => ∃ (x0_1 : List Int) (x2_1 : Int) (x3_1 : Int), v2 = .int .i64 x2_1 ∧ v3 = .int .i64 x3_1 ∧ Aside0 (slices_Reverse_byte_byte.l0 kq x0_1 x2_1 x3_1 = some r) ∧ Aside0 (kq ≤ k) ∧ Aside0 (Kd.R (Kd.int .u8) 5 w' w0.heap.size (fun k_ => (P0_ k_ ∨ w.heap.size ≤ k_)) (.slice Ao2 l0.length co2) x0_1) ∧ Aside0 (Kept w w' (fun k_ => P0_ k_)) ∧ Aside0 (Below w0.heap.size w0 w'))
  case atStart => exact ⟨(l0), (0), (wrap64 ((l0.length : Int) - 1)), (by first | rfl | (simp; done) | (simp [*]; done)), (by first | rfl | (simp; done) | (simp [*]; done)), H', ⟨Nat.le_refl _⟩, ⟨by (with_reducible repeat (first | apply Kd.R_alloc | apply Kd.R_drewN | apply Kd.R_drew)); exact HO0.out⟩, ⟨by repeat (first | (with_reducible first | exact HK.out | apply Kept.alloc | apply Kept.drewN | apply Kept.drew) | exact HK.out)⟩, ⟨by repeat (first | (with_reducible first | exact HB.out | apply below_alloc | apply pw_below_drewN | apply below_drew1) | exact HB.out)⟩⟩
  case round =>
    clear H'
    try clear p2
    obtain ⟨x0_1, x2_1, x3_1, rfl, rfl, HA, HK1, HO_0, HK, HB⟩ := hrel
    have hl0_1 := (Kd.R_reads' HO_0.out).1
    rw [hl0_1] at HO_0
    (try simp only [hl0_1])
    cases gk with
    | zero => exact absurd HA.out (by simp [slices_Reverse_byte_byte.l0])
    | succ k1 =>
      have H := HA.out
      clear HA
      simp only [slices_Reverse_byte_byte.l0] at H
      by_cases c3 : x2_1 < x3_1
      · rw [if_pos c3] at H
        have c3b0 : decide (x2_1 < x3_1) = true := decide_eq_true c3
        clear c3
        by_cases c4 : 0 ≤ x3_1
        · rw [if_pos c4] at H
          have c4b0 : decide (0 ≤ x3_1) = true := decide_eq_true c4
          clear c4
          by_cases c5 : x3_1 < (x0_1.length : Int)
          · rw [if_pos c5] at H
            have c5b0 : decide (x3_1 < (x0_1.length : Int)) = true := decide_eq_true c5
            clear c5
            by_cases c6 : 0 ≤ x2_1
            · rw [if_pos c6] at H
              have c6b0 : decide (0 ≤ x2_1) = true := decide_eq_true c6
              clear c6
              by_cases c7 : x2_1 < (x0_1.length : Int)
              · rw [if_pos c7] at H
                have c7b0 : decide (x2_1 < (x0_1.length : Int)) = true := decide_eq_true c7
                clear c7
                obtain ⟨y353, hy353⟩ : ∃ y_ : List Int, y_ = (x0_1.set (x2_1 : Int).toNat (rd x0_1 x3_1)) := ⟨_, rfl⟩
                replace H : (slices_Reverse_byte_byte.l0 k1 (y353.set (x3_1 : Int).toNat (rd x0_1 x2_1)) (wrap64 (x2_1 + 1)) (wrap64 (x3_1 - 1))) = some r := by first | (rw [hy353]; with_reducible exact H) | (have H2_ := (Option.bind_some _ _).symm.trans H; rw [hy353]; with_reducible exact H2_) | (have H2_ := (Option.bind_some _ _).symm.trans H; with_reducible exact H2_) | with_reducible exact H | (rw [hy353]; exact H) | exact H
                have Ny353 := Aside0.mk hy353
                clear hy353
                obtain ⟨y354, hy354⟩ : ∃ y_ : List Int, y_ = (y353.set (x3_1 : Int).toNat (rd x0_1 x2_1)) := ⟨_, rfl⟩
                replace H : (slices_Reverse_byte_byte.l0 k1 y354 (wrap64 (x2_1 + 1)) (wrap64 (x3_1 - 1))) = some r := by first | (rw [hy354]; with_reducible exact H) | (have H2_ := (Option.bind_some _ _).symm.trans H; rw [hy354]; with_reducible exact H2_) | (have H2_ := (Option.bind_some _ _).symm.trans H; with_reducible exact H2_) | with_reducible exact H | (rw [hy354]; exact H) | exact H
                have Ny354 := Aside0.mk hy354
                clear hy354
                have H' := Aside0.mk H
                clear H
                try go_wp2
                have n0_ := Aside0.mk (Kd.R_drew HO_0.out)
                have n1_ := Aside0.mk (Kept.drew HK.out)
                have n2_ := Aside0.mk (below_drew1 HB.out)
                clear HO_0
                clear HK
                clear HB
                have HO_0 := n0_
                have HK := n1_
                have HB := n2_
                clear n0_ n1_ n2_
                have p351 : 0 ≤ (x3_1 : Int) := of_decide_eq_true (by first | (with_reducible assumption) | assumption)
                have q351 : x3_1 < (x0_1.length : Int) := of_decide_eq_true (by first | (with_reducible assumption) | assumption)
                obtain ⟨ad351, e351, hx351_0⟩ := Kd.at_int (Kd.R_reads' HO_0.out).2.2 x3_1 p351 q351
                cases e351
                replace p351 := eq_true p351
                replace q351 := eq_true q351
                have p352 : 0 ≤ (x2_1 : Int) := of_decide_eq_true (by first | (with_reducible assumption) | assumption)
                have q352 : x2_1 < (x0_1.length : Int) := of_decide_eq_true (by first | (with_reducible assumption) | assumption)
                obtain ⟨ad352, e352, hx352_0⟩ := Kd.at_int (Kd.R_reads' HO_0.out).2.2 x2_1 p352 q352
                obtain rfl : ad351 = ad352 := (by injection e352)
                replace p352 := eq_true p352
                replace q352 := eq_true q352
                have p8 : 0 ≤ (x2_1 : Int) := of_decide_eq_true (by first | (with_reducible assumption) | assumption)
                have q8 : (x2_1 : Int) < ((x0_1.length : Int) : Int) := of_decide_eq_true (by first | (with_reducible assumption) | assumption)
                obtain ⟨go8, co8, eo8, gb8, gl8, cl8, HG8⟩ := Kd.R_form HO_0.out (by omega)
                (first | cases eo8 | (injection eo8 with ea_ en_ ec_; (first | subst ea_ | (injection ea_ with ea_; subst ea_)); subst ec_; clear en_))
                have GB8 := Aside0.mk gb8
                have GG8 := Aside0.mk HG8
                clear gb8 gl8 HG8
                have HMgo8 := Aside0.mk (show (P0_ go8 ∨ w.heap.size ≤ go8) from (HO_0.out.1 _ rfl))
                (first | simp only [add_plain] at hx351_0 | skip)
                (first | simp only [add_plain] at hx352_0 | skip)
                obtain ⟨hx8_0, hf8_0⟩ := Kd.R_celln 0 HO_0.out (x2_1 : Int) p8 q8
                replace p8 := eq_true p8
                replace q8 := eq_true q8
                have HP11 := Kd.R_putn HO_0.out (x2_1 : Int) (rd x0_1 x3_1)
                rw [← Ny353.out] at HP11
                have HQ11 := Aside0.mk HP11
                clear HP11
                have p9 : 0 ≤ (x3_1 : Int) := of_decide_eq_true (by first | (with_reducible assumption) | assumption)
                have q9 : (x3_1 : Int) < ((x0_1.length : Int) : Int) := of_decide_eq_true (by first | (with_reducible assumption) | assumption)
                obtain ⟨hx9_0, hf9_0⟩ := Kd.R_celln 0 HQ11.out (x3_1 : Int) p9 q9
                replace p9 := eq_true p9
                replace q9 := eq_true q9
                have HP12 := Kd.R_putn HQ11.out (x3_1 : Int) (rd x0_1 x2_1)
                rw [← Ny354.out] at HP12
                have HQ12 := Aside0.mk HP12
                clear HP12
                refine start_ (n := 16) (S := fun w' => w'.cell? ⟨go8, (x3_1).toNat, none⟩ = some (.int .u8 (rd x0_1 x3_1)) ∧ w'.cell? ⟨go8, (x2_1).toNat, none⟩ = some (.int .u8 (rd x0_1 x2_1))) (ds := [13, 15]) #[false, false, false, false, false, false, false, false, false, false, false, false, false, false, false, false] (by kernel_rfl) rfl rfl ⟨hx351_0, hx352_0⟩ (fun hHeld => ?_); refine with_tabW slices_Reverse_byte_byte.tab3 slices_Reverse_byte_byte.bits3 (fun HT_ HW_ => ?_)
                generalize wr.drew = w10 at HO_0 HK HB GG8 HQ11 HQ12 hf8_0 hf9_0 hx351_0 hx352_0 hx8_0 hx9_0 hHeld ⊢
                refine pure_ (i := 0) (N := some 14) (v := ?_) (a' := ?_) #[true, false, false, false, false, false, false, false, false, false, false, false, false, false, false, false] rfl rfl (any_of HT_.out (by kernel_rfl)) (fun _ _ _ h => h) (Or.inl ⟨by rfl, ?_⟩) ?_ ?_
                rotate_left
                · intro w'
                  go_simp
                  with_reducible rfl
                rotate_left
                · simp only [Act.put, List.setIfInBounds_toArray, List.set_cons_zero, List.set_cons_succ, i64_w, i32_w]
                  rfl
                refine pure_ (i := 1) (N := some 15) (v := ?_) (a' := ?_) #[true, true, false, false, false, false, false, false, false, false, false, false, false, false, false, false] rfl rfl (any_of HT_.out (by kernel_rfl)) (fun _ _ _ h => h) (Or.inl ⟨by rfl, ?_⟩) ?_ ?_
                rotate_left
                · intro w'
                  go_simp
                  with_reducible rfl
                rotate_left
                · simp only [Act.put, List.setIfInBounds_toArray, List.set_cons_zero, List.set_cons_succ, i64_w, i32_w]
                  rfl
                refine pure_ (i := 2) (N := some 16) (v := ?_) (a' := ?_) #[true, true, true, false, false, false, false, false, false, false, false, false, false, false, false, false] rfl rfl (any_of HT_.out (by kernel_rfl)) (fun _ _ _ h => h) (Or.inl ⟨by rfl, ?_⟩) ?_ ?_
                rotate_left
                · intro w'
                  go_simp
                  with_reducible rfl
                rotate_left
                · simp only [Act.put, List.setIfInBounds_toArray, List.set_cons_zero, List.set_cons_succ, i64_w, i32_w]
                  rfl
                refine pure_ (i := 3) (N := some 17) (v := ?_) (a' := ?_) #[true, true, true, true, false, false, false, false, false, false, false, false, false, false, false, false] rfl rfl (any_of HT_.out (by kernel_rfl)) (fun _ _ _ h => h) (Or.inl ⟨by rfl, ?_⟩) ?_ ?_
                rotate_left
                · intro w'
                  go_simp
                  with_reducible rfl
                rotate_left
                · simp only [Act.put, List.setIfInBounds_toArray, List.set_cons_zero, List.set_cons_succ, i64_w, i32_w]
                  rfl
                refine pure_ (i := 4) (N := some 18) (v := ?_) (a' := ?_) #[true, true, true, true, true, false, false, false, false, false, false, false, false, false, false, false] rfl rfl (any_of HT_.out (by kernel_rfl)) (fun _ _ _ h => h) (Or.inl ⟨by rfl, ?_⟩) ?_ ?_
                rotate_left
                · intro w'
                  go_simp
                  with_reducible rfl
                rotate_left
                · simp only [Act.put, List.setIfInBounds_toArray, List.set_cons_zero, List.set_cons_succ, i64_w, i32_w]
                  rfl
                refine pure_ (i := 5) (N := some 19) (v := ?_) (a' := ?_) #[true, true, true, true, true, true, false, false, false, false, false, false, false, false, false, false] rfl rfl (any_of HT_.out (by kernel_rfl)) (fun _ _ _ h => h) (Or.inl ⟨by rfl, ?_⟩) ?_ ?_
                rotate_left
                · intro w'
                  go_simp
                  with_reducible rfl
                rotate_left
                · simp only [Act.put, List.setIfInBounds_toArray, List.set_cons_zero, List.set_cons_succ, i64_w, i32_w]
                  rfl
                refine pure_ (i := 6) (N := some 20) (v := ?_) (a' := ?_) #[true, true, true, true, true, true, true, false, false, false, false, false, false, false, false, false] rfl rfl (any_of HT_.out (by kernel_rfl)) (fun _ _ _ h => h) (Or.inl ⟨by rfl, ?_⟩) ?_ ?_
                rotate_left
                · intro w'
                  go_simp
                  with_reducible rfl
                rotate_left
                · simp only [Act.put, List.setIfInBounds_toArray, List.set_cons_zero, List.set_cons_succ, i64_w, i32_w]
                  rfl
                refine pure_ (i := 8) (N := some 22) (v := ?_) (a' := ?_) #[true, true, true, true, true, true, true, false, true, false, false, false, false, false, false, false] rfl rfl (any_of HT_.out (by kernel_rfl)) (fun _ _ _ h => h) (Or.inl ⟨by rfl, ?_⟩) ?_ ?_
                rotate_left
                · intro w'
                  go_simp
                  with_reducible rfl
                rotate_left
                · simp only [Act.put, List.setIfInBounds_toArray, List.set_cons_zero, List.set_cons_succ, i64_w, i32_w]
                  rfl
                refine pure_ (i := 9) (N := some 23) (v := ?_) (a' := ?_) #[true, true, true, true, true, true, true, false, true, true, false, false, false, false, false, false] rfl rfl (any_of HT_.out (by kernel_rfl)) (fun _ _ _ h => h) (Or.inl ⟨by rfl, ?_⟩) ?_ ?_
                rotate_left
                · intro w'
                  go_simp
                  with_reducible rfl
                rotate_left
                · simp only [Act.put, List.setIfInBounds_toArray, List.set_cons_zero, List.set_cons_succ, i64_w, i32_w]
                  rfl
                refine pure_ (i := 10) (N := some 24) (v := ?_) (a' := ?_) #[true, true, true, true, true, true, true, false, true, true, true, false, false, false, false, false] rfl rfl (any_of HT_.out (by kernel_rfl)) (fun _ _ _ h => h) (Or.inl ⟨by rfl, ?_⟩) ?_ ?_
                rotate_left
                · intro w'
                  go_simp
                  with_reducible rfl
                rotate_left
                · simp only [Act.put, List.setIfInBounds_toArray, List.set_cons_zero, List.set_cons_succ, i64_w, i32_w]
                  rfl
                refine take_ (i := 7) (N := some 21) (v := ?_) (a' := ?_) #[true, true, true, true, true, true, true, true, true, true, true, false, false, false, false, false] rfl rfl (take_ofW HT_.out HW_.out (by kernel_rfl)) (fun _ _ _ h => h) (Or.inl ⟨by rfl, ?_⟩) hHeld ?_ ?_
                rotate_left
                · rintro w' ⟨s0, s1⟩
                  go_simp
                  with_reducible rfl
                rotate_left
                · simp only [Act.put, List.setIfInBounds_toArray, List.set_cons_zero, List.set_cons_succ, i64_w, i32_w]
                  rfl
                refine take_ (i := 11) (N := some 25) (v := ?_) (a' := ?_) #[true, true, true, true, true, true, true, true, true, true, true, true, false, false, false, false] rfl rfl (take_ofW HT_.out HW_.out (by kernel_rfl)) (fun _ _ _ h => h) (Or.inl ⟨by rfl, ?_⟩) hHeld ?_ ?_
                rotate_left
                · rintro w' ⟨s0, s1⟩
                  go_simp
                  with_reducible rfl
                rotate_left
                · simp only [Act.put, List.setIfInBounds_toArray, List.set_cons_zero, List.set_cons_succ, i64_w, i32_w]
                  rfl
                refine pure_ (i := 12) (N := some 26) (v := ?_) (a' := ?_) #[true, true, true, true, true, true, true, true, true, true, true, true, true, false, false, false] rfl rfl (any_of HT_.out (by kernel_rfl)) (fun _ _ _ h => h) (Or.inl ⟨by rfl, ?_⟩) ?_ ?_
                rotate_left
                · intro w'
                  go_simp
                  with_reducible rfl
                rotate_left
                · simp only [Act.put, List.setIfInBounds_toArray, List.set_cons_zero, List.set_cons_succ, i64_w, i32_w]
                  rfl
                refine last_ (i := 13) (N := none) #[true, true, true, true, true, true, true, true, true, true, true, true, true, true, false, false] rfl rfl (one_of HT_.out (by kernel_rfl)) (by decide) (fun K hK => ?_)
                refine skip_ (w1 := ?_) (by rfl) rfl ?_ ?_
                rotate_left
                · go_simp
                  rfl
                refine hK.out _ _ ?_
                clear hK K
                refine pure_ (i := 14) (N := some 27) (v := ?_) (a' := ?_) #[true, true, true, true, true, true, true, true, true, true, true, true, true, true, true, false] rfl rfl (any_of HT_.out (by kernel_rfl)) (fun _ _ _ h => h) (Or.inl ⟨by rfl, ?_⟩) ?_ ?_
                rotate_left
                · intro w'
                  go_simp
                  with_reducible rfl
                rotate_left
                · simp only [Act.put, List.setIfInBounds_toArray, List.set_cons_zero, List.set_cons_succ, i64_w, i32_w]
                  rfl
                refine last_ (i := 15) (N := none) #[true, true, true, true, true, true, true, true, true, true, true, true, true, true, true, true] rfl rfl (one_of HT_.out (by kernel_rfl)) (by decide) (fun K hK => ?_)
                refine skip_ (w1 := ?_) (by rfl) rfl ?_ ?_
                rotate_left
                · go_simp
                  rfl
                refine hK.out _ _ ?_
                clear hK K
                refine done_ (done_of HT_.out (by kernel_rfl)) ?_
                try go_wp2
                (try simp only [← hl0_1])
                go_roundg k1
                case measure => have := HK1.out; omega
                case rel => exact ⟨(y354), (wrap64 (x2_1 + 1)), (wrap64 (x3_1 - 1)), (by first | rfl | (simp; done) | (simp [*]; done)), (by first | rfl | (simp; done) | (simp [*]; done)), H', ⟨by have := HK1.out; omega⟩, ⟨by (try simp only [hl0_1]); (with_reducible repeat (first | apply Kd.R_alloc | apply Kd.R_drewN | apply Kd.R_drew)); exact HQ12.out⟩, ⟨by repeat (first | (with_reducible first | exact HK.out | apply Kept.alloc | apply Kept.drewN | apply Kept.drew | refine Kept.setCell ?_ HMgo8.out _ | refine Kept.setCell ?_ HMgo8.out _) | exact HK.out)⟩, ⟨by repeat (first | (with_reducible first | exact HB.out | apply below_alloc | apply pw_below_drewN | apply below_drew1 | refine below_set ?_ GB8.out | refine below_set ?_ GB8.out) | exact HB.out)⟩⟩
              · rw [if_neg c7] at H
                exact absurd H (by simp)
            · rw [if_neg c6] at H
              exact absurd H (by simp)
          · rw [if_neg c5] at H
            exact absurd H (by simp)
        · rw [if_neg c4] at H
          exact absurd H (by simp)
      · rw [if_neg c3] at H
        have c3b0 : decide (x2_1 < x3_1) = false := decide_eq_false c3
        clear c3
        obtain rfl := Option.some.inj H
        go_wp2
        first | go_end0 | ((try simp only [Exit.inBlock, Exit.then]); refine bodyPost_ret (results_none rfl _ _ _) rfl ?_)
        exact ⟨by first | rfl | (simp [errW_none, errW_some] <;> rfl) | (simp [*, errW_none, errW_some] <;> rfl), (by first | exact (by (with_reducible repeat (first | apply Kd.R_alloc | apply Kd.R_drewN | apply Kd.R_drew)); exact HO_0.out) | (simp only [hl0_1]; exact (by (with_reducible repeat (first | apply Kd.R_alloc | apply Kd.R_drewN | apply Kd.R_drew)); exact HO_0.out))), by repeat (first | (with_reducible first | exact HB.out | apply below_alloc | apply pw_below_drewN | apply below_drew1) | exact HB.out), by repeat (first | (with_reducible first | exact HK.out | apply Kept.alloc | apply Kept.drewN | apply Kept.drew) | exact HK.out)⟩

/-! ### figures_raw: function 72 -/
def figures_raw.l0 : Nat → Int → Int → List Int → Option (ByteArray)
  | 0, _, _, _ => none
  | k + 1, x0, x1, x5 => if x0 > 0 then (if x5.length < 140737488355328 then (figures_raw.l0 k (IntKind.u64.wrap (Int.tdiv x0 10)) x1 (x5 ++ [(48 + (Int.tmod x0 10)) % 256])) else (none)) else (if (x5.length : Int) < (mx x1 1) then (if x5.length < 140737488355328 then (figures_raw.l0 k (IntKind.u64.wrap (Int.tdiv x0 10)) x1 (x5 ++ [(48 + (Int.tmod x0 10)) % 256])) else (none)) else ((slices_Reverse_byte_byte.f k x5).bind fun t361 => (some (strOfNums t361))))
def figures_raw.f (k : Nat) (a0 : Int) (a1 : Int) : Option (ByteArray) := figures_raw.l0 k a0 a1 ([] : List Int)
theorem figures_raw.mono_l : ∀ k, (∀ y0 y1 y2, LeO (figures_raw.l0 k y0 y1 y2) (figures_raw.l0 (k + 1) y0 y1 y2))
  | 0 => fun _ _ _ r h => by simp [figures_raw.l0] at h
  | k + 1 => by
    have ih0 := figures_raw.mono_l k
    · intro y0 y1 y2
      unfold figures_raw.l0
      repeat' first
      | (with_reducible exact ih0 _ _ _)
      | (with_reducible exact slices_Reverse_byte_byte.mono _ _)
      | (with_reducible exact LeO.refl _)
      | (with_reducible exact LeO.none _)
      | (with_reducible refine LeO.ite ?_ ?_)
      | (with_reducible refine LeO.bind ?_ (fun _ => ?_))
      | exact ih0 _ _ _
      | exact slices_Reverse_byte_byte.mono _ _
      | exact LeO.none _
      | refine LeO.ite ?_ ?_
      | refine LeO.bind ?_ (fun _ => ?_)
theorem figures_raw.mono : ∀ a0 a1 k, LeO (figures_raw.f k a0 a1) (figures_raw.f (k + 1) a0 a1) := by
  intro a0 a1 k
  have ih0 := figures_raw.mono_l k
  unfold figures_raw.f
  repeat' first
      | (with_reducible exact ih0 _ _ _)
      | (with_reducible exact slices_Reverse_byte_byte.mono _ _)
      | (with_reducible exact LeO.refl _)
      | (with_reducible exact LeO.none _)
      | (with_reducible refine LeO.ite ?_ ?_)
      | (with_reducible refine LeO.bind ?_ (fun _ => ?_))
      | exact ih0 _ _ _
      | exact slices_Reverse_byte_byte.mono _ _
      | exact LeO.none _
      | refine LeO.ite ?_ ?_
      | refine LeO.bind ?_ (fun _ => ?_)
set_option maxHeartbeats 8000000 in
set_option maxRecDepth 100000 in
theorem figures_raw.calls (k : Nat) (a0 : Int) (a1 : Int) (r : ByteArray) (w : World) (h : figures_raw.f k a0 a1 = some r) :
    Calls Try.prog 72 #[.int .u64 a0, .int .i64 a1] w fun e w' => e = .returned (.string r) ∧ Below w.heap.size w w' := by
  have HB := Aside0.mk (Below.refl w.heap.size w)
  have H : (figures_raw.l0 k a0 a1 ([] : List Int)) = some r := h
  clear h
  have H' := Aside0.mk H
  clear H
  go_enter Try.func72, Try.ntmps72
  go_wp2
  go_loopg [0, 5] k (fun kq v0 v5 w' => ∃ (x0_1 : Int) (x5_1 : List Int), v0 = .int .u64 x0_1 ∧ Aside0 (figures_raw.l0 kq x0_1 a1 x5_1 = some r) ∧ Aside0 (kq ≤ k) ∧ Aside0 (Kd.R (Kd.int .u8) 5 w' w.heap.size (fun _ => True) v5 x5_1) ∧ Aside0 (Below w.heap.size w w'))
  case atStart => exact ⟨(a0), (([] : List Int)), (by first | rfl | (simp; done) | (simp [*]; done)), H', ⟨Nat.le_refl _⟩, ⟨by first | exact Kd.R_nil _ _ _ _ _ | exact Kd.N_nil _ _ _ _ _ | exact Kd.V_nil _ _ _ _ _ | exact Kd.Q_nil _ _ _ _ _ | exact Kd.S_nil _ _ _ _ _⟩, ⟨by repeat (first | (with_reducible first | exact HB.out | apply below_alloc | apply pw_below_drewN | apply below_drew1) | exact HB.out)⟩⟩
  case round =>
    clear H'
    try clear p2
    obtain ⟨x0_1, x5_1, rfl, HA, HK1, HO_5, HB⟩ := hrel
    cases gk with
    | zero => exact absurd HA.out (by simp [figures_raw.l0])
    | succ k1 =>
      have H := HA.out
      clear HA
      simp only [figures_raw.l0] at H
      by_cases c3 : x0_1 > 0
      · rw [if_pos c3] at H
        have c3b0 : decide (0 < x0_1) = true := decide_eq_true c3
        clear c3
        by_cases c4 : x5_1.length < 140737488355328
        · rw [if_pos c4] at H
          have LMc4 := Aside0.mk c4
          clear c4
          obtain ⟨y355, hy355⟩ : ∃ y_ : List Int, y_ = (x5_1 ++ [(48 + (Int.tmod x0_1 10)) % 256]) := ⟨_, rfl⟩
          replace H : (figures_raw.l0 k1 (IntKind.u64.wrap (Int.tdiv x0_1 10)) a1 y355) = some r := by first | (rw [hy355]; with_reducible exact H) | (have H2_ := (Option.bind_some _ _).symm.trans H; rw [hy355]; with_reducible exact H2_) | (have H2_ := (Option.bind_some _ _).symm.trans H; with_reducible exact H2_) | with_reducible exact H | (rw [hy355]; exact H) | exact H
          have Ny355 := Aside0.mk hy355
          clear hy355
          have H' := Aside0.mk H
          clear H
          go_wp2_with (first | ((with_reducible refine gate_builtin (b := .append) (xs := #[.tmp 15, .tmp 20]) rfl ?_); (try (refine gate_guard (by rfl) ?_; dsimp only)); at_builtin; refine Kd.R_append (Kd.int .u8) (w0 := w) w.heap.size rfl (.tmp 15) (.tmp 20) 78 5 (.int .u8 0) 1 rfl Try.underlying78 info5 rfl (by decide) (by omega) u5 x5_1 ((48 + (Int.tmod x0_1 10)) % 256) [.int .u8 ((48 + (Int.tmod x0_1 10)) % 256)] (fun _ => True) (fun _ => False) rfl rfl ?aP (fun _ hk => hk.elim) ?aF ?aO ?aB ?aS ?aL ?_; (case aP => exact rfl); (case aB => exact (by repeat (first | (with_reducible first | exact HB.out | apply below_alloc | apply pw_below_drewN | apply below_drew1) | exact HB.out))); (case aF => exact (fun _ _ => trivial)); (case aO => exact (by (with_reducible repeat (first | apply Kd.R_alloc | apply Kd.R_drewN | apply Kd.R_drew)); exact HO_5.out)); (case aS => exact (below_size (by repeat (first | (with_reducible first | exact HB.out | apply below_alloc | apply pw_below_drewN | apply below_drew1) | exact HB.out)))); (case aL => have := LMc4.out; omega); intro v356 w5 ho hb hg hat; rw [← Ny355.out] at ho; have n0_ := Aside0.mk (hb); have n1_ := Aside0.mk (ho); clear HB; clear HO_5; have HB := n0_; have HO357 := n1_; clear n0_ n1_; clear ho hb hg hat))
          go_roundg k1
          case measure => have := HK1.out; omega
          case rel => exact ⟨(IntKind.u64.wrap (Int.tdiv x0_1 10)), (y355), (by first | rfl | (simp; done) | (simp [*]; done)), H', ⟨by have := HK1.out; omega⟩, ⟨by (with_reducible repeat (first | apply Kd.R_alloc | apply Kd.R_drewN | apply Kd.R_drew)); exact HO357.out⟩, ⟨by repeat (first | (with_reducible first | exact HB.out | apply below_alloc | apply pw_below_drewN | apply below_drew1) | exact HB.out)⟩⟩
        · rw [if_neg c4] at H
          exact absurd H (by simp)
      · rw [if_neg c3] at H
        have c3b0 : decide (0 < x0_1) = false := decide_eq_false c3
        clear c3
        obtain ⟨ji6, hji6⟩ : ∃ j_ : Int, (mx a1 1) = j_ := ⟨_, rfl⟩
        replace H : (if (x5_1.length : Int) < (ji6) then (if x5_1.length < 140737488355328 then (figures_raw.l0 k1 (IntKind.u64.wrap (Int.tdiv x0_1 10)) a1 (x5_1 ++ [(48 + (Int.tmod x0_1 10)) % 256])) else (none)) else ((slices_Reverse_byte_byte.f k1 x5_1).bind fun t361 => (some (strOfNums t361)))) = some r := by first | (rw [hji6] at H; exact H) | (simp only [hji6] at H ⊢; exact H)
        have hji6_ : (if a1 < 1 then 1 else a1) = ji6 := hji6
        by_cases c7 : (x5_1.length : Int) < (ji6)
        · rw [if_pos c7] at H
          have c7b0 : decide ((x5_1.length : Int) < (ji6)) = true := decide_eq_true c7
          clear c7
          by_cases c8 : x5_1.length < 140737488355328
          · rw [if_pos c8] at H
            have LMc8 := Aside0.mk c8
            clear c8
            obtain ⟨y358, hy358⟩ : ∃ y_ : List Int, y_ = (x5_1 ++ [(48 + (Int.tmod x0_1 10)) % 256]) := ⟨_, rfl⟩
            replace H : (figures_raw.l0 k1 (IntKind.u64.wrap (Int.tdiv x0_1 10)) a1 y358) = some r := by first | (rw [hy358]; with_reducible exact H) | (have H2_ := (Option.bind_some _ _).symm.trans H; rw [hy358]; with_reducible exact H2_) | (have H2_ := (Option.bind_some _ _).symm.trans H; with_reducible exact H2_) | with_reducible exact H | (rw [hy358]; exact H) | exact H
            have Ny358 := Aside0.mk hy358
            clear hy358
            have H' := Aside0.mk H
            clear H
            obtain ⟨Ao9, co9, eo9⟩ := Kd.R_slice HO_5.out
            subst eo9
            go_wp2_with (first | ((with_reducible refine gate_builtin (b := .append) (xs := #[.tmp 15, .tmp 20]) rfl ?_); (try (refine gate_guard (by rfl) ?_; dsimp only)); at_builtin; refine Kd.R_append (Kd.int .u8) (w0 := w) w.heap.size rfl (.tmp 15) (.tmp 20) 78 5 (.int .u8 0) 1 rfl Try.underlying78 info5 rfl (by decide) (by omega) (.slice Ao9 x5_1.length co9) x5_1 ((48 + (Int.tmod x0_1 10)) % 256) [.int .u8 ((48 + (Int.tmod x0_1 10)) % 256)] (fun _ => True) (fun _ => False) rfl rfl ?aP (fun _ hk => hk.elim) ?aF ?aO ?aB ?aS ?aL ?_; (case aP => exact rfl); (case aB => exact (by repeat (first | (with_reducible first | exact HB.out | apply below_alloc | apply pw_below_drewN | apply below_drew1) | exact HB.out))); (case aF => exact (fun _ _ => trivial)); (case aO => exact (by (with_reducible repeat (first | apply Kd.R_alloc | apply Kd.R_drewN | apply Kd.R_drew)); exact HO_5.out)); (case aS => exact (below_size (by repeat (first | (with_reducible first | exact HB.out | apply below_alloc | apply pw_below_drewN | apply below_drew1) | exact HB.out)))); (case aL => have := LMc8.out; omega); intro v359 w10 ho hb hg hat; rw [← Ny358.out] at ho; have n0_ := Aside0.mk (hb); have n1_ := Aside0.mk (ho); clear HB; clear HO_5; have HB := n0_; have HO360 := n1_; clear n0_ n1_; clear ho hb hg hat))
            go_roundg k1
            case measure => have := HK1.out; omega
            case rel => exact ⟨(IntKind.u64.wrap (Int.tdiv x0_1 10)), (y358), (by first | rfl | (simp; done) | (simp [*]; done)), H', ⟨by have := HK1.out; omega⟩, ⟨by (with_reducible repeat (first | apply Kd.R_alloc | apply Kd.R_drewN | apply Kd.R_drew)); exact HO360.out⟩, ⟨by repeat (first | (with_reducible first | exact HB.out | apply below_alloc | apply pw_below_drewN | apply below_drew1) | exact HB.out)⟩⟩
          · rw [if_neg c8] at H
            exact absurd H (by simp)
        · rw [if_neg c7] at H
          have c7b0 : decide ((x5_1.length : Int) < (ji6)) = false := decide_eq_false c7
          clear c7
          replace H := Option.bind_eq_some_iff.mp H
          obtain ⟨t361, A110, H⟩ := H
          replace H : (some (strOfNums t361)) = some r := H
          have A11 := Aside0.mk A110
          clear A110
          obtain rfl := Option.some.inj H
          obtain ⟨Ao12, co12, eo12⟩ := Kd.R_slice HO_5.out
          subst eo12
          go_wp2_with (first | ((with_reducible refine gate_callee (f := 79) rfl ?_); refine goesL_ (some 25) rfl rfl Try.func79 (by kernel_rfl) rfl #[.slice Ao12 x5_1.length co12] rfl (by (try simp only [List.map_toArray, List.map_cons, List.map_nil]); first | done | rfl | (simp only [List.length_drop, List.length_take]; rfl) | (refine congrArg (fun z_ => #[Value.int IntKind.i64 z_]) (?_ : Go.RowKit.wrap64 (IntKind.u8.wrap _) = _); rw [IntKind.wrap_u8]; unfold Go.RowKit.wrap64; omega)) ?_; (with_reducible refine (slices_Reverse_byte_byte.calls k1 (fun k_ => some k_ = (.slice Ao12 x5_1.length co12 : Value).ownBlock) (.slice Ao12 x5_1.length co12) x5_1 t361 w _ ?side1 ?side2 A11.out).mono ?_); (case side1 => repeat (first | (with_reducible first | exact HB.out | apply below_alloc | apply pw_below_drewN | apply below_drew1) | exact HB.out)); (case side2 => exact Kd.R_tight rfl HO_5.out); rintro e w13 ⟨rfl, hy0, hb, hkp⟩; refine ⟨_, rfl, ?_⟩; have n0_ := Aside0.mk (Kd.R_reok rfl hy0 (fun k_ e_ => HO_5.out.1 k_ e_)); have n1_ := Aside0.mk (hb); clear HO_5; clear HB; have HO_5 := n0_; have HB := n1_; clear n0_ n1_; (try clear hb); (try clear hkp); (try clear hy0); have hcv14 := own_string (P := Try.prog) Try.underlying78 Try.underlying5 Try.underlying9 (Kd.own_of_R HO_5.out)))
          go_ret
          exact ⟨by first | rfl | (simp [errW_none, errW_some] <;> rfl) | (simp only [← hji6]; first | rfl | (simp [errW_none, errW_some] <;> rfl)) | (simp [*, errW_none, errW_some] <;> rfl), by repeat (first | (with_reducible first | exact HB.out | apply below_alloc | apply pw_below_drewN | apply below_drew1) | exact HB.out)⟩

/-! ### figures_Put: function 66 -/
def figures_Put.j0 : Nat → Int → Int → Bool → Option (ByteArray × Option Int)
  | 0, _, _, _ => none
  | k + 1, x0, x1, x6 => if x6 = true then (some ((⟨#[]⟩ : ByteArray), some 1)) else (if x0 < 0 then ((figures_raw.f k (IntKind.u64.wrap (-(IntKind.u64.wrap (x0)))) x1).bind fun t362 => (if 1 + t362.size ≤ 9223372036854775807 then (some ((⟨#[45]⟩ : ByteArray) ++ t362, none)) else (none))) else ((figures_raw.f k (IntKind.u64.wrap (x0)) x1).bind fun t363 => (some (t363, none))))
def figures_Put.f (k : Nat) (a0 : Int) (a1 : Int) : Option (ByteArray × Option Int) := if a1 < 0 then (figures_Put.j0 k a0 a1 true) else (figures_Put.j0 k a0 a1 (decide (a1 > 20)))
theorem figures_Put.mono_l : ∀ k, (∀ y0 y1 y2, LeO (figures_Put.j0 k y0 y1 y2) (figures_Put.j0 (k + 1) y0 y1 y2))
  | 0 => fun _ _ _ r h => by simp [figures_Put.j0] at h
  | k + 1 => by
    have ih0 := figures_Put.mono_l k
    · intro y0 y1 y2
      unfold figures_Put.j0
      repeat' first
      | (with_reducible exact ih0 _ _ _)
      | (with_reducible exact figures_raw.mono _ _ _)
      | (with_reducible exact LeO.refl _)
      | (with_reducible exact LeO.none _)
      | (with_reducible refine LeO.ite ?_ ?_)
      | (with_reducible refine LeO.bind ?_ (fun _ => ?_))
      | exact ih0 _ _ _
      | exact figures_raw.mono _ _ _
      | exact LeO.none _
      | refine LeO.ite ?_ ?_
      | refine LeO.bind ?_ (fun _ => ?_)
theorem figures_Put.mono : ∀ a0 a1 k, LeO (figures_Put.f k a0 a1) (figures_Put.f (k + 1) a0 a1) := by
  intro a0 a1 k
  have ih0 := figures_Put.mono_l k
  unfold figures_Put.f
  repeat' first
      | (with_reducible exact ih0 _ _ _)
      | (with_reducible exact figures_raw.mono _ _ _)
      | (with_reducible exact LeO.refl _)
      | (with_reducible exact LeO.none _)
      | (with_reducible refine LeO.ite ?_ ?_)
      | (with_reducible refine LeO.bind ?_ (fun _ => ?_))
      | exact ih0 _ _ _
      | exact figures_raw.mono _ _ _
      | exact LeO.none _
      | refine LeO.ite ?_ ?_
      | refine LeO.bind ?_ (fun _ => ?_)
set_option maxHeartbeats 8000000 in
set_option maxRecDepth 100000 in
theorem figures_Put.calls (k : Nat) (a0 : Int) (a1 : Int) (r1 : ByteArray) (r2 : Option Int) (w : World) (h : figures_Put.f k a0 a1 = some (r1, r2)) :
    Calls Try.prog 66 #[.int .i64 a0, .int .i64 a1] w fun e w' => e = .returned (.tuple #[.string r1, errW r2]) ∧ Below w.heap.size w w' := by
  have hu26 := Try.underlying26
  have hu49 := Try.underlying49
  have HB := Aside0.mk (Below.refl w.heap.size w)
  have H : (if a1 < 0 then (figures_Put.j0 k a0 a1 true) else (figures_Put.j0 k a0 a1 (decide (a1 > 20)))) = some (r1, r2) := h
  clear h
  have HC3 := Aside0.mk H
  clear H
  go_enter Try.func66, Try.ntmps66
  go_upto_region 1 with (fail)
  go_cut [6] (fun v6 wc => ∃ (kq : Nat) (x6_2 : Bool), v6 = .bool x6_2 ∧ Aside0 (figures_Put.j0 kq a0 a1 x6_2 = some (r1, r2)) ∧ Aside0 (kq ≤ k) ∧ Aside0 (Below w.heap.size w wc))
  case first =>
    have H := HC3.out
    clear HC3
    by_cases c4 : a1 < 0
    · rw [if_pos c4] at H
      have c4b0 : decide (a1 < 0) = true := decide_eq_true c4
      clear c4
      (first | rw [c4b0] | (simp only [i64_w, i32_w]; rw [c4b0]) | skip)
      have H' := Aside0.mk H
      clear H
      go_wp2
      go_meet
      case rel => exact ⟨_, (true), (by first | rfl | (simp; done) | (simp [*]; done)), H', ⟨by first | omega | exact Nat.le_refl _⟩, ⟨by repeat (first | (with_reducible first | exact HB.out | apply below_alloc | apply pw_below_drewN | apply below_drew1) | exact HB.out)⟩⟩
    · rw [if_neg c4] at H
      have c4b0 : decide (a1 < 0) = false := decide_eq_false c4
      clear c4
      (first | rw [c4b0] | (simp only [i64_w, i32_w]; rw [c4b0]) | skip)
      have H' := Aside0.mk H
      clear H
      go_wp2
      go_meet
      case rel => exact ⟨_, (decide (a1 > 20)), (by first | rfl | (simp; done) | (simp [*]; done)), H', ⟨by first | omega | exact Nat.le_refl _⟩, ⟨by repeat (first | (with_reducible first | exact HB.out | apply below_alloc | apply pw_below_drewN | apply below_drew1) | exact HB.out)⟩⟩
  case rest =>
    clear HC3
    try clear p2
    try clear c4
    try clear c4b0
    obtain ⟨kq, x6_2, rfl, HA, HJ2, HB⟩ := hcut
    cases kq with
    | zero => exact absurd HA.out (by simp [figures_Put.j0])
    | succ kj2 =>
      have H := HA.out
      clear HA
      simp only [figures_Put.j0] at H
      by_cases c5 : x6_2 = true
      · subst c5
        have H1 : (some ((⟨#[]⟩ : ByteArray), some 1)) = some (r1, r2) := by rw [if_pos rfl] at H; exact H
        clear H
        have H := H1
        clear H1
        simp only [Option.some.injEq, Prod.mk.injEq] at H
        obtain ⟨rfl, rfl⟩ := H
        go_wp2
        go_ret2
        exact ⟨by first | rfl | (simp [errW_none, errW_some] <;> rfl) | (simp [*, errW_none, errW_some] <;> rfl), by repeat (first | (with_reducible first | exact HB.out | apply below_alloc | apply pw_below_drewN | apply below_drew1) | exact HB.out)⟩
      · replace c5 := Bool.eq_false_iff.mpr c5
        subst c5
        have H1 : (if a0 < 0 then ((figures_raw.f kj2 (IntKind.u64.wrap (-(IntKind.u64.wrap (a0)))) a1).bind fun t362 => (if 1 + t362.size ≤ 9223372036854775807 then (some ((⟨#[45]⟩ : ByteArray) ++ t362, none)) else (none))) else ((figures_raw.f kj2 (IntKind.u64.wrap (a0)) a1).bind fun t363 => (some (t363, none)))) = some (r1, r2) := by rw [if_neg (show ¬ (false = true) by decide)] at H; exact H
        clear H
        have H := H1
        clear H1
        by_cases c6 : a0 < 0
        · rw [if_pos c6] at H
          have c6b0 : decide (a0 < 0) = true := decide_eq_true c6
          clear c6
          replace H := Option.bind_eq_some_iff.mp H
          obtain ⟨t362, A70, H⟩ := H
          replace H : (if 1 + t362.size ≤ 9223372036854775807 then (some ((⟨#[45]⟩ : ByteArray) ++ t362, none)) else (none)) = some (r1, r2) := H
          have A7 := Aside0.mk A70
          clear A70
          by_cases c8 : 1 + t362.size ≤ 9223372036854775807
          · rw [if_pos c8] at H
            have c8b0 := eq_true c8
            have c8b1 : decide (1 + t362.size ≤ 9223372036854775807) = true := decide_eq_true c8
            try have c8b2 : (9223372036854775807 < 1 + t362.size) = False := eq_false (Nat.not_lt.2 c8)
            simp only [Option.some.injEq, Prod.mk.injEq] at H
            obtain ⟨rfl, rfl⟩ := H
            go_wp2_with (first | ((with_reducible refine gate_callee (f := 72) rfl ?_); refine goesL_ (some 21) rfl rfl Try.func72 (by kernel_rfl) rfl #[.int .u64 (IntKind.u64.wrap (-(IntKind.u64.wrap (a0)))), .int .i64 a1] rfl (by (try simp only [List.map_toArray, List.map_cons, List.map_nil]); first | done | rfl | (simp only [List.length_drop, List.length_take]; rfl) | (refine congrArg (fun z_ => #[Value.int IntKind.i64 z_]) (?_ : Go.RowKit.wrap64 (IntKind.u8.wrap _) = _); rw [IntKind.wrap_u8]; unfold Go.RowKit.wrap64; omega)) ?_; (with_reducible refine (figures_raw.calls kj2 (IntKind.u64.wrap (-(IntKind.u64.wrap (a0)))) a1 t362 _ A7.out).mono ?_); rintro e w9 ⟨rfl, hb⟩; refine ⟨_, rfl, ?_⟩; have n0_ := Aside0.mk (below_step (by repeat (first | (with_reducible first | exact HB.out | apply below_alloc | apply pw_below_drewN | apply below_drew1) | exact HB.out)) hb); clear HB; have HB := n0_; clear n0_; (try clear hb); (try clear hb2); (try clear hk); (try clear hi)))
            go_ret2
            exact ⟨by first | rfl | (simp [errW_none, errW_some] <;> rfl) | (simp [*, errW_none, errW_some] <;> rfl), by repeat (first | (with_reducible first | exact HB.out | apply below_alloc | apply pw_below_drewN | apply below_drew1) | exact HB.out)⟩
          · rw [if_neg c8] at H
            exact absurd H (by simp)
        · rw [if_neg c6] at H
          have c6b0 : decide (a0 < 0) = false := decide_eq_false c6
          clear c6
          replace H := Option.bind_eq_some_iff.mp H
          obtain ⟨t363, A100, H⟩ := H
          replace H : (some (t363, none)) = some (r1, r2) := H
          have A10 := Aside0.mk A100
          clear A100
          simp only [Option.some.injEq, Prod.mk.injEq] at H
          obtain ⟨rfl, rfl⟩ := H
          go_wp2_with (first | ((with_reducible refine gate_callee (f := 72) rfl ?_); refine goesL_ (some 26) rfl rfl Try.func72 (by kernel_rfl) rfl #[.int .u64 (IntKind.u64.wrap (a0)), .int .i64 a1] rfl (by (try simp only [List.map_toArray, List.map_cons, List.map_nil]); first | done | rfl | (simp only [List.length_drop, List.length_take]; rfl) | (refine congrArg (fun z_ => #[Value.int IntKind.i64 z_]) (?_ : Go.RowKit.wrap64 (IntKind.u8.wrap _) = _); rw [IntKind.wrap_u8]; unfold Go.RowKit.wrap64; omega)) ?_; (with_reducible refine (figures_raw.calls kj2 (IntKind.u64.wrap (a0)) a1 t363 _ A10.out).mono ?_); rintro e w11 ⟨rfl, hb⟩; refine ⟨_, rfl, ?_⟩; have n0_ := Aside0.mk (below_step (by repeat (first | (with_reducible first | exact HB.out | apply below_alloc | apply pw_below_drewN | apply below_drew1) | exact HB.out)) hb); clear HB; have HB := n0_; clear n0_; (try clear hb); (try clear hb2); (try clear hk); (try clear hi)))
          go_ret2
          exact ⟨by first | rfl | (simp [errW_none, errW_some] <;> rfl) | (simp [*, errW_none, errW_some] <;> rfl), by repeat (first | (with_reducible first | exact HB.out | apply below_alloc | apply pw_below_drewN | apply below_drew1) | exact HB.out)⟩

/-! ### rule_writer_put: function 51 -/
def wput (k : Nat) (l : List Int) (er : Option Int) (n width : Int) : Option (List Int × Option Int) := (figures_Put.f k n width).bind fun b => (wtext l b.1).bind fun l1 => some (l1, if b.2.isNone = true then er else b.2)
theorem wput_mono (l : List Int) (er : Option Int) (n width : Int) (k : Nat) : LeO (wput k l er n width) (wput (k + 1) l er n width) := by
  unfold wput
  exact LeO.bind (figures_Put.mono _ _ _) (fun _ => LeO.refl _)
set_option maxHeartbeats 4000000 in
set_option maxRecDepth 100000 in
theorem wput_calls (k : Nat) (base g : Nat) (l : List Int) (er : Option Int) (n width : Int) (l' : List Int) (er' : Option Int) (w0 w : World) (hI : IsWr base w g l er) (hB : Below base w0 w) (hbw : base ≤ w0.heap.size) (h : wput k l er n width = some (l', er')) :
    Calls Try.prog 51 #[.pointer (some ⟨g, 0, none⟩), .int .i64 n, .int .i64 width] w fun e w' => e = .returned (.tuple #[]) ∧ IsWr base w' g l' er' ∧ Below base w0 w' := by
  unfold wput at h
  obtain ⟨⟨s, q⟩, hf, h1⟩ := Option.bind_eq_some_iff.mp h
  clear h
  obtain ⟨l1, ht, h⟩ := Option.bind_eq_some_iff.mp h1
  clear h1
  simp only at ht
  cases q with
  | none =>
    simp only [Option.isNone_none, if_true, Option.some.injEq, Prod.mk.injEq] at h
    obtain ⟨rfl, rfl⟩ := h
    have C := fun W => figures_Put.calls k n width s none W hf
    simp only [errW_none] at C
    go_enter Try.func51, Try.ntmps51
    go_wp2_with (first | (go_at_call 66; refine (C _).mono ?_; rintro e w1 ⟨rfl, hb⟩; have I1 := hI.below hb; have B1 := below_then hB hI.base_le hb) | (go_at_call 50; refine (wtext_calls base g _ _ _ _ w0 _ (by assumption) (by assumption) hbw (by assumption)).mono ?_; rintro e w2 ⟨rfl, I2, B2⟩))
    go_end0
    exact ⟨rfl, I2, B2⟩
  | some c =>
    simp only [Option.isNone_some, Bool.false_eq_true, if_false, Option.some.injEq, Prod.mk.injEq] at h
    obtain ⟨rfl, rfl⟩ := h
    have C := fun W => figures_Put.calls k n width s (some c) W hf
    simp only [errW_some] at C
    go_enter Try.func51, Try.ntmps51
    go_wp2_with (first | (go_at_call 66; refine (C _).mono ?_; rintro e w1 ⟨rfl, hb⟩; have I1 := hI.below hb; have B1 := below_then hB hI.base_le hb; have hbg := I1.ge; obtain ⟨v, hg, hbg_, ho, hne⟩ := id I1; have hd1 : w1.cell? ⟨g, 1, none⟩ = some (errW er) := (blk_cell hg 1).trans rfl; have hz1 : w1.frozen? ⟨g, 1, none⟩ = false := blk_frozen hg 1; have I1' := I1.set_err (some c); have B1' := B1.setCell hbg (errW (some c)) (p := ⟨g, 1, none⟩); simp only [errW_some] at I1' B1'; clear hg ho hne) | (go_at_call 50; refine (wtext_calls base g _ _ _ _ w0 _ (by assumption) (by assumption) hbw (by assumption)).mono ?_; rintro e w2 ⟨rfl, I2, B2⟩))
    go_end0
    exact ⟨rfl, I2, B2⟩

/-! ### rule_writer_clock: function 48 -/
def wsign (l : List Int) (t : Int) : Option (List Int × Int) := if t < 0 then (wtext l ⟨#[45]⟩).bind fun l1 => some (l1, wrap64 (-t)) else some (l, t)
/-- What stands behind the hours: minutes, and seconds, where they are not noughts. -/
def wrest (k : Nat) (q : List Int × Option Int) (t : Int) : Option (List Int × Option Int) :=
  if Int.tmod t 3600 = 0 then some q else (wtext q.1 ⟨#[58]⟩).bind fun l2 => (wput k l2 q.2 (wrap64 (Int.tdiv (Int.tmod t 3600) 60)) 2).bind fun q2 =>
  if Int.tmod t 60 = 0 then some q2 else (wtext q2.1 ⟨#[58]⟩).bind fun l3 => wput k l3 q2.2 (Int.tmod t 60) 2
def wclock (k : Nat) (l : List Int) (er : Option Int) (t : Int) : Option (List Int × Option Int) :=
  (wsign l t).bind fun p => (wput k p.1 er (wrap64 (Int.tdiv p.2 3600)) 0).bind fun q => wrest k q p.2
theorem wrest_mono (q : List Int × Option Int) (t : Int) (k : Nat) : LeO (wrest k q t) (wrest (k + 1) q t) := by
  unfold wrest
  exact LeO.ite (LeO.refl _) (LeO.bind (LeO.refl _) (fun _ => LeO.bind (wput_mono _ _ _ _ _) (fun _ => LeO.ite (LeO.refl _) (LeO.bind (LeO.refl _) (fun _ => wput_mono _ _ _ _ _)))))
theorem wclock_mono (l : List Int) (er : Option Int) (t : Int) (k : Nat) : LeO (wclock k l er t) (wclock (k + 1) l er t) := by
  unfold wclock
  exact LeO.bind (LeO.refl _) (fun _ => LeO.bind (wput_mono _ _ _ _ _) (fun _ => wrest_mono _ _ _))
set_option maxHeartbeats 8000000 in
set_option maxRecDepth 100000 in
theorem wclock_calls (k : Nat) (base g : Nat) (l : List Int) (er : Option Int) (t : Int) (l' : List Int) (er' : Option Int) (w0 w : World) (hI : IsWr base w g l er) (hB : Below base w0 w) (hbw : base ≤ w0.heap.size) (h : wclock k l er t = some (l', er')) :
    Calls Try.prog 48 #[.pointer (some ⟨g, 0, none⟩), .int .i64 t] w fun e w' => e = .returned (.tuple #[]) ∧ IsWr base w' g l' er' ∧ Below base w0 w' := by
  unfold wclock at h
  obtain ⟨⟨l0, u⟩, hs, h1⟩ := Option.bind_eq_some_iff.mp h
  clear h
  obtain ⟨⟨l1, e1⟩, hp, h⟩ := Option.bind_eq_some_iff.mp h1
  clear h1
  simp only at hp h
  unfold wsign at hs
  unfold wrest at h
  by_cases ct : t < 0
  · rw [if_pos ct] at hs
    obtain ⟨l0', hs1, hs2⟩ := Option.bind_eq_some_iff.mp hs
    clear hs
    simp only [Option.some.injEq, Prod.mk.injEq] at hs2
    obtain ⟨rfl, rfl⟩ := hs2
    have cb : decide (t < 0) = true := decide_eq_true ct
    clear ct
    by_cases c1 : Int.tmod (wrap64 (-t)) 3600 = 0
    · rw [if_pos c1, Option.some.injEq, Prod.mk.injEq] at h
      obtain ⟨rfl, rfl⟩ := h
      have c1b : (Int.tmod (wrap64 (-t)) 3600 == 0) = true := beq_iff_eq.mpr c1
      clear c1
      go_enter Try.func48, Try.ntmps48
      go_wp2_with (first | (go_at_call 50; refine (wtext_calls base g _ _ _ _ w0 _ (by assumption) (by assumption) hbw (by assumption)).mono ?_; rintro e w1 ⟨rfl, I1, B1⟩) | (go_at_call 51; refine (wput_calls k base g _ _ _ _ _ _ w0 _ (by assumption) (by assumption) hbw (by assumption)).mono ?_; rintro e w2 ⟨rfl, I2, B2⟩))
      refine bodyPost_ret (results_none rfl _ _ _) rfl ?_
      exact ⟨rfl, by assumption, by assumption⟩
    · rw [if_neg c1] at h
      have c1b : (Int.tmod (wrap64 (-t)) 3600 == 0) = false := beq_eq_false_iff_ne.mpr c1
      clear c1
      obtain ⟨l2, ht2, h1⟩ := Option.bind_eq_some_iff.mp h
      clear h
      obtain ⟨⟨l3, e3⟩, hp3, h⟩ := Option.bind_eq_some_iff.mp h1
      clear h1
      simp only at ht2 hp3 h
      by_cases c2 : Int.tmod (wrap64 (-t)) 60 = 0
      · rw [if_pos c2, Option.some.injEq, Prod.mk.injEq] at h
        obtain ⟨rfl, rfl⟩ := h
        have c2b : (Int.tmod (wrap64 (-t)) 60 == 0) = true := beq_iff_eq.mpr c2
        clear c2
        go_enter Try.func48, Try.ntmps48
        go_wp2_with (first | (go_at_call 50; refine (wtext_calls base g _ _ _ _ w0 _ (by assumption) (by assumption) hbw (by assumption)).mono ?_; rintro e w1 ⟨rfl, I1, B1⟩) | (go_at_call 51; refine (wput_calls k base g _ _ _ _ _ _ w0 _ (by assumption) (by assumption) hbw (by assumption)).mono ?_; rintro e w2 ⟨rfl, I2, B2⟩))
        refine bodyPost_ret (results_none rfl _ _ _) rfl ?_
        exact ⟨rfl, by assumption, by assumption⟩
      · rw [if_neg c2] at h
        have c2b : (Int.tmod (wrap64 (-t)) 60 == 0) = false := beq_eq_false_iff_ne.mpr c2
        clear c2
        obtain ⟨l4, ht4, h1⟩ := Option.bind_eq_some_iff.mp h
        clear h
        go_enter Try.func48, Try.ntmps48
        go_wp2_with (first | (go_at_call 50; refine (wtext_calls base g _ _ _ _ w0 _ (by assumption) (by assumption) hbw (by assumption)).mono ?_; rintro e w1 ⟨rfl, I1, B1⟩) | (go_at_call 51; refine (wput_calls k base g _ _ _ _ _ _ w0 _ (by assumption) (by assumption) hbw (by assumption)).mono ?_; rintro e w2 ⟨rfl, I2, B2⟩))
        go_end0
        exact ⟨rfl, by assumption, by assumption⟩
  · rw [if_neg ct, Option.some.injEq, Prod.mk.injEq] at hs
    obtain ⟨rfl, rfl⟩ := hs
    have cb : decide (t < 0) = false := decide_eq_false ct
    clear ct
    by_cases c1 : Int.tmod t 3600 = 0
    · rw [if_pos c1, Option.some.injEq, Prod.mk.injEq] at h
      obtain ⟨rfl, rfl⟩ := h
      have c1b : (Int.tmod t 3600 == 0) = true := beq_iff_eq.mpr c1
      clear c1
      go_enter Try.func48, Try.ntmps48
      go_wp2_with (first | (go_at_call 50; refine (wtext_calls base g _ _ _ _ w0 _ (by assumption) (by assumption) hbw (by assumption)).mono ?_; rintro e w1 ⟨rfl, I1, B1⟩) | (go_at_call 51; refine (wput_calls k base g _ _ _ _ _ _ w0 _ (by assumption) (by assumption) hbw (by assumption)).mono ?_; rintro e w2 ⟨rfl, I2, B2⟩))
      refine bodyPost_ret (results_none rfl _ _ _) rfl ?_
      exact ⟨rfl, by assumption, by assumption⟩
    · rw [if_neg c1] at h
      have c1b : (Int.tmod t 3600 == 0) = false := beq_eq_false_iff_ne.mpr c1
      clear c1
      obtain ⟨l2, ht2, h1⟩ := Option.bind_eq_some_iff.mp h
      clear h
      obtain ⟨⟨l3, e3⟩, hp3, h⟩ := Option.bind_eq_some_iff.mp h1
      clear h1
      simp only at ht2 hp3 h
      by_cases c2 : Int.tmod t 60 = 0
      · rw [if_pos c2, Option.some.injEq, Prod.mk.injEq] at h
        obtain ⟨rfl, rfl⟩ := h
        have c2b : (Int.tmod t 60 == 0) = true := beq_iff_eq.mpr c2
        clear c2
        go_enter Try.func48, Try.ntmps48
        go_wp2_with (first | (go_at_call 50; refine (wtext_calls base g _ _ _ _ w0 _ (by assumption) (by assumption) hbw (by assumption)).mono ?_; rintro e w1 ⟨rfl, I1, B1⟩) | (go_at_call 51; refine (wput_calls k base g _ _ _ _ _ _ w0 _ (by assumption) (by assumption) hbw (by assumption)).mono ?_; rintro e w2 ⟨rfl, I2, B2⟩))
        refine bodyPost_ret (results_none rfl _ _ _) rfl ?_
        exact ⟨rfl, by assumption, by assumption⟩
      · rw [if_neg c2] at h
        have c2b : (Int.tmod t 60 == 0) = false := beq_eq_false_iff_ne.mpr c2
        clear c2
        obtain ⟨l4, ht4, h1⟩ := Option.bind_eq_some_iff.mp h
        clear h
        go_enter Try.func48, Try.ntmps48
        go_wp2_with (first | (go_at_call 50; refine (wtext_calls base g _ _ _ _ w0 _ (by assumption) (by assumption) hbw (by assumption)).mono ?_; rintro e w1 ⟨rfl, I1, B1⟩) | (go_at_call 51; refine (wput_calls k base g _ _ _ _ _ _ w0 _ (by assumption) (by assumption) hbw (by assumption)).mono ?_; rintro e w2 ⟨rfl, I2, B2⟩))
        go_end0
        exact ⟨rfl, by assumption, by assumption⟩

/-! ### rule_Put: function 24 -/
def wkind (k : Nat) (kind month week : Int) : Option (List Int × Option Int) :=
  if kind = 1 then (wtext [] ⟨#[74]⟩).bind fun l => some (l, none)
  else if kind = 3 then (wtext [] ⟨#[77]⟩).bind fun l1 => (wput k l1 none month 0).bind fun q => (wtext q.1 ⟨#[46]⟩).bind fun l2 => (wput k l2 q.2 week 0).bind fun q2 => (wtext q2.1 ⟨#[46]⟩).bind fun l3 => some (l3, q2.2)
  else some ([], none)
theorem wkind_mono (kind month week : Int) (k : Nat) : LeO (wkind k kind month week) (wkind (k + 1) kind month week) := by
  unfold wkind
  exact LeO.ite (LeO.refl _) (LeO.ite (LeO.bind (LeO.refl _) (fun _ => LeO.bind (wput_mono _ _ _ _ _) (fun _ => LeO.bind (LeO.refl _) (fun _ => LeO.bind (wput_mono _ _ _ _ _) (fun _ => LeO.refl _))))) (LeO.refl _))
def wtime (k : Nat) (q : List Int × Option Int) (time : Int) : Option (List Int × Option Int) := if time = 7200 then some q else (wtext q.1 ⟨#[47]⟩).bind fun l => wclock k l q.2 time
theorem wtime_mono (q : List Int × Option Int) (time : Int) (k : Nat) : LeO (wtime k q time) (wtime (k + 1) q time) := by
  unfold wtime
  exact LeO.ite (LeO.refl _) (LeO.bind (LeO.refl _) (fun _ => wclock_mono _ _ _ _))
def rule_Put.f (k : Nat) (a0_0 : Int) (a0_1 : Int) (a0_2 : Int) (a0_3 : Int) (a0_4 : Int) : Option (ByteArray × Option Int) :=
  (rule_Check.f a0_0 a0_1 a0_2 a0_3 a0_4).bind fun c => if c.isNone = true then (wkind k a0_0 a0_1 a0_2).bind fun q => (wput k q.1 q.2 a0_3 0).bind fun q2 => (wtime k q2 a0_4).bind fun q3 => some (strOfNums q3.1, q3.2) else some ((⟨#[]⟩ : ByteArray), c)
theorem rule_Put.mono : ∀ a0_0 a0_1 a0_2 a0_3 a0_4 k, LeO (rule_Put.f k a0_0 a0_1 a0_2 a0_3 a0_4) (rule_Put.f (k + 1) a0_0 a0_1 a0_2 a0_3 a0_4) := by
  intro a0_0 a0_1 a0_2 a0_3 a0_4 k
  unfold rule_Put.f
  exact LeO.bind (LeO.refl _) (fun _ => LeO.ite (LeO.bind (wkind_mono _ _ _ _) (fun _ => LeO.bind (wput_mono _ _ _ _ _) (fun _ => LeO.bind (wtime_mono _ _ _) (fun _ => LeO.refl _)))) (LeO.refl _))
/-- A rule's cells. -/
theorem rcells {W W1 : World} {gb : Nat} {a b c d e : Int} (h : W.heap[gb]? = some (.cells #[.int .i64 a, .int .i64 b, .int .i64 c, .int .i64 d, .int .i64 e] 23 (0, 0))) (hB : Below W.heap.size W W1) :
    W1.cell? ⟨gb, 0, none⟩ = some (.int .i64 a) ∧ W1.cell? ⟨gb, 1, none⟩ = some (.int .i64 b) ∧ W1.cell? ⟨gb, 2, none⟩ = some (.int .i64 c) ∧ W1.cell? ⟨gb, 3, none⟩ = some (.int .i64 d) ∧ W1.cell? ⟨gb, 4, none⟩ = some (.int .i64 e) := by
  have k := blk_below h hB
  exact ⟨blk_cell k 0, blk_cell k 1, blk_cell k 2, blk_cell k 3, blk_cell k 4⟩
set_option maxHeartbeats 8000000 in
set_option maxRecDepth 100000 in
theorem rule_Put.calls (k : Nat) (a0_0 : Int) (a0_1 : Int) (a0_2 : Int) (a0_3 : Int) (a0_4 : Int) (r1 : ByteArray) (r2 : Option Int) (w : World) (h : rule_Put.f k a0_0 a0_1 a0_2 a0_3 a0_4 = some (r1, r2)) :
    Calls Try.prog 24 #[.agg #[.int .i64 a0_0, .int .i64 a0_1, .int .i64 a0_2, .int .i64 a0_3, .int .i64 a0_4]] w fun e w' => e = .returned (.tuple #[.string r1, errW r2]) ∧ Below w.heap.size w w' := by
  unfold rule_Put.f at h
  obtain ⟨c, hc, h1⟩ := Option.bind_eq_some_iff.mp h
  clear h
  have hu26 := Try.underlying26
  have hu23 := Try.underlying23
  have C := fun W => rule_Check.calls a0_0 a0_1 a0_2 a0_3 a0_4 c W hc
  have hB0 : Below w.heap.size w (w.alloc (.cells #[.int .i64 a0_0, .int .i64 a0_1, .int .i64 a0_2, .int .i64 a0_3, .int .i64 a0_4] 23)) := below_alloc (Below.refl _ _) _
  have hg0 : (w.alloc (.cells #[.int .i64 a0_0, .int .i64 a0_1, .int .i64 a0_2, .int .i64 a0_3, .int .i64 a0_4] 23)).heap[w.heap.size]? = some (.cells #[.int .i64 a0_0, .int .i64 a0_1, .int .i64 a0_2, .int .i64 a0_3, .int .i64 a0_4] 23 (0, 0)) := blk_new w _
  cases c with
  | some q =>
    rw [if_neg (by simp), Option.some.injEq, Prod.mk.injEq] at h1
    obtain ⟨rfl, rfl⟩ := h1
    simp only [errW_some] at C ⊢
    go_enter Try.func24, Try.ntmps24
    go_wp2_with (first | (go_at_call 14; refine (C _).mono ?_; rintro e w1 ⟨rfl, hb⟩; have B1 := below_step hB0 hb))
    go_ret2
    exact ⟨rfl, by assumption⟩
  | none =>
    rw [if_pos (show (none : Option Int).isNone = true from rfl)] at h1
    obtain ⟨⟨l, er⟩, hk, h⟩ := Option.bind_eq_some_iff.mp h1
    clear h1
    obtain ⟨⟨l1, er1⟩, hp, h1⟩ := Option.bind_eq_some_iff.mp h
    clear h
    obtain ⟨⟨l2, er2⟩, ht, h⟩ := Option.bind_eq_some_iff.mp h1
    clear h1
    simp only [Option.some.injEq, Prod.mk.injEq] at hp ht h
    obtain ⟨rfl, rfl⟩ := h
    simp only [errW_none] at C
    unfold wkind at hk
    unfold wtime at ht
    by_cases c1 : a0_0 = 1
    · rw [if_pos c1] at hk
      obtain ⟨m1, hm1, hk⟩ := Option.bind_eq_some_iff.mp hk
      simp only [Option.some.injEq, Prod.mk.injEq] at hk
      obtain ⟨rfl, rfl⟩ := hk
      have c1b : (a0_0 == 1) = true := beq_iff_eq.mpr c1
      clear c1
      by_cases c7 : a0_4 = 7200
      · rw [if_pos c7, Option.some.injEq, Prod.mk.injEq] at ht
        obtain ⟨rfl, rfl⟩ := ht
        have c7b : (a0_4 != 7200) = false := bne_eq_false_iff_eq.mpr c7
        clear c7
        go_enter Try.func24, Try.ntmps24
        go_wp2_with (first | (go_at_call 14; refine (C _).mono ?_; rintro e w1 ⟨rfl, hb⟩; have B1 := below_step hB0 hb; have hg1 := blk_below hg0 hb; have I0 := IsWr.new w1; have K0 : Below w1.heap.size w1 (w1.alloc (.cells #[.slice none 0 0, .nilIface] 80)) := below_alloc (Below.refl _ _) _; obtain ⟨y0, y1, y2, y3, y4⟩ := rcells hg1 (Below.refl _ _); obtain ⟨x0, x1, x2, x3, x4⟩ := rcells hg1 K0) | (go_at_call 50; refine (wtext_calls w1.heap.size w1.heap.size _ _ _ _ w1 _ (by assumption) (by assumption) (Nat.le_refl _) (by assumption)).mono ?_; rintro e w2 ⟨rfl, I2, B2⟩; obtain ⟨x0, x1, x2, x3, x4⟩ := rcells hg1 B2) | (go_at_call 51; refine (wput_calls k w1.heap.size w1.heap.size _ _ _ _ _ _ w1 _ (by assumption) (by assumption) (Nat.le_refl _) (by assumption)).mono ?_; rintro e w2 ⟨rfl, I2, B2⟩; obtain ⟨x0, x1, x2, x3, x4⟩ := rcells hg1 B2) | (go_at_call 48; refine (wclock_calls k w1.heap.size w1.heap.size _ _ _ _ _ w1 _ (by assumption) (by assumption) (Nat.le_refl _) (by assumption)).mono ?_; rintro e w2 ⟨rfl, I2, B2⟩; obtain ⟨x0, x1, x2, x3, x4⟩ := rcells hg1 B2))
        obtain ⟨v, hg, hbg, ho, hne⟩ := I2
        obtain ⟨A, c, rfl⟩ := own_slice ho
        have d0 : w2.cell? ⟨w1.heap.size, 0, none⟩ = some (.slice A _ c) := (blk_cell hg 0).trans rfl
        have d1 : w2.cell? ⟨w1.heap.size, 1, none⟩ = some (errW _) := (blk_cell hg 1).trans rfl
        have cv := fun n : Nat => own_string (P := Try.prog) Try.underlying78 Try.underlying5 Try.underlying9 (pw_own_drewN ho n)
        have cv0 := own_string (P := Try.prog) Try.underlying78 Try.underlying5 Try.underlying9 ho
        clear hg ho hne
        go_quiet (fail)
        go_wp2
        go_ret2
        exact ⟨rfl, by first | exact below_then B1 B1.size B2 | exact below_then B1 B1.size B2.drew | exact below_then B1 B1.size (pw_below_drewN B2 _)⟩
      · rw [if_neg c7] at ht
        obtain ⟨l9, ht9, ht⟩ := Option.bind_eq_some_iff.mp ht
        have c7b : (a0_4 != 7200) = true := bne_iff_ne.mpr c7
        clear c7
        go_enter Try.func24, Try.ntmps24
        go_wp2_with (first | (go_at_call 14; refine (C _).mono ?_; rintro e w1 ⟨rfl, hb⟩; have B1 := below_step hB0 hb; have hg1 := blk_below hg0 hb; have I0 := IsWr.new w1; have K0 : Below w1.heap.size w1 (w1.alloc (.cells #[.slice none 0 0, .nilIface] 80)) := below_alloc (Below.refl _ _) _; obtain ⟨y0, y1, y2, y3, y4⟩ := rcells hg1 (Below.refl _ _); obtain ⟨x0, x1, x2, x3, x4⟩ := rcells hg1 K0) | (go_at_call 50; refine (wtext_calls w1.heap.size w1.heap.size _ _ _ _ w1 _ (by assumption) (by assumption) (Nat.le_refl _) (by assumption)).mono ?_; rintro e w2 ⟨rfl, I2, B2⟩; obtain ⟨x0, x1, x2, x3, x4⟩ := rcells hg1 B2) | (go_at_call 51; refine (wput_calls k w1.heap.size w1.heap.size _ _ _ _ _ _ w1 _ (by assumption) (by assumption) (Nat.le_refl _) (by assumption)).mono ?_; rintro e w2 ⟨rfl, I2, B2⟩; obtain ⟨x0, x1, x2, x3, x4⟩ := rcells hg1 B2) | (go_at_call 48; refine (wclock_calls k w1.heap.size w1.heap.size _ _ _ _ _ w1 _ (by assumption) (by assumption) (Nat.le_refl _) (by assumption)).mono ?_; rintro e w2 ⟨rfl, I2, B2⟩; obtain ⟨x0, x1, x2, x3, x4⟩ := rcells hg1 B2))
        obtain ⟨v, hg, hbg, ho, hne⟩ := I2
        obtain ⟨A, c, rfl⟩ := own_slice ho
        have d0 : w2.cell? ⟨w1.heap.size, 0, none⟩ = some (.slice A _ c) := (blk_cell hg 0).trans rfl
        have d1 : w2.cell? ⟨w1.heap.size, 1, none⟩ = some (errW _) := (blk_cell hg 1).trans rfl
        have cv := fun n : Nat => own_string (P := Try.prog) Try.underlying78 Try.underlying5 Try.underlying9 (pw_own_drewN ho n)
        have cv0 := own_string (P := Try.prog) Try.underlying78 Try.underlying5 Try.underlying9 ho
        clear hg ho hne
        go_quiet (fail)
        go_wp2
        go_ret2
        exact ⟨rfl, by first | exact below_then B1 B1.size B2 | exact below_then B1 B1.size B2.drew | exact below_then B1 B1.size (pw_below_drewN B2 _)⟩
    · rw [if_neg c1] at hk
      have c1b : (a0_0 == 1) = false := beq_eq_false_iff_ne.mpr c1
      clear c1
      by_cases c3 : a0_0 = 3
      · rw [if_pos c3] at hk
        have c3b : (a0_0 == 3) = true := beq_iff_eq.mpr c3
        clear c3
        obtain ⟨m1, hm1, hk1⟩ := Option.bind_eq_some_iff.mp hk
        clear hk
        obtain ⟨⟨m2, n2⟩, hm2, hk⟩ := Option.bind_eq_some_iff.mp hk1
        clear hk1
        obtain ⟨m3, hm3, hk1⟩ := Option.bind_eq_some_iff.mp hk
        clear hk
        obtain ⟨⟨m4, n4⟩, hm4, hk⟩ := Option.bind_eq_some_iff.mp hk1
        clear hk1
        obtain ⟨m5, hm5, hk1⟩ := Option.bind_eq_some_iff.mp hk
        clear hk
        simp only [Option.some.injEq, Prod.mk.injEq] at hm3 hm4 hm5 hk1
        obtain ⟨rfl, rfl⟩ := hk1
        by_cases c7 : a0_4 = 7200
        · rw [if_pos c7, Option.some.injEq, Prod.mk.injEq] at ht
          obtain ⟨rfl, rfl⟩ := ht
          have c7b : (a0_4 != 7200) = false := bne_eq_false_iff_eq.mpr c7
          clear c7
          go_enter Try.func24, Try.ntmps24
          go_wp2_with (first | (go_at_call 14; refine (C _).mono ?_; rintro e w1 ⟨rfl, hb⟩; have B1 := below_step hB0 hb; have hg1 := blk_below hg0 hb; have I0 := IsWr.new w1; have K0 : Below w1.heap.size w1 (w1.alloc (.cells #[.slice none 0 0, .nilIface] 80)) := below_alloc (Below.refl _ _) _; obtain ⟨y0, y1, y2, y3, y4⟩ := rcells hg1 (Below.refl _ _); obtain ⟨x0, x1, x2, x3, x4⟩ := rcells hg1 K0) | (go_at_call 50; refine (wtext_calls w1.heap.size w1.heap.size _ _ _ _ w1 _ (by assumption) (by assumption) (Nat.le_refl _) (by assumption)).mono ?_; rintro e w2 ⟨rfl, I2, B2⟩; obtain ⟨x0, x1, x2, x3, x4⟩ := rcells hg1 B2) | (go_at_call 51; refine (wput_calls k w1.heap.size w1.heap.size _ _ _ _ _ _ w1 _ (by assumption) (by assumption) (Nat.le_refl _) (by assumption)).mono ?_; rintro e w2 ⟨rfl, I2, B2⟩; obtain ⟨x0, x1, x2, x3, x4⟩ := rcells hg1 B2) | (go_at_call 48; refine (wclock_calls k w1.heap.size w1.heap.size _ _ _ _ _ w1 _ (by assumption) (by assumption) (Nat.le_refl _) (by assumption)).mono ?_; rintro e w2 ⟨rfl, I2, B2⟩; obtain ⟨x0, x1, x2, x3, x4⟩ := rcells hg1 B2))
          obtain ⟨v, hg, hbg, ho, hne⟩ := I2
          obtain ⟨A, c, rfl⟩ := own_slice ho
          have d0 : w2.cell? ⟨w1.heap.size, 0, none⟩ = some (.slice A _ c) := (blk_cell hg 0).trans rfl
          have d1 : w2.cell? ⟨w1.heap.size, 1, none⟩ = some (errW _) := (blk_cell hg 1).trans rfl
          have cv := fun n : Nat => own_string (P := Try.prog) Try.underlying78 Try.underlying5 Try.underlying9 (pw_own_drewN ho n)
          have cv0 := own_string (P := Try.prog) Try.underlying78 Try.underlying5 Try.underlying9 ho
          clear hg ho hne
          go_quiet (fail)
          go_wp2
          go_ret2
          exact ⟨rfl, by first | exact below_then B1 B1.size B2 | exact below_then B1 B1.size B2.drew | exact below_then B1 B1.size (pw_below_drewN B2 _)⟩
        · rw [if_neg c7] at ht
          obtain ⟨l9, ht9, ht⟩ := Option.bind_eq_some_iff.mp ht
          have c7b : (a0_4 != 7200) = true := bne_iff_ne.mpr c7
          clear c7
          go_enter Try.func24, Try.ntmps24
          go_wp2_with (first | (go_at_call 14; refine (C _).mono ?_; rintro e w1 ⟨rfl, hb⟩; have B1 := below_step hB0 hb; have hg1 := blk_below hg0 hb; have I0 := IsWr.new w1; have K0 : Below w1.heap.size w1 (w1.alloc (.cells #[.slice none 0 0, .nilIface] 80)) := below_alloc (Below.refl _ _) _; obtain ⟨y0, y1, y2, y3, y4⟩ := rcells hg1 (Below.refl _ _); obtain ⟨x0, x1, x2, x3, x4⟩ := rcells hg1 K0) | (go_at_call 50; refine (wtext_calls w1.heap.size w1.heap.size _ _ _ _ w1 _ (by assumption) (by assumption) (Nat.le_refl _) (by assumption)).mono ?_; rintro e w2 ⟨rfl, I2, B2⟩; obtain ⟨x0, x1, x2, x3, x4⟩ := rcells hg1 B2) | (go_at_call 51; refine (wput_calls k w1.heap.size w1.heap.size _ _ _ _ _ _ w1 _ (by assumption) (by assumption) (Nat.le_refl _) (by assumption)).mono ?_; rintro e w2 ⟨rfl, I2, B2⟩; obtain ⟨x0, x1, x2, x3, x4⟩ := rcells hg1 B2) | (go_at_call 48; refine (wclock_calls k w1.heap.size w1.heap.size _ _ _ _ _ w1 _ (by assumption) (by assumption) (Nat.le_refl _) (by assumption)).mono ?_; rintro e w2 ⟨rfl, I2, B2⟩; obtain ⟨x0, x1, x2, x3, x4⟩ := rcells hg1 B2))
          obtain ⟨v, hg, hbg, ho, hne⟩ := I2
          obtain ⟨A, c, rfl⟩ := own_slice ho
          have d0 : w2.cell? ⟨w1.heap.size, 0, none⟩ = some (.slice A _ c) := (blk_cell hg 0).trans rfl
          have d1 : w2.cell? ⟨w1.heap.size, 1, none⟩ = some (errW _) := (blk_cell hg 1).trans rfl
          have cv := fun n : Nat => own_string (P := Try.prog) Try.underlying78 Try.underlying5 Try.underlying9 (pw_own_drewN ho n)
          have cv0 := own_string (P := Try.prog) Try.underlying78 Try.underlying5 Try.underlying9 ho
          clear hg ho hne
          go_quiet (fail)
          go_wp2
          go_ret2
          exact ⟨rfl, by first | exact below_then B1 B1.size B2 | exact below_then B1 B1.size B2.drew | exact below_then B1 B1.size (pw_below_drewN B2 _)⟩
      · rw [if_neg c3, Option.some.injEq, Prod.mk.injEq] at hk
        have c3b : (a0_0 == 3) = false := beq_eq_false_iff_ne.mpr c3
        clear c3
        obtain ⟨rfl, rfl⟩ := hk
        by_cases c7 : a0_4 = 7200
        · rw [if_pos c7, Option.some.injEq, Prod.mk.injEq] at ht
          obtain ⟨rfl, rfl⟩ := ht
          have c7b : (a0_4 != 7200) = false := bne_eq_false_iff_eq.mpr c7
          clear c7
          go_enter Try.func24, Try.ntmps24
          go_wp2_with (first | (go_at_call 14; refine (C _).mono ?_; rintro e w1 ⟨rfl, hb⟩; have B1 := below_step hB0 hb; have hg1 := blk_below hg0 hb; have I0 := IsWr.new w1; have K0 : Below w1.heap.size w1 (w1.alloc (.cells #[.slice none 0 0, .nilIface] 80)) := below_alloc (Below.refl _ _) _; obtain ⟨y0, y1, y2, y3, y4⟩ := rcells hg1 (Below.refl _ _); obtain ⟨x0, x1, x2, x3, x4⟩ := rcells hg1 K0) | (go_at_call 50; refine (wtext_calls w1.heap.size w1.heap.size _ _ _ _ w1 _ (by assumption) (by assumption) (Nat.le_refl _) (by assumption)).mono ?_; rintro e w2 ⟨rfl, I2, B2⟩; obtain ⟨x0, x1, x2, x3, x4⟩ := rcells hg1 B2) | (go_at_call 51; refine (wput_calls k w1.heap.size w1.heap.size _ _ _ _ _ _ w1 _ (by assumption) (by assumption) (Nat.le_refl _) (by assumption)).mono ?_; rintro e w2 ⟨rfl, I2, B2⟩; obtain ⟨x0, x1, x2, x3, x4⟩ := rcells hg1 B2) | (go_at_call 48; refine (wclock_calls k w1.heap.size w1.heap.size _ _ _ _ _ w1 _ (by assumption) (by assumption) (Nat.le_refl _) (by assumption)).mono ?_; rintro e w2 ⟨rfl, I2, B2⟩; obtain ⟨x0, x1, x2, x3, x4⟩ := rcells hg1 B2))
          obtain ⟨v, hg, hbg, ho, hne⟩ := I2
          obtain ⟨A, c, rfl⟩ := own_slice ho
          have d0 : w2.cell? ⟨w1.heap.size, 0, none⟩ = some (.slice A _ c) := (blk_cell hg 0).trans rfl
          have d1 : w2.cell? ⟨w1.heap.size, 1, none⟩ = some (errW _) := (blk_cell hg 1).trans rfl
          have cv := fun n : Nat => own_string (P := Try.prog) Try.underlying78 Try.underlying5 Try.underlying9 (pw_own_drewN ho n)
          have cv0 := own_string (P := Try.prog) Try.underlying78 Try.underlying5 Try.underlying9 ho
          clear hg ho hne
          go_quiet (fail)
          go_wp2
          go_ret2
          exact ⟨rfl, by first | exact below_then B1 B1.size B2 | exact below_then B1 B1.size B2.drew | exact below_then B1 B1.size (pw_below_drewN B2 _)⟩
        · rw [if_neg c7] at ht
          obtain ⟨l9, ht9, ht⟩ := Option.bind_eq_some_iff.mp ht
          have c7b : (a0_4 != 7200) = true := bne_iff_ne.mpr c7
          clear c7
          go_enter Try.func24, Try.ntmps24
          go_wp2_with (first | (go_at_call 14; refine (C _).mono ?_; rintro e w1 ⟨rfl, hb⟩; have B1 := below_step hB0 hb; have hg1 := blk_below hg0 hb; have I0 := IsWr.new w1; have K0 : Below w1.heap.size w1 (w1.alloc (.cells #[.slice none 0 0, .nilIface] 80)) := below_alloc (Below.refl _ _) _; obtain ⟨y0, y1, y2, y3, y4⟩ := rcells hg1 (Below.refl _ _); obtain ⟨x0, x1, x2, x3, x4⟩ := rcells hg1 K0) | (go_at_call 50; refine (wtext_calls w1.heap.size w1.heap.size _ _ _ _ w1 _ (by assumption) (by assumption) (Nat.le_refl _) (by assumption)).mono ?_; rintro e w2 ⟨rfl, I2, B2⟩; obtain ⟨x0, x1, x2, x3, x4⟩ := rcells hg1 B2) | (go_at_call 51; refine (wput_calls k w1.heap.size w1.heap.size _ _ _ _ _ _ w1 _ (by assumption) (by assumption) (Nat.le_refl _) (by assumption)).mono ?_; rintro e w2 ⟨rfl, I2, B2⟩; obtain ⟨x0, x1, x2, x3, x4⟩ := rcells hg1 B2) | (go_at_call 48; refine (wclock_calls k w1.heap.size w1.heap.size _ _ _ _ _ w1 _ (by assumption) (by assumption) (Nat.le_refl _) (by assumption)).mono ?_; rintro e w2 ⟨rfl, I2, B2⟩; obtain ⟨x0, x1, x2, x3, x4⟩ := rcells hg1 B2))
          obtain ⟨v, hg, hbg, ho, hne⟩ := I2
          obtain ⟨A, c, rfl⟩ := own_slice ho
          have d0 : w2.cell? ⟨w1.heap.size, 0, none⟩ = some (.slice A _ c) := (blk_cell hg 0).trans rfl
          have d1 : w2.cell? ⟨w1.heap.size, 1, none⟩ = some (errW _) := (blk_cell hg 1).trans rfl
          have cv := fun n : Nat => own_string (P := Try.prog) Try.underlying78 Try.underlying5 Try.underlying9 (pw_own_drewN ho n)
          have cv0 := own_string (P := Try.prog) Try.underlying78 Try.underlying5 Try.underlying9 ho
          clear hg ho hne
          go_quiet (fail)
          go_wp2
          go_ret2
          exact ⟨rfl, by first | exact below_then B1 B1.size B2 | exact below_then B1 B1.size B2.drew | exact below_then B1 B1.size (pw_below_drewN B2 _)⟩

end Go.Proofs.Ytnjeemghkpgcfaa.MRuleTexts
