-- This text was written by a program of this session (a changed scratch copy of a tool of the kit; NOTES.md tells the changes).
import Derived.Test.YtonjfggfcnpgbaaMScanPlaysx0
import Derived.Test.YtonjfggfcnpgbaaMScanPlaysx3
import Derived.Test.YtonjfggfcnpgbaaMScanPlaysx7
import Derived.Test.YtonjfggfcnpgbaaMScanPlaysx12
namespace Go.Proofs.Ytonjfggfcnpgbaa.MScanPlays
open Go.RowKit Go.Proofs.YtonjfggfcnpgbaaW.PrintWords Go.Proofs.YtonjfggfcnpgbaaW.PrintLast Go.Proofs.YtonjfggfcnpgbaaW.PrintMore
attribute [local go_sem] max2_int min2_int max_two min_two max_three min_three max_four min_four   -- for this text's walks alone
set_option linter.unusedVariables false
set_option linter.unusedSimpArgs false

/-! ### r4_Word: function 38 -/
def r4_Word.l0 : Nat → List ByteArray → Int → ByteArray → Int → Int → Option (Int × ByteArray × Int × Int)
 | 0, _, _, _, _, _ => none
 | k + 1, x1, x6, x430000, x430001, x430002 => if x6 < (x1.length : Int) then (if 0 ≤ x6 then ((r4_Fold.f k x430000 x430001 x430002 (rdOf ByteArray.empty x1 x6)).bind fun bt432 => (if bt432.1 = true then (some (x6, bt432.2.1, bt432.2.2.1, bt432.2.2.2)) else (r4_Word.l0 k x1 (wrap64 (x6 + 1)) x430000 x430001 x430002))) else (none)) else ((r4_Fail.f x430000 x430001 x430002 2).bind fun bt437 => (some ((-1), bt437.1, bt437.2.1, bt437.2.2)))
def r4_Word.f (k : Nat) (a0_0 : ByteArray) (a0_1 : Int) (a0_2 : Int) (l1 : List ByteArray) : Option (Int × ByteArray × Int × Int) := r4_Word.l0 k l1 0 a0_0 a0_1 a0_2
def r4_Word.T4 : Bool × List (List Nat × List Nat) := (true, [([], []), ([], []), ([], []), ([1, 2], [1, 2]), ([3], [3]), ([0, 4], [0, 4]), ([5], [5]), ([6], [6]), ([6], [6]), ([], []), ([7, 5, 0, 1, 2, 3, 4, 5, 6, 7, 9], [7]), ([9, 8, 10, 0, 1, 2, 3, 4, 5, 6, 7, 8, 9, 10], [8, 9])])
def r4_Word.B4 : List Nat := [0, 0, 0, 6, 14, 31, 63, 127, 127, 0, 767, 2047]
theorem r4_Word.tab4 : rtab .any (opsOf Try.f38 4) = r4_Word.T4 := by kernel_rfl
theorem r4_Word.bits4 : waitsOk r4_Word.T4.2 r4_Word.B4 = true := by kernel_rfl
set_option maxHeartbeats 8000000 in
set_option maxRecDepth 100000 in
theorem r4_Word.calls (k : Nat) (a0_0 : ByteArray) (a0_1 : Int) (a0_2 : Int) (A1 : Option Addr) (c1 : Nat) (l1 : List ByteArray) (r1 : Int) (r2 : ByteArray) (r3 : Int) (r4 : Int) (w : World) (hr1 : Kd.C Kd.string w A1 l1.length l1) (hc1 : l1.length ≤ c1) (h : r4_Word.f k a0_0 a0_1 a0_2 l1 = some (r1, r2, r3, r4)) :
  Calls Try.prog 38 #[.agg #[.string a0_0, .int .i64 a0_1, .int .i64 a0_2], .slice A1 l1.length c1] w fun e w' => e = .returned (.tuple #[.int .i64 r1, .agg #[.string r2, .int .i64 r3, .int .i64 r4]]) ∧ Below w.heap.size w w' := by
 have hu31 := Try.underlying31
 have HR1 := Aside0.mk hr1
 have HC1 := Aside0.mk hc1
 clear hr1 hc1
 have HB := Aside0.mk (Below.refl w.heap.size w)
 have H : (r4_Word.l0 k l1 0 a0_0 a0_1 a0_2) = some (r1, r2, r3, r4) := h
 clear h
 have H' := Aside0.mk H
 clear H
 go_enter Try.func38, Try.ntmps38
 go_wp2_with (first | ((with_reducible refine gate_dst (N := 2) rfl ?_); refine box_event ?hg (N := 2) ?hd (cs := #[.string a0_0, .int .i64 a0_1, .int .i64 a0_2]) (t := 31) ?hr ?_; (case hd => rfl); (case hg => rfl); (case hr => exact zq16); intro gb429 hg w3 hbox hb; have n0_ := Aside0.mk (below_step zq2 hb); have n1_ := Aside0.mk (hbox); have n2_ := Aside0.mk ((by rw [hg]; exact (below_size zq2) : w.heap.size ≤ gb429)); have n3_ := Aside0.mk ((by rw [hg]; exact (below_size zq2) : w.heap.size ≤ gb429)); clear HB; have HB := n0_; have BK429 := n1_; have GW429 := n2_; have GE429 := n3_; clear n0_ n1_ n2_ n3_; clear hb hbox hg) | ((with_reducible refine gate_dst (N := 5) rfl ?_); refine box_event ?hg (N := 5) ?hd (cs := #[.string (⟨#[]⟩ : ByteArray), .int .i64 0, .int .i64 0]) (t := 31) ?hr ?_; (case hd => rfl); (case hg => rfl); (case hr => exact zq16); intro gb430 hg w4 hbox hb; have n0_ := Aside0.mk (blk_below (g := gb429) (o := .cells #[.string a0_0, .int .i64 a0_1, .int .i64 a0_2] 31 (0, 0)) (bk_ BK429.out) hb); have n1_ := Aside0.mk (below_step zq82 hb); have n2_ := Aside0.mk (hbox); have n3_ := Aside0.mk ((by rw [hg]; exact (below_size zq82) : w.heap.size ≤ gb430)); have n4_ := Aside0.mk ((by rw [hg]; exact (below_size zq82) : w.heap.size ≤ gb430)); have n5_ := Aside0.mk ((by rw [hg]; exact Nat.ne_of_lt (blk_lt (g := gb429) (o := .cells #[.string a0_0, .int .i64 a0_1, .int .i64 a0_2] 31 (0, 0)) (bk_ BK429.out)) : gb429 ≠ gb430)); have n6_ := Aside0.mk ((by rw [hg]; exact Nat.ne_of_gt (blk_lt (g := gb429) (o := .cells #[.string a0_0, .int .i64 a0_1, .int .i64 a0_2] 31 (0, 0)) (bk_ BK429.out)) : gb430 ≠ gb429)); clear BK429; clear HB; have BK429 := n0_; have HB := n1_; have BK430 := n2_; have GW430 := n3_; have GE430 := n4_; have NB429_430 := n5_; have NB430_429 := n6_; clear n0_ n1_ n2_ n3_ n4_ n5_ n6_; clear hb hbox hg))
 try simp only [Act.put, sl_]
 go_loopg [6] k (fun kq v6 w' => ∃ (x6_1 : Int) (x431000_1 : ByteArray) (x431001_1 : Int) (x431002_1 : Int), v6 = .int .i64 x6_1 ∧ Aside0 (r4_Word.l0 kq l1 x6_1 a0_0 a0_1 a0_2 = some (r1, r2, r3, r4)) ∧ Aside0 (kq ≤ k) ∧ Aside0 (w'.heap[gb429]? = some (.cells #[.string a0_0, .int .i64 a0_1, .int .i64 a0_2] 31 (0, 0))) ∧ Aside0 (w'.heap[gb430]? = some (.cells #[.string x431000_1, .int .i64 x431001_1, .int .i64 x431002_1] 31 (0, 0))) ∧ Aside0 (Below w.heap.size w w'))
 case atStart => exact ⟨(0), ((⟨#[]⟩ : ByteArray)), (0), (0), zq9, H', ⟨Nat.le_refl _⟩, ⟨by (with_reducible repeat (first | refine blk_drewN ?_ _ | refine blk_drew ?_ | refine blk_alloc ?_ _)); exact BK429.out⟩, ⟨by (with_reducible repeat (first | refine blk_drewN ?_ _ | refine blk_drew ?_ | refine blk_alloc ?_ _)); exact BK430.out⟩, ⟨zq14⟩⟩
 case round =>
  clear H'
  try clear c1
  try clear p2
  try clear c3
  obtain ⟨x6_1, x431000_1, x431001_1, x431002_1, rfl, HA, HK1, BK429, BK430, HB⟩ := hrel
  cases gk with
  | zero => exact absurd HA.out (by simp [r4_Word.l0])
  | succ k1 =>
   have H := HA.out
   clear HA
   simp only [r4_Word.l0] at H
   by_cases c5 : x6_1 < (l1.length : Int)
   ·rw [if_pos c5] at H
    have c5b0 : decide (x6_1 < (l1.length : Int)) = true := decide_eq_true c5
    clear c5
    by_cases c6 : 0 ≤ x6_1
    ·rw [if_pos c6] at H
     have c6b0 : decide (0 ≤ x6_1) = true := decide_eq_true c6
     clear c6
     replace H := Option.bind_eq_some_iff.mp H
     obtain ⟨⟨t432, t433, t434, t435⟩, A70, H⟩ := H
     replace H : (if t432 = true then (some (x6_1, t433, t434, t435)) else (r4_Word.l0 k1 l1 (wrap64 (x6_1 + 1)) a0_0 a0_1 a0_2)) = some (r1, r2, r3, r4) := H
     have A7 := Aside0.mk A70
     clear A70
     by_cases c8 : t432 = true
     ·subst c8
      have H1 : (some (x6_1, t433, t434, t435)) = some (r1, r2, r3, r4) := by rw [if_pos rfl] at H; exact H
      clear H
      have H := H1
      clear H1
      simp only [Option.some.injEq, Prod.mk.injEq] at H
      obtain ⟨rfl, rfl, rfl, rfl⟩ := H
      try go_wp2
      have n0_ := Aside0.mk (blk_drew BK429.out)
      have n1_ := Aside0.mk (blk_drew BK430.out)
      have n2_ := Aside0.mk (below_drew1 HB.out)
      clear BK429
      clear BK430
      clear HB
      have BK429 := n0_
      have BK430 := n1_
      have HB := n2_
      clear n0_ n1_ n2_
      have p431 : 0 ≤ (x6_1 : Int) := of_decide_eq_true zq10
      have q431 : x6_1 < (l1.length : Int) := of_decide_eq_true zq10
      obtain ⟨ad431, e431, hx431_0⟩ := Kd.at_string HR1.out x6_1 p431 q431
      have hw431_0 := hx431_0
      cases e431
      replace hx431_0 := (HB.out.cell (World.block_lt_of_cell? w _ hx431_0)).trans hx431_0
      replace p431 := eq_true p431
      replace q431 := eq_true q431
      refine start_ (n := 12) (S := fun w' => w'.cell? ⟨gb429, 0, none⟩ = some (.string a0_0) ∧ w'.cell? ⟨gb429, 1, none⟩ = some (.int .i64 a0_1) ∧ w'.cell? ⟨gb429, 2, none⟩ = some (.int .i64 a0_2) ∧ w'.cell? (ad431.add (x6_1).toNat) = some (.string (rdOf ByteArray.empty l1 x6_1))) (ds := []) #[false, false, false, false, false, false, false, false, false, false, false, false] (by kernel_rfl) rfl rfl ⟨(blk_cell BK429.out 0).trans rfl, (blk_cell BK429.out 1).trans rfl, (blk_cell BK429.out 2).trans rfl, ((HB.out.cell (World.block_lt_of_cell? w _ hw431_0)).trans hw431_0)⟩ (fun hHeld => ?_); refine with_tabW r4_Word.tab4 r4_Word.bits4 (fun HT_ HW_ => ?_)
      generalize wr.drew = w9 at BK429 BK430 HB hx431_0 hHeld ⊢
      refine pure_ (i := 1) (N := some 17) (v := ?_) (a' := ?_) #[false, true, false, false, false, false, false, false, false, false, false, false] rfl rfl (any_of HT_.out (by kernel_rfl)) (fun _ _ _ h => h) (Or.inl ⟨by rfl, ?_⟩) ?_ ?_
      rotate_left
      ·intro w'
       go_simp
       with_reducible rfl
      rotate_left
      ·simp only [Act.put, sl_, i64_w, i32_w]
       rfl
      refine pure_ (i := 2) (N := some 18) (v := ?_) (a' := ?_) #[false, true, true, false, false, false, false, false, false, false, false, false] rfl rfl (any_of HT_.out (by kernel_rfl)) (fun _ _ _ h => h) (Or.inl ⟨by rfl, ?_⟩) ?_ ?_
      rotate_left
      ·intro w'
       go_simp
       with_reducible rfl
      rotate_left
      ·simp only [Act.put, sl_, i64_w, i32_w]
       rfl
      refine pure_ (i := 3) (N := some 19) (v := ?_) (a' := ?_) #[false, true, true, true, false, false, false, false, false, false, false, false] rfl rfl (any_of HT_.out (by kernel_rfl)) (fun _ _ _ h => h) (Or.inl ⟨by rfl, ?_⟩) ?_ ?_
      rotate_left
      ·intro w'
       go_simp
       with_reducible rfl
      rotate_left
      ·simp only [Act.put, sl_, i64_w, i32_w]
       rfl
      refine take_ (i := 0) (N := some 16) (v := ?_) (a' := ?_) #[true, true, true, true, false, false, false, false, false, false, false, false] rfl rfl (take_ofW HT_.out HW_.out (by kernel_rfl)) (fun _ _ _ h => h) (Or.inl ⟨by rfl, ?_⟩) hHeld ?_ ?_
      rotate_left
      ·rintro w' ⟨s0, s1, s2, s3⟩
       go_simp
       with_reducible rfl
      rotate_left
      ·simp only [Act.put, sl_, i64_w, i32_w]
       rfl
      refine take_ (i := 4) (N := some 20) (v := ?_) (a' := ?_) #[true, true, true, true, true, false, false, false, false, false, false, false] rfl rfl (take_ofW HT_.out HW_.out (by kernel_rfl)) (fun _ _ _ h => h) (Or.inl ⟨by rfl, ?_⟩) hHeld ?_ ?_
      rotate_left
      ·rintro w' ⟨s0, s1, s2, s3⟩
       go_simp
       with_reducible rfl
      rotate_left
      ·simp only [Act.put, sl_, i64_w, i32_w]
       rfl
      refine join_ (σ := Nat) 2 #[true, true, true, true, true, true, true, true, true, true, false, false] (fun s_ => [(21, .tuple #[.bool true, .agg #[.string t433, .int .i64 t434, .int .i64 t435]]), (8, .pointer (some ⟨s_, 0, none⟩)), (15, .tuple #[.bool true, .agg #[.string t433, .int .i64 t434, .int .i64 t435]]), (22, .bool true), (23, .agg #[.string t433, .int .i64 t434, .int .i64 t435])]) (fun s_ w' => (w'.cell? ⟨gb429, 0, none⟩ = some (.string a0_0) ∧ w'.cell? ⟨gb429, 1, none⟩ = some (.int .i64 a0_1) ∧ w'.cell? ⟨gb429, 2, none⟩ = some (.int .i64 a0_2) ∧ w'.cell? (ad431.add (x6_1).toNat) = some (.string (rdOf ByteArray.empty l1 x6_1))) ∧ (w'.heap[gb429]? = some (.cells #[.string a0_0, .int .i64 a0_1, .int .i64 a0_2] 31 (0, 0))) ∧ (w'.heap[gb430]? = some (.cells #[.string x431000_1, .int .i64 x431001_1, .int .i64 x431002_1] 31 (0, 0))) ∧ (w'.heap[s_]? = some (.cells #[.string (⟨#[]⟩ : ByteArray), .int .i64 0, .int .i64 0] 31 (0, 0))) ∧ (w.heap.size ≤ s_) ∧ (w.heap.size ≤ s_) ∧ (gb429 ≠ s_) ∧ (s_ ≠ gb429) ∧ (gb430 ≠ s_) ∧ (s_ ≠ gb430) ∧ (Below w.heap.size w w')) ?_ ?_
      rotate_left
      ·intro hCont
       refine two_ (i := 5) (j := 9) (Ni := some 21) (Nj := some 8) #[true, true, true, true, true, true, false, false, false, false, false, false] #[true, true, true, true, true, false, false, false, false, true, false, false] rfl rfl rfl rfl (two_of HT_.out (by kernel_rfl)) (by decide) (by decide) (fun K hK => ?_) (fun K hK => ?_)
       ·skip
        refine goes_ Try.func33 (by kernel_rfl) rfl #[.agg #[.string a0_0, .int .i64 a0_1, .int .i64 a0_2], .string (rdOf ByteArray.empty l1 x6_1)] (by rfl) rfl rfl zq1 ?_
        with_reducible refine (r4_Fold.calls k1 a0_0 a0_1 a0_2 (rdOf ByteArray.empty l1 x6_1) true t433 t434 t435 _ A7.out).mono ?_
        rintro e w10 ⟨rfl, hb⟩
        refine ⟨_, rfl, ?_⟩
        have n0_ := Aside0.mk (blk_below (g := gb429) (o := .cells #[.string a0_0, .int .i64 a0_1, .int .i64 a0_2] 31 (0, 0)) (bk_ BK429.out) hb)
        have n1_ := Aside0.mk (blk_below (g := gb430) (o := .cells #[.string x431000_1, .int .i64 x431001_1, .int .i64 x431002_1] 31 (0, 0)) (bk_ BK430.out) hb)
        have n2_ := Aside0.mk (below_step zq14 hb)
        clear BK429
        clear BK430
        clear HB
        have BK429 := n0_
        have BK430 := n1_
        have HB := n2_
        clear n0_ n1_ n2_
        (try clear hb)
        (try clear hb2)
        (try clear hk)
        (try clear hi)
        refine hK.out _ _ ⟨(blk_cell BK429.out 0).trans rfl, (blk_cell BK429.out 1).trans rfl, (blk_cell BK429.out 2).trans rfl, ((HB.out.cell (World.block_lt_of_cell? w _ hw431_0)).trans hw431_0)⟩ (fun hHeld => ?_)
        clear hK K
        refine norm_ (a' := ?_) ?_ ?_
        rotate_left
        ·show Act.put _ (some 21) _ = _
         simp only [Act.put, sl_, i64_w, i32_w]
         rfl
        refine pure_ (i := 6) (N := some 15) (v := ?_) (a' := ?_) #[true, true, true, true, true, true, true, false, false, false, false, false] rfl rfl (any_of HT_.out (by kernel_rfl)) (fun _ _ _ h => h) (Or.inl ⟨by rfl, ?_⟩) ?_ ?_
        rotate_left
        ·intro w'
         go_simp
         with_reducible rfl
        rotate_left
        ·simp only [Act.put, sl_, i64_w, i32_w]
         rfl
        refine pure_ (i := 7) (N := some 22) (v := ?_) (a' := ?_) #[true, true, true, true, true, true, true, true, false, false, false, false] rfl rfl (any_of HT_.out (by kernel_rfl)) (fun _ _ _ h => h) (Or.inl ⟨by rfl, ?_⟩) ?_ ?_
        rotate_left
        ·intro w'
         go_simp
         with_reducible rfl
        rotate_left
        ·simp only [Act.put, sl_, i64_w, i32_w]
         rfl
        refine pure_ (i := 8) (N := some 23) (v := ?_) (a' := ?_) #[true, true, true, true, true, true, true, true, true, false, false, false] rfl rfl (any_of HT_.out (by kernel_rfl)) (fun _ _ _ h => h) (Or.inl ⟨by rfl, ?_⟩) ?_ ?_
        rotate_left
        ·intro w'
         go_simp
         with_reducible rfl
        rotate_left
        ·simp only [Act.put, sl_, i64_w, i32_w]
         rfl
        refine one_ (i := 9) (N := some 8) #[true, true, true, true, true, true, true, true, true, true, false, false] rfl rfl (one_of HT_.out (by kernel_rfl)) (by decide) (fun K hK => ?_)
        refine box_step ?hg (N := 8) ?hd (cs := #[.string (⟨#[]⟩ : ByteArray), .int .i64 0, .int .i64 0]) (t := 31) ?hr ?_; (case hd => rfl); (case hg => rfl); (case hr => exact zq16)
        intro gb436 hg w11 hbox hb
        have n0_ := Aside0.mk (blk_below (g := gb429) (o := .cells #[.string a0_0, .int .i64 a0_1, .int .i64 a0_2] 31 (0, 0)) (bk_ BK429.out) hb)
        have n1_ := Aside0.mk (blk_below (g := gb430) (o := .cells #[.string x431000_1, .int .i64 x431001_1, .int .i64 x431002_1] 31 (0, 0)) (bk_ BK430.out) hb)
        have n2_ := Aside0.mk (below_step zq14 hb)
        have n3_ := Aside0.mk (hbox)
        have n4_ := Aside0.mk ((by rw [hg]; exact (below_size zq14) : w.heap.size ≤ gb436))
        have n5_ := Aside0.mk ((by rw [hg]; exact (below_size zq14) : w.heap.size ≤ gb436))
        have n6_ := Aside0.mk ((by rw [hg]; exact Nat.ne_of_lt (blk_lt (g := gb429) (o := .cells #[.string a0_0, .int .i64 a0_1, .int .i64 a0_2] 31 (0, 0)) (bk_ BK429.out)) : gb429 ≠ gb436))
        have n7_ := Aside0.mk ((by rw [hg]; exact Nat.ne_of_gt (blk_lt (g := gb429) (o := .cells #[.string a0_0, .int .i64 a0_1, .int .i64 a0_2] 31 (0, 0)) (bk_ BK429.out)) : gb436 ≠ gb429))
        have n8_ := Aside0.mk ((by rw [hg]; exact Nat.ne_of_lt (blk_lt (g := gb430) (o := .cells #[.string x431000_1, .int .i64 x431001_1, .int .i64 x431002_1] 31 (0, 0)) (bk_ BK430.out)) : gb430 ≠ gb436))
        have n9_ := Aside0.mk ((by rw [hg]; exact Nat.ne_of_gt (blk_lt (g := gb430) (o := .cells #[.string x431000_1, .int .i64 x431001_1, .int .i64 x431002_1] 31 (0, 0)) (bk_ BK430.out)) : gb436 ≠ gb430))
        clear BK429
        clear BK430
        clear HB
        have BK429 := n0_
        have BK430 := n1_
        have HB := n2_
        have BK436 := n3_
        have GW436 := n4_
        have GE436 := n5_
        have NB429_436 := n6_
        have NB436_429 := n7_
        have NB430_436 := n8_
        have NB436_430 := n9_
        clear n0_ n1_ n2_ n3_ n4_ n5_ n6_ n7_ n8_ n9_
        clear hb hbox hg
        refine hK.out _ _ ⟨(blk_cell BK429.out 0).trans rfl, (blk_cell BK429.out 1).trans rfl, (blk_cell BK429.out 2).trans rfl, ((HB.out.cell (World.block_lt_of_cell? w _ hw431_0)).trans hw431_0)⟩ (fun hHeld => ?_)
        clear hK K
        refine norm_ (a' := ?_) ?_ ?_
        rotate_left
        ·show Act.put _ (some 8) _ = _
         simp only [Act.put, sl_, i64_w, i32_w]
         rfl
        exact norm_ (by simp only [putAll, Act.put, sl_]) (hCont (gb436) _ ⟨hHeld, (bk_ BK429.out), (bk_ BK430.out), (bk_ BK436.out), GW436.out, GE436.out, NB429_436.out, NB436_429.out, NB430_436.out, NB436_430.out, zq26⟩)
       ·skip
        refine box_step ?hg (N := 8) ?hd (cs := #[.string (⟨#[]⟩ : ByteArray), .int .i64 0, .int .i64 0]) (t := 31) ?hr ?_; (case hd => rfl); (case hg => rfl); (case hr => exact zq16)
        intro gb436 hg w10 hbox hb
        have n0_ := Aside0.mk (blk_below (g := gb429) (o := .cells #[.string a0_0, .int .i64 a0_1, .int .i64 a0_2] 31 (0, 0)) (bk_ BK429.out) hb)
        have n1_ := Aside0.mk (blk_below (g := gb430) (o := .cells #[.string x431000_1, .int .i64 x431001_1, .int .i64 x431002_1] 31 (0, 0)) (bk_ BK430.out) hb)
        have n2_ := Aside0.mk (below_step zq14 hb)
        have n3_ := Aside0.mk (hbox)
        have n4_ := Aside0.mk ((by rw [hg]; exact (below_size zq14) : w.heap.size ≤ gb436))
        have n5_ := Aside0.mk ((by rw [hg]; exact (below_size zq14) : w.heap.size ≤ gb436))
        have n6_ := Aside0.mk ((by rw [hg]; exact Nat.ne_of_lt (blk_lt (g := gb429) (o := .cells #[.string a0_0, .int .i64 a0_1, .int .i64 a0_2] 31 (0, 0)) (bk_ BK429.out)) : gb429 ≠ gb436))
        have n7_ := Aside0.mk ((by rw [hg]; exact Nat.ne_of_gt (blk_lt (g := gb429) (o := .cells #[.string a0_0, .int .i64 a0_1, .int .i64 a0_2] 31 (0, 0)) (bk_ BK429.out)) : gb436 ≠ gb429))
        have n8_ := Aside0.mk ((by rw [hg]; exact Nat.ne_of_lt (blk_lt (g := gb430) (o := .cells #[.string x431000_1, .int .i64 x431001_1, .int .i64 x431002_1] 31 (0, 0)) (bk_ BK430.out)) : gb430 ≠ gb436))
        have n9_ := Aside0.mk ((by rw [hg]; exact Nat.ne_of_gt (blk_lt (g := gb430) (o := .cells #[.string x431000_1, .int .i64 x431001_1, .int .i64 x431002_1] 31 (0, 0)) (bk_ BK430.out)) : gb436 ≠ gb430))
        clear BK429
        clear BK430
        clear HB
        have BK429 := n0_
        have BK430 := n1_
        have HB := n2_
        have BK436 := n3_
        have GW436 := n4_
        have GE436 := n5_
        have NB429_436 := n6_
        have NB436_429 := n7_
        have NB430_436 := n8_
        have NB436_430 := n9_
        clear n0_ n1_ n2_ n3_ n4_ n5_ n6_ n7_ n8_ n9_
        clear hb hbox hg
        refine hK.out _ _ ⟨(blk_cell BK429.out 0).trans rfl, (blk_cell BK429.out 1).trans rfl, (blk_cell BK429.out 2).trans rfl, ((HB.out.cell (World.block_lt_of_cell? w _ hw431_0)).trans hw431_0)⟩ (fun hHeld => ?_)
        clear hK K
        refine norm_ (a' := ?_) ?_ ?_
        rotate_left
        ·show Act.put _ (some 8) _ = _
         simp only [Act.put, sl_, i64_w, i32_w]
         rfl
        refine one_ (i := 5) (N := some 21) #[true, true, true, true, true, true, false, false, false, true, false, false] rfl rfl (one_of HT_.out (by kernel_rfl)) (by decide) (fun K hK => ?_)
        refine goes_ Try.func33 (by kernel_rfl) rfl #[.agg #[.string a0_0, .int .i64 a0_1, .int .i64 a0_2], .string (rdOf ByteArray.empty l1 x6_1)] (by rfl) rfl rfl zq1 ?_
        with_reducible refine (r4_Fold.calls k1 a0_0 a0_1 a0_2 (rdOf ByteArray.empty l1 x6_1) true t433 t434 t435 _ A7.out).mono ?_
        rintro e w11 ⟨rfl, hb⟩
        refine ⟨_, rfl, ?_⟩
        have n0_ := Aside0.mk (blk_below (g := gb429) (o := .cells #[.string a0_0, .int .i64 a0_1, .int .i64 a0_2] 31 (0, 0)) (bk_ BK429.out) hb)
        have n1_ := Aside0.mk (blk_below (g := gb430) (o := .cells #[.string x431000_1, .int .i64 x431001_1, .int .i64 x431002_1] 31 (0, 0)) (bk_ BK430.out) hb)
        have n2_ := Aside0.mk (blk_below (g := gb436) (o := .cells #[.string (⟨#[]⟩ : ByteArray), .int .i64 0, .int .i64 0] 31 (0, 0)) (bk_ BK436.out) hb)
        have n3_ := Aside0.mk (below_step zq26 hb)
        clear BK429
        clear BK430
        clear BK436
        clear HB
        have BK429 := n0_
        have BK430 := n1_
        have BK436 := n2_
        have HB := n3_
        clear n0_ n1_ n2_ n3_
        (try clear hb)
        (try clear hb2)
        (try clear hk)
        (try clear hi)
        refine hK.out _ _ ⟨(blk_cell BK429.out 0).trans rfl, (blk_cell BK429.out 1).trans rfl, (blk_cell BK429.out 2).trans rfl, ((HB.out.cell (World.block_lt_of_cell? w _ hw431_0)).trans hw431_0)⟩ (fun hHeld => ?_)
        clear hK K
        refine norm_ (a' := ?_) ?_ ?_
        rotate_left
        ·show Act.put _ (some 21) _ = _
         simp only [Act.put, sl_, i64_w, i32_w]
         rfl
        refine pure_ (i := 6) (N := some 15) (v := ?_) (a' := ?_) #[true, true, true, true, true, true, true, false, false, true, false, false] rfl rfl (any_of HT_.out (by kernel_rfl)) (fun _ _ _ h => h) (Or.inl ⟨by rfl, ?_⟩) ?_ ?_
        rotate_left
        ·intro w'
         go_simp
         with_reducible rfl
        rotate_left
        ·simp only [Act.put, sl_, i64_w, i32_w]
         rfl
        refine pure_ (i := 7) (N := some 22) (v := ?_) (a' := ?_) #[true, true, true, true, true, true, true, true, false, true, false, false] rfl rfl (any_of HT_.out (by kernel_rfl)) (fun _ _ _ h => h) (Or.inl ⟨by rfl, ?_⟩) ?_ ?_
        rotate_left
        ·intro w'
         go_simp
         with_reducible rfl
        rotate_left
        ·simp only [Act.put, sl_, i64_w, i32_w]
         rfl
        refine pure_ (i := 8) (N := some 23) (v := ?_) (a' := ?_) #[true, true, true, true, true, true, true, true, true, true, false, false] rfl rfl (any_of HT_.out (by kernel_rfl)) (fun _ _ _ h => h) (Or.inl ⟨by rfl, ?_⟩) ?_ ?_
        rotate_left
        ·intro w'
         go_simp
         with_reducible rfl
        rotate_left
        ·simp only [Act.put, sl_, i64_w, i32_w]
         rfl
        exact norm_ (by simp only [putAll, Act.put, sl_]) (hCont (gb436) _ ⟨hHeld, (bk_ BK429.out), (bk_ BK430.out), (bk_ BK436.out), GW436.out, GE436.out, NB429_436.out, NB436_429.out, NB430_436.out, NB436_430.out, zq26⟩)
      rintro gb436 w12 ⟨hS_, h0_, h1_, h2_, h3_, h4_, h5_, h6_, h7_, h8_, h9_⟩
      have n0_ : Aside0 (w12.heap[gb429]? = some (.cells #[.string a0_0, .int .i64 a0_1, .int .i64 a0_2] 31 (0, 0))) := ⟨h0_⟩
      have n1_ : Aside0 (w12.heap[gb430]? = some (.cells #[.string x431000_1, .int .i64 x431001_1, .int .i64 x431002_1] 31 (0, 0))) := ⟨h1_⟩
      have n2_ : Aside0 (w12.heap[gb436]? = some (.cells #[.string (⟨#[]⟩ : ByteArray), .int .i64 0, .int .i64 0] 31 (0, 0))) := ⟨h2_⟩
      have n3_ : Aside0 (w.heap.size ≤ gb436) := ⟨h3_⟩
      have n4_ : Aside0 (w.heap.size ≤ gb436) := ⟨h4_⟩
      have n5_ : Aside0 (gb429 ≠ gb436) := ⟨h5_⟩
      have n6_ : Aside0 (gb436 ≠ gb429) := ⟨h6_⟩
      have n7_ : Aside0 (gb430 ≠ gb436) := ⟨h7_⟩
      have n8_ : Aside0 (gb436 ≠ gb430) := ⟨h8_⟩
      have n9_ : Aside0 (Below w.heap.size w w12) := ⟨h9_⟩
      clear BK429
      clear BK430
      clear HB
      clear h0_ h1_ h2_ h3_ h4_ h5_ h6_ h7_ h8_ h9_
      have BK429 := n0_
      have BK430 := n1_
      have BK436 := n2_
      have GW436 := n3_
      have GE436 := n4_
      have NB429_436 := n5_
      have NB436_429 := n6_
      have NB430_436 := n7_
      have NB436_430 := n8_
      have HB := n9_
      clear n0_ n1_ n2_ n3_ n4_ n5_ n6_ n7_ n8_ n9_
      have hHeld : w12.cell? ⟨gb429, 0, none⟩ = some (.string a0_0) ∧ w12.cell? ⟨gb429, 1, none⟩ = some (.int .i64 a0_1) ∧ w12.cell? ⟨gb429, 2, none⟩ = some (.int .i64 a0_2) ∧ w12.cell? (ad431.add (x6_1).toNat) = some (.string (rdOf ByteArray.empty l1 x6_1)) := hS_
      refine norm_ (a' := ?_) ?_ ?_
      rotate_left
      ·simp only [putAll, Act.put, sl_]
       rfl
      refine pure_ (i := 10) (N := some 7) (v := ?_) (a' := ?_) #[true, true, true, true, true, true, true, true, true, true, true, false] rfl rfl (any_of HT_.out (by kernel_rfl)) (fun _ _ _ h => h) (Or.inl ⟨by rfl, ?_⟩) ?_ ?_
      rotate_left
      ·intro w'
       go_simp
       with_reducible rfl
      rotate_left
      ·simp only [Act.put, sl_, i64_w, i32_w]
       rfl
      refine one_ (i := 11) (N := none) #[true, true, true, true, true, true, true, true, true, true, true, true] rfl rfl (one_of HT_.out (by kernel_rfl)) (by decide) (fun K hK => ?_)
      have hs13 : w12.cell? ⟨gb436, 0, none⟩ = some (.string (⟨#[]⟩ : ByteArray)) := (blk_cell BK436.out 0).trans rfl
      have hfs13 := blk_frozen BK436.out 0
      have hns13_0 := NB429_436.out
      have hns13_1 := NB430_436.out
      have hms13_0 := NB436_429.out
      have hms13_1 := NB436_430.out
      have hs14 : w12.cell? ⟨gb436, 1, none⟩ = some (.int .i64 0) := (blk_cell BK436.out 1).trans rfl
      have hfs14 := blk_frozen BK436.out 1
      have hns14_0 := NB429_436.out
      have hns14_1 := NB430_436.out
      have hms14_0 := NB436_429.out
      have hms14_1 := NB436_430.out
      have hs15 : w12.cell? ⟨gb436, 2, none⟩ = some (.int .i64 0) := (blk_cell BK436.out 2).trans rfl
      have hfs15 := blk_frozen BK436.out 2
      have hns15_0 := NB429_436.out
      have hns15_1 := NB430_436.out
      have hms15_0 := NB436_429.out
      have hms15_1 := NB436_430.out
      refine skip_ (w1 := ?_) (by rfl) rfl ?_ ?_
      rotate_left
      ·go_simp
       rfl
      refine hK.out _ _ ⟨((cell_far (p := ⟨gb436, _, none⟩) NB429_436.out _).trans (((cell_far (p := ⟨gb436, _, none⟩) NB429_436.out _).trans (((cell_far (p := ⟨gb436, _, none⟩) NB429_436.out _).trans (hHeld.1)))))), ((cell_far (p := ⟨gb436, _, none⟩) NB429_436.out _).trans (((cell_far (p := ⟨gb436, _, none⟩) NB429_436.out _).trans (((cell_far (p := ⟨gb436, _, none⟩) NB429_436.out _).trans (hHeld.2.1)))))), ((cell_far (p := ⟨gb436, _, none⟩) NB429_436.out _).trans (((cell_far (p := ⟨gb436, _, none⟩) NB429_436.out _).trans (((cell_far (p := ⟨gb436, _, none⟩) NB429_436.out _).trans (hHeld.2.2.1)))))), ((cell_far (p := ⟨gb436, _, none⟩) zq13 _).trans (((cell_far (p := ⟨gb436, _, none⟩) zq13 _).trans (((cell_far (p := ⟨gb436, _, none⟩) zq13 _).trans (hHeld.2.2.2))))))⟩ (fun hHeld => ?_)
      clear hK K
      refine done_ (done_of HT_.out (by kernel_rfl)) ?_
      try go_wp2
      have n0_ : Aside0 ((((w12.setCell ⟨gb436, 0, none⟩ (.string t433)).setCell ⟨gb436, 1, none⟩ (.int .i64 t434)).setCell ⟨gb436, 2, none⟩ (.int .i64 t435)).heap[gb429]? = some (.cells #[.string a0_0, .int .i64 a0_1, .int .i64 a0_2] 31 (0, 0))) := ⟨zq64⟩
      have n1_ : Aside0 ((((w12.setCell ⟨gb436, 0, none⟩ (.string t433)).setCell ⟨gb436, 1, none⟩ (.int .i64 t434)).setCell ⟨gb436, 2, none⟩ (.int .i64 t435)).heap[gb430]? = some (.cells #[.string x431000_1, .int .i64 x431001_1, .int .i64 x431002_1] 31 (0, 0))) := ⟨zq65⟩
      have n2_ : Aside0 ((((w12.setCell ⟨gb436, 0, none⟩ (.string t433)).setCell ⟨gb436, 1, none⟩ (.int .i64 t434)).setCell ⟨gb436, 2, none⟩ (.int .i64 t435)).heap[gb436]? = some (.cells #[.string t433, .int .i64 t434, .int .i64 t435] 31 (0, 0))) := ⟨by (with_reducible repeat (first | refine blk_drewN ?_ _ | refine blk_drew ?_ | refine blk_alloc ?_ _)); refine blk_put (cs := #[.string t433, .int .i64 t434, .int .i64 0]) ?_ 2 _ rfl; (with_reducible repeat (first | refine blk_drewN ?_ _ | refine blk_drew ?_ | refine blk_alloc ?_ _)); refine blk_put (cs := #[.string t433, .int .i64 0, .int .i64 0]) ?_ 1 _ rfl; (with_reducible repeat (first | refine blk_drewN ?_ _ | refine blk_drew ?_ | refine blk_alloc ?_ _)); refine blk_put (cs := #[.string (⟨#[]⟩ : ByteArray), .int .i64 0, .int .i64 0]) ?_ 0 _ rfl; (with_reducible repeat (first | refine blk_drewN ?_ _ | refine blk_drew ?_ | refine blk_alloc ?_ _)); exact BK436.out⟩
      have n3_ : Aside0 (Below w.heap.size w (((w12.setCell ⟨gb436, 0, none⟩ (.string t433)).setCell ⟨gb436, 1, none⟩ (.int .i64 t434)).setCell ⟨gb436, 2, none⟩ (.int .i64 t435))) := ⟨zq26⟩
      (try clear BK429)
      (try clear BK430)
      (try clear BK436)
      (try clear HB)
      generalize (((w12.setCell ⟨gb436, 0, none⟩ (.string t433)).setCell ⟨gb436, 1, none⟩ (.int .i64 t434)).setCell ⟨gb436, 2, none⟩ (.int .i64 t435)) = w16 at n0_ n1_ n2_ n3_ ⊢
      have BK429 := n0_
      have BK430 := n1_
      have BK436 := n2_
      have HB := n3_
      clear n0_ n1_ n2_ n3_
      have n0_ := Aside0.mk (blk_drew BK429.out)
      have n1_ := Aside0.mk (blk_drew BK430.out)
      have n2_ := Aside0.mk (blk_drew BK436.out)
      have n3_ := Aside0.mk (below_drew1 HB.out)
      clear BK429
      clear BK430
      clear BK436
      clear HB
      have BK429 := n0_
      have BK430 := n1_
      have BK436 := n2_
      have HB := n3_
      clear n0_ n1_ n2_ n3_
      refine start_ (n := 4) (S := fun w' => w'.cell? ⟨gb436, 0, none⟩ = some (.string t433) ∧ w'.cell? ⟨gb436, 1, none⟩ = some (.int .i64 t434) ∧ w'.cell? ⟨gb436, 2, none⟩ = some (.int .i64 t435)) (ds := []) #[false, false, false, false] (by kernel_rfl) rfl rfl ⟨(blk_cell BK436.out 0).trans rfl, (blk_cell BK436.out 1).trans rfl, (blk_cell BK436.out 2).trans rfl⟩ (fun hHeld => ?_)
      generalize w16.drew = w17 at BK429 BK430 BK436 HB hHeld ⊢
      refine pure_ (i := 0) (N := some 25) (v := ?_) (a' := ?_) #[true, false, false, false] rfl rfl (by kernel_rfl) (fun _ _ _ h => h) (Or.inl ⟨by rfl, ?_⟩) ?_ ?_
      rotate_left
      ·intro w'
       go_simp
       with_reducible rfl
      rotate_left
      ·simp only [Act.put, sl_, i64_w, i32_w]
       rfl
      refine pure_ (i := 2) (N := some 4) (v := ?_) (a' := ?_) #[true, false, true, false] rfl rfl (by kernel_rfl) (fun _ _ _ h => h) (Or.inl ⟨by rfl, ?_⟩) ?_ ?_
      rotate_left
      ·intro w'
       go_simp
       with_reducible rfl
      rotate_left
      ·simp only [Act.put, sl_, i64_w, i32_w]
       rfl
      refine take_ (i := 1) (N := some 26) (v := ?_) (a' := ?_) #[true, true, true, false] rfl rfl (by kernel_rfl) (fun _ _ _ h => h) (Or.inl ⟨by rfl, ?_⟩) hHeld ?_ ?_
      rotate_left
      ·rintro w' ⟨s0, s1, s2⟩
       go_simp
       with_reducible rfl
      rotate_left
      ·simp only [Act.put, sl_, i64_w, i32_w]
       rfl
      refine one_ (i := 3) (N := none) #[true, true, true, true] rfl rfl (by kernel_rfl) (by decide) (fun K hK => ?_)
      have hs18 : w17.cell? ⟨gb430, 0, none⟩ = some (.string x431000_1) := (blk_cell BK430.out 0).trans rfl
      have hfs18 := blk_frozen BK430.out 0
      have hns18_0 := NB429_430.out
      have hns18_2 := NB436_430.out
      have hms18_0 := NB430_429.out
      have hms18_2 := NB430_436.out
      have hs19 : w17.cell? ⟨gb430, 1, none⟩ = some (.int .i64 x431001_1) := (blk_cell BK430.out 1).trans rfl
      have hfs19 := blk_frozen BK430.out 1
      have hns19_0 := NB429_430.out
      have hns19_2 := NB436_430.out
      have hms19_0 := NB430_429.out
      have hms19_2 := NB430_436.out
      have hs20 : w17.cell? ⟨gb430, 2, none⟩ = some (.int .i64 x431002_1) := (blk_cell BK430.out 2).trans rfl
      have hfs20 := blk_frozen BK430.out 2
      have hns20_0 := NB429_430.out
      have hns20_2 := NB436_430.out
      have hms20_0 := NB430_429.out
      have hms20_2 := NB430_436.out
      refine skip_ (w1 := ?_) (by rfl) rfl ?_ ?_
      rotate_left
      ·go_simp
       rfl
      refine hK.out _ _ ⟨((cell_far (p := ⟨gb430, _, none⟩) NB436_430.out _).trans (((cell_far (p := ⟨gb430, _, none⟩) NB436_430.out _).trans (((cell_far (p := ⟨gb430, _, none⟩) NB436_430.out _).trans (hHeld.1)))))), ((cell_far (p := ⟨gb430, _, none⟩) NB436_430.out _).trans (((cell_far (p := ⟨gb430, _, none⟩) NB436_430.out _).trans (((cell_far (p := ⟨gb430, _, none⟩) NB436_430.out _).trans (hHeld.2.1)))))), ((cell_far (p := ⟨gb430, _, none⟩) NB436_430.out _).trans (((cell_far (p := ⟨gb430, _, none⟩) NB436_430.out _).trans (((cell_far (p := ⟨gb430, _, none⟩) NB436_430.out _).trans (hHeld.2.2))))))⟩ (fun hHeld => ?_)
      clear hK K
      refine done_ (by kernel_rfl) ?_
      try go_wp2
      refine bodyPost_ret (results_tc rfl _ _ gb430 31 #[.string t433, .int .i64 t434, .int .i64 t435] (0, 0) _ rfl (by (with_reducible repeat (first | refine blk_drewN ?_ _ | refine blk_drew ?_ | refine blk_alloc ?_ _)); refine blk_put (cs := #[.string t433, .int .i64 t434, .int .i64 x431002_1]) ?_ 2 _ rfl; (with_reducible repeat (first | refine blk_drewN ?_ _ | refine blk_drew ?_ | refine blk_alloc ?_ _)); refine blk_put (cs := #[.string t433, .int .i64 x431001_1, .int .i64 x431002_1]) ?_ 1 _ rfl; (with_reducible repeat (first | refine blk_drewN ?_ _ | refine blk_drew ?_ | refine blk_alloc ?_ _)); refine blk_put (cs := #[.string x431000_1, .int .i64 x431001_1, .int .i64 x431002_1]) ?_ 0 _ rfl; (with_reducible repeat (first | refine blk_drewN ?_ _ | refine blk_drew ?_ | refine blk_alloc ?_ _)); exact BK430.out) Try.underlying31 rfl (by kernel_rfl)) rfl ?_
      exact ⟨zq8, zq26⟩
     ·replace c8 := Bool.eq_false_iff.mpr c8
      subst c8
      have H1 : (r4_Word.l0 k1 l1 (wrap64 (x6_1 + 1)) a0_0 a0_1 a0_2) = some (r1, r2, r3, r4) := by rw [if_neg (show ¬ (false = true) by decide)] at H; exact H
      clear H
      have H := H1
      clear H1
      have H' := Aside0.mk H
      clear H
      try go_wp2
      have n0_ := Aside0.mk (blk_drew BK429.out)
      have n1_ := Aside0.mk (blk_drew BK430.out)
      have n2_ := Aside0.mk (below_drew1 HB.out)
      clear BK429
      clear BK430
      clear HB
      have BK429 := n0_
      have BK430 := n1_
      have HB := n2_
      clear n0_ n1_ n2_
      have p431 : 0 ≤ (x6_1 : Int) := of_decide_eq_true zq10
      have q431 : x6_1 < (l1.length : Int) := of_decide_eq_true zq10
      obtain ⟨ad431, e431, hx431_0⟩ := Kd.at_string HR1.out x6_1 p431 q431
      have hw431_0 := hx431_0
      cases e431
      replace hx431_0 := (HB.out.cell (World.block_lt_of_cell? w _ hx431_0)).trans hx431_0
      replace p431 := eq_true p431
      replace q431 := eq_true q431
      refine start_ (n := 12) (S := fun w' => w'.cell? ⟨gb429, 0, none⟩ = some (.string a0_0) ∧ w'.cell? ⟨gb429, 1, none⟩ = some (.int .i64 a0_1) ∧ w'.cell? ⟨gb429, 2, none⟩ = some (.int .i64 a0_2) ∧ w'.cell? (ad431.add (x6_1).toNat) = some (.string (rdOf ByteArray.empty l1 x6_1))) (ds := []) #[false, false, false, false, false, false, false, false, false, false, false, false] (by kernel_rfl) rfl rfl ⟨(blk_cell BK429.out 0).trans rfl, (blk_cell BK429.out 1).trans rfl, (blk_cell BK429.out 2).trans rfl, ((HB.out.cell (World.block_lt_of_cell? w _ hw431_0)).trans hw431_0)⟩ (fun hHeld => ?_); refine with_tabW r4_Word.tab4 r4_Word.bits4 (fun HT_ HW_ => ?_)
      generalize wr.drew = w21 at BK429 BK430 HB hx431_0 hHeld ⊢
      refine pure_ (i := 1) (N := some 17) (v := ?_) (a' := ?_) #[false, true, false, false, false, false, false, false, false, false, false, false] rfl rfl (any_of HT_.out (by kernel_rfl)) (fun _ _ _ h => h) (Or.inl ⟨by rfl, ?_⟩) ?_ ?_
      rotate_left
      ·intro w'
       go_simp
       with_reducible rfl
      rotate_left
      ·simp only [Act.put, sl_, i64_w, i32_w]
       rfl
      refine pure_ (i := 2) (N := some 18) (v := ?_) (a' := ?_) #[false, true, true, false, false, false, false, false, false, false, false, false] rfl rfl (any_of HT_.out (by kernel_rfl)) (fun _ _ _ h => h) (Or.inl ⟨by rfl, ?_⟩) ?_ ?_
      rotate_left
      ·intro w'
       go_simp
       with_reducible rfl
      rotate_left
      ·simp only [Act.put, sl_, i64_w, i32_w]
       rfl
      refine pure_ (i := 3) (N := some 19) (v := ?_) (a' := ?_) #[false, true, true, true, false, false, false, false, false, false, false, false] rfl rfl (any_of HT_.out (by kernel_rfl)) (fun _ _ _ h => h) (Or.inl ⟨by rfl, ?_⟩) ?_ ?_
      rotate_left
      ·intro w'
       go_simp
       with_reducible rfl
      rotate_left
      ·simp only [Act.put, sl_, i64_w, i32_w]
       rfl
      refine take_ (i := 0) (N := some 16) (v := ?_) (a' := ?_) #[true, true, true, true, false, false, false, false, false, false, false, false] rfl rfl (take_ofW HT_.out HW_.out (by kernel_rfl)) (fun _ _ _ h => h) (Or.inl ⟨by rfl, ?_⟩) hHeld ?_ ?_
      rotate_left
      ·rintro w' ⟨s0, s1, s2, s3⟩
       go_simp
       with_reducible rfl
      rotate_left
      ·simp only [Act.put, sl_, i64_w, i32_w]
       rfl
      refine take_ (i := 4) (N := some 20) (v := ?_) (a' := ?_) #[true, true, true, true, true, false, false, false, false, false, false, false] rfl rfl (take_ofW HT_.out HW_.out (by kernel_rfl)) (fun _ _ _ h => h) (Or.inl ⟨by rfl, ?_⟩) hHeld ?_ ?_
      rotate_left
      ·rintro w' ⟨s0, s1, s2, s3⟩
       go_simp
       with_reducible rfl
      rotate_left
      ·simp only [Act.put, sl_, i64_w, i32_w]
       rfl
      refine join_ (σ := Nat) 2 #[true, true, true, true, true, true, true, true, true, true, false, false] (fun s_ => [(21, .tuple #[.bool false, .agg #[.string t433, .int .i64 t434, .int .i64 t435]]), (8, .pointer (some ⟨s_, 0, none⟩)), (15, .tuple #[.bool false, .agg #[.string t433, .int .i64 t434, .int .i64 t435]]), (22, .bool false), (23, .agg #[.string t433, .int .i64 t434, .int .i64 t435])]) (fun s_ w' => (w'.cell? ⟨gb429, 0, none⟩ = some (.string a0_0) ∧ w'.cell? ⟨gb429, 1, none⟩ = some (.int .i64 a0_1) ∧ w'.cell? ⟨gb429, 2, none⟩ = some (.int .i64 a0_2) ∧ w'.cell? (ad431.add (x6_1).toNat) = some (.string (rdOf ByteArray.empty l1 x6_1))) ∧ (w'.heap[gb429]? = some (.cells #[.string a0_0, .int .i64 a0_1, .int .i64 a0_2] 31 (0, 0))) ∧ (w'.heap[gb430]? = some (.cells #[.string x431000_1, .int .i64 x431001_1, .int .i64 x431002_1] 31 (0, 0))) ∧ (w'.heap[s_]? = some (.cells #[.string (⟨#[]⟩ : ByteArray), .int .i64 0, .int .i64 0] 31 (0, 0))) ∧ (w.heap.size ≤ s_) ∧ (w.heap.size ≤ s_) ∧ (gb429 ≠ s_) ∧ (s_ ≠ gb429) ∧ (gb430 ≠ s_) ∧ (s_ ≠ gb430) ∧ (Below w.heap.size w w')) ?_ ?_
      rotate_left
      ·intro hCont
       refine two_ (i := 5) (j := 9) (Ni := some 21) (Nj := some 8) #[true, true, true, true, true, true, false, false, false, false, false, false] #[true, true, true, true, true, false, false, false, false, true, false, false] rfl rfl rfl rfl (two_of HT_.out (by kernel_rfl)) (by decide) (by decide) (fun K hK => ?_) (fun K hK => ?_)
       ·skip
        refine goes_ Try.func33 (by kernel_rfl) rfl #[.agg #[.string a0_0, .int .i64 a0_1, .int .i64 a0_2], .string (rdOf ByteArray.empty l1 x6_1)] (by rfl) rfl rfl zq1 ?_
        with_reducible refine (r4_Fold.calls k1 a0_0 a0_1 a0_2 (rdOf ByteArray.empty l1 x6_1) false t433 t434 t435 _ A7.out).mono ?_
        rintro e w22 ⟨rfl, hb⟩
        refine ⟨_, rfl, ?_⟩
        have n0_ := Aside0.mk (blk_below (g := gb429) (o := .cells #[.string a0_0, .int .i64 a0_1, .int .i64 a0_2] 31 (0, 0)) (bk_ BK429.out) hb)
        have n1_ := Aside0.mk (blk_below (g := gb430) (o := .cells #[.string x431000_1, .int .i64 x431001_1, .int .i64 x431002_1] 31 (0, 0)) (bk_ BK430.out) hb)
        have n2_ := Aside0.mk (below_step zq14 hb)
        clear BK429
        clear BK430
        clear HB
        have BK429 := n0_
        have BK430 := n1_
        have HB := n2_
        clear n0_ n1_ n2_
        (try clear hb)
        (try clear hb2)
        (try clear hk)
        (try clear hi)
        refine hK.out _ _ ⟨(blk_cell BK429.out 0).trans rfl, (blk_cell BK429.out 1).trans rfl, (blk_cell BK429.out 2).trans rfl, ((HB.out.cell (World.block_lt_of_cell? w _ hw431_0)).trans hw431_0)⟩ (fun hHeld => ?_)
        clear hK K
        refine norm_ (a' := ?_) ?_ ?_
        rotate_left
        ·show Act.put _ (some 21) _ = _
         simp only [Act.put, sl_, i64_w, i32_w]
         rfl
        refine pure_ (i := 6) (N := some 15) (v := ?_) (a' := ?_) #[true, true, true, true, true, true, true, false, false, false, false, false] rfl rfl (any_of HT_.out (by kernel_rfl)) (fun _ _ _ h => h) (Or.inl ⟨by rfl, ?_⟩) ?_ ?_
        rotate_left
        ·intro w'
         go_simp
         with_reducible rfl
        rotate_left
        ·simp only [Act.put, sl_, i64_w, i32_w]
         rfl
        refine pure_ (i := 7) (N := some 22) (v := ?_) (a' := ?_) #[true, true, true, true, true, true, true, true, false, false, false, false] rfl rfl (any_of HT_.out (by kernel_rfl)) (fun _ _ _ h => h) (Or.inl ⟨by rfl, ?_⟩) ?_ ?_
        rotate_left
        ·intro w'
         go_simp
         with_reducible rfl
        rotate_left
        ·simp only [Act.put, sl_, i64_w, i32_w]
         rfl
        refine pure_ (i := 8) (N := some 23) (v := ?_) (a' := ?_) #[true, true, true, true, true, true, true, true, true, false, false, false] rfl rfl (any_of HT_.out (by kernel_rfl)) (fun _ _ _ h => h) (Or.inl ⟨by rfl, ?_⟩) ?_ ?_
        rotate_left
        ·intro w'
         go_simp
         with_reducible rfl
        rotate_left
        ·simp only [Act.put, sl_, i64_w, i32_w]
         rfl
        refine one_ (i := 9) (N := some 8) #[true, true, true, true, true, true, true, true, true, true, false, false] rfl rfl (one_of HT_.out (by kernel_rfl)) (by decide) (fun K hK => ?_)
        refine box_step ?hg (N := 8) ?hd (cs := #[.string (⟨#[]⟩ : ByteArray), .int .i64 0, .int .i64 0]) (t := 31) ?hr ?_; (case hd => rfl); (case hg => rfl); (case hr => exact zq16)
        intro gb436 hg w23 hbox hb
        have n0_ := Aside0.mk (blk_below (g := gb429) (o := .cells #[.string a0_0, .int .i64 a0_1, .int .i64 a0_2] 31 (0, 0)) (bk_ BK429.out) hb)
        have n1_ := Aside0.mk (blk_below (g := gb430) (o := .cells #[.string x431000_1, .int .i64 x431001_1, .int .i64 x431002_1] 31 (0, 0)) (bk_ BK430.out) hb)
        have n2_ := Aside0.mk (below_step zq14 hb)
        have n3_ := Aside0.mk (hbox)
        have n4_ := Aside0.mk ((by rw [hg]; exact (below_size zq14) : w.heap.size ≤ gb436))
        have n5_ := Aside0.mk ((by rw [hg]; exact (below_size zq14) : w.heap.size ≤ gb436))
        have n6_ := Aside0.mk ((by rw [hg]; exact Nat.ne_of_lt (blk_lt (g := gb429) (o := .cells #[.string a0_0, .int .i64 a0_1, .int .i64 a0_2] 31 (0, 0)) (bk_ BK429.out)) : gb429 ≠ gb436))
        have n7_ := Aside0.mk ((by rw [hg]; exact Nat.ne_of_gt (blk_lt (g := gb429) (o := .cells #[.string a0_0, .int .i64 a0_1, .int .i64 a0_2] 31 (0, 0)) (bk_ BK429.out)) : gb436 ≠ gb429))
        have n8_ := Aside0.mk ((by rw [hg]; exact Nat.ne_of_lt (blk_lt (g := gb430) (o := .cells #[.string x431000_1, .int .i64 x431001_1, .int .i64 x431002_1] 31 (0, 0)) (bk_ BK430.out)) : gb430 ≠ gb436))
        have n9_ := Aside0.mk ((by rw [hg]; exact Nat.ne_of_gt (blk_lt (g := gb430) (o := .cells #[.string x431000_1, .int .i64 x431001_1, .int .i64 x431002_1] 31 (0, 0)) (bk_ BK430.out)) : gb436 ≠ gb430))
        clear BK429
        clear BK430
        clear HB
        have BK429 := n0_
        have BK430 := n1_
        have HB := n2_
        have BK436 := n3_
        have GW436 := n4_
        have GE436 := n5_
        have NB429_436 := n6_
        have NB436_429 := n7_
        have NB430_436 := n8_
        have NB436_430 := n9_
        clear n0_ n1_ n2_ n3_ n4_ n5_ n6_ n7_ n8_ n9_
        clear hb hbox hg
        refine hK.out _ _ ⟨(blk_cell BK429.out 0).trans rfl, (blk_cell BK429.out 1).trans rfl, (blk_cell BK429.out 2).trans rfl, ((HB.out.cell (World.block_lt_of_cell? w _ hw431_0)).trans hw431_0)⟩ (fun hHeld => ?_)
        clear hK K
        refine norm_ (a' := ?_) ?_ ?_
        rotate_left
        ·show Act.put _ (some 8) _ = _
         simp only [Act.put, sl_, i64_w, i32_w]
         rfl
        exact norm_ (by simp only [putAll, Act.put, sl_]) (hCont (gb436) _ ⟨hHeld, (bk_ BK429.out), (bk_ BK430.out), (bk_ BK436.out), GW436.out, GE436.out, NB429_436.out, NB436_429.out, NB430_436.out, NB436_430.out, zq26⟩)
       ·skip
        refine box_step ?hg (N := 8) ?hd (cs := #[.string (⟨#[]⟩ : ByteArray), .int .i64 0, .int .i64 0]) (t := 31) ?hr ?_; (case hd => rfl); (case hg => rfl); (case hr => exact zq16)
        intro gb436 hg w22 hbox hb
        have n0_ := Aside0.mk (blk_below (g := gb429) (o := .cells #[.string a0_0, .int .i64 a0_1, .int .i64 a0_2] 31 (0, 0)) (bk_ BK429.out) hb)
        have n1_ := Aside0.mk (blk_below (g := gb430) (o := .cells #[.string x431000_1, .int .i64 x431001_1, .int .i64 x431002_1] 31 (0, 0)) (bk_ BK430.out) hb)
        have n2_ := Aside0.mk (below_step zq14 hb)
        have n3_ := Aside0.mk (hbox)
        have n4_ := Aside0.mk ((by rw [hg]; exact (below_size zq14) : w.heap.size ≤ gb436))
        have n5_ := Aside0.mk ((by rw [hg]; exact (below_size zq14) : w.heap.size ≤ gb436))
        have n6_ := Aside0.mk ((by rw [hg]; exact Nat.ne_of_lt (blk_lt (g := gb429) (o := .cells #[.string a0_0, .int .i64 a0_1, .int .i64 a0_2] 31 (0, 0)) (bk_ BK429.out)) : gb429 ≠ gb436))
        have n7_ := Aside0.mk ((by rw [hg]; exact Nat.ne_of_gt (blk_lt (g := gb429) (o := .cells #[.string a0_0, .int .i64 a0_1, .int .i64 a0_2] 31 (0, 0)) (bk_ BK429.out)) : gb436 ≠ gb429))
        have n8_ := Aside0.mk ((by rw [hg]; exact Nat.ne_of_lt (blk_lt (g := gb430) (o := .cells #[.string x431000_1, .int .i64 x431001_1, .int .i64 x431002_1] 31 (0, 0)) (bk_ BK430.out)) : gb430 ≠ gb436))
        have n9_ := Aside0.mk ((by rw [hg]; exact Nat.ne_of_gt (blk_lt (g := gb430) (o := .cells #[.string x431000_1, .int .i64 x431001_1, .int .i64 x431002_1] 31 (0, 0)) (bk_ BK430.out)) : gb436 ≠ gb430))
        clear BK429
        clear BK430
        clear HB
        have BK429 := n0_
        have BK430 := n1_
        have HB := n2_
        have BK436 := n3_
        have GW436 := n4_
        have GE436 := n5_
        have NB429_436 := n6_
        have NB436_429 := n7_
        have NB430_436 := n8_
        have NB436_430 := n9_
        clear n0_ n1_ n2_ n3_ n4_ n5_ n6_ n7_ n8_ n9_
        clear hb hbox hg
        refine hK.out _ _ ⟨(blk_cell BK429.out 0).trans rfl, (blk_cell BK429.out 1).trans rfl, (blk_cell BK429.out 2).trans rfl, ((HB.out.cell (World.block_lt_of_cell? w _ hw431_0)).trans hw431_0)⟩ (fun hHeld => ?_)
        clear hK K
        refine norm_ (a' := ?_) ?_ ?_
        rotate_left
        ·show Act.put _ (some 8) _ = _
         simp only [Act.put, sl_, i64_w, i32_w]
         rfl
        refine one_ (i := 5) (N := some 21) #[true, true, true, true, true, true, false, false, false, true, false, false] rfl rfl (one_of HT_.out (by kernel_rfl)) (by decide) (fun K hK => ?_)
        refine goes_ Try.func33 (by kernel_rfl) rfl #[.agg #[.string a0_0, .int .i64 a0_1, .int .i64 a0_2], .string (rdOf ByteArray.empty l1 x6_1)] (by rfl) rfl rfl zq1 ?_
        with_reducible refine (r4_Fold.calls k1 a0_0 a0_1 a0_2 (rdOf ByteArray.empty l1 x6_1) false t433 t434 t435 _ A7.out).mono ?_
        rintro e w23 ⟨rfl, hb⟩
        refine ⟨_, rfl, ?_⟩
        have n0_ := Aside0.mk (blk_below (g := gb429) (o := .cells #[.string a0_0, .int .i64 a0_1, .int .i64 a0_2] 31 (0, 0)) (bk_ BK429.out) hb)
        have n1_ := Aside0.mk (blk_below (g := gb430) (o := .cells #[.string x431000_1, .int .i64 x431001_1, .int .i64 x431002_1] 31 (0, 0)) (bk_ BK430.out) hb)
        have n2_ := Aside0.mk (blk_below (g := gb436) (o := .cells #[.string (⟨#[]⟩ : ByteArray), .int .i64 0, .int .i64 0] 31 (0, 0)) (bk_ BK436.out) hb)
        have n3_ := Aside0.mk (below_step zq26 hb)
        clear BK429
        clear BK430
        clear BK436
        clear HB
        have BK429 := n0_
        have BK430 := n1_
        have BK436 := n2_
        have HB := n3_
        clear n0_ n1_ n2_ n3_
        (try clear hb)
        (try clear hb2)
        (try clear hk)
        (try clear hi)
        refine hK.out _ _ ⟨(blk_cell BK429.out 0).trans rfl, (blk_cell BK429.out 1).trans rfl, (blk_cell BK429.out 2).trans rfl, ((HB.out.cell (World.block_lt_of_cell? w _ hw431_0)).trans hw431_0)⟩ (fun hHeld => ?_)
        clear hK K
        refine norm_ (a' := ?_) ?_ ?_
        rotate_left
        ·show Act.put _ (some 21) _ = _
         simp only [Act.put, sl_, i64_w, i32_w]
         rfl
        refine pure_ (i := 6) (N := some 15) (v := ?_) (a' := ?_) #[true, true, true, true, true, true, true, false, false, true, false, false] rfl rfl (any_of HT_.out (by kernel_rfl)) (fun _ _ _ h => h) (Or.inl ⟨by rfl, ?_⟩) ?_ ?_
        rotate_left
        ·intro w'
         go_simp
         with_reducible rfl
        rotate_left
        ·simp only [Act.put, sl_, i64_w, i32_w]
         rfl
        refine pure_ (i := 7) (N := some 22) (v := ?_) (a' := ?_) #[true, true, true, true, true, true, true, true, false, true, false, false] rfl rfl (any_of HT_.out (by kernel_rfl)) (fun _ _ _ h => h) (Or.inl ⟨by rfl, ?_⟩) ?_ ?_
        rotate_left
        ·intro w'
         go_simp
         with_reducible rfl
        rotate_left
        ·simp only [Act.put, sl_, i64_w, i32_w]
         rfl
        refine pure_ (i := 8) (N := some 23) (v := ?_) (a' := ?_) #[true, true, true, true, true, true, true, true, true, true, false, false] rfl rfl (any_of HT_.out (by kernel_rfl)) (fun _ _ _ h => h) (Or.inl ⟨by rfl, ?_⟩) ?_ ?_
        rotate_left
        ·intro w'
         go_simp
         with_reducible rfl
        rotate_left
        ·simp only [Act.put, sl_, i64_w, i32_w]
         rfl
        exact norm_ (by simp only [putAll, Act.put, sl_]) (hCont (gb436) _ ⟨hHeld, (bk_ BK429.out), (bk_ BK430.out), (bk_ BK436.out), GW436.out, GE436.out, NB429_436.out, NB436_429.out, NB430_436.out, NB436_430.out, zq26⟩)
      rintro gb436 w24 ⟨hS_, h0_, h1_, h2_, h3_, h4_, h5_, h6_, h7_, h8_, h9_⟩
      have n0_ : Aside0 (w24.heap[gb429]? = some (.cells #[.string a0_0, .int .i64 a0_1, .int .i64 a0_2] 31 (0, 0))) := ⟨h0_⟩
      have n1_ : Aside0 (w24.heap[gb430]? = some (.cells #[.string x431000_1, .int .i64 x431001_1, .int .i64 x431002_1] 31 (0, 0))) := ⟨h1_⟩
      have n2_ : Aside0 (w24.heap[gb436]? = some (.cells #[.string (⟨#[]⟩ : ByteArray), .int .i64 0, .int .i64 0] 31 (0, 0))) := ⟨h2_⟩
      have n3_ : Aside0 (w.heap.size ≤ gb436) := ⟨h3_⟩
      have n4_ : Aside0 (w.heap.size ≤ gb436) := ⟨h4_⟩
      have n5_ : Aside0 (gb429 ≠ gb436) := ⟨h5_⟩
      have n6_ : Aside0 (gb436 ≠ gb429) := ⟨h6_⟩
      have n7_ : Aside0 (gb430 ≠ gb436) := ⟨h7_⟩
      have n8_ : Aside0 (gb436 ≠ gb430) := ⟨h8_⟩
      have n9_ : Aside0 (Below w.heap.size w w24) := ⟨h9_⟩
      clear BK429
      clear BK430
      clear HB
      clear h0_ h1_ h2_ h3_ h4_ h5_ h6_ h7_ h8_ h9_
      have BK429 := n0_
      have BK430 := n1_
      have BK436 := n2_
      have GW436 := n3_
      have GE436 := n4_
      have NB429_436 := n5_
      have NB436_429 := n6_
      have NB430_436 := n7_
      have NB436_430 := n8_
      have HB := n9_
      clear n0_ n1_ n2_ n3_ n4_ n5_ n6_ n7_ n8_ n9_
      have hHeld : w24.cell? ⟨gb429, 0, none⟩ = some (.string a0_0) ∧ w24.cell? ⟨gb429, 1, none⟩ = some (.int .i64 a0_1) ∧ w24.cell? ⟨gb429, 2, none⟩ = some (.int .i64 a0_2) ∧ w24.cell? (ad431.add (x6_1).toNat) = some (.string (rdOf ByteArray.empty l1 x6_1)) := hS_
      refine norm_ (a' := ?_) ?_ ?_
      rotate_left
      ·simp only [putAll, Act.put, sl_]
       rfl
      refine pure_ (i := 10) (N := some 7) (v := ?_) (a' := ?_) #[true, true, true, true, true, true, true, true, true, true, true, false] rfl rfl (any_of HT_.out (by kernel_rfl)) (fun _ _ _ h => h) (Or.inl ⟨by rfl, ?_⟩) ?_ ?_
      rotate_left
      ·intro w'
       go_simp
       with_reducible rfl
      rotate_left
      ·simp only [Act.put, sl_, i64_w, i32_w]
       rfl
      refine one_ (i := 11) (N := none) #[true, true, true, true, true, true, true, true, true, true, true, true] rfl rfl (one_of HT_.out (by kernel_rfl)) (by decide) (fun K hK => ?_)
      have hs25 : w24.cell? ⟨gb436, 0, none⟩ = some (.string (⟨#[]⟩ : ByteArray)) := (blk_cell BK436.out 0).trans rfl
      have hfs25 := blk_frozen BK436.out 0
      have hns25_0 := NB429_436.out
      have hns25_1 := NB430_436.out
      have hms25_0 := NB436_429.out
      have hms25_1 := NB436_430.out
      have hs26 : w24.cell? ⟨gb436, 1, none⟩ = some (.int .i64 0) := (blk_cell BK436.out 1).trans rfl
      have hfs26 := blk_frozen BK436.out 1
      have hns26_0 := NB429_436.out
      have hns26_1 := NB430_436.out
      have hms26_0 := NB436_429.out
      have hms26_1 := NB436_430.out
      have hs27 : w24.cell? ⟨gb436, 2, none⟩ = some (.int .i64 0) := (blk_cell BK436.out 2).trans rfl
      have hfs27 := blk_frozen BK436.out 2
      have hns27_0 := NB429_436.out
      have hns27_1 := NB430_436.out
      have hms27_0 := NB436_429.out
      have hms27_1 := NB436_430.out
      refine skip_ (w1 := ?_) (by rfl) rfl ?_ ?_
      rotate_left
      ·go_simp
       rfl
      refine hK.out _ _ ⟨((cell_far (p := ⟨gb436, _, none⟩) NB429_436.out _).trans (((cell_far (p := ⟨gb436, _, none⟩) NB429_436.out _).trans (((cell_far (p := ⟨gb436, _, none⟩) NB429_436.out _).trans (hHeld.1)))))), ((cell_far (p := ⟨gb436, _, none⟩) NB429_436.out _).trans (((cell_far (p := ⟨gb436, _, none⟩) NB429_436.out _).trans (((cell_far (p := ⟨gb436, _, none⟩) NB429_436.out _).trans (hHeld.2.1)))))), ((cell_far (p := ⟨gb436, _, none⟩) NB429_436.out _).trans (((cell_far (p := ⟨gb436, _, none⟩) NB429_436.out _).trans (((cell_far (p := ⟨gb436, _, none⟩) NB429_436.out _).trans (hHeld.2.2.1)))))), ((cell_far (p := ⟨gb436, _, none⟩) zq13 _).trans (((cell_far (p := ⟨gb436, _, none⟩) zq13 _).trans (((cell_far (p := ⟨gb436, _, none⟩) zq13 _).trans (hHeld.2.2.2))))))⟩ (fun hHeld => ?_)
      clear hK K
      refine done_ (done_of HT_.out (by kernel_rfl)) ?_
      try go_wp2
      go_roundg k1
      case measure => have := HK1.out; omega
      case rel => exact ⟨(wrap64 (x6_1 + 1)), (x431000_1), (x431001_1), (x431002_1), zq9, H', ⟨by have := HK1.out; omega⟩, ⟨zq64⟩, ⟨zq65⟩, ⟨zq26⟩⟩
    ·rw [if_neg c6] at H
     exact absurd H (by simp)
   ·rw [if_neg c5] at H
    have c5b0 : decide (x6_1 < (l1.length : Int)) = false := decide_eq_false c5
    clear c5
    replace H := Option.bind_eq_some_iff.mp H
    obtain ⟨⟨t437, t438, t439⟩, A280, H⟩ := H
    replace H : (some ((-1), t437, t438, t439)) = some (r1, r2, r3, r4) := H
    have A28 := Aside0.mk A280
    clear A280
    simp only [Option.some.injEq, Prod.mk.injEq] at H
    obtain ⟨rfl, rfl, rfl, rfl⟩ := H
    have hnb29 := NB429_430.out
    have hnc29 := NB430_429.out
    have hcz30_0 : wr.cell? ⟨gb429, 0, none⟩ = some (.string a0_0) := (blk_cell BK429.out 0).trans rfl
    have hcz30_1 : wr.cell? ⟨gb429, 1, none⟩ = some (.int .i64 a0_1) := (blk_cell BK429.out 1).trans rfl
    have hcz30_2 : wr.cell? ⟨gb429, 2, none⟩ = some (.int .i64 a0_2) := (blk_cell BK429.out 2).trans rfl
    have hfz30_0 := blk_frozen BK429.out 0
    have hfz30_1 := blk_frozen BK429.out 1
    have hfz30_2 := blk_frozen BK429.out 2
    go_wp2_with (first | ((with_reducible refine gate_callee (f := 37) rfl ?_); refine goesL_ (some 28) rfl rfl Try.func37 (by kernel_rfl) rfl #[.agg #[.string a0_0, .int .i64 a0_1, .int .i64 a0_2], .int .i64 2] rfl zq1 ?_; (with_reducible refine (r4_Fail.calls a0_0 a0_1 a0_2 2 t437 t438 t439 _ A28.out).mono ?_); rintro e w31 ⟨rfl, hb⟩; refine ⟨_, rfl, ?_⟩; replace BK429 := Aside0.mk (blk_below (g := gb429) (o := .cells #[.string a0_0, .int .i64 a0_1, .int .i64 a0_2] 31 (0, 0)) (bk_ BK429.out) hb); replace BK430 := Aside0.mk (blk_below (g := gb430) (o := .cells #[.string x431000_1, .int .i64 x431001_1, .int .i64 x431002_1] 31 (0, 0)) (bk_ BK430.out) hb); replace HB := Aside0.mk (below_step zq14 hb); (try clear hb hk hi); (try clear hb2); have hcz32_0 : w31.cell? ⟨gb430, 0, none⟩ = some (.string x431000_1) := (blk_cell BK430.out 0).trans rfl; have hcz32_1 : w31.cell? ⟨gb430, 1, none⟩ = some (.int .i64 x431001_1) := (blk_cell BK430.out 1).trans rfl; have hcz32_2 : w31.cell? ⟨gb430, 2, none⟩ = some (.int .i64 x431002_1) := (blk_cell BK430.out 2).trans rfl; have hfz32_0 := blk_frozen BK430.out 0; have hfz32_1 := blk_frozen BK430.out 1; have hfz32_2 := blk_frozen BK430.out 2))
    refine bodyPost_ret (results_tc rfl _ _ gb430 31 #[.string t437, .int .i64 t438, .int .i64 t439] (0, 0) _ rfl (by (with_reducible repeat (first | refine blk_drewN ?_ _ | refine blk_drew ?_ | refine blk_alloc ?_ _)); refine blk_put (cs := #[.string t437, .int .i64 t438, .int .i64 x431002_1]) ?_ 2 _ rfl; (with_reducible repeat (first | refine blk_drewN ?_ _ | refine blk_drew ?_ | refine blk_alloc ?_ _)); refine blk_put (cs := #[.string t437, .int .i64 x431001_1, .int .i64 x431002_1]) ?_ 1 _ rfl; (with_reducible repeat (first | refine blk_drewN ?_ _ | refine blk_drew ?_ | refine blk_alloc ?_ _)); refine blk_put (cs := #[.string x431000_1, .int .i64 x431001_1, .int .i64 x431002_1]) ?_ 0 _ rfl; (with_reducible repeat (first | refine blk_drewN ?_ _ | refine blk_drew ?_ | refine blk_alloc ?_ _)); exact BK430.out) Try.underlying31 rfl (by kernel_rfl)) rfl ?_
    exact ⟨zq8, zq14⟩

/-! ### r4_Skip: function 39 -/
def r4_Skip.f (a0_0 : ByteArray) (a0_1 : Int) (a0_2 : Int) (a1 : Int) : Option (ByteArray × Int × Int) := if a0_2 = 0 then (if a1 < 0 then ((r4_Fail.f a0_0 a0_1 a0_2 1).bind fun bt442 => (some (bt442.1, bt442.2.1, bt442.2.2))) else ((r4_Rest.f a0_0 a0_1 a0_2).bind fun t445 => (if a1 > (t445.size : Int) then ((r4_Fail.f a0_0 a0_1 a0_2 4).bind fun bt446 => (some (bt446.1, bt446.2.1, bt446.2.2))) else (some (a0_0, wrap64 (a0_1 + a1), a0_2))))) else (some (a0_0, a0_1, a0_2))
set_option maxHeartbeats 8000000 in
set_option maxRecDepth 100000 in
theorem r4_Skip.calls (a0_0 : ByteArray) (a0_1 : Int) (a0_2 : Int) (a1 : Int) (r1 : ByteArray) (r2 : Int) (r3 : Int) (w : World) (h : r4_Skip.f a0_0 a0_1 a0_2 a1 = some (r1, r2, r3)) :
  Calls Try.prog 39 #[.agg #[.string a0_0, .int .i64 a0_1, .int .i64 a0_2], .int .i64 a1] w fun e w' => e = .returned (.agg #[.string r1, .int .i64 r2, .int .i64 r3]) ∧ Below w.heap.size w w' := by
 have hu31 := Try.underlying31
 have HB := Aside0.mk (Below.refl w.heap.size w)
 have H : (if a0_2 = 0 then (if a1 < 0 then ((r4_Fail.f a0_0 a0_1 a0_2 1).bind fun bt442 => (some (bt442.1, bt442.2.1, bt442.2.2))) else ((r4_Rest.f a0_0 a0_1 a0_2).bind fun t445 => (if a1 > (t445.size : Int) then ((r4_Fail.f a0_0 a0_1 a0_2 4).bind fun bt446 => (some (bt446.1, bt446.2.1, bt446.2.2))) else (some (a0_0, wrap64 (a0_1 + a1), a0_2))))) else (some (a0_0, a0_1, a0_2))) = some (r1, r2, r3) := h
 clear h
 by_cases c3 : a0_2 = 0
 ·rw [if_pos c3] at H
  have c3b0 : (a0_2 == 0) = true := beq_iff_eq.mpr c3
  have c3b1 : (a0_2 != 0) = false := bne_eq_false_iff_eq.mpr c3
  clear c3
  by_cases c4 : a1 < 0
  ·rw [if_pos c4] at H
   have c4b0 : decide (a1 < 0) = true := decide_eq_true c4
   clear c4
   replace H := Option.bind_eq_some_iff.mp H
   obtain ⟨⟨t442, t443, t444⟩, A50, H⟩ := H
   replace H : (some (t442, t443, t444)) = some (r1, r2, r3) := H
   have A5 := Aside0.mk A50
   clear A50
   simp only [Option.some.injEq, Prod.mk.injEq] at H
   obtain ⟨rfl, rfl, rfl⟩ := H
   go_enter Try.func39, Try.ntmps39
   go_wp2_with (first | ((with_reducible refine gate_dst (N := 2) rfl ?_); refine box_event ?hg (N := 2) ?hd (cs := #[.string a0_0, .int .i64 a0_1, .int .i64 a0_2]) (t := 31) ?hr ?_; (case hd => rfl); (case hg => rfl); (case hr => exact zq16); intro gb440 hg w6 hbox hb; have n0_ := Aside0.mk (below_step zq2 hb); have n1_ := Aside0.mk (hbox); have n2_ := Aside0.mk ((by rw [hg]; exact (below_size zq2) : w.heap.size ≤ gb440)); have n3_ := Aside0.mk ((by rw [hg]; exact (below_size zq2) : w.heap.size ≤ gb440)); clear HB; have HB := n0_; have BK440 := n1_; have GW440 := n2_; have GE440 := n3_; clear n0_ n1_ n2_ n3_; clear hb hbox hg) | ((with_reducible refine gate_dst (N := 4) rfl ?_); refine box_event ?hg (N := 4) ?hd (cs := #[.string (⟨#[]⟩ : ByteArray), .int .i64 0, .int .i64 0]) (t := 31) ?hr ?_; (case hd => rfl); (case hg => rfl); (case hr => exact zq16); intro gb441 hg w7 hbox hb; have n0_ := Aside0.mk (blk_below (g := gb440) (o := .cells #[.string a0_0, .int .i64 a0_1, .int .i64 a0_2] 31 (0, 0)) (bk_ BK440.out) hb); have n1_ := Aside0.mk (below_step zq28 hb); have n2_ := Aside0.mk (hbox); have n3_ := Aside0.mk ((by rw [hg]; exact (below_size zq28) : w.heap.size ≤ gb441)); have n4_ := Aside0.mk ((by rw [hg]; exact (below_size zq28) : w.heap.size ≤ gb441)); have n5_ := Aside0.mk ((by rw [hg]; exact Nat.ne_of_lt (blk_lt (g := gb440) (o := .cells #[.string a0_0, .int .i64 a0_1, .int .i64 a0_2] 31 (0, 0)) (bk_ BK440.out)) : gb440 ≠ gb441)); have n6_ := Aside0.mk ((by rw [hg]; exact Nat.ne_of_gt (blk_lt (g := gb440) (o := .cells #[.string a0_0, .int .i64 a0_1, .int .i64 a0_2] 31 (0, 0)) (bk_ BK440.out)) : gb441 ≠ gb440)); clear BK440; clear HB; have BK440 := n0_; have HB := n1_; have BK441 := n2_; have GW441 := n3_; have GE441 := n4_; have NB440_441 := n5_; have NB441_440 := n6_; clear n0_ n1_ n2_ n3_ n4_ n5_ n6_; clear hb hbox hg; have hnb8 := NB440_441.out; have hnc8 := NB441_440.out; have hcz9_0 : w7.cell? ⟨gb440, 0, none⟩ = some (.string a0_0) := (blk_cell BK440.out 0).trans rfl; have hcz9_1 : w7.cell? ⟨gb440, 1, none⟩ = some (.int .i64 a0_1) := (blk_cell BK440.out 1).trans rfl; have hcz9_2 : w7.cell? ⟨gb440, 2, none⟩ = some (.int .i64 a0_2) := (blk_cell BK440.out 2).trans rfl; have hfz9_0 := blk_frozen BK440.out 0; have hfz9_1 := blk_frozen BK440.out 1; have hfz9_2 := blk_frozen BK440.out 2) | ((with_reducible refine gate_callee (f := 37) rfl ?_); refine goesL_ (some 12) rfl rfl Try.func37 (by kernel_rfl) rfl #[.agg #[.string a0_0, .int .i64 a0_1, .int .i64 a0_2], .int .i64 1] rfl zq1 ?_; (with_reducible refine (r4_Fail.calls a0_0 a0_1 a0_2 1 t442 t443 t444 _ A5.out).mono ?_); rintro e w10 ⟨rfl, hb⟩; refine ⟨_, rfl, ?_⟩; replace BK440 := Aside0.mk (blk_below (g := gb440) (o := .cells #[.string a0_0, .int .i64 a0_1, .int .i64 a0_2] 31 (0, 0)) (bk_ BK440.out) hb); replace BK441 := Aside0.mk (blk_below (g := gb441) (o := .cells #[.string (⟨#[]⟩ : ByteArray), .int .i64 0, .int .i64 0] 31 (0, 0)) (bk_ BK441.out) hb); replace HB := Aside0.mk (below_step zq36 hb); (try clear hb hk hi); (try clear hb2); have hcz11_0 : w10.cell? ⟨gb441, 0, none⟩ = some (.string (⟨#[]⟩ : ByteArray)) := (blk_cell BK441.out 0).trans rfl; have hcz11_1 : w10.cell? ⟨gb441, 1, none⟩ = some (.int .i64 0) := (blk_cell BK441.out 1).trans rfl; have hcz11_2 : w10.cell? ⟨gb441, 2, none⟩ = some (.int .i64 0) := (blk_cell BK441.out 2).trans rfl; have hfz11_0 := blk_frozen BK441.out 0; have hfz11_1 := blk_frozen BK441.out 1; have hfz11_2 := blk_frozen BK441.out 2))
   refine bodyPost_ret (results_cell_row rfl _ _ gb441 31 #[.string t442, .int .i64 t443, .int .i64 t444] (0, 0) _ rfl (by (with_reducible repeat (first | refine blk_drewN ?_ _ | refine blk_drew ?_ | refine blk_alloc ?_ _)); refine blk_put (cs := #[.string t442, .int .i64 t443, .int .i64 0]) ?_ 2 _ rfl; (with_reducible repeat (first | refine blk_drewN ?_ _ | refine blk_drew ?_ | refine blk_alloc ?_ _)); refine blk_put (cs := #[.string t442, .int .i64 0, .int .i64 0]) ?_ 1 _ rfl; (with_reducible repeat (first | refine blk_drewN ?_ _ | refine blk_drew ?_ | refine blk_alloc ?_ _)); refine blk_put (cs := #[.string (⟨#[]⟩ : ByteArray), .int .i64 0, .int .i64 0]) ?_ 0 _ rfl; (with_reducible repeat (first | refine blk_drewN ?_ _ | refine blk_drew ?_ | refine blk_alloc ?_ _)); exact BK441.out) Try.underlying31 rfl (by kernel_rfl)) rfl ?_
   exact ⟨zq8, zq36⟩
  ·rw [if_neg c4] at H
   have c4b0 : decide (a1 < 0) = false := decide_eq_false c4
   clear c4
   replace H := Option.bind_eq_some_iff.mp H
   obtain ⟨t445, A120, H⟩ := H
   replace H : (if a1 > (t445.size : Int) then ((r4_Fail.f a0_0 a0_1 a0_2 4).bind fun bt446 => (some (bt446.1, bt446.2.1, bt446.2.2))) else (some (a0_0, wrap64 (a0_1 + a1), a0_2))) = some (r1, r2, r3) := H
   have A12 := Aside0.mk A120
   clear A120
   by_cases c13 : a1 > (t445.size : Int)
   ·rw [if_pos c13] at H
    have c13b0 : decide ((t445.size : Int) < a1) = true := decide_eq_true c13
    clear c13
    replace H := Option.bind_eq_some_iff.mp H
    obtain ⟨⟨t446, t447, t448⟩, A140, H⟩ := H
    replace H : (some (t446, t447, t448)) = some (r1, r2, r3) := H
    have A14 := Aside0.mk A140
    clear A140
    simp only [Option.some.injEq, Prod.mk.injEq] at H
    obtain ⟨rfl, rfl, rfl⟩ := H
    go_enter Try.func39, Try.ntmps39
    go_wp2_with (first | ((with_reducible refine gate_dst (N := 2) rfl ?_); refine box_event ?hg (N := 2) ?hd (cs := #[.string a0_0, .int .i64 a0_1, .int .i64 a0_2]) (t := 31) ?hr ?_; (case hd => rfl); (case hg => rfl); (case hr => exact zq16); intro gb440 hg w15 hbox hb; have n0_ := Aside0.mk (below_step zq2 hb); have n1_ := Aside0.mk (hbox); have n2_ := Aside0.mk ((by rw [hg]; exact (below_size zq2) : w.heap.size ≤ gb440)); have n3_ := Aside0.mk ((by rw [hg]; exact (below_size zq2) : w.heap.size ≤ gb440)); clear HB; have HB := n0_; have BK440 := n1_; have GW440 := n2_; have GE440 := n3_; clear n0_ n1_ n2_ n3_; clear hb hbox hg) | ((with_reducible refine gate_dst (N := 4) rfl ?_); refine box_event ?hg (N := 4) ?hd (cs := #[.string (⟨#[]⟩ : ByteArray), .int .i64 0, .int .i64 0]) (t := 31) ?hr ?_; (case hd => rfl); (case hg => rfl); (case hr => exact zq16); intro gb441 hg w16 hbox hb; have n0_ := Aside0.mk (blk_below (g := gb440) (o := .cells #[.string a0_0, .int .i64 a0_1, .int .i64 a0_2] 31 (0, 0)) (bk_ BK440.out) hb); have n1_ := Aside0.mk (below_step zq28 hb); have n2_ := Aside0.mk (hbox); have n3_ := Aside0.mk ((by rw [hg]; exact (below_size zq28) : w.heap.size ≤ gb441)); have n4_ := Aside0.mk ((by rw [hg]; exact (below_size zq28) : w.heap.size ≤ gb441)); have n5_ := Aside0.mk ((by rw [hg]; exact Nat.ne_of_lt (blk_lt (g := gb440) (o := .cells #[.string a0_0, .int .i64 a0_1, .int .i64 a0_2] 31 (0, 0)) (bk_ BK440.out)) : gb440 ≠ gb441)); have n6_ := Aside0.mk ((by rw [hg]; exact Nat.ne_of_gt (blk_lt (g := gb440) (o := .cells #[.string a0_0, .int .i64 a0_1, .int .i64 a0_2] 31 (0, 0)) (bk_ BK440.out)) : gb441 ≠ gb440)); clear BK440; clear HB; have BK440 := n0_; have HB := n1_; have BK441 := n2_; have GW441 := n3_; have GE441 := n4_; have NB440_441 := n5_; have NB441_440 := n6_; clear n0_ n1_ n2_ n3_ n4_ n5_ n6_; clear hb hbox hg; have hnb17 := NB440_441.out; have hnc17 := NB441_440.out; have hcz18_0 : w16.cell? ⟨gb440, 0, none⟩ = some (.string a0_0) := (blk_cell BK440.out 0).trans rfl; have hcz18_1 : w16.cell? ⟨gb440, 1, none⟩ = some (.int .i64 a0_1) := (blk_cell BK440.out 1).trans rfl; have hcz18_2 : w16.cell? ⟨gb440, 2, none⟩ = some (.int .i64 a0_2) := (blk_cell BK440.out 2).trans rfl; have hfz18_0 := blk_frozen BK440.out 0; have hfz18_1 := blk_frozen BK440.out 1; have hfz18_2 := blk_frozen BK440.out 2) | ((with_reducible refine gate_callee (f := 29) rfl ?_); refine goesL_ (some 15) rfl rfl Try.func29 (by kernel_rfl) rfl #[.agg #[.string a0_0, .int .i64 a0_1, .int .i64 a0_2]] rfl zq1 ?_; (with_reducible refine (r4_Rest.calls a0_0 a0_1 a0_2 t445 _ A12.out).mono ?_); rintro e w19 ⟨rfl, hb⟩; refine ⟨_, rfl, ?_⟩; replace BK440 := Aside0.mk (blk_below (g := gb440) (o := .cells #[.string a0_0, .int .i64 a0_1, .int .i64 a0_2] 31 (0, 0)) (bk_ BK440.out) hb); replace BK441 := Aside0.mk (blk_below (g := gb441) (o := .cells #[.string (⟨#[]⟩ : ByteArray), .int .i64 0, .int .i64 0] 31 (0, 0)) (bk_ BK441.out) hb); replace HB := Aside0.mk (below_step zq36 hb); (try clear hb hk hi); (try clear hb2); have hcz20_0 : w19.cell? ⟨gb440, 0, none⟩ = some (.string a0_0) := (blk_cell BK440.out 0).trans rfl; have hcz20_1 : w19.cell? ⟨gb440, 1, none⟩ = some (.int .i64 a0_1) := (blk_cell BK440.out 1).trans rfl; have hcz20_2 : w19.cell? ⟨gb440, 2, none⟩ = some (.int .i64 a0_2) := (blk_cell BK440.out 2).trans rfl; have hfz20_0 := blk_frozen BK440.out 0; have hfz20_1 := blk_frozen BK440.out 1; have hfz20_2 := blk_frozen BK440.out 2) | ((with_reducible refine gate_callee (f := 37) rfl ?_); refine goesL_ (some 19) rfl rfl Try.func37 (by kernel_rfl) rfl #[.agg #[.string a0_0, .int .i64 a0_1, .int .i64 a0_2], .int .i64 4] rfl zq1 ?_; (with_reducible refine (r4_Fail.calls a0_0 a0_1 a0_2 4 t446 t447 t448 _ A14.out).mono ?_); rintro e w21 ⟨rfl, hb⟩; refine ⟨_, rfl, ?_⟩; replace BK440 := Aside0.mk (blk_below (g := gb440) (o := .cells #[.string a0_0, .int .i64 a0_1, .int .i64 a0_2] 31 (0, 0)) (bk_ BK440.out) hb); replace BK441 := Aside0.mk (blk_below (g := gb441) (o := .cells #[.string (⟨#[]⟩ : ByteArray), .int .i64 0, .int .i64 0] 31 (0, 0)) (bk_ BK441.out) hb); replace HB := Aside0.mk (below_step zq36 hb); (try clear hb hk hi); (try clear hb2); have hcz22_0 : w21.cell? ⟨gb441, 0, none⟩ = some (.string (⟨#[]⟩ : ByteArray)) := (blk_cell BK441.out 0).trans rfl; have hcz22_1 : w21.cell? ⟨gb441, 1, none⟩ = some (.int .i64 0) := (blk_cell BK441.out 1).trans rfl; have hcz22_2 : w21.cell? ⟨gb441, 2, none⟩ = some (.int .i64 0) := (blk_cell BK441.out 2).trans rfl; have hfz22_0 := blk_frozen BK441.out 0; have hfz22_1 := blk_frozen BK441.out 1; have hfz22_2 := blk_frozen BK441.out 2))
    refine bodyPost_ret (results_cell_row rfl _ _ gb441 31 #[.string t446, .int .i64 t447, .int .i64 t448] (0, 0) _ rfl (by (with_reducible repeat (first | refine blk_drewN ?_ _ | refine blk_drew ?_ | refine blk_alloc ?_ _)); refine blk_put (cs := #[.string t446, .int .i64 t447, .int .i64 0]) ?_ 2 _ rfl; (with_reducible repeat (first | refine blk_drewN ?_ _ | refine blk_drew ?_ | refine blk_alloc ?_ _)); refine blk_put (cs := #[.string t446, .int .i64 0, .int .i64 0]) ?_ 1 _ rfl; (with_reducible repeat (first | refine blk_drewN ?_ _ | refine blk_drew ?_ | refine blk_alloc ?_ _)); refine blk_put (cs := #[.string (⟨#[]⟩ : ByteArray), .int .i64 0, .int .i64 0]) ?_ 0 _ rfl; (with_reducible repeat (first | refine blk_drewN ?_ _ | refine blk_drew ?_ | refine blk_alloc ?_ _)); exact BK441.out) Try.underlying31 rfl (by kernel_rfl)) rfl ?_
    exact ⟨zq8, zq36⟩
   ·rw [if_neg c13] at H
    have c13b0 : decide ((t445.size : Int) < a1) = false := decide_eq_false c13
    clear c13
    simp only [Option.some.injEq, Prod.mk.injEq] at H
    obtain ⟨rfl, rfl, rfl⟩ := H
    go_enter Try.func39, Try.ntmps39
    go_wp2_with (first | ((with_reducible refine gate_dst (N := 2) rfl ?_); refine box_event ?hg (N := 2) ?hd (cs := #[.string a0_0, .int .i64 a0_1, .int .i64 a0_2]) (t := 31) ?hr ?_; (case hd => rfl); (case hg => rfl); (case hr => exact zq16); intro gb440 hg w23 hbox hb; have n0_ := Aside0.mk (below_step zq2 hb); have n1_ := Aside0.mk (hbox); have n2_ := Aside0.mk ((by rw [hg]; exact (below_size zq2) : w.heap.size ≤ gb440)); have n3_ := Aside0.mk ((by rw [hg]; exact (below_size zq2) : w.heap.size ≤ gb440)); clear HB; have HB := n0_; have BK440 := n1_; have GW440 := n2_; have GE440 := n3_; clear n0_ n1_ n2_ n3_; clear hb hbox hg) | ((with_reducible refine gate_dst (N := 4) rfl ?_); refine box_event ?hg (N := 4) ?hd (cs := #[.string (⟨#[]⟩ : ByteArray), .int .i64 0, .int .i64 0]) (t := 31) ?hr ?_; (case hd => rfl); (case hg => rfl); (case hr => exact zq16); intro gb441 hg w24 hbox hb; have n0_ := Aside0.mk (blk_below (g := gb440) (o := .cells #[.string a0_0, .int .i64 a0_1, .int .i64 a0_2] 31 (0, 0)) (bk_ BK440.out) hb); have n1_ := Aside0.mk (below_step zq28 hb); have n2_ := Aside0.mk (hbox); have n3_ := Aside0.mk ((by rw [hg]; exact (below_size zq28) : w.heap.size ≤ gb441)); have n4_ := Aside0.mk ((by rw [hg]; exact (below_size zq28) : w.heap.size ≤ gb441)); have n5_ := Aside0.mk ((by rw [hg]; exact Nat.ne_of_lt (blk_lt (g := gb440) (o := .cells #[.string a0_0, .int .i64 a0_1, .int .i64 a0_2] 31 (0, 0)) (bk_ BK440.out)) : gb440 ≠ gb441)); have n6_ := Aside0.mk ((by rw [hg]; exact Nat.ne_of_gt (blk_lt (g := gb440) (o := .cells #[.string a0_0, .int .i64 a0_1, .int .i64 a0_2] 31 (0, 0)) (bk_ BK440.out)) : gb441 ≠ gb440)); clear BK440; clear HB; have BK440 := n0_; have HB := n1_; have BK441 := n2_; have GW441 := n3_; have GE441 := n4_; have NB440_441 := n5_; have NB441_440 := n6_; clear n0_ n1_ n2_ n3_ n4_ n5_ n6_; clear hb hbox hg; have hnb25 := NB440_441.out; have hnc25 := NB441_440.out; have hcz26_0 : w24.cell? ⟨gb440, 0, none⟩ = some (.string a0_0) := (blk_cell BK440.out 0).trans rfl; have hcz26_1 : w24.cell? ⟨gb440, 1, none⟩ = some (.int .i64 a0_1) := (blk_cell BK440.out 1).trans rfl; have hcz26_2 : w24.cell? ⟨gb440, 2, none⟩ = some (.int .i64 a0_2) := (blk_cell BK440.out 2).trans rfl; have hfz26_0 := blk_frozen BK440.out 0; have hfz26_1 := blk_frozen BK440.out 1; have hfz26_2 := blk_frozen BK440.out 2) | ((with_reducible refine gate_callee (f := 29) rfl ?_); refine goesL_ (some 15) rfl rfl Try.func29 (by kernel_rfl) rfl #[.agg #[.string a0_0, .int .i64 a0_1, .int .i64 a0_2]] rfl zq1 ?_; (with_reducible refine (r4_Rest.calls a0_0 a0_1 a0_2 t445 _ A12.out).mono ?_); rintro e w27 ⟨rfl, hb⟩; refine ⟨_, rfl, ?_⟩; replace BK440 := Aside0.mk (blk_below (g := gb440) (o := .cells #[.string a0_0, .int .i64 a0_1, .int .i64 a0_2] 31 (0, 0)) (bk_ BK440.out) hb); replace BK441 := Aside0.mk (blk_below (g := gb441) (o := .cells #[.string (⟨#[]⟩ : ByteArray), .int .i64 0, .int .i64 0] 31 (0, 0)) (bk_ BK441.out) hb); replace HB := Aside0.mk (below_step zq36 hb); (try clear hb hk hi); (try clear hb2); have hcz28_0 : w27.cell? ⟨gb440, 0, none⟩ = some (.string a0_0) := (blk_cell BK440.out 0).trans rfl; have hcz28_1 : w27.cell? ⟨gb440, 1, none⟩ = some (.int .i64 a0_1) := (blk_cell BK440.out 1).trans rfl; have hcz28_2 : w27.cell? ⟨gb440, 2, none⟩ = some (.int .i64 a0_2) := (blk_cell BK440.out 2).trans rfl; have hfz28_0 := blk_frozen BK440.out 0; have hfz28_1 := blk_frozen BK440.out 1; have hfz28_2 := blk_frozen BK440.out 2; have hcz29_0 : w27.cell? ⟨gb441, 0, none⟩ = some (.string (⟨#[]⟩ : ByteArray)) := (blk_cell BK441.out 0).trans rfl; have hcz29_1 : w27.cell? ⟨gb441, 1, none⟩ = some (.int .i64 0) := (blk_cell BK441.out 1).trans rfl; have hcz29_2 : w27.cell? ⟨gb441, 2, none⟩ = some (.int .i64 0) := (blk_cell BK441.out 2).trans rfl; have hfz29_0 := blk_frozen BK441.out 0; have hfz29_1 := blk_frozen BK441.out 1; have hfz29_2 := blk_frozen BK441.out 2))
    refine bodyPost_ret (results_cell_row rfl _ _ gb441 31 #[.string a0_0, .int .i64 (wrap64 (a0_1 + a1)), .int .i64 a0_2] (0, 0) _ rfl (by (with_reducible repeat (first | refine blk_drewN ?_ _ | refine blk_drew ?_ | refine blk_alloc ?_ _)); refine blk_put (cs := #[.string a0_0, .int .i64 (wrap64 (a0_1 + a1)), .int .i64 0]) ?_ 2 _ rfl; (with_reducible repeat (first | refine blk_drewN ?_ _ | refine blk_drew ?_ | refine blk_alloc ?_ _)); refine blk_put (cs := #[.string a0_0, .int .i64 0, .int .i64 0]) ?_ 1 _ rfl; (with_reducible repeat (first | refine blk_drewN ?_ _ | refine blk_drew ?_ | refine blk_alloc ?_ _)); refine blk_put (cs := #[.string (⟨#[]⟩ : ByteArray), .int .i64 0, .int .i64 0]) ?_ 0 _ rfl; (with_reducible repeat (first | refine blk_drewN ?_ _ | refine blk_drew ?_ | refine blk_alloc ?_ _)); refine blk_far ?_ NB441_440.out _; (with_reducible repeat (first | refine blk_drewN ?_ _ | refine blk_drew ?_ | refine blk_alloc ?_ _)); exact BK441.out) Try.underlying31 rfl (by kernel_rfl)) rfl ?_
    exact ⟨zq8, zq36⟩
 ·rw [if_neg c3] at H
  have c3b0 : (a0_2 == 0) = false := beq_eq_false_iff_ne.mpr c3
  have c3b1 : (a0_2 != 0) = true := bne_iff_ne.mpr c3
  simp only [Option.some.injEq, Prod.mk.injEq] at H
  obtain ⟨rfl, rfl, rfl⟩ := H
  go_enter Try.func39, Try.ntmps39
  go_wp2_with (first | ((with_reducible refine gate_dst (N := 2) rfl ?_); refine box_event ?hg (N := 2) ?hd (cs := #[.string a0_0, .int .i64 a0_1, .int .i64 a0_2]) (t := 31) ?hr ?_; (case hd => rfl); (case hg => rfl); (case hr => exact zq16); intro gb440 hg w30 hbox hb; have n0_ := Aside0.mk (below_step zq2 hb); have n1_ := Aside0.mk (hbox); have n2_ := Aside0.mk ((by rw [hg]; exact (below_size zq2) : w.heap.size ≤ gb440)); have n3_ := Aside0.mk ((by rw [hg]; exact (below_size zq2) : w.heap.size ≤ gb440)); clear HB; have HB := n0_; have BK440 := n1_; have GW440 := n2_; have GE440 := n3_; clear n0_ n1_ n2_ n3_; clear hb hbox hg) | ((with_reducible refine gate_dst (N := 4) rfl ?_); refine box_event ?hg (N := 4) ?hd (cs := #[.string (⟨#[]⟩ : ByteArray), .int .i64 0, .int .i64 0]) (t := 31) ?hr ?_; (case hd => rfl); (case hg => rfl); (case hr => exact zq16); intro gb441 hg w31 hbox hb; have n0_ := Aside0.mk (blk_below (g := gb440) (o := .cells #[.string a0_0, .int .i64 a0_1, .int .i64 a0_2] 31 (0, 0)) (bk_ BK440.out) hb); have n1_ := Aside0.mk (below_step zq28 hb); have n2_ := Aside0.mk (hbox); have n3_ := Aside0.mk ((by rw [hg]; exact (below_size zq28) : w.heap.size ≤ gb441)); have n4_ := Aside0.mk ((by rw [hg]; exact (below_size zq28) : w.heap.size ≤ gb441)); have n5_ := Aside0.mk ((by rw [hg]; exact Nat.ne_of_lt (blk_lt (g := gb440) (o := .cells #[.string a0_0, .int .i64 a0_1, .int .i64 a0_2] 31 (0, 0)) (bk_ BK440.out)) : gb440 ≠ gb441)); have n6_ := Aside0.mk ((by rw [hg]; exact Nat.ne_of_gt (blk_lt (g := gb440) (o := .cells #[.string a0_0, .int .i64 a0_1, .int .i64 a0_2] 31 (0, 0)) (bk_ BK440.out)) : gb441 ≠ gb440)); clear BK440; clear HB; have BK440 := n0_; have HB := n1_; have BK441 := n2_; have GW441 := n3_; have GE441 := n4_; have NB440_441 := n5_; have NB441_440 := n6_; clear n0_ n1_ n2_ n3_ n4_ n5_ n6_; clear hb hbox hg; have hnb32 := NB440_441.out; have hnc32 := NB441_440.out; have hcz33_0 : w31.cell? ⟨gb440, 0, none⟩ = some (.string a0_0) := (blk_cell BK440.out 0).trans rfl; have hcz33_1 : w31.cell? ⟨gb440, 1, none⟩ = some (.int .i64 a0_1) := (blk_cell BK440.out 1).trans rfl; have hcz33_2 : w31.cell? ⟨gb440, 2, none⟩ = some (.int .i64 a0_2) := (blk_cell BK440.out 2).trans rfl; have hfz33_0 := blk_frozen BK440.out 0; have hfz33_1 := blk_frozen BK440.out 1; have hfz33_2 := blk_frozen BK440.out 2; have hcz34_0 : w31.cell? ⟨gb441, 0, none⟩ = some (.string (⟨#[]⟩ : ByteArray)) := (blk_cell BK441.out 0).trans rfl; have hcz34_1 : w31.cell? ⟨gb441, 1, none⟩ = some (.int .i64 0) := (blk_cell BK441.out 1).trans rfl; have hcz34_2 : w31.cell? ⟨gb441, 2, none⟩ = some (.int .i64 0) := (blk_cell BK441.out 2).trans rfl; have hfz34_0 := blk_frozen BK441.out 0; have hfz34_1 := blk_frozen BK441.out 1; have hfz34_2 := blk_frozen BK441.out 2))
  refine bodyPost_ret (results_cell_row rfl _ _ gb441 31 #[.string a0_0, .int .i64 a0_1, .int .i64 a0_2] (0, 0) _ rfl (by (with_reducible repeat (first | refine blk_drewN ?_ _ | refine blk_drew ?_ | refine blk_alloc ?_ _)); refine blk_put (cs := #[.string a0_0, .int .i64 a0_1, .int .i64 0]) ?_ 2 _ rfl; (with_reducible repeat (first | refine blk_drewN ?_ _ | refine blk_drew ?_ | refine blk_alloc ?_ _)); refine blk_put (cs := #[.string a0_0, .int .i64 0, .int .i64 0]) ?_ 1 _ rfl; (with_reducible repeat (first | refine blk_drewN ?_ _ | refine blk_drew ?_ | refine blk_alloc ?_ _)); refine blk_put (cs := #[.string (⟨#[]⟩ : ByteArray), .int .i64 0, .int .i64 0]) ?_ 0 _ rfl; (with_reducible repeat (first | refine blk_drewN ?_ _ | refine blk_drew ?_ | refine blk_alloc ?_ _)); exact BK441.out) Try.underlying31 rfl (by kernel_rfl)) rfl ?_
  exact ⟨zq8, zq36⟩

end Go.Proofs.Ytonjfggfcnpgbaa.MScanPlays
