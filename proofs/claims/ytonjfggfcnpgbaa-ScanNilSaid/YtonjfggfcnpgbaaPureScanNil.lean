/- ScanNil: what a nil scanner answers. For every act; no further condition. -/
import Derived.Test.YtonjfggfcnpgbaaMScanNilx
import Derived.Test.YtonjfggfcnpgbaaBase
import Derived.Test.YtonjfggfcnpgbaaRegBase
namespace Go.Proofs.Ytonjfggfcnpgbaa.MScanNil
open Go.RowKit Go.Proofs.YtonjfggfcnpgbaaW.PrintWords Go.Proofs.YtonjfggfcnpgbaaW.PrintLast Go.Proofs.YtonjfggfcnpgbaaW.PrintMore Go.Proofs.Ytonjfggfcnpgbaa.Base
set_option linter.unusedVariables false
set_option linter.unusedSimpArgs false

theorem alive_is : Ev (fun k => horologelaw04_alive.f k) true := Ev.of (fun k => horologelaw04_alive.mono k) (k := 60) (by kernel_rfl)
theorem nextS {p n : Nat} (h : p < n) (hn : n ≤ 9223372036854775807) : wrap64 ((p : Int) + 1) = ((p + 1 : Nat) : Int) := by unfold wrap64; omega
theorem fold_is (s : ByteArray) : Ev (fun k => scan_Scanner_string_Fold_nil.f k s) false := by
  unfold scan_Scanner_string_Fold_nil.f
  refine Ev.bindc rfl (Ev.bindc rfl (Ev.neg (by decide) (Ev.up ?_)))
  simp only [scan_Scanner_string_Fold_nil.j0]
  exact Ev.pos (by first | trivial | rfl) (Ev.now _)
theorem must_is (s : ByteArray) : Ev (fun k => scan_Scanner_string_Must_nil.f k s) () := by
  unfold scan_Scanner_string_Must_nil.f
  exact Ev.bind (fold_is s) (Ev.neg (by decide) (Ev.bindc rfl (Ev.now _)))
theorem take0_is : scan_Scanner_string_take_nil.f 0 = some (⟨#[]⟩ : ByteArray) := by kernel_rfl
theorem run_is (s : ByteArray) : Ev (fun k => scan_Scanner_string_Run_nil.f k s) (⟨#[]⟩ : ByteArray) := by
  unfold scan_Scanner_string_Run_nil.f
  refine Ev.bindc rfl (Ev.up ?_)
  simp only [scan_Scanner_string_Run_nil.l0]
  refine Ev.neg (by decide) (Ev.up ?_)
  simp only [scan_Scanner_string_Run_nil.j1]
  exact Ev.bindc take0_is (Ev.now _)
theorem until_is (a : Int) : Ev (fun k => scan_Scanner_string_Until_nil.f k a) (⟨#[]⟩ : ByteArray) := by
  unfold scan_Scanner_string_Until_nil.f
  have hi : strings_IndexByte.f (⟨#[]⟩ : ByteArray) a = some (-1) := rfl
  refine Ev.bindc rfl (Ev.bindc hi (Ev.pos (by decide) (Ev.up ?_)))
  simp only [scan_Scanner_string_Until_nil.j0]
  exact Ev.bindc take0_is (Ev.now _)
theorem figures_is (a b : Int) : Ev (fun k => scan_Scanner_string_Figures_nil.f k a b) 0 := by
  unfold scan_Scanner_string_Figures_nil.f
  exact Ev.bindc rfl (Ev.neg (by decide) (Ev.now _))
theorem word_l0 : ∀ (ys pre : List ByteArray), (pre ++ ys).length ≤ 9223372036854775807 → Ev (fun k => scan_Scanner_string_Word_nil.l0 k (pre ++ ys) ((pre ++ ys).length : Int) (pre.length : Int)) (-1)
  | [], pre, _ => by
    refine Ev.up ?_
    simp only [scan_Scanner_string_Word_nil.l0]
    exact Ev.neg (by simp) (Ev.now _)
  | y :: ys, pre, h => by
    have hlt : pre.length < (pre ++ y :: ys).length := by simp only [List.length_append, List.length_cons]; omega
    refine Ev.up ?_
    simp only [scan_Scanner_string_Word_nil.l0]
    refine Ev.pos (Int.ofNat_lt.2 hlt) (Ev.pos (Int.natCast_nonneg _) (Ev.pos (Int.ofNat_lt.2 hlt) (Ev.bind (fold_is _) (Ev.neg (by decide) ?_))))
    rw [nextS hlt h, show pre ++ y :: ys = (pre ++ [y]) ++ ys by simp, show pre.length + 1 = (pre ++ [y]).length by simp]
    exact word_l0 ys (pre ++ [y]) (by simpa using h)
theorem word_is (l : List ByteArray) (h : l.length ≤ 9223372036854775807) : Ev (fun k => scan_Scanner_string_Word_nil.f k l) (-1) := word_l0 l [] h
theorem long_l1 (x0 : ByteArray) (x1 x9 : List S35) (x10 x11 : Int) (hend : ∃ b, Ev (fun k => horologelaw04_long.l0 k x0 x1 x9 x10 (wrap64 (x11 + 1))) b) : ∀ (ys pre : List ByteArray), (pre ++ ys).length ≤ 9223372036854775807 →
    ∃ b, Ev (fun k => horologelaw04_long.l1 k x0 x1 x9 x10 x11 (pre ++ ys) ((pre ++ ys).length : Int) (pre.length : Int)) b
  | [], pre, _ => by
    obtain ⟨b, hb⟩ := hend
    refine ⟨b, Ev.up ?_⟩
    simp only [horologelaw04_long.l1]
    exact Ev.neg (by simp) hb
  | y :: ys, pre, h => by
    have hlt : pre.length < (pre ++ y :: ys).length := by simp only [List.length_append, List.length_cons]; omega
    obtain ⟨b, hb⟩ := long_l1 x0 x1 x9 x10 x11 hend ys (pre ++ [y]) (by simpa using h)
    by_cases c : ((rdOf ByteArray.empty (pre ++ y :: ys) (pre.length : Int)).size : Int) > 60
    · refine ⟨true, Ev.up ?_⟩
      simp only [horologelaw04_long.l1]
      exact Ev.pos (Int.ofNat_lt.2 hlt) (Ev.pos (Int.natCast_nonneg _) (Ev.pos (Int.ofNat_lt.2 hlt) (Ev.pos c (Ev.now _))))
    · refine ⟨b, Ev.up ?_⟩
      simp only [horologelaw04_long.l1]
      refine Ev.pos (Int.ofNat_lt.2 hlt) (Ev.pos (Int.natCast_nonneg _) (Ev.pos (Int.ofNat_lt.2 hlt) (Ev.neg c ?_)))
      rw [nextS hlt h, show pre ++ y :: ys = (pre ++ [y]) ++ ys by simp, show pre.length + 1 = (pre ++ [y]).length by simp]
      exact hb
theorem long_ex (x : S35) (h : x.f3.length ≤ 9223372036854775807) : ∃ b, Ev (fun k => horologelaw04_long.f k (⟨#[]⟩ : ByteArray) [x]) b := by
  have hend : ∃ b, Ev (fun k => horologelaw04_long.l0 k (⟨#[]⟩ : ByteArray) [x] [x] (([x] : List S35).length : Int) (wrap64 (0 + 1))) b := by
    refine ⟨false, Ev.up ?_⟩
    rw [show wrap64 (0 + 1) = 1 by unfold wrap64; omega]
    simp only [horologelaw04_long.l0]
    exact Ev.neg (by simp) (Ev.neg (by decide) (Ev.cast (Ev.now _) (by simp)))
  have hrd : rd_T35 [x] 0 = x := rfl
  have hj : ∀ b, ∃ r, Ev (fun k => horologelaw04_long.j1 k (⟨#[]⟩ : ByteArray) [x] [x] (([x] : List S35).length : Int) 0 b x.f0 x.f1 x.f2 x.f3 x.f4 x.f5) r := by
    intro b
    cases b with
    | true =>
      refine ⟨true, Ev.up ?_⟩
      simp only [horologelaw04_long.j1]
      exact Ev.pos (by first | trivial | rfl) (Ev.now _)
    | false =>
      obtain ⟨r, hr⟩ := long_l1 (⟨#[]⟩ : ByteArray) [x] [x] (([x] : List S35).length : Int) 0 hend x.f3 [] h
      refine ⟨r, Ev.up ?_⟩
      simp only [horologelaw04_long.j1]
      exact Ev.neg (by decide) hr
  unfold horologelaw04_long.f
  by_cases c : (x.f2.size : Int) > 60
  · obtain ⟨r, hr⟩ := hj true
    refine ⟨r, Ev.up ?_⟩
    simp only [horologelaw04_long.l0]
    refine Ev.pos (by simp) (Ev.pos (by decide) (Ev.pos (by simp) ?_))
    rw [hrd]
    exact Ev.pos c hr
  · obtain ⟨r, hr⟩ := hj (decide ((x.f3.length : Int) > 12))
    refine ⟨r, Ev.up ?_⟩
    simp only [horologelaw04_long.l0]
    refine Ev.pos (by simp) (Ev.pos (by decide) (Ev.pos (by simp) ?_))
    rw [hrd]
    exact Ev.neg c hr
theorem below_drawn {w w' : World} (h : Drawn0 w w') : Below w.heap.size w w' := by
  obtain ⟨nd, rfl⟩ := h
  exact pw_below_drewN (Below.refl _ _) _
theorem alive_c (w : World) : Calls Try.prog 6 #[] w fun e w' => e = .returned (.bool true) ∧ Below w.heap.size w w' := by
  obtain ⟨k, h⟩ := Ev.ok alive_is
  exact horologelaw04_alive.calls k true w h
theorem must_c (s : ByteArray) (w : World) : Calls Try.prog 19 #[.pointer none, .string s] w fun e w' => e = .returned (.tuple #[]) ∧ Below w.heap.size w w' := by
  obtain ⟨k, h⟩ := Ev.ok (must_is s)
  exact scan_Scanner_string_Must_nil.calls k s w h
theorem skip_c (a : Int) (w : World) : Calls Try.prog 20 #[.pointer none, .int .i64 a] w fun e w' => e = .returned (.tuple #[]) ∧ Below w.heap.size w w' := scan_Scanner_string_Skip_nil.calls a w rfl
theorem fail_c (w : World) : Calls Try.prog 21 #[.pointer none, .iface 50 (.int .i64 11)] w fun e w' => e = .returned (.tuple #[]) ∧ Below w.heap.size w w' := scan_Scanner_string_Fail_nil.calls (some 11) w rfl
theorem peek_c (w : World) : Calls Try.prog 22 #[.pointer none] w fun e w' => e = .returned (.tuple #[.int .u8 0, .bool false]) ∧ Below w.heap.size w w' := scan_Scanner_string_Peek_nil.calls 0 false w (by kernel_rfl)
theorem at_c (w : World) : Calls Try.prog 14 #[.pointer none] w fun e w' => e = .returned (.int .i64 0) ∧ Below w.heap.size w w' := (scan_Scanner_string_At_nil.calls 0 w rfl).mono (fun _ _ h => ⟨h.1, below_drawn h.2⟩)
theorem left_c (w : World) : Calls Try.prog 18 #[.pointer none] w fun e w' => e = .returned (.int .i64 0) ∧ Below w.heap.size w w' := scan_Scanner_string_Left_nil.calls 0 w (by kernel_rfl)
theorem take_c (a : Int) (w : World) : Calls Try.prog 23 #[.pointer none, .int .u8 a] w fun e w' => e = .returned (.bool false) ∧ Below w.heap.size w w' := scan_Scanner_string_Take_nil.calls a false w (by unfold scan_Scanner_string_Take_nil.f; rw [show scan_Scanner_string_Peek_nil.f = some (0, false) by kernel_rfl]; rfl)
theorem fold_c (s : ByteArray) (w : World) : Calls Try.prog 24 #[.pointer none, .string s] w fun e w' => e = .returned (.bool false) ∧ Below w.heap.size w w' := by
  obtain ⟨k, h⟩ := Ev.ok (fold_is s)
  exact scan_Scanner_string_Fold_nil.calls k s false w h
theorem run_c (s : ByteArray) (w : World) : Calls Try.prog 16 #[.pointer none, .string s] w fun e w' => e = .returned (.string ByteArray.empty) ∧ Below w.heap.size w w' := by
  obtain ⟨k, h⟩ := Ev.ok (run_is s)
  exact scan_Scanner_string_Run_nil.calls k s _ w h
theorem until_c (a : Int) (w : World) : Calls Try.prog 17 #[.pointer none, .int .u8 a] w fun e w' => e = .returned (.string ByteArray.empty) ∧ Below w.heap.size w w' := by
  obtain ⟨k, h⟩ := Ev.ok (until_is a)
  exact scan_Scanner_string_Until_nil.calls k a _ w h
theorem figures_c (a b : Int) (w : World) : Calls Try.prog 25 #[.pointer none, .int .i64 a, .int .i64 b] w fun e w' => e = .returned (.int .i64 0) ∧ Below w.heap.size w w' := by
  obtain ⟨k, h⟩ := Ev.ok (figures_is a b)
  exact scan_Scanner_string_Figures_nil.calls k a b 0 w h
theorem word_c (A : Option Addr) (c : Nat) (l : List ByteArray) (hl : l.length ≤ 9223372036854775807) (w : World) (hr : Kd.C Kd.string w A l.length l) (hc : l.length ≤ c) : Calls Try.prog 26 #[.pointer none, .slice A l.length c] w fun e w' => e = .returned (.int .i64 (-1)) ∧ Below w.heap.size w w' := by
  obtain ⟨k, h⟩ := Ev.ok (word_is l hl)
  exact scan_Scanner_string_Word_nil.calls k A c l (-1) w hr hc h
theorem err_c (w : World) : Calls Try.prog 15 #[.pointer none] w fun e w' => e = .returned (.iface 50 (.int .i64 8)) ∧ Below w.heap.size w w' := (scan_Scanner_string_Err_nil.calls (some 8) w rfl).mono (fun _ _ h => ⟨h.1, below_drawn h.2⟩)
theorem end_c (w : World) : Calls Try.prog 28 #[.pointer none] w fun e w' => e = .returned (.iface 50 (.int .i64 8)) ∧ Below w.heap.size w w' := scan_Scanner_string_End_nil.calls (some 8) w rfl
theorem is_c (w : World) : Calls Try.prog 27 #[.iface 50 (.int .i64 8), .int .i64 8] w fun e w' => e = .returned (.bool true) ∧ Below w.heap.size w w' := (horologenum_Is.calls (some 8) 8 true w rfl).mono (fun _ _ h => ⟨h.1, below_drawn h.2⟩)
def V10 (gb : Nat) (a0_1 : Int) (a0_2 : ByteArray) (A0_3 : Option Addr) (c0_3 : Nat) (l0_3 : List ByteArray) (a0_4 a0_5 : Int) : Nat → Value
  | 0 => .pointer none
  | 1 => .int .i64 0
  | 2 => .pointer none
  | 3 => .int .i64 0
  | 4 => .int .i64 0
  | 5 => .bool true
  | 6 => .bool true
  | 7 => .bool false
  | 8 => .bool true
  | 9 => .bool true
  | 10 => .bool true
  | 11 => .pointer none
  | 12 => .pointer (some ⟨gb, 1, none⟩)
  | 13 => .int .u8 a0_1
  | 14 => .bool false
  | 15 => .bool true
  | 16 => .bool true
  | 17 => .bool true
  | 18 => .pointer none
  | 19 => .pointer (some ⟨gb, 2, none⟩)
  | 20 => .string a0_2
  | 21 => .bool false
  | 22 => .bool true
  | 23 => .bool true
  | 24 => .bool true
  | 25 => .pointer none
  | 26 => .pointer (some ⟨gb, 2, none⟩)
  | 27 => .string a0_2
  | 28 => .string ByteArray.empty
  | 29 => .pointer none
  | 30 => .pointer (some ⟨gb, 1, none⟩)
  | 31 => .int .u8 a0_1
  | 32 => .string ByteArray.empty
  | 33 => .string ByteArray.empty
  | 34 => .bool true
  | 35 => .bool true
  | 36 => .bool true
  | 37 => .pointer none
  | 38 => .pointer (some ⟨gb, 4, none⟩)
  | 39 => .int .i64 a0_4
  | 40 => .pointer (some ⟨gb, 5, none⟩)
  | 41 => .int .i64 a0_5
  | 42 => .int .i64 0
  | 43 => .bool true
  | 44 => .bool true
  | 45 => .bool true
  | 46 => .pointer none
  | 47 => .pointer (some ⟨gb, 3, none⟩)
  | 48 => .slice A0_3 l0_3.length c0_3
  | 49 => .int .i64 (-1)
  | 50 => .bool true
  | 51 => .bool true
  | 52 => .bool true
  | 53 => .pointer none
  | 54 => .iface 50 (.int .i64 8)
  | 55 => .bool true
  | 56 => .bool true
  | 57 => .bool true
  | 58 => .pointer none
  | 59 => .iface 50 (.int .i64 8)
  | 60 => .bool true
  | 61 => .bool true
  | _ => .bool true
theorem one35 (w : World) (x : S35) (A : Option Addr) (c : Nat) (hc : x.f3.length ≤ c) (hC : Kd.C Kd.string w A x.f3.length x.f3) :
    Kd.C k35 (w.alloc (.cells #[.int .i64 x.f0, .int .u8 x.f1, .string x.f2, .slice A x.f3.length c, .int .i64 x.f4, .int .i64 x.f5] 35 (0, 0))) (some ⟨w.heap.size, 0, none⟩) 1 [x] := by
  refine ⟨rfl, by omega, fun _ => ⟨_, rfl, fun j p hp => ?_⟩⟩
  cases j with
  | succ j => simp at hp
  | zero =>
    obtain rfl : x = p := by simpa using hp
    refine ⟨_, rfl, k35_mk _ x hc (Kd.C_alloc hC _), fun i u hu => ?_⟩
    have h := (blk_cell (blk_new w (.cells #[.int .i64 x.f0, .int .u8 x.f1, .string x.f2, .slice A x.f3.length c, .int .i64 x.f4, .int .i64 x.f5] 35 (0, 0))) i)
    have e : (⟨w.heap.size, 0, none⟩ : Addr).add (0 * k35.sz + i) = ⟨w.heap.size, i, none⟩ := by simp [Addr.add]; exact fun h => h.symm
    rw [e, h]
    simpa using hu
set_option maxHeartbeats 8000000 in
set_option maxRecDepth 100000 in
theorem scanNil_walk (a0_0 : Int) (a0_1 : Int) (a0_2 : ByteArray) (A0_3 : Option Addr) (c0_3 : Nat) (l0_3 : List ByteArray) (a0_4 : Int) (a0_5 : Int) (w : World) (hr0_3 : Kd.C Kd.string w A0_3 l0_3.length l0_3) (hc0_3 : l0_3.length ≤ c0_3) (w0 : ok35 (⟨a0_0, a0_1, a0_2, l0_3, a0_4, a0_5⟩ : S35)) :
    Calls Try.prog 5 #[.agg #[.int .i64 a0_0, .int .u8 a0_1, .string a0_2, .slice A0_3 l0_3.length c0_3, .int .i64 a0_4, .int .i64 a0_5]] w fun e w' => e = .returned (.bool true) ∧ Below w.heap.size w w' := by
  have h3 : l0_3.length ≤ 9223372036854775807 := w0.2.2.2.1.1
  have H3 := Aside0.mk h3
  have HC := Aside0.mk hr0_3
  obtain ⟨b, k, hb⟩ : ∃ b k, horologelaw04_long.f k (⟨#[]⟩ : ByteArray) [(⟨a0_0, a0_1, a0_2, l0_3, a0_4, a0_5⟩ : S35)] = some b := by
    obtain ⟨b, hb⟩ := long_ex ⟨a0_0, a0_1, a0_2, l0_3, a0_4, a0_5⟩ h3
    obtain ⟨k, hk⟩ := Ev.ok hb
    exact ⟨b, k, hk⟩
  have HLONG := Aside0.mk hb
  clear hb w0 h3 hr0_3
  go_enter Try.func5, Try.ntmps5
  go_wp2_with (first | (go_at_call 6; refine (alive_c _).mono ?_; rintro e w1 ⟨rfl, hb⟩; have B1 := Aside0.mk (below_step (below_alloc (Below.refl w.heap.size w) _) hb); have BK1 := Aside0.mk (blk_below (blk_new w (.cells #[.int .i64 a0_0, .int .u8 a0_1, .string a0_2, .slice A0_3 l0_3.length c0_3, .int .i64 a0_4, .int .i64 a0_5] 35 (0, 0))) hb); have z0 := (blk_cell BK1.out 0).trans rfl; have z1 := (blk_cell BK1.out 1).trans rfl; have z2 := (blk_cell BK1.out 2).trans rfl; have z3 := (blk_cell BK1.out 3).trans rfl; have z4 := (blk_cell BK1.out 4).trans rfl; have z5 := (blk_cell BK1.out 5).trans rfl; clear hb) | fail)
  refine (horologelaw04_long.calls k (⟨#[]⟩ : ByteArray) _ _ [(⟨a0_0, a0_1, a0_2, l0_3, a0_4, a0_5⟩ : S35)] b _ (one35 _ ⟨a0_0, a0_1, a0_2, l0_3, a0_4, a0_5⟩ _ _ hc0_3 (Kd.C_below HC.out B1.out)) (Nat.le_refl 1) HLONG.out).mono ?_
  rintro e w2 ⟨rfl, hb⟩
  have BK2 := Aside0.mk (blk_below (blk_below BK1.out (below_alloc (Below.refl _ _) _)) hb)
  have B2 := Aside0.mk (below_step (below_alloc B1.out _) hb)
  have z22 := (blk_cell BK2.out 2).trans rfl
  have z25 := (blk_cell BK2.out 5).trans rfl
  clear hb
  cases b with
  | true =>
    go_wp2
    go_ret
    exact ⟨rfl, B2.out⟩
  | false =>
    go_wp2_with (first | (go_at_call 19; refine (must_c _ _).mono ?_; rintro e w3 ⟨rfl, hb⟩; have BK3 := Aside0.mk (blk_below BK2.out hb); have B3 := Aside0.mk (below_step B2.out hb); have z32 := (blk_cell BK3.out 2).trans rfl; have z35 := (blk_cell BK3.out 5).trans rfl; clear hb) | (go_at_call 20; refine (skip_c _ _).mono ?_; rintro e w4 ⟨rfl, hb⟩; have BK4 := Aside0.mk (blk_below BK3.out hb); have B4 := Aside0.mk (below_step B3.out hb); have z42 := (blk_cell BK4.out 2).trans rfl; have z45 := (blk_cell BK4.out 5).trans rfl; clear hb) | (go_at_call 21; refine (fail_c _).mono ?_; rintro e w5 ⟨rfl, hb⟩; have BK5 := Aside0.mk (blk_below BK4.out hb); have B5 := Aside0.mk (below_step B4.out hb); have z52 := (blk_cell BK5.out 2).trans rfl; have z55 := (blk_cell BK5.out 5).trans rfl; clear hb) | (go_at_call 22; refine (peek_c _).mono ?_; rintro e w6 ⟨rfl, hb⟩; have BK6 := Aside0.mk (blk_below BK5.out hb); have B6 := Aside0.mk (below_step B5.out hb); have z62 := (blk_cell BK6.out 2).trans rfl; have z65 := (blk_cell BK6.out 5).trans rfl; clear hb) | fail)
    have BK := BK6
    have HB := B6
    have HCC := Aside0.mk (Kd.C_below HC.out B6.out)
    clear BK1 BK2 BK3 BK4 BK5 BK6 B1 B2 B3 B4 B5 B6 z0 z1 z2 z3 z4 z5 z22 z25 z32 z35 z42 z45 z52 z55 z62 z65
    generalize w.heap.size = gb at BK
    refine region_below (T := ?T) (n := 0) [some 27, some 28, some 29, some 30, some 31, some 32, some 33, some 34, some 35, some 36, some 37, some 38, some 39, some 40, some 41, some 42, some 43, some 44, some 45, some 46, some 47, some 48, some 49, some 50, some 51, some 52, some 53, some 54, some 55, some 56, some 57, some 58, some 59, some 60, some 61, some 62, some 63, some 64, some 65, some 66, some 67, some 68, some 69, some 70, some 71, some 72, some 73, some 74, some 75, some 76, some 77, some 78, some 79, some 80, some 81, some 82, some 83, some 84, some 85, some 86, some 87, some 88, some 2] ?hT (fun i_ v_ _ => v_ = V10 gb a0_1 a0_2 A0_3 c0_3 l0_3 a0_4 a0_5 i_) (by kernel_rfl) (by kernel_rfl) (fun i_ v_ w_ w1_ _ h_ _ => h_) [0, 1, 2, 3, 4, 5, 6, 7, 8, 9, 10, 11, 12, 13, 14, 15, 16, 17, 18, 19, 20, 21, 22, 23, 24, 25, 26, 27, 28, 29, 30, 31, 32, 33, 34, 35, 36, 37, 38, 39, 40, 41, 42, 43, 44, 45, 46, 47, 48, 49, 50, 51, 52, 53, 54, 55, 56, 57, 58, 59, 60, 61, 62] rfl (.cons (some 27) rfl rfl (fun X wx hG hX K hK => ?_) (.cons (some 28) rfl rfl (fun X wx hG hX K hK => ?_) (.cons (some 29) rfl rfl (fun X wx hG hX K hK => ?_) (.cons (some 30) rfl rfl (fun X wx hG hX K hK => ?_) (.cons (some 31) rfl rfl (fun X wx hG hX K hK => ?_) (.cons (some 32) rfl rfl (fun X wx hG hX K hK => ?_) (.cons (some 33) rfl rfl (fun X wx hG hX K hK => ?_) (.cons (some 34) rfl rfl (fun X wx hG hX K hK => ?_) (.cons (some 35) rfl rfl (fun X wx hG hX K hK => ?_) (.cons (some 36) rfl rfl (fun X wx hG hX K hK => ?_) (.cons (some 37) rfl rfl (fun X wx hG hX K hK => ?_) (.cons (some 38) rfl rfl (fun X wx hG hX K hK => ?_) (.cons (some 39) rfl rfl (fun X wx hG hX K hK => ?_) (.cons (some 40) rfl rfl (fun X wx hG hX K hK => ?_) (.cons (some 41) rfl rfl (fun X wx hG hX K hK => ?_) (.cons (some 42) rfl rfl (fun X wx hG hX K hK => ?_) (.cons (some 43) rfl rfl (fun X wx hG hX K hK => ?_) (.cons (some 44) rfl rfl (fun X wx hG hX K hK => ?_) (.cons (some 45) rfl rfl (fun X wx hG hX K hK => ?_) (.cons (some 46) rfl rfl (fun X wx hG hX K hK => ?_) (.cons (some 47) rfl rfl (fun X wx hG hX K hK => ?_) (.cons (some 48) rfl rfl (fun X wx hG hX K hK => ?_) (.cons (some 49) rfl rfl (fun X wx hG hX K hK => ?_) (.cons (some 50) rfl rfl (fun X wx hG hX K hK => ?_) (.cons (some 51) rfl rfl (fun X wx hG hX K hK => ?_) (.cons (some 52) rfl rfl (fun X wx hG hX K hK => ?_) (.cons (some 53) rfl rfl (fun X wx hG hX K hK => ?_) (.cons (some 54) rfl rfl (fun X wx hG hX K hK => ?_) (.cons (some 55) rfl rfl (fun X wx hG hX K hK => ?_) (.cons (some 56) rfl rfl (fun X wx hG hX K hK => ?_) (.cons (some 57) rfl rfl (fun X wx hG hX K hK => ?_) (.cons (some 58) rfl rfl (fun X wx hG hX K hK => ?_) (.cons (some 59) rfl rfl (fun X wx hG hX K hK => ?_) (.cons (some 60) rfl rfl (fun X wx hG hX K hK => ?_) (.cons (some 61) rfl rfl (fun X wx hG hX K hK => ?_) (.cons (some 62) rfl rfl (fun X wx hG hX K hK => ?_) (.cons (some 63) rfl rfl (fun X wx hG hX K hK => ?_) (.cons (some 64) rfl rfl (fun X wx hG hX K hK => ?_) (.cons (some 65) rfl rfl (fun X wx hG hX K hK => ?_) (.cons (some 66) rfl rfl (fun X wx hG hX K hK => ?_) (.cons (some 67) rfl rfl (fun X wx hG hX K hK => ?_) (.cons (some 68) rfl rfl (fun X wx hG hX K hK => ?_) (.cons (some 69) rfl rfl (fun X wx hG hX K hK => ?_) (.cons (some 70) rfl rfl (fun X wx hG hX K hK => ?_) (.cons (some 71) rfl rfl (fun X wx hG hX K hK => ?_) (.cons (some 72) rfl rfl (fun X wx hG hX K hK => ?_) (.cons (some 73) rfl rfl (fun X wx hG hX K hK => ?_) (.cons (some 74) rfl rfl (fun X wx hG hX K hK => ?_) (.cons (some 75) rfl rfl (fun X wx hG hX K hK => ?_) (.cons (some 76) rfl rfl (fun X wx hG hX K hK => ?_) (.cons (some 77) rfl rfl (fun X wx hG hX K hK => ?_) (.cons (some 78) rfl rfl (fun X wx hG hX K hK => ?_) (.cons (some 79) rfl rfl (fun X wx hG hX K hK => ?_) (.cons (some 80) rfl rfl (fun X wx hG hX K hK => ?_) (.cons (some 81) rfl rfl (fun X wx hG hX K hK => ?_) (.cons (some 82) rfl rfl (fun X wx hG hX K hK => ?_) (.cons (some 83) rfl rfl (fun X wx hG hX K hK => ?_) (.cons (some 84) rfl rfl (fun X wx hG hX K hK => ?_) (.cons (some 85) rfl rfl (fun X wx hG hX K hK => ?_) (.cons (some 86) rfl rfl (fun X wx hG hX K hK => ?_) (.cons (some 87) rfl rfl (fun X wx hG hX K hK => ?_) (.cons (some 88) rfl rfl (fun X wx hG hX K hK => ?_) (.cons (some 2) rfl rfl (fun X wx hG hX K hK => ?_) .nil))))))))))))))))))))))))))))))))))))))))))))))))))))))))))))))) (by kernel_rfl) #[true, true, true, true, true, true, true, true, true, true, true, true, true, true, true, true, true, true, true, true, true, true, true, true, true, true, true, true, true, true, true, true, true, true, true, true, true, true, true, true, true, true, true, true, true, true, true, true, true, true, true, true, true, true, true, true, true, true, true, true, true, true, true] (by kernel_rfl) ?_
    case hT =>
      intro X
      simp only [fill, Act.put, List.setIfInBounds_toArray, List.set_cons_zero, List.set_cons_succ, Nat.zero_add, Nat.reduceAdd]
      rfl
    · refine val_ (w1 := wx) (v := .pointer none) (by rfl) rfl ?_ (hK.out _ _ _ rfl (Below.refl _ _) rfl)
      go_simp
    · have e0 : X 0 = .pointer none := hX 2 0 (by kernel_rfl)
      refine goes_ Try.func14 (by kernel_rfl) rfl #[X 0] (by rfl) rfl rfl (by simp only [List.map_toArray, List.map_cons, List.map_nil]; rfl) ?_
      refine calls_args (as' := #[.pointer none]) (by rw [e0]) ?_
      refine (at_c wx).mono ?_
      rintro e w' ⟨rfl, hb⟩
      exact ⟨_, rfl, hK.out _ _ _ rfl hb rfl⟩
    · refine val_ (w1 := wx) (v := .pointer none) (by rfl) rfl ?_ (hK.out _ _ _ rfl (Below.refl _ _) rfl)
      go_simp
    · have e2 : X 2 = .pointer none := hX 2 2 (by kernel_rfl)
      refine goes_ Try.func18 (by kernel_rfl) rfl #[X 2] (by rfl) rfl rfl (by simp only [List.map_toArray, List.map_cons, List.map_nil]; rfl) ?_
      refine calls_args (as' := #[.pointer none]) (by rw [e2]) ?_
      refine (left_c wx).mono ?_
      rintro e w' ⟨rfl, hb⟩
      exact ⟨_, rfl, hK.out _ _ _ rfl hb rfl⟩
    · have e1 : X 1 = .int .i64 0 := hX 2 1 (by kernel_rfl)
      have e3 : X 3 = .int .i64 0 := hX 2 3 (by kernel_rfl)
      refine val_ (w1 := wx) (v := .int .i64 0) (by rfl) rfl ?_ (hK.out _ _ _ rfl (Below.refl _ _) rfl)
      go_simp
      first | done | decide | rfl
    · have e4 : X 4 = .int .i64 0 := hX 2 4 (by kernel_rfl)
      refine val_ (w1 := wx) (v := .bool true) (by rfl) rfl ?_ (hK.out _ _ _ rfl (Below.refl _ _) rfl)
      go_simp
    · have e5 : X 5 = .bool true := hX 2 5 (by kernel_rfl)
      refine val_ (w1 := wx) (v := .bool true) (by rfl) rfl ?_ (hK.out _ _ _ rfl (Below.refl _ _) rfl)
      go_simp
    · have e6 : X 6 = .bool true := hX 2 6 (by kernel_rfl)
      refine val_ (w1 := wx) (v := .bool false) (wanted_of rfl rfl (congrArg some e6)) rfl ?_ (hK.out _ _ _ rfl (Below.refl _ _) rfl)
      go_simp
    · have e6 : X 6 = .bool true := hX 2 6 (by kernel_rfl)
      have e7 : X 7 = .bool false := hX 2 7 (by kernel_rfl)
      refine val_ (w1 := wx) (v := .bool true) (wanted_of rfl rfl (congrArg some e6)) rfl ?_ (hK.out _ _ _ rfl (Below.refl _ _) rfl)
      go_simp
    · have e6 : X 6 = .bool true := hX 2 6 (by kernel_rfl)
      have e8 : X 8 = .bool true := hX 2 8 (by kernel_rfl)
      refine val_ (w1 := wx) (v := .bool true) (by rfl) rfl ?_ (hK.out _ _ _ rfl (Below.refl _ _) rfl)
      go_simp
    · have e9 : X 9 = .bool true := hX 2 9 (by kernel_rfl)
      refine val_ (w1 := wx) (v := .bool true) (by rfl) rfl ?_ (hK.out _ _ _ rfl (Below.refl _ _) rfl)
      go_simp
    · have e10 : X 10 = .bool true := hX 2 10 (by kernel_rfl)
      refine val_ (w1 := wx) (v := .pointer none) (wanted_of rfl rfl (congrArg some e10)) rfl ?_ (hK.out _ _ _ rfl (Below.refl _ _) rfl)
      go_simp
    · have e10 : X 10 = .bool true := hX 2 10 (by kernel_rfl)
      refine val_ (w1 := wx) (v := .pointer (some ⟨gb, 1, none⟩)) (wanted_of rfl rfl (congrArg some e10)) rfl ?_ (hK.out _ _ _ rfl (Below.refl _ _) rfl)
      go_simp
    · have e10 : X 10 = .bool true := hX 2 10 (by kernel_rfl)
      have e12 : X 12 = .pointer (some ⟨gb, 1, none⟩) := hX 2 12 (by kernel_rfl)
      have z_ : wx.cell? ⟨gb, 1, none⟩ = some (.int .u8 a0_1) := (blk_cell (blk_below (blk_drew BK.out) hG) 1).trans rfl
      refine val_ (w1 := wx) (v := .int .u8 a0_1) (wanted_of rfl rfl (congrArg some e10)) rfl ?_ (hK.out _ _ _ rfl (Below.refl _ _) rfl)
      go_simp
    · have e10 : X 10 = .bool true := hX 2 10 (by kernel_rfl)
      have e11 : X 11 = .pointer none := hX 2 11 (by kernel_rfl)
      have e13 : X 13 = .int .u8 a0_1 := hX 2 13 (by kernel_rfl)
      refine goes_ Try.func23 (by kernel_rfl) rfl #[X 11, X 13] (wanted_of rfl rfl (congrArg some e10)) rfl rfl (by simp only [List.map_toArray, List.map_cons, List.map_nil]; rfl) ?_
      refine calls_args (as' := #[.pointer none, .int .u8 a0_1]) (by rw [e11, e13]) ?_
      refine (take_c a0_1 wx).mono ?_
      rintro e w' ⟨rfl, hb⟩
      exact ⟨_, rfl, hK.out _ _ _ rfl hb rfl⟩
    · have e10 : X 10 = .bool true := hX 2 10 (by kernel_rfl)
      have e14 : X 14 = .bool false := hX 2 14 (by kernel_rfl)
      refine val_ (w1 := wx) (v := .bool true) (wanted_of rfl rfl (congrArg some e10)) rfl ?_ (hK.out _ _ _ rfl (Below.refl _ _) rfl)
      go_simp
    · have e10 : X 10 = .bool true := hX 2 10 (by kernel_rfl)
      have e15 : X 15 = .bool true := hX 2 15 (by kernel_rfl)
      refine val_ (w1 := wx) (v := .bool true) (by rfl) rfl ?_ (hK.out _ _ _ rfl (Below.refl _ _) rfl)
      go_simp
    · have e16 : X 16 = .bool true := hX 2 16 (by kernel_rfl)
      refine val_ (w1 := wx) (v := .bool true) (by rfl) rfl ?_ (hK.out _ _ _ rfl (Below.refl _ _) rfl)
      go_simp
    · have e17 : X 17 = .bool true := hX 2 17 (by kernel_rfl)
      refine val_ (w1 := wx) (v := .pointer none) (wanted_of rfl rfl (congrArg some e17)) rfl ?_ (hK.out _ _ _ rfl (Below.refl _ _) rfl)
      go_simp
    · have e17 : X 17 = .bool true := hX 2 17 (by kernel_rfl)
      refine val_ (w1 := wx) (v := .pointer (some ⟨gb, 2, none⟩)) (wanted_of rfl rfl (congrArg some e17)) rfl ?_ (hK.out _ _ _ rfl (Below.refl _ _) rfl)
      go_simp
    · have e17 : X 17 = .bool true := hX 2 17 (by kernel_rfl)
      have e19 : X 19 = .pointer (some ⟨gb, 2, none⟩) := hX 2 19 (by kernel_rfl)
      have z_ : wx.cell? ⟨gb, 2, none⟩ = some (.string a0_2) := (blk_cell (blk_below (blk_drew BK.out) hG) 2).trans rfl
      refine val_ (w1 := wx) (v := .string a0_2) (wanted_of rfl rfl (congrArg some e17)) rfl ?_ (hK.out _ _ _ rfl (Below.refl _ _) rfl)
      go_simp
    · have e17 : X 17 = .bool true := hX 2 17 (by kernel_rfl)
      have e18 : X 18 = .pointer none := hX 2 18 (by kernel_rfl)
      have e20 : X 20 = .string a0_2 := hX 2 20 (by kernel_rfl)
      refine goes_ Try.func24 (by kernel_rfl) rfl #[X 18, X 20] (wanted_of rfl rfl (congrArg some e17)) rfl rfl (by simp only [List.map_toArray, List.map_cons, List.map_nil]; rfl) ?_
      refine calls_args (as' := #[.pointer none, .string a0_2]) (by rw [e18, e20]) ?_
      refine (fold_c a0_2 wx).mono ?_
      rintro e w' ⟨rfl, hb⟩
      exact ⟨_, rfl, hK.out _ _ _ rfl hb rfl⟩
    · have e17 : X 17 = .bool true := hX 2 17 (by kernel_rfl)
      have e21 : X 21 = .bool false := hX 2 21 (by kernel_rfl)
      refine val_ (w1 := wx) (v := .bool true) (wanted_of rfl rfl (congrArg some e17)) rfl ?_ (hK.out _ _ _ rfl (Below.refl _ _) rfl)
      go_simp
    · have e17 : X 17 = .bool true := hX 2 17 (by kernel_rfl)
      have e22 : X 22 = .bool true := hX 2 22 (by kernel_rfl)
      refine val_ (w1 := wx) (v := .bool true) (by rfl) rfl ?_ (hK.out _ _ _ rfl (Below.refl _ _) rfl)
      go_simp
    · have e23 : X 23 = .bool true := hX 2 23 (by kernel_rfl)
      refine val_ (w1 := wx) (v := .bool true) (by rfl) rfl ?_ (hK.out _ _ _ rfl (Below.refl _ _) rfl)
      go_simp
    · have e24 : X 24 = .bool true := hX 2 24 (by kernel_rfl)
      refine val_ (w1 := wx) (v := .pointer none) (wanted_of rfl rfl (congrArg some e24)) rfl ?_ (hK.out _ _ _ rfl (Below.refl _ _) rfl)
      go_simp
    · have e24 : X 24 = .bool true := hX 2 24 (by kernel_rfl)
      refine val_ (w1 := wx) (v := .pointer (some ⟨gb, 2, none⟩)) (wanted_of rfl rfl (congrArg some e24)) rfl ?_ (hK.out _ _ _ rfl (Below.refl _ _) rfl)
      go_simp
    · have e24 : X 24 = .bool true := hX 2 24 (by kernel_rfl)
      have e26 : X 26 = .pointer (some ⟨gb, 2, none⟩) := hX 2 26 (by kernel_rfl)
      have z_ : wx.cell? ⟨gb, 2, none⟩ = some (.string a0_2) := (blk_cell (blk_below (blk_drew BK.out) hG) 2).trans rfl
      refine val_ (w1 := wx) (v := .string a0_2) (wanted_of rfl rfl (congrArg some e24)) rfl ?_ (hK.out _ _ _ rfl (Below.refl _ _) rfl)
      go_simp
    · have e24 : X 24 = .bool true := hX 2 24 (by kernel_rfl)
      have e25 : X 25 = .pointer none := hX 2 25 (by kernel_rfl)
      have e27 : X 27 = .string a0_2 := hX 2 27 (by kernel_rfl)
      refine goes_ Try.func16 (by kernel_rfl) rfl #[X 25, X 27] (wanted_of rfl rfl (congrArg some e24)) rfl rfl (by simp only [List.map_toArray, List.map_cons, List.map_nil]; rfl) ?_
      refine calls_args (as' := #[.pointer none, .string a0_2]) (by rw [e25, e27]) ?_
      refine (run_c a0_2 wx).mono ?_
      rintro e w' ⟨rfl, hb⟩
      exact ⟨_, rfl, hK.out _ _ _ rfl hb rfl⟩
    · have e24 : X 24 = .bool true := hX 2 24 (by kernel_rfl)
      refine val_ (w1 := wx) (v := .pointer none) (wanted_of rfl rfl (congrArg some e24)) rfl ?_ (hK.out _ _ _ rfl (Below.refl _ _) rfl)
      go_simp
    · have e24 : X 24 = .bool true := hX 2 24 (by kernel_rfl)
      refine val_ (w1 := wx) (v := .pointer (some ⟨gb, 1, none⟩)) (wanted_of rfl rfl (congrArg some e24)) rfl ?_ (hK.out _ _ _ rfl (Below.refl _ _) rfl)
      go_simp
    · have e24 : X 24 = .bool true := hX 2 24 (by kernel_rfl)
      have e30 : X 30 = .pointer (some ⟨gb, 1, none⟩) := hX 2 30 (by kernel_rfl)
      have z_ : wx.cell? ⟨gb, 1, none⟩ = some (.int .u8 a0_1) := (blk_cell (blk_below (blk_drew BK.out) hG) 1).trans rfl
      refine val_ (w1 := wx) (v := .int .u8 a0_1) (wanted_of rfl rfl (congrArg some e24)) rfl ?_ (hK.out _ _ _ rfl (Below.refl _ _) rfl)
      go_simp
    · have e24 : X 24 = .bool true := hX 2 24 (by kernel_rfl)
      have e29 : X 29 = .pointer none := hX 2 29 (by kernel_rfl)
      have e31 : X 31 = .int .u8 a0_1 := hX 2 31 (by kernel_rfl)
      refine goes_ Try.func17 (by kernel_rfl) rfl #[X 29, X 31] (wanted_of rfl rfl (congrArg some e24)) rfl rfl (by simp only [List.map_toArray, List.map_cons, List.map_nil]; rfl) ?_
      refine calls_args (as' := #[.pointer none, .int .u8 a0_1]) (by rw [e29, e31]) ?_
      refine (until_c a0_1 wx).mono ?_
      rintro e w' ⟨rfl, hb⟩
      exact ⟨_, rfl, hK.out _ _ _ rfl hb rfl⟩
    · have e24 : X 24 = .bool true := hX 2 24 (by kernel_rfl)
      have e28 : X 28 = .string ByteArray.empty := hX 2 28 (by kernel_rfl)
      have e32 : X 32 = .string ByteArray.empty := hX 2 32 (by kernel_rfl)
      refine val_ (w1 := wx) (v := .string ByteArray.empty) (wanted_of rfl rfl (congrArg some e24)) rfl ?_ (hK.out _ _ _ rfl (Below.refl _ _) rfl)
      go_simp
    · have e24 : X 24 = .bool true := hX 2 24 (by kernel_rfl)
      have e33 : X 33 = .string ByteArray.empty := hX 2 33 (by kernel_rfl)
      refine val_ (w1 := wx) (v := .bool true) (wanted_of rfl rfl (congrArg some e24)) rfl ?_ (hK.out _ _ _ rfl (Below.refl _ _) rfl)
      go_simp
    · have e24 : X 24 = .bool true := hX 2 24 (by kernel_rfl)
      have e34 : X 34 = .bool true := hX 2 34 (by kernel_rfl)
      refine val_ (w1 := wx) (v := .bool true) (by rfl) rfl ?_ (hK.out _ _ _ rfl (Below.refl _ _) rfl)
      go_simp
    · have e35 : X 35 = .bool true := hX 2 35 (by kernel_rfl)
      refine val_ (w1 := wx) (v := .bool true) (by rfl) rfl ?_ (hK.out _ _ _ rfl (Below.refl _ _) rfl)
      go_simp
    · have e36 : X 36 = .bool true := hX 2 36 (by kernel_rfl)
      refine val_ (w1 := wx) (v := .pointer none) (wanted_of rfl rfl (congrArg some e36)) rfl ?_ (hK.out _ _ _ rfl (Below.refl _ _) rfl)
      go_simp
    · have e36 : X 36 = .bool true := hX 2 36 (by kernel_rfl)
      refine val_ (w1 := wx) (v := .pointer (some ⟨gb, 4, none⟩)) (wanted_of rfl rfl (congrArg some e36)) rfl ?_ (hK.out _ _ _ rfl (Below.refl _ _) rfl)
      go_simp
    · have e36 : X 36 = .bool true := hX 2 36 (by kernel_rfl)
      have e38 : X 38 = .pointer (some ⟨gb, 4, none⟩) := hX 2 38 (by kernel_rfl)
      have z_ : wx.cell? ⟨gb, 4, none⟩ = some (.int .i64 a0_4) := (blk_cell (blk_below (blk_drew BK.out) hG) 4).trans rfl
      refine val_ (w1 := wx) (v := .int .i64 a0_4) (wanted_of rfl rfl (congrArg some e36)) rfl ?_ (hK.out _ _ _ rfl (Below.refl _ _) rfl)
      go_simp
    · have e36 : X 36 = .bool true := hX 2 36 (by kernel_rfl)
      refine val_ (w1 := wx) (v := .pointer (some ⟨gb, 5, none⟩)) (wanted_of rfl rfl (congrArg some e36)) rfl ?_ (hK.out _ _ _ rfl (Below.refl _ _) rfl)
      go_simp
    · have e36 : X 36 = .bool true := hX 2 36 (by kernel_rfl)
      have e40 : X 40 = .pointer (some ⟨gb, 5, none⟩) := hX 2 40 (by kernel_rfl)
      have z_ : wx.cell? ⟨gb, 5, none⟩ = some (.int .i64 a0_5) := (blk_cell (blk_below (blk_drew BK.out) hG) 5).trans rfl
      refine val_ (w1 := wx) (v := .int .i64 a0_5) (wanted_of rfl rfl (congrArg some e36)) rfl ?_ (hK.out _ _ _ rfl (Below.refl _ _) rfl)
      go_simp
    · have e36 : X 36 = .bool true := hX 2 36 (by kernel_rfl)
      have e37 : X 37 = .pointer none := hX 2 37 (by kernel_rfl)
      have e39 : X 39 = .int .i64 a0_4 := hX 2 39 (by kernel_rfl)
      have e41 : X 41 = .int .i64 a0_5 := hX 2 41 (by kernel_rfl)
      refine goes_ Try.func25 (by kernel_rfl) rfl #[X 37, X 39, X 41] (wanted_of rfl rfl (congrArg some e36)) rfl rfl (by simp only [List.map_toArray, List.map_cons, List.map_nil]; rfl) ?_
      refine calls_args (as' := #[.pointer none, .int .i64 a0_4, .int .i64 a0_5]) (by rw [e37, e39, e41]) ?_
      refine (figures_c a0_4 a0_5 wx).mono ?_
      rintro e w' ⟨rfl, hb⟩
      exact ⟨_, rfl, hK.out _ _ _ rfl hb rfl⟩
    · have e36 : X 36 = .bool true := hX 2 36 (by kernel_rfl)
      have e42 : X 42 = .int .i64 0 := hX 2 42 (by kernel_rfl)
      refine val_ (w1 := wx) (v := .bool true) (wanted_of rfl rfl (congrArg some e36)) rfl ?_ (hK.out _ _ _ rfl (Below.refl _ _) rfl)
      go_simp
    · have e36 : X 36 = .bool true := hX 2 36 (by kernel_rfl)
      have e43 : X 43 = .bool true := hX 2 43 (by kernel_rfl)
      refine val_ (w1 := wx) (v := .bool true) (by rfl) rfl ?_ (hK.out _ _ _ rfl (Below.refl _ _) rfl)
      go_simp
    · have e44 : X 44 = .bool true := hX 2 44 (by kernel_rfl)
      refine val_ (w1 := wx) (v := .bool true) (by rfl) rfl ?_ (hK.out _ _ _ rfl (Below.refl _ _) rfl)
      go_simp
    · have e45 : X 45 = .bool true := hX 2 45 (by kernel_rfl)
      refine val_ (w1 := wx) (v := .pointer none) (wanted_of rfl rfl (congrArg some e45)) rfl ?_ (hK.out _ _ _ rfl (Below.refl _ _) rfl)
      go_simp
    · have e45 : X 45 = .bool true := hX 2 45 (by kernel_rfl)
      refine val_ (w1 := wx) (v := .pointer (some ⟨gb, 3, none⟩)) (wanted_of rfl rfl (congrArg some e45)) rfl ?_ (hK.out _ _ _ rfl (Below.refl _ _) rfl)
      go_simp
    · have e45 : X 45 = .bool true := hX 2 45 (by kernel_rfl)
      have e47 : X 47 = .pointer (some ⟨gb, 3, none⟩) := hX 2 47 (by kernel_rfl)
      have z_ : wx.cell? ⟨gb, 3, none⟩ = some (.slice A0_3 l0_3.length c0_3) := (blk_cell (blk_below (blk_drew BK.out) hG) 3).trans rfl
      refine val_ (w1 := wx) (v := .slice A0_3 l0_3.length c0_3) (wanted_of rfl rfl (congrArg some e45)) rfl ?_ (hK.out _ _ _ rfl (Below.refl _ _) rfl)
      go_simp
    · have e45 : X 45 = .bool true := hX 2 45 (by kernel_rfl)
      have e46 : X 46 = .pointer none := hX 2 46 (by kernel_rfl)
      have e48 : X 48 = .slice A0_3 l0_3.length c0_3 := hX 2 48 (by kernel_rfl)
      refine goes_ Try.func26 (by kernel_rfl) rfl #[X 46, X 48] (wanted_of rfl rfl (congrArg some e45)) rfl rfl (by simp only [List.map_toArray, List.map_cons, List.map_nil]; rfl) ?_
      refine calls_args (as' := #[.pointer none, .slice A0_3 l0_3.length c0_3]) (by rw [e46, e48]) ?_
      refine (word_c A0_3 c0_3 l0_3 H3.out wx (Kd.C_below HCC.out (Below.trans (below_drew (Below.refl _ _)) hG)) hc0_3).mono ?_
      rintro e w' ⟨rfl, hb⟩
      exact ⟨_, rfl, hK.out _ _ _ rfl hb rfl⟩
    · have e45 : X 45 = .bool true := hX 2 45 (by kernel_rfl)
      have e49 : X 49 = .int .i64 (-1) := hX 2 49 (by kernel_rfl)
      refine val_ (w1 := wx) (v := .bool true) (wanted_of rfl rfl (congrArg some e45)) rfl ?_ (hK.out _ _ _ rfl (Below.refl _ _) rfl)
      go_simp
    · have e45 : X 45 = .bool true := hX 2 45 (by kernel_rfl)
      have e50 : X 50 = .bool true := hX 2 50 (by kernel_rfl)
      refine val_ (w1 := wx) (v := .bool true) (by rfl) rfl ?_ (hK.out _ _ _ rfl (Below.refl _ _) rfl)
      go_simp
    · have e51 : X 51 = .bool true := hX 2 51 (by kernel_rfl)
      refine val_ (w1 := wx) (v := .bool true) (by rfl) rfl ?_ (hK.out _ _ _ rfl (Below.refl _ _) rfl)
      go_simp
    · have e52 : X 52 = .bool true := hX 2 52 (by kernel_rfl)
      refine val_ (w1 := wx) (v := .pointer none) (wanted_of rfl rfl (congrArg some e52)) rfl ?_ (hK.out _ _ _ rfl (Below.refl _ _) rfl)
      go_simp
    · have e52 : X 52 = .bool true := hX 2 52 (by kernel_rfl)
      have e53 : X 53 = .pointer none := hX 2 53 (by kernel_rfl)
      refine goes_ Try.func15 (by kernel_rfl) rfl #[X 53] (wanted_of rfl rfl (congrArg some e52)) rfl rfl (by simp only [List.map_toArray, List.map_cons, List.map_nil]; rfl) ?_
      refine calls_args (as' := #[.pointer none]) (by rw [e53]) ?_
      refine (err_c wx).mono ?_
      rintro e w' ⟨rfl, hb⟩
      exact ⟨_, rfl, hK.out _ _ _ rfl hb rfl⟩
    · have e52 : X 52 = .bool true := hX 2 52 (by kernel_rfl)
      have e54 : X 54 = .iface 50 (.int .i64 8) := hX 2 54 (by kernel_rfl)
      refine goes_ Try.func27 (by kernel_rfl) rfl #[X 54, .int .i64 8] (wanted_of rfl rfl (congrArg some e52)) rfl rfl (by simp only [List.map_toArray, List.map_cons, List.map_nil]; rfl) ?_
      refine calls_args (as' := #[.iface 50 (.int .i64 8), .int .i64 8]) (by rw [e54]) ?_
      refine (is_c wx).mono ?_
      rintro e w' ⟨rfl, hb⟩
      exact ⟨_, rfl, hK.out _ _ _ rfl hb rfl⟩
    · have e52 : X 52 = .bool true := hX 2 52 (by kernel_rfl)
      have e55 : X 55 = .bool true := hX 2 55 (by kernel_rfl)
      refine val_ (w1 := wx) (v := .bool true) (by rfl) rfl ?_ (hK.out _ _ _ rfl (Below.refl _ _) rfl)
      go_simp
    · have e56 : X 56 = .bool true := hX 2 56 (by kernel_rfl)
      refine val_ (w1 := wx) (v := .bool true) (by rfl) rfl ?_ (hK.out _ _ _ rfl (Below.refl _ _) rfl)
      go_simp
    · have e57 : X 57 = .bool true := hX 2 57 (by kernel_rfl)
      refine val_ (w1 := wx) (v := .pointer none) (wanted_of rfl rfl (congrArg some e57)) rfl ?_ (hK.out _ _ _ rfl (Below.refl _ _) rfl)
      go_simp
    · have e57 : X 57 = .bool true := hX 2 57 (by kernel_rfl)
      have e58 : X 58 = .pointer none := hX 2 58 (by kernel_rfl)
      refine goes_ Try.func28 (by kernel_rfl) rfl #[X 58] (wanted_of rfl rfl (congrArg some e57)) rfl rfl (by simp only [List.map_toArray, List.map_cons, List.map_nil]; rfl) ?_
      refine calls_args (as' := #[.pointer none]) (by rw [e58]) ?_
      refine (end_c wx).mono ?_
      rintro e w' ⟨rfl, hb⟩
      exact ⟨_, rfl, hK.out _ _ _ rfl hb rfl⟩
    · have e57 : X 57 = .bool true := hX 2 57 (by kernel_rfl)
      have e59 : X 59 = .iface 50 (.int .i64 8) := hX 2 59 (by kernel_rfl)
      refine goes_ Try.func27 (by kernel_rfl) rfl #[X 59, .int .i64 8] (wanted_of rfl rfl (congrArg some e57)) rfl rfl (by simp only [List.map_toArray, List.map_cons, List.map_nil]; rfl) ?_
      refine calls_args (as' := #[.iface 50 (.int .i64 8), .int .i64 8]) (by rw [e59]) ?_
      refine (is_c wx).mono ?_
      rintro e w' ⟨rfl, hb⟩
      exact ⟨_, rfl, hK.out _ _ _ rfl hb rfl⟩
    · have e57 : X 57 = .bool true := hX 2 57 (by kernel_rfl)
      have e60 : X 60 = .bool true := hX 2 60 (by kernel_rfl)
      refine val_ (w1 := wx) (v := .bool true) (by rfl) rfl ?_ (hK.out _ _ _ rfl (Below.refl _ _) rfl)
      go_simp
    · have e61 : X 61 = .bool true := hX 2 61 (by kernel_rfl)
      refine val_ (w1 := wx) (v := .bool true) (by rfl) rfl ?_ (hK.out _ _ _ rfl (Below.refl _ _) rfl)
      go_simp
    intro X wx hG hX
    refine tail_done (by kernel_rfl) ?_
    have e62 : X 62 = .bool true := hX 62 (by decide)
    have HBX := Aside0.mk (below_step HB.out hG)
    rw [e62]
    clear hG hX e62
    go_wp2
    go_ret
    exact ⟨rfl, HBX.out⟩
end Go.Proofs.Ytonjfggfcnpgbaa.MScanNil
