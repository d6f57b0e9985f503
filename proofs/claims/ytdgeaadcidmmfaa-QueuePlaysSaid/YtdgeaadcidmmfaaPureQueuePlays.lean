/-
  QueuePlays: any two queues answer as the document says behind any acts. For all rooms and every script; no further condition.
-/
import Derived.Test.YtdgeaadcidmmfaaQPlaysAct02
import Derived.Test.YtdgeaadcidmmfaaQPlaysAct03
import Derived.Test.YtdgeaadcidmmfaaQPlaysAct04
import Derived.Test.YtdgeaadcidmmfaaQPlaysAct05
import Derived.Test.YtdgeaadcidmmfaaQPlaysAct06
import Derived.Test.YtdgeaadcidmmfaaQPlaysAct0p
import Derived.Test.YtdgeaadcidmmfaaQPlaysAct12
import Derived.Test.YtdgeaadcidmmfaaQPlaysAct13
import Derived.Test.YtdgeaadcidmmfaaQPlaysAct14
import Derived.Test.YtdgeaadcidmmfaaQPlaysAct15
import Derived.Test.YtdgeaadcidmmfaaQPlaysAct16
import Derived.Test.YtdgeaadcidmmfaaQPlaysAct1p
namespace Go.Proofs.Ytdgeaadcidmmfaa
set_option linter.unusedVariables false
set_option linter.unusedSimpArgs false
open Go.Conc Go.RowKit Go.Proofs.YtdgeaadcidmmfaaW.PrintWords Go.Proofs.YtdgeaadcidmmfaaW.PrintLast Go.Proofs.YtdgeaadcidmmfaaW.PrintMore Go.Proofs.Ytdgeaadcidmmfaa.MQueuePlays
theorem info3 : ∃ j, Try.prog.info? 3 = some j ∧ j.size = 1 := by
  have h : ((Try.prog.info? 3).map (·.size)).any (fun n => n == 1) = true := by kernel_rfl
  obtain ⟨b, hb, hh⟩ := Option.any_eq_true _ _ |>.mp h
  obtain ⟨i, hi, rfl⟩ := Option.map_eq_some_iff.1 hb
  exact ⟨i, hi, by simpa using hh⟩
theorem idx0 (r0 r1 : Int) (W : World) : (Instr.index 34 (.agg #[.int .i64 r0, .int .i64 r1]) (.int .i64 0)).run Try.prog W = .ok (.int .i64 r0) W := by
  obtain ⟨j, hj, hs⟩ := info3
  simp [Instr.index, run_underlying Try.underlying34, asIntOf, sizeOf, typeInfo, hj, hs, go_sem]
  try rfl
theorem idx1 (r0 r1 : Int) (W : World) : (Instr.index 34 (.agg #[.int .i64 r0, .int .i64 r1]) (.int .i64 1)).run Try.prog W = .ok (.int .i64 r1) W := by
  obtain ⟨j, hj, hs⟩ := info3
  simp [Instr.index, run_underlying Try.underlying34, asIntOf, sizeOf, typeInfo, hj, hs, go_sem]
  try rfl
theorem nextw {k n : Nat} (h : k < n) (hn : n ≤ 9223372036854775807) : wrap64 ((k : Int) + 1) = ((k + 1 : Nat) : Int) := by unfold wrap64; omega
theorem measw {k n : Nat} (h : k < n) : n - (k + 1) < n - k := by omega
theorem measv {n k : Nat} {v : Value} (e : v = .int .i64 ((k + 1 : Nat) : Int)) (h : k < n) : n - (intOf v).toNat < n - (intOf (.int .i64 (k : Int))).toNat := by
  subst e
  exact measw h
theorem alive_p (w : World) : Calls Try.prog 6 #[] w fun e w' => e = .returned (.bool true) ∧ Below w.heap.size w w' := by
  go_enter Try.func6, Try.ntmps6
  go_wp2_with (fail)
  refine (new_ok_str 1 w (by decide) (by decide)).mono ?_
  rintro e w1 ⟨g, c, rfl, H, hg, hc, hb⟩
  have B1 := Aside0.mk hb
  have C1 := Aside0.mk hc
  have H1 := Aside0.mk H
  clear hb H hg hc
  go_wp2_with (fail)
  refine (put_room_str w1 g c 1 [] 0 0 ⟨#[97]⟩ H1.out (by decide)).mono ?_
  rintro e w2 ⟨rfl, hw⟩
  have H2 := Aside0.mk (show QAt 64 w2 g c 1 [.string ⟨#[97]⟩] 1 0 from hw ▸ H1.out.set _ _ _)
  have B2 := Aside0.mk (show Below w.heap.size w w2 from hw ▸ below_setChan B1.out C1.out _ _ _ _ _ _)
  clear hw H1 B1
  go_wp2_with (fail)
  refine (put_full_str w2 g c 1 _ 1 0 ⟨#[98]⟩ H2.out (by decide)).mono ?_
  rintro e w3 ⟨rfl, rfl⟩
  go_wp2_with (fail)
  refine (take_some_str w3 g c 1 [] 1 0 ⟨#[97]⟩ H2.out).mono ?_
  rintro e w4 ⟨rfl, hw⟩
  have H3 := Aside0.mk (show QAt 64 w4 g c 1 [] 1 1 from hw ▸ H2.out.set _ _ _)
  have B3 := Aside0.mk (show Below w.heap.size w w4 from hw ▸ below_setChan B2.out C1.out _ _ _ _ _ _)
  clear hw H2 B2
  go_wp2_with (fail)
  refine (len_is_str w4 g c 1 [] 1 1 H3.out).mono ?_
  rintro e w5 ⟨rfl, rfl⟩
  go_wp2
  go_ret
  exact ⟨rfl, B3.out⟩
open Go.Proofs.Ytdgeaadcidmmfaa.Base in
theorem long_l0 (x0 : List S48) (x6 : Int) : ∀ (ys pre : List S48), (pre ++ ys).length ≤ 9223372036854775807 → ∃ b, Ev (fun k => horologelaw33_long.l0 k x0 (pre ++ ys) ((pre ++ ys).length : Int) (pre.length : Int)) b
  | [], pre, _ => by
    refine ⟨decide ((x0.length : Int) > 100), Ev.up ?_⟩
    simp only [horologelaw33_long.l0]
    exact Ev.neg (by simp) (Ev.now _)
  | y :: ys, pre, h => by
    have hlt : pre.length < (pre ++ y :: ys).length := by simp only [List.length_append, List.length_cons]; omega
    obtain ⟨b, hb⟩ := long_l0 x0 x6 ys (pre ++ [y]) (by simpa using h)
    have hn : wrap64 ((pre.length : Int) + 1) = ((pre.length + 1 : Nat) : Int) := by unfold wrap64; omega
    by_cases c : (((rd_T48 (pre ++ y :: ys) (pre.length : Int)).f2).size : Int) > 60
    · refine ⟨true, Ev.up ?_⟩
      simp only [horologelaw33_long.l0]
      exact Ev.pos (Int.ofNat_lt.2 hlt) (Ev.pos (Int.natCast_nonneg _) (Ev.pos (Int.ofNat_lt.2 hlt) (Ev.pos c (Ev.now _))))
    · refine ⟨b, Ev.up ?_⟩
      simp only [horologelaw33_long.l0]
      refine Ev.pos (Int.ofNat_lt.2 hlt) (Ev.pos (Int.natCast_nonneg _) (Ev.pos (Int.ofNat_lt.2 hlt) (Ev.neg c ?_)))
      rw [hn, show pre ++ y :: ys = (pre ++ [y]) ++ ys by simp, show pre.length + 1 = (pre ++ [y]).length by simp]
      exact hb
theorem long_c (w : World) (A : Option Addr) (c : Nat) (l : List S48) (hr : Kd.C k48 w A l.length l) (hc : l.length ≤ c) : ∃ b, Calls Try.prog 11 #[.slice A l.length c] w fun e w' => e = .returned (.bool b) ∧ Below w.heap.size w w' := by
  obtain ⟨b, hb⟩ := long_l0 l 0 l [] (by have := Kd.C_max hr; simpa using this)
  obtain ⟨k, hk⟩ := Base.Ev.ok hb
  exact ⟨b, horologelaw33_long.calls k A c l b w hr hc hk⟩
/-- What stays of the law's own world. -/
structure Made (w0 : World) (b5 b6 : Nat) (v5 v6 : Array Value) (w : World) : Prop where
  B : Below w0.heap.size w0 w
  e5 : w.heap[b5]? = some (.cells v5 38 (0, 0))
  e6 : w.heap[b6]? = some (.cells v6 42 (0, 0))
  o5 : w0.heap.size ≤ b5
  o6 : w0.heap.size ≤ b6
section
variable {w0 w w' : World} {b5 b6 : Nat} {v5 v6 : Array Value}
theorem Made.ne (M : Made w0 b5 b6 v5 v6 w) : b5 ≠ b6 := blk_ne M.e5 M.e6 (by simp)
theorem Made.below (M : Made w0 b5 b6 v5 v6 w) (hb : Below w.heap.size w w') : Made w0 b5 b6 v5 v6 w' := ⟨below_step M.B hb, blk_below M.e5 hb, blk_below M.e6 hb, M.o5, M.o6⟩
theorem Made.set5 (M : Made w0 b5 b6 v5 v6 w) (j : Nat) (u : Value) : Made w0 b5 b6 (v5.setIfInBounds j u) v6 (w.setCell ⟨b5, j, none⟩ u) := ⟨below_set M.B M.o5, blk_set M.e5 j u, (Below.heap_setCell _ _ _ _ (fun e => M.ne e.symm)).trans M.e6, M.o5, M.o6⟩
theorem Made.set6 (M : Made w0 b5 b6 v5 v6 w) (j : Nat) (u : Value) : Made w0 b5 b6 v5 (v6.setIfInBounds j u) (w.setCell ⟨b6, j, none⟩ u) := ⟨below_set M.B M.o6, (Below.heap_setCell _ _ _ _ M.ne).trans M.e5, blk_set M.e6 j u, M.o5, M.o6⟩
theorem keeps1 {S : Nat → Prop} (hS : ∀ j, S j → ∃ cap b a s r t, w.heap[j]? = some (.chan cap b a s r t)) (hk : Kept w w' S) {g : Nat} {cs : Array Value} {t : TypeId} (hg : w.heap[g]? = some (.cells cs t (0, 0))) : w'.heap[g]? = some (.cells cs t (0, 0)) := blk_kept hg hk (fun hs => by
    obtain ⟨cap, b, a, s, r, t, hc⟩ := hS g hs
    rw [hg] at hc
    cases hc)
theorem Made.call {S : Nat → Prop} (M : Made w0 b5 b6 v5 v6 w) (hS : ∀ j, S j → ∃ cap b a s r t, w.heap[j]? = some (.chan cap b a s r t)) (hn : ∀ j, S j → w0.heap.size ≤ j) (hk : Kept w w' S) : Made w0 b5 b6 v5 v6 w' := ⟨Kept.new M.B hk hn (Nat.le_refl _), keeps1 hS hk M.e5, keeps1 hS hk M.e6, M.o5, M.o6⟩
theorem QL.cells {g c cap : Nat} {l : List ByteArray} (q : QL w g c cap l) {b : Nat} {cs : Array Value} {t : TypeId} (hb : w.heap[b]? = some (.cells cs t (0, 0))) (ht : t ≠ 64) (j : Nat) (u : Value) : QL (w.setCell ⟨b, j, none⟩ u) g c cap l := by
  obtain ⟨cap', b', a, s, r, t', hc⟩ := q.chan
  exact q.kept (Kept.setCell (S := fun k => k = b) (p := ⟨b, j, none⟩) (Kept.refl _ _) (.inl rfl) u) (blk_ne q.box hb (by simp; exact fun _ e => ht e.symm)) (blk_ne hc hb (by simp))
theorem QL.cells4 {g c cap : Nat} {l : List ByteArray} (q : QL w g c cap l) (hb : w.heap[b6]? = some (.cells v6 42 (0, 0))) (u0 u1 u2 u3 : Value) : QL (put4 w b6 u0 u1 u2 u3) g c cap l :=
  (((q.cells hb (by decide) 0 u0).cells (blk_set hb 0 u0) (by decide) 1 u1).cells (blk_set (blk_set hb 0 u0) 1 u1) (by decide) 2 u2).cells (blk_set (blk_set (blk_set hb 0 u0) 1 u1) 2 u2) (by decide) 3 u3
theorem SR.p4 {A : Option Addr} {c : Nat} {l : List ByteArray} (h : SR w A c l) (p0 : Option Addr) (q0 r0 : Nat) (s0 : Int) (p1 : Option Addr) (q1 r1 : Nat) (s1 : Int) (hb : w.heap[b6]? = some (.cells #[.slice p0 q0 r0, .int .i64 s0, .slice p1 q1 r1, .int .i64 s1] 42 (0, 0))) (a : Option Addr) (n m : Nat) (i : Int) (b : Option Addr) (p q : Nat) (j : Int) : SR (put4 w b6 (.slice a n m) (.int .i64 i) (.slice b p q) (.int .i64 j)) A c l :=
  (((h.set hb (nos4 _ _ _ _ _ _ _ _) 0 _).set (blk_set hb 0 _) (nos4 a n m s0 p1 q1 r1 s1) 1 _).set (blk_set (blk_set hb 0 _) 1 _) (nos4 a n m i p1 q1 r1 s1) 2 _).set (blk_set (blk_set (blk_set hb 0 _) 1 _) 2 _) (nos4 a n m i b p q s1) 3 _
theorem Made.put4 {u0' u1' u2' u3' : Value} (M : Made w0 b5 b6 v5 #[u0', u1', u2', u3'] w) (u0 u1 u2 u3 : Value) : Made w0 b5 b6 v5 #[u0, u1, u2, u3] (put4 w b6 u0 u1 u2 u3) := (((M.set6 0 u0).set6 1 u1).set6 2 u2).set6 3 u3
end
theorem made_start {w w2 : World} (B : Below w.heap.size w w2) : Made w w2.heap.size (w2.heap.size + 1) #[.pointer none, .pointer none] #[.slice none 0 0, .int .i64 0, .slice none 0 0, .int .i64 0] ((w2.alloc (.cells #[.pointer none, .pointer none] 38 (0, 0))).alloc (.cells #[.slice none 0 0, .int .i64 0, .slice none 0 0, .int .i64 0] 42 (0, 0))) := by
  have hs := below_size B
  refine ⟨below_alloc (below_alloc B _) _, blk_below (blk_new w2 _) (below_alloc (Below.refl _ _) _), ?_, hs, by omega⟩
  have h := blk_new (w2.alloc (.cells #[.pointer none, .pointer none] 38 (0, 0))) (.cells #[.slice none 0 0, .int .i64 0, .slice none 0 0, .int .i64 0] 42 (0, 0))
  rw [World.size_alloc] at h
  exact h
theorem act_c (w : World) (g0 c0 cap0 g1 c1 cap1 : Nat) (l0 l1 : List ByteArray) (A0 : Option Addr) (n0 : Nat) (A1 : Option Addr) (n1 : Nat) (kind : Int) (other : Bool) (text : ByteArray) (F : Far g0 c0 cap0 g1 c1 cap1) (hq0 : QL w g0 c0 cap0 l0) (hq1 : QL w g1 c1 cap1 l1) (hs0 : SR w A0 n0 l0) (hs1 : SR w A1 n1 l1) (hl : l0.length ≤ cap0 ∧ l1.length ≤ cap1) :
    Calls Try.prog 14 #[.agg #[.pointer (some ⟨g0, 0, none⟩), .pointer (some ⟨g1, 0, none⟩)], .agg #[.slice A0 l0.length n0, .int .i64 cap0, .slice A1 l1.length n1, .int .i64 cap1], .agg #[.int .i64 kind, .bool other, .string text]] w fun e w' => ∃ y0 y1 A0' n0' A1' n1', e = .returned (.tuple #[.agg #[.slice A0' (y0 : List ByteArray).length n0', .int .i64 cap0, .slice A1' (y1 : List ByteArray).length n1', .int .i64 cap1], .bool true]) ∧ QL w' g0 c0 cap0 y0 ∧ QL w' g1 c1 cap1 y1 ∧ SR w' A0' n0' y0 ∧ SR w' A1' n1' y1 ∧ (y0.length ≤ cap0 ∧ y1.length ≤ cap1) ∧ Kept w w' (fun k => k = c0 ∨ k = c1) := by
  by_cases k2 : (IntKind.u64.wrap kind).tmod 7 = 2
  · cases other with
    | false => exact act_02 w g0 c0 cap0 g1 c1 cap1 l0 l1 A0 n0 A1 n1 kind text F hq0 hq1 hs0 hs1 hl k2
    | true => exact act_12 w g0 c0 cap0 g1 c1 cap1 l0 l1 A0 n0 A1 n1 kind text F hq0 hq1 hs0 hs1 hl k2
  by_cases k3 : (IntKind.u64.wrap kind).tmod 7 = 3
  · cases other with
    | false => exact act_03 w g0 c0 cap0 g1 c1 cap1 l0 l1 A0 n0 A1 n1 kind text F hq0 hq1 hs0 hs1 hl k3
    | true => exact act_13 w g0 c0 cap0 g1 c1 cap1 l0 l1 A0 n0 A1 n1 kind text F hq0 hq1 hs0 hs1 hl k3
  by_cases k4 : (IntKind.u64.wrap kind).tmod 7 = 4
  · cases other with
    | false => exact act_04 w g0 c0 cap0 g1 c1 cap1 l0 l1 A0 n0 A1 n1 kind text F hq0 hq1 hs0 hs1 hl k4
    | true => exact act_14 w g0 c0 cap0 g1 c1 cap1 l0 l1 A0 n0 A1 n1 kind text F hq0 hq1 hs0 hs1 hl k4
  by_cases k5 : (IntKind.u64.wrap kind).tmod 7 = 5
  · cases other with
    | false => exact act_05 w g0 c0 cap0 g1 c1 cap1 l0 l1 A0 n0 A1 n1 kind text F hq0 hq1 hs0 hs1 hl k5
    | true => exact act_15 w g0 c0 cap0 g1 c1 cap1 l0 l1 A0 n0 A1 n1 kind text F hq0 hq1 hs0 hs1 hl k5
  by_cases k6 : (IntKind.u64.wrap kind).tmod 7 = 6
  · cases other with
    | false => exact act_06 w g0 c0 cap0 g1 c1 cap1 l0 l1 A0 n0 A1 n1 kind text F hq0 hq1 hs0 hs1 hl k6
    | true => exact act_16 w g0 c0 cap0 g1 c1 cap1 l0 l1 A0 n0 A1 n1 kind text F hq0 hq1 hs0 hs1 hl k6
  cases other with
  | false => exact act_0p w g0 c0 cap0 g1 c1 cap1 l0 l1 A0 n0 A1 n1 kind text F hq0 hq1 hs0 hs1 hl ⟨k2, k3, k4, k5, k6⟩
  | true => exact act_1p w g0 c0 cap0 g1 c1 cap1 l0 l1 A0 n0 A1 n1 kind text F hq0 hq1 hs0 hs1 hl ⟨k2, k3, k4, k5, k6⟩
set_option maxHeartbeats 16000000 in
set_option maxRecDepth 100000 in
theorem plays_walk (r0 r1 : Int) (A : Option Addr) (c : Nat) (l : List S48) (w : World) (hl : Kd.C k48 w A l.length l) (hc : l.length ≤ c) :
    Calls Try.prog 4 #[.agg #[.int .i64 r0, .int .i64 r1], .slice A l.length c] w fun e w' => e = .returned (.bool true) ∧ Below w.heap.size w w' := by
  have HL := Aside0.mk hl
  have HCC := Aside0.mk hc
  clear hl hc
  go_enter Try.func4, Try.ntmps4
  go_wp2_with (first | (go_at_call 6; refine (alive_p _).mono ?_; rintro e w1 ⟨rfl, hb⟩; have B1 := Aside0.mk (below_step (below_alloc (Below.refl w.heap.size w) (.cells #[.int .i64 r0, .int .i64 r1] 34 (0, 0))) hb); have K1 := Aside0.mk (blk_below (blk_new w (.cells #[.int .i64 r0, .int .i64 r1] 34 (0, 0))) hb); clear hb) | fail)
  obtain ⟨b, hlong⟩ := long_c w1 A c l (Kd.C_below HL.out B1.out) HCC.out
  refine hlong.mono ?_
  rintro e w2 ⟨rfl, hb⟩
  have B2 := Aside0.mk (below_step B1.out hb)
  have K2 := Aside0.mk (blk_below K1.out hb)
  clear hlong hb B1 K1
  cases b with
  | true =>
    go_wp2
    go_ret
    exact ⟨rfl, B2.out⟩
  | false =>
  have M0 := Aside0.mk (show Made w w2.heap.size (w2.heap.size + 1) #[.pointer none, .pointer none] #[.slice none 0 0, .int .i64 0, .slice none 0 0, .int .i64 0] ((w2.alloc (.cells #[.pointer none, .pointer none] 38 (0, 0))).alloc (.cells #[.slice none 0 0, .int .i64 0, .slice none 0 0, .int .i64 0] 42 (0, 0))) from made_start B2.out)
  have K3 := Aside0.mk (blk_below (blk_below K2.out (below_alloc (Below.refl _ _) (.cells #[.pointer none, .pointer none] 38 (0, 0)))) (below_alloc (Below.refl _ _) (.cells #[.slice none 0 0, .int .i64 0, .slice none 0 0, .int .i64 0] 42 (0, 0))))
  have k30 := (blk_cell K3.out 0).trans rfl
  have k31 := (blk_cell K3.out 1).trans rfl
  clear K3 K2 B2
  go_wp2_with (fail)
  clear k30 k31
  generalize (w2.alloc (.cells #[.pointer none, .pointer none] 38 (0, 0))).alloc (.cells #[.slice none 0 0, .int .i64 0, .slice none 0 0, .int .i64 0] 42 (0, 0)) = W1 at M0 ⊢
  generalize w2.heap.size + 1 = b6 at M0 ⊢
  generalize w2.heap.size = b5 at M0 ⊢
  go_loopw [20] (fun i wr => (i = .int .i64 0 ∧ Aside0 (Made w b5 b6 #[.pointer none, .pointer none] #[.slice none 0 0, .int .i64 0, .slice none 0 0, .int .i64 0] wr)) ∨ (∃ g0 c0 cap0 : Nat, i = .int .i64 1 ∧ Aside0 (Made w b5 b6 #[.pointer (some ⟨g0, 0, none⟩), .pointer none] #[.slice none 0 0, .int .i64 cap0, .slice none 0 0, .int .i64 0] wr) ∧ Aside0 (QL wr g0 c0 cap0 [] ∧ w.heap.size ≤ g0 ∧ w.heap.size ≤ c0 ∧ cap0 ≤ 64)) ∨ (∃ g0 c0 cap0 g1 c1 cap1 : Nat, i = .int .i64 2 ∧ Aside0 (Made w b5 b6 #[.pointer (some ⟨g0, 0, none⟩), .pointer (some ⟨g1, 0, none⟩)] #[.slice none 0 0, .int .i64 cap0, .slice none 0 0, .int .i64 cap1] wr) ∧ Aside0 (QL wr g0 c0 cap0 [] ∧ QL wr g1 c1 cap1 [] ∧ w.heap.size ≤ c0 ∧ w.heap.size ≤ c1 ∧ Far g0 c0 cap0 g1 c1 cap1))) (fun i _ => 2 - (intOf i).toNat)
  case atStart => exact .inl ⟨rfl, M0⟩
  case round =>
    clear M0
    obtain ⟨rfl, M⟩ | ⟨g0, c0, cap0, rfl, M, Q⟩ | ⟨g0, c0, cap0, g1, c1, cap1, rfl, M, Q⟩ := hrel
    · have hix := idx0 r0 r1
      have z0 := (blk_cell M.out.e5 0).trans rfl
      have z1 := (blk_cell M.out.e5 1).trans rfl
      have y0 := (blk_cell M.out.e6 0).trans rfl
      have fy0 := blk_frozen M.out.e6 0
      have y1 := (blk_cell M.out.e6 1).trans rfl
      have fy1 := blk_frozen M.out.e6 1
      have y2 := (blk_cell M.out.e6 2).trans rfl
      have fy2 := blk_frozen M.out.e6 2
      have y3 := (blk_cell M.out.e6 3).trans rfl
      have fy3 := blk_frozen M.out.e6 3
      have f0 := blk_frozen M.out.e5 0
      have f1 := blk_frozen M.out.e5 1
      have n1 : b5 ≠ b6 := M.out.ne
      have n2 : b6 ≠ b5 := fun e_ => n1 e_.symm
      by_cases h1 : r0 < 1
      · have HBAD := Aside0.mk (show r0 < 1 ∨ 64 < r0 from .inl h1)
        have d1 : decide (r0 < 1) = true := decide_eq_true h1
        clear h1
        go_wp2_with (first | (go_at_call 12; refine (new_bad_str _ _ HBAD.out).mono ?_; rintro e w3 ⟨rfl, rfl⟩) | (go_at_call 13; refine (is_c _).mono ?_; rintro e w4 ⟨rfl, rfl⟩) | fail)
        go_ret
        exact ⟨rfl, M.out.B⟩
      have d1 : decide (r0 < 1) = false := decide_eq_false h1
      by_cases h2 : 64 < r0
      · have HBAD := Aside0.mk (show r0 < 1 ∨ 64 < r0 from .inr h2)
        have d2 : decide (64 < r0) = true := decide_eq_true h2
        clear h1 h2
        go_wp2_with (first | (go_at_call 12; refine (new_bad_str _ _ HBAD.out).mono ?_; rintro e w3 ⟨rfl, rfl⟩) | (go_at_call 13; refine (is_c _).mono ?_; rintro e w4 ⟨rfl, rfl⟩) | fail)
        go_ret
        exact ⟨rfl, M.out.B⟩
      have d2 : decide (64 < r0) = false := decide_eq_false h2
      obtain ⟨cap0, hcap⟩ : ∃ n : Nat, r0 = (n : Int) := ⟨r0.toNat, by omega⟩
      have HOK : Aside0 (1 ≤ r0 ∧ r0 ≤ 64) := ⟨by omega⟩
      have HC : Aside0 (cap0 ≤ 64 ∧ r0.toNat = cap0) := ⟨by omega⟩
      have HCAP := Aside0.mk hcap
      clear h1 h2 hcap
      go_wp2_with (first | (go_at_call 12; refine (new_ok_str r0 _ HOK.out.1 HOK.out.2).mono ?_; rintro e w3 ⟨g0, c0, rfl, hq, hg, hcc, hb⟩; rw [HC.out.2] at hq; have LB := Aside0.mk (below_size M.out.B); have QN := Aside0.mk (show QL w3 g0 c0 cap0 [] from ⟨0, 0, hq⟩); have HG := Aside0.mk (And.intro hg hcc); have M := Aside0.mk (M.out.below hb); clear hq hg hcc hb; have z0 := (blk_cell M.out.e5 0).trans rfl; have z1 := (blk_cell M.out.e5 1).trans rfl; have y0 := (blk_cell M.out.e6 0).trans rfl; have fy0 := blk_frozen M.out.e6 0; have y1 := (blk_cell M.out.e6 1).trans rfl; have fy1 := blk_frozen M.out.e6 1; have y2 := (blk_cell M.out.e6 2).trans rfl; have fy2 := blk_frozen M.out.e6 2; have y3 := (blk_cell M.out.e6 3).trans rfl; have fy3 := blk_frozen M.out.e6 3; have f0 := blk_frozen M.out.e5 0; have f1 := blk_frozen M.out.e5 1; have n1 : b5 ≠ b6 := M.out.ne; have n2 : b6 ≠ b5 := fun e_ => n1 e_.symm) | fail)
      have hcap := HCAP.out
      clear d1 d2
      subst hcap
      go_roundw
      case measure => simp [intOf]
      case rel => exact .inr (.inl ⟨g0, c0, cap0, by first | rfl | go_num, ⟨((M.out.set5 0 (.pointer (some ⟨g0, 0, none⟩))).set6 0 (.slice none 0 0)).set6 1 (.int .i64 cap0)⟩, ⟨((QN.out.cells M.out.e5 (by decide) 0 (.pointer (some ⟨g0, 0, none⟩))).cells (M.out.set5 0 (.pointer (some ⟨g0, 0, none⟩))).e6 (by decide) 0 (.slice none 0 0)).cells ((M.out.set5 0 (.pointer (some ⟨g0, 0, none⟩))).set6 0 (.slice none 0 0)).e6 (by decide) 1 (.int .i64 cap0), Nat.le_trans LB.out HG.out.1, Nat.le_trans LB.out HG.out.2, HC.out.1⟩⟩)
    · have hix := idx1 r0 r1
      have z0 := (blk_cell M.out.e5 0).trans rfl
      have z1 := (blk_cell M.out.e5 1).trans rfl
      have y0 := (blk_cell M.out.e6 0).trans rfl
      have fy0 := blk_frozen M.out.e6 0
      have y1 := (blk_cell M.out.e6 1).trans rfl
      have fy1 := blk_frozen M.out.e6 1
      have y2 := (blk_cell M.out.e6 2).trans rfl
      have fy2 := blk_frozen M.out.e6 2
      have y3 := (blk_cell M.out.e6 3).trans rfl
      have fy3 := blk_frozen M.out.e6 3
      have f0 := blk_frozen M.out.e5 0
      have f1 := blk_frozen M.out.e5 1
      have n1 : b5 ≠ b6 := M.out.ne
      have n2 : b6 ≠ b5 := fun e_ => n1 e_.symm
      by_cases h1 : r1 < 1
      · have HBAD := Aside0.mk (show r1 < 1 ∨ 64 < r1 from .inl h1)
        have d1 : decide (r1 < 1) = true := decide_eq_true h1
        clear h1
        go_wp2_with (first | (go_at_call 12; refine (new_bad_str _ _ HBAD.out).mono ?_; rintro e w3 ⟨rfl, rfl⟩) | (go_at_call 13; refine (is_c _).mono ?_; rintro e w4 ⟨rfl, rfl⟩) | fail)
        go_ret
        exact ⟨rfl, M.out.B⟩
      have d1 : decide (r1 < 1) = false := decide_eq_false h1
      by_cases h2 : 64 < r1
      · have HBAD := Aside0.mk (show r1 < 1 ∨ 64 < r1 from .inr h2)
        have d2 : decide (64 < r1) = true := decide_eq_true h2
        clear h1 h2
        go_wp2_with (first | (go_at_call 12; refine (new_bad_str _ _ HBAD.out).mono ?_; rintro e w3 ⟨rfl, rfl⟩) | (go_at_call 13; refine (is_c _).mono ?_; rintro e w4 ⟨rfl, rfl⟩) | fail)
        go_ret
        exact ⟨rfl, M.out.B⟩
      have d2 : decide (64 < r1) = false := decide_eq_false h2
      obtain ⟨cap1, hcap⟩ : ∃ n : Nat, r1 = (n : Int) := ⟨r1.toNat, by omega⟩
      have HOK : Aside0 (1 ≤ r1 ∧ r1 ≤ 64) := ⟨by omega⟩
      have HC : Aside0 (cap1 ≤ 64 ∧ r1.toNat = cap1) := ⟨by omega⟩
      have HCAP := Aside0.mk hcap
      clear h1 h2 hcap
      go_wp2_with (first | (go_at_call 12; refine (new_ok_str r1 _ HOK.out.1 HOK.out.2).mono ?_; rintro e w3 ⟨g1, c1, rfl, hq, hg, hcc, hb⟩; rw [HC.out.2] at hq; have LB := Aside0.mk (below_size M.out.B); have QN := Aside0.mk (show QL w3 g1 c1 cap1 [] from ⟨0, 0, hq⟩); have HG := Aside0.mk (And.intro hg hcc); have Q0 := Aside0.mk (Q.out.1.kept (Kept.of_below hb (fun _ => False)) (fun h => h) (fun h => h)); have LT := Aside0.mk Q.out.1.lt; have M := Aside0.mk (M.out.below hb); clear hq hg hcc hb; have z0 := (blk_cell M.out.e5 0).trans rfl; have z1 := (blk_cell M.out.e5 1).trans rfl; have y0 := (blk_cell M.out.e6 0).trans rfl; have fy0 := blk_frozen M.out.e6 0; have y1 := (blk_cell M.out.e6 1).trans rfl; have fy1 := blk_frozen M.out.e6 1; have y2 := (blk_cell M.out.e6 2).trans rfl; have fy2 := blk_frozen M.out.e6 2; have y3 := (blk_cell M.out.e6 3).trans rfl; have fy3 := blk_frozen M.out.e6 3; have f0 := blk_frozen M.out.e5 0; have f1 := blk_frozen M.out.e5 1; have n1 : b5 ≠ b6 := M.out.ne; have n2 : b6 ≠ b5 := fun e_ => n1 e_.symm) | fail)
      have hcap := HCAP.out
      clear d1 d2
      subst hcap
      go_roundw
      case measure => simp [intOf]
      case rel => exact .inr (.inr ⟨g0, c0, cap0, g1, c1, cap1, by first | rfl | go_num, ⟨((M.out.set5 1 (.pointer (some ⟨g1, 0, none⟩))).set6 2 (.slice none 0 0)).set6 3 (.int .i64 cap1)⟩, ⟨((Q0.out.cells M.out.e5 (by decide) 1 (.pointer (some ⟨g1, 0, none⟩))).cells (M.out.set5 1 (.pointer (some ⟨g1, 0, none⟩))).e6 (by decide) 2 (.slice none 0 0)).cells ((M.out.set5 1 (.pointer (some ⟨g1, 0, none⟩))).set6 2 (.slice none 0 0)).e6 (by decide) 3 (.int .i64 cap1), ((QN.out.cells M.out.e5 (by decide) 1 (.pointer (some ⟨g1, 0, none⟩))).cells (M.out.set5 1 (.pointer (some ⟨g1, 0, none⟩))).e6 (by decide) 2 (.slice none 0 0)).cells ((M.out.set5 1 (.pointer (some ⟨g1, 0, none⟩))).set6 2 (.slice none 0 0)).e6 (by decide) 3 (.int .i64 cap1), Q.out.2.2.1, Nat.le_trans LB.out HG.out.2, ⟨by have := LT.out; have := HG.out; omega, by have := LT.out; have := HG.out; omega, by have := LT.out; have := HG.out; omega, by have := LT.out; have := HG.out; omega, Q.out.2.2.2, HC.out.1⟩⟩⟩)
    · go_wp2_with (fail)
      go_loopw [57] (fun i wr => ∃ (k : Nat) (y0 y1 : List ByteArray) (B0 : Option Addr) (m0 : Nat) (B1 : Option Addr) (m1 : Nat), i = .int .i64 k ∧ Aside0 (k ≤ l.length) ∧ Aside0 (Made w b5 b6 #[.pointer (some ⟨g0, 0, none⟩), .pointer (some ⟨g1, 0, none⟩)] #[.slice B0 y0.length m0, .int .i64 cap0, .slice B1 y1.length m1, .int .i64 cap1] wr) ∧ Aside0 (QL wr g0 c0 cap0 y0 ∧ QL wr g1 c1 cap1 y1 ∧ w.heap.size ≤ c0 ∧ w.heap.size ≤ c1 ∧ Far g0 c0 cap0 g1 c1 cap1) ∧ Aside0 (SR wr B0 m0 y0) ∧ Aside0 (SR wr B1 m1 y1) ∧ Aside0 (y0.length ≤ cap0 ∧ y1.length ≤ cap1)) (fun i _ => l.length - (intOf i).toNat)
      case atStart => exact ⟨0, [], [], none, 0, none, 0, rfl, ⟨Nat.zero_le _⟩, M, Q, ⟨SR.nilrow⟩, ⟨SR.nilrow⟩, ⟨Nat.zero_le _, Nat.zero_le _⟩⟩
      case round =>
        clear M Q
        obtain ⟨k, y0, y1, B0, m0, B1, m1, rfl, hk, M, Q, S0, S1, HLN⟩ := hrel
        by_cases hlt : k < l.length
        · obtain ⟨ad, hA, h0, h1, h2⟩ := at_T48 (Kd.C_below HL.out M.out.B) (k : Int) (by omega) (by omega)
          subst hA
          simp only [Int.toNat_natCast] at h0 h1 h2
          have hmax : l.length ≤ 9223372036854775807 := Kd.C_max HL.out
          have HKX := Aside0.mk (And.intro hlt hmax)
          have hstep := nextw hlt hmax
          have hlt2 : (k : Int) < (l.length : Int) := by omega
          clear hmax
          generalize rd_T48 l (k : Int) = x at h0 h1 h2
          obtain ⟨kind, other, text⟩ := x
          have HBX := Aside0.mk (below_alloc (Below.refl wr.heap.size wr) (.cells #[.int .i64 kind, .bool other, .string text] 48 (0, 0)))
          have z0 := (blk_cell M.out.e5 0).trans rfl
          have z1 := (blk_cell M.out.e5 1).trans rfl
          have y_0 := (blk_cell M.out.e6 0).trans rfl
          have fy0 := blk_frozen M.out.e6 0
          have y_1 := (blk_cell M.out.e6 1).trans rfl
          have fy1 := blk_frozen M.out.e6 1
          have y_2 := (blk_cell M.out.e6 2).trans rfl
          have fy2 := blk_frozen M.out.e6 2
          have y_3 := (blk_cell M.out.e6 3).trans rfl
          have fy3 := blk_frozen M.out.e6 3
          have a0 := fun o => pw_cell_below (below_alloc (Below.refl _ _) o) z0
          have a1 := fun o => pw_cell_below (below_alloc (Below.refl _ _) o) z1
          have ay0 := fun o => pw_cell_below (below_alloc (Below.refl _ _) o) y_0
          have ay1 := fun o => pw_cell_below (below_alloc (Below.refl _ _) o) y_1
          have ay2 := fun o => pw_cell_below (below_alloc (Below.refl _ _) o) y_2
          have ay3 := fun o => pw_cell_below (below_alloc (Below.refl _ _) o) y_3
          go_wp2_with (first | (go_at_call 14; refine (act_c _ g0 c0 cap0 g1 c1 cap1 y0 y1 B0 m0 B1 m1 kind other text Q.out.2.2.2.2 (Q.out.1.kept (Kept.of_below HBX.out (fun _ => False)) (fun h => h) (fun h => h)) (Q.out.2.1.kept (Kept.of_below HBX.out (fun _ => False)) (fun h => h) (fun h => h)) (S0.out.below HBX.out) (S1.out.below HBX.out) HLN.out).mono ?_; rintro e w5 ⟨y0', y1', A0', n0', A1', n1', rfl, hq0, hq1, hs0, hs1, hln, hk⟩; have QX0 := Q.out.1.kept (Kept.of_below HBX.out (fun _ => False)) (fun h => h) (fun h => h); have QX1 := Q.out.2.1.kept (Kept.of_below HBX.out (fun _ => False)) (fun h => h) (fun h => h); have M := Aside0.mk ((M.out.below HBX.out).call (S := fun k => k = c0 ∨ k = c1) (fun j hj => by rcases hj with rfl | rfl; exact QX0.chan; exact QX1.chan) (fun j hj => by rcases hj with rfl | rfl; exact Q.out.2.2.1; exact Q.out.2.2.2.1) hk); have Q := Aside0.mk (show QL w5 g0 c0 cap0 y0' ∧ QL w5 g1 c1 cap1 y1' ∧ w.heap.size ≤ c0 ∧ w.heap.size ≤ c1 ∧ Far g0 c0 cap0 g1 c1 cap1 from ⟨hq0, hq1, Q.out.2.2⟩); have S0 := Aside0.mk hs0; have S1 := Aside0.mk hs1; have HLN := Aside0.mk hln; clear hq0 hq1 hs0 hs1 hln hk QX0 QX1; have z0 := (blk_cell M.out.e5 0).trans rfl; have z1 := (blk_cell M.out.e5 1).trans rfl; have y_0 := (blk_cell M.out.e6 0).trans rfl; have fy0 := blk_frozen M.out.e6 0; have y_1 := (blk_cell M.out.e6 1).trans rfl; have fy1 := blk_frozen M.out.e6 1; have y_2 := (blk_cell M.out.e6 2).trans rfl; have fy2 := blk_frozen M.out.e6 2; have y_3 := (blk_cell M.out.e6 3).trans rfl; have fy3 := blk_frozen M.out.e6 3; have a0 := fun o => pw_cell_below (below_alloc (Below.refl _ _) o) z0; have a1 := fun o => pw_cell_below (below_alloc (Below.refl _ _) o) z1; have ay0 := fun o => pw_cell_below (below_alloc (Below.refl _ _) o) y_0; have ay1 := fun o => pw_cell_below (below_alloc (Below.refl _ _) o) y_1; have ay2 := fun o => pw_cell_below (below_alloc (Below.refl _ _) o) y_2; have ay3 := fun o => pw_cell_below (below_alloc (Below.refl _ _) o) y_3; have afy0 : ∀ o, (w5.alloc o).frozen? ⟨b6, 0, none⟩ = false := fun o => blk_frozen (blk_below M.out.e6 (below_alloc (Below.refl _ _) o)) 0; have afy1 : ∀ o, (w5.alloc o).frozen? ⟨b6, 1, none⟩ = false := fun o => blk_frozen (blk_below M.out.e6 (below_alloc (Below.refl _ _) o)) 1; have afy2 : ∀ o, (w5.alloc o).frozen? ⟨b6, 2, none⟩ = false := fun o => blk_frozen (blk_below M.out.e6 (below_alloc (Below.refl _ _) o)) 2; have afy3 : ∀ o, (w5.alloc o).frozen? ⟨b6, 3, none⟩ = false := fun o => blk_frozen (blk_below M.out.e6 (below_alloc (Below.refl _ _) o)) 3) | fail)
          go_roundw
          case measure => exact measv (by rw [hstep]) HKX.out.1
          case rel =>
            have hb := below_alloc (Below.refl w5.heap.size w5) (.cells #[.slice A0' y0'.length n0', .int .i64 cap0, .slice A1' y1'.length n1', .int .i64 cap1] 42 (0, 0))
            have MB := M.out.below hb
            exact ⟨k + 1, y0', y1', A0', n0', A1', n1', by rw [hstep], ⟨HKX.out.1⟩, ⟨MB.put4 _ _ _ _⟩, ⟨(Q.out.1.kept (Kept.of_below hb (fun _ => False)) (fun h => h) (fun h => h)).cells4 MB.e6 _ _ _ _, (Q.out.2.1.kept (Kept.of_below hb (fun _ => False)) (fun h => h) (fun h => h)).cells4 MB.e6 _ _ _ _, Q.out.2.2⟩, ⟨(S0.out.below hb).p4 _ _ _ _ _ _ _ _ MB.e6 _ _ _ _ _ _ _ _⟩, ⟨(S1.out.below hb).p4 _ _ _ _ _ _ _ _ MB.e6 _ _ _ _ _ _ _ _⟩, HLN⟩
        · obtain rfl : k = l.length := by have := hk.out; omega
          go_wp2
          go_ret
          exact ⟨rfl, M.out.B⟩
end Go.Proofs.Ytdgeaadcidmmfaa
