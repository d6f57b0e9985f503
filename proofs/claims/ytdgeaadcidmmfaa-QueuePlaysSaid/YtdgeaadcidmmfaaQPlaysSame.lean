/-
  What the document's functions do, told of lists of texts; does a queue show the document's?
-/
import Derived.Test.YtdgeaadcidmmfaaQPlaysMove
import Derived.Test.YtdgeaadcidmmfaaBase
namespace Go.Proofs.Ytdgeaadcidmmfaa
set_option linter.unusedVariables false
set_option linter.unusedSimpArgs false
open Go.Conc Go.RowKit Go.Proofs.YtdgeaadcidmmfaaW.PrintWords Go.Proofs.YtdgeaadcidmmfaaW.PrintLast Go.Proofs.YtdgeaadcidmmfaaW.PrintMore Go.Proofs.Ytdgeaadcidmmfaa.MQueuePlays
theorem V_str {W : World} {A : Option Addr} {c : Nat} {xs : List ByteArray} (h : Kd.C Kd.string W A xs.length xs) (hc : xs.length ≤ c) : Kd.V Kd.string 9 W W.heap.size (fun k => k < W.heap.size) (.slice A xs.length c) xs := by
  refine ⟨A, c, rfl, hc, fun W' hW => ⟨rfl, h.2.1, fun hp => ?_⟩⟩
  obtain ⟨ad, e, hcell⟩ := h.2.2 hp
  refine ⟨ad, e, fun j p hj => ?_⟩
  obtain ⟨cc, h1, h2, h3⟩ := hcell j p hj
  refine ⟨cc, h1, h2, fun i u hu => ?_⟩
  have h4 := h3 i u hu
  have hlt := World.block_lt_of_cell? W _ h4
  exact (World.cell?_of_block (hW _ hlt hlt)).trans h4
/-- A row of texts that can be read. -/
def SR (w : World) (A : Option Addr) (c : Nat) (l : List ByteArray) : Prop := Kd.C Kd.string w A l.length l ∧ l.length ≤ c
theorem SR.below {w w' : World} {A : Option Addr} {c : Nat} {l : List ByteArray} (h : SR w A c l) (b : Below w.heap.size w w') : SR w' A c l := ⟨Kd.C_below h.1 b, h.2⟩
theorem SR.nilrow {w : World} : SR w none 0 [] := ⟨Kd.C_nil _ _, Nat.le_refl _⟩
theorem SR.kept {w w' : World} {A : Option Addr} {c : Nat} {l : List ByteArray} {S : Nat → Prop} (h : SR w A c l) (k : Kept w w' S) (hS : ∀ j, S j → ∃ cap b a s r t, w.heap[j]? = some (.chan cap b a s r t)) : SR w' A c l := by
  obtain ⟨⟨h1, h2, h3⟩, hc⟩ := h
  refine ⟨⟨h1, h2, fun hp => ?_⟩, hc⟩
  obtain ⟨ad, e, hcell⟩ := h3 hp
  refine ⟨ad, e, fun j p hj => ?_⟩
  obtain ⟨cc, q1, q2, q3⟩ := hcell j p hj
  refine ⟨cc, q1, q2, fun i u hu => ?_⟩
  have h4 := q3 i u hu
  refine cell_kept h4 k (fun hs => ?_)
  obtain ⟨cap, b, a, s, r, t, hb⟩ := hS _ hs
  unfold World.cell? at h4
  rw [hb] at h4
  cases h4
theorem QL.drewN {w : World} {g c cap : Nat} {l : List ByteArray} (h : QL w g c cap l) (n : Nat) : QL (w.drewN n) g c cap l := by
  obtain ⟨s, r, h⟩ := h
  exact ⟨s, r, h.box, h.ch⟩
theorem QL.chan {w : World} {g c cap : Nat} {l : List ByteArray} (h : QL w g c cap l) : ∃ cap b a s r t, w.heap[c]? = some (.chan cap b a s r t) := by
  obtain ⟨s, r, h⟩ := h
  exact ⟨_, _, _, _, _, _, h.ch⟩
theorem refTake_f (l : List ByteArray) (a : Int) (h : l.length ≤ 64) : horologeref33_Take.f l a = some (hd l, l.tail, a, ne l) := by
  unfold horologeref33_Take.f
  cases l with
  | nil => rfl
  | cons x l =>
    simp only [List.length_cons] at h
    rw [if_neg (by simp only [List.length_cons]; omega), if_pos (by simp only [List.length_cons]; omega)]
    simp only [Option.bind_some]
    rw [if_pos (by simp only [List.length_cons]; omega)]
    simp only [Option.bind_some, List.drop_succ_cons, List.drop_zero, List.nil_append]
    rw [if_pos (by simp only [List.length_nil]; omega)]
    rfl
theorem refPut_f (l : List ByteArray) (cap : Nat) (x : ByteArray) (h : l.length ≤ 64) : horologeref33_Put.f l cap x = some (decide (l.length < cap), putl cap l x, (cap : Int)) := by
  unfold horologeref33_Put.f putl
  by_cases hc : l.length < cap
  · rw [if_neg (by omega), if_pos hc, decide_eq_true hc]
    simp only [Option.bind_some, List.length_nil, List.nil_append]
    rw [if_pos (by omega), if_pos (by omega)]
  · rw [if_pos (by omega), if_neg hc, decide_eq_false hc]
theorem refTake_c (w : World) (A : Option Addr) (c : Nat) (l : List ByteArray) (cap : Nat) (H : SR w A c l) (h : l.length ≤ 64) :
    Calls Try.prog 25 #[.agg #[.slice A l.length c, .int .i64 cap]] w fun e w' => ∃ A' c', e = .returned (.tuple #[.string (hd l), .agg #[.slice A' l.tail.length c', .int .i64 cap], .bool (ne l)]) ∧ SR w' A' c' l.tail ∧ Below w.heap.size w w' := by
  refine (horologeref33_Take.calls _ A c l cap _ _ _ _ w (V_str H.1 H.2) (refTake_f l cap h)).mono ?_
  rintro e w' ⟨v, rfl, hv, hb⟩
  obtain ⟨A', c', rfl⟩ := Kd.V_slice hv
  exact ⟨A', c', rfl, ⟨(Kd.V_reads' hv).2.2, (Kd.V_reads' hv).2.1⟩, hb⟩
theorem refPut_c (w : World) (A : Option Addr) (c : Nat) (l : List ByteArray) (cap : Nat) (x : ByteArray) (H : SR w A c l) (h : l.length ≤ 64) :
    Calls Try.prog 27 #[.agg #[.slice A l.length c, .int .i64 cap], .string x] w fun e w' => ∃ A' c', e = .returned (.tuple #[.bool (decide (l.length < cap)), .agg #[.slice A' (putl cap l x).length c', .int .i64 cap]]) ∧ SR w' A' c' (putl cap l x) ∧ Below w.heap.size w w' := by
  refine (horologeref33_Put.calls _ A c l cap x _ _ _ w (V_str H.1 H.2) (refPut_f l cap x h)).mono ?_
  rintro e w' ⟨v, rfl, hv, hb⟩
  obtain ⟨A', c', rfl⟩ := Kd.V_slice hv
  exact ⟨A', c', rfl, ⟨(Kd.V_reads' hv).2.2, (Kd.V_reads' hv).2.1⟩, hb⟩
open Go.Proofs.Ytdgeaadcidmmfaa.Base in
theorem refMove_l0 (l0 l1 : List ByteArray) (cap0 : Int) (cap1 : Nat) (h0 : l0.length ≤ 64) (h1 : l1.length ≤ cap1) (hc : cap1 ≤ 64) : ∀ (d n : Nat), n + d = mv l0 l1 cap1 →
    Ev (fun k => horologeref33_Move.l0 k (n : Int) (l0.drop n) cap0 (l1 ++ l0.take n) cap1) (((mv l0 l1 cap1 : Nat) : Int), l0.drop (mv l0 l1 cap1), cap0, l1 ++ l0.take (mv l0 l1 cap1), (cap1 : Int)) := by
  intro d
  have hm : mv l0 l1 cap1 ≤ 64 ∧ mv l0 l1 cap1 ≤ l0.length ∧ mv l0 l1 cap1 + l1.length ≤ cap1 ∧ mv l0 l1 cap1 = min l0.length (cap1 - l1.length) := by unfold mv; omega
  induction d with
  | zero =>
    intro n hn
    obtain rfl : n = mv l0 l1 cap1 := by omega
    refine Ev.up ?_
    simp only [horologeref33_Move.l0]
    have hl : (l1 ++ l0.take (mv l0 l1 cap1)).length = l1.length + mv l0 l1 cap1 := by rw [List.length_append, List.length_take]; omega
    by_cases hz : l0.length = mv l0 l1 cap1
    · refine Ev.neg (by rw [List.length_drop]; omega) (Ev.up ?_)
      simp only [horologeref33_Move.j1]
      exact Ev.neg (by decide) (Ev.now _)
    · refine Ev.pos (by rw [List.length_drop]; omega) (Ev.up ?_)
      simp only [horologeref33_Move.j1]
      refine Ev.neg (by rw [hl, decide_eq_true_eq]; omega) (Ev.now _)
  | succ d ih =>
    intro n hn
    refine Ev.up ?_
    simp only [horologeref33_Move.l0]
    have hl : (l1 ++ l0.take n).length = l1.length + n := by rw [List.length_append, List.length_take]; omega
    refine Ev.pos (by rw [List.length_drop]; omega) (Ev.up ?_)
    simp only [horologeref33_Move.j1]
    refine Ev.pos (by rw [hl, decide_eq_true_eq]; omega) (Ev.bindc (refTake_f _ _ (by rw [List.length_drop]; omega)) (Ev.bindc (refPut_f _ _ _ (by rw [hl]; omega)) ?_))
    simp only
    rw [show wrap64 ((n : Int) + 1) = ((n + 1 : Nat) : Int) by unfold wrap64; omega, List.tail_drop, mv_step (by omega) (by rw [hl]; omega)]
    exact ih (n + 1) (by omega)
theorem refMove_c (w : World) (A0 : Option Addr) (c0 : Nat) (l0 : List ByteArray) (cap0 : Nat) (A1 : Option Addr) (c1 : Nat) (l1 : List ByteArray) (cap1 : Nat) (H0 : SR w A0 c0 l0) (H1 : SR w A1 c1 l1) (h0 : l0.length ≤ 64) (h1 : l1.length ≤ cap1) (hc : cap1 ≤ 64) :
    Calls Try.prog 26 #[.agg #[.slice A0 l0.length c0, .int .i64 cap0], .agg #[.slice A1 l1.length c1, .int .i64 cap1]] w fun e w' => ∃ A0' c0' A1' c1', e = .returned (.tuple #[.int .i64 (mv l0 l1 cap1 : Nat), .agg #[.slice A0' (l0.drop (mv l0 l1 cap1)).length c0', .int .i64 cap0], .agg #[.slice A1' (l1 ++ l0.take (mv l0 l1 cap1)).length c1', .int .i64 cap1]]) ∧ SR w' A0' c0' (l0.drop (mv l0 l1 cap1)) ∧ SR w' A1' c1' (l1 ++ l0.take (mv l0 l1 cap1)) ∧ Below w.heap.size w w' := by
  obtain ⟨k, hk⟩ := Base.Ev.ok (refMove_l0 l0 l1 cap0 cap1 h0 h1 hc (mv l0 l1 cap1) 0 (by omega))
  have hk' : horologeref33_Move.f k l0 cap0 l1 cap1 = some (((mv l0 l1 cap1 : Nat) : Int), l0.drop (mv l0 l1 cap1), (cap0 : Int), l1 ++ l0.take (mv l0 l1 cap1), (cap1 : Int)) := by
    unfold horologeref33_Move.f
    simpa using hk
  refine (horologeref33_Move.calls k _ A0 c0 l0 cap0 _ A1 c1 l1 cap1 _ _ _ _ _ w (V_str H0.1 H0.2) (V_str H1.1 H1.2) hk').mono ?_
  rintro e w' ⟨v, v1, rfl, hv, hv1, hb⟩
  obtain ⟨A', c', rfl⟩ := Kd.V_slice hv
  obtain ⟨A1', c1', rfl⟩ := Kd.V_slice hv1
  exact ⟨A', c', A1', c1', rfl, ⟨(Kd.V_reads' hv).2.2, (Kd.V_reads' hv).2.1⟩, ⟨(Kd.V_reads' hv1).2.2, (Kd.V_reads' hv1).2.1⟩, hb⟩
theorem num_c (w : World) : Calls Try.prog 24 #[.iface 46 (.int .i64 1)] w fun e w' => e = .returned (.int .i64 1) ∧ w' = w := by
  have hta : ∀ (v : Value) (W : World), (Instr.typeAssert (.iface 46 v) 26 46 true).run Try.prog W = .ok (.tuple #[v, .bool true]) W := fun v W => by rfl
  go_enter Try.func24, Try.ntmps24
  go_wp2
  go_ret
  exact ⟨rfl, rfl⟩
theorem is_c (w : World) : Calls Try.prog 13 #[.iface 46 (.int .i64 1), .int .i64 1] w fun e w' => e = .returned (.bool true) ∧ w' = w := by
  go_enter Try.func13, Try.ntmps13
  go_wp2_with (first | (go_at_call 24; refine (num_c _).mono ?_; rintro e w1 ⟨rfl, rfl⟩) | fail)
  go_ret
  exact ⟨rfl, rfl⟩
set_option maxHeartbeats 4000000 in
set_option maxRecDepth 100000 in
theorem same_c (w : World) (g ch cap : Nat) (A : Option Addr) (c : Nat) (l : List ByteArray) (H : QL w g ch cap l) (HS : SR w A c l) (hl : l.length ≤ cap) (h64 : cap ≤ 64) :
    Calls Try.prog 28 #[.pointer (some ⟨g, 0, none⟩), .agg #[.slice A l.length c, .int .i64 cap]] w fun e w' => e = .returned (.bool true) ∧ QL w' g ch cap l ∧ Kept w w' (fun k => k = ch) := by
  have HCH := Aside0.mk H.chan
  have HLT := Aside0.mk H.lt
  have HQ := Aside0.mk (QL.kept H (Kept.of_below (below_alloc (Below.refl _ _) (.cells #[.slice A l.length c, .int .i64 cap] 41 (0, 0))) (fun k => False)) (fun h => h) (fun h => h))
  have BK0 := Aside0.mk (blk_new w (.cells #[.slice A l.length c, .int .i64 cap] 41 (0, 0)))
  have AS := Aside0.mk HS
  have HD := Aside0.mk (fun W (h : QL W g ch cap l) => list_c W g ch cap l h hl h64)
  have AL := Aside0.mk (And.intro hl h64)
  clear H HS hl h64
  go_enter Try.func28, Try.ntmps28
  go_wp2_with (first | (go_at_call 21; refine (HD.out _ HQ.out).mono ?_; rintro e w1 ⟨v, rfl, hr, hq, hk⟩; have Q1 := Aside0.mk hq; have R1 := Aside0.mk hr; have BK1 := Aside0.mk (blk_kept BK0.out hk (by have := HLT.out.2; omega)); have K1 := Aside0.mk ((Kept.of_below (below_alloc (Below.refl w.heap.size w) (.cells #[.slice A l.length c, .int .i64 cap] 41 (0, 0))) (fun k => k = ch)).then_ hk (fun k hk => .inl hk)); clear hq hk hr; obtain ⟨Ao, co, eo⟩ := Kd.R_slice R1.out; subst eo) | fail)
  have z0 : w1.cell? ⟨w.heap.size, 0, none⟩ = some (.slice A l.length c) := (blk_cell BK1.out 0).trans rfl
  have z1 : w1.cell? ⟨w.heap.size, 1, none⟩ = some (.int .i64 cap) := (blk_cell BK1.out 1).trans rfl
  go_quiet ((first | (go_at_call 19; exact Calls.quiet_of_same (len_c _ g ch cap l (Q1.out.drewN _))) | (go_at_call 20; exact Calls.quiet_of_same (room_c _ g ch cap l (Q1.out.drewN _)))))
  have RR : Aside0 (0 < l.length → ∃ (g' : Nat) (arr : Array Value), Ao = some ⟨g', 0, none⟩ ∧ w.heap.size < g' ∧ (w1.drewN nq).heap[g']? = some (.cells arr 9 (0, 0)) ∧ ∀ i : Nat, 0 ≤ i → i < l.length → arr[i]? = some (.string (rdOf ByteArray.empty l (i : Int)))) := ⟨fun hp => by
    obtain ⟨g', cap', e, hge, hlt, cells, hcells⟩ := Kd.R_form R1.out hp
    obtain ⟨rfl, _⟩ : Ao = some ⟨g', 0, none⟩ ∧ co = cap' := by injection e with e1 e2 e3; exact ⟨e1, e3⟩
    refine ⟨g', cells, rfl, by rw [World.size_alloc] at hge; omega, hcells, fun i _ hi => ?_⟩
    obtain ⟨ad, e2, hcell⟩ := Kd.at_string (Kd.R_reads' R1.out).2.2 (i : Int) (by omega) (by omega)
    injection e2 with e2
    subst e2
    have h := (blk_cell hcells i).symm
    simp only [Int.toNat_natCast] at hcell
    have e3 : (⟨g', 0, none⟩ : Addr).add i = ⟨g', i, none⟩ := by simp [Addr.add]; exact fun h => h.symm
    rw [e3] at hcell
    rw [h, hcell]⟩
  have Q2 := Aside0.mk (Q1.out.drewN nq)
  have K2 := Aside0.mk (K1.out.drewN nq)
  have BK2 := Aside0.mk (show (w1.drewN nq).heap[w.heap.size]? = some (.cells #[.slice A l.length c, .int .i64 cap] 41 (0, 0)) from BK1.out)
  clear R1 Q1 K1 BK1 z0 z1 HD HQ BK0
  generalize w1.drewN nq = w2 at RR Q2 K2 BK2 ⊢
  go_wp2
  go_loopw [32] (fun i wr => ∃ k : Nat, i = .int .i64 k ∧ Aside0 (k ≤ l.length) ∧ Aside0 (0 < l.length → ∃ (g' : Nat) (arr : Array Value), Ao = some ⟨g', 0, none⟩ ∧ w.heap.size < g' ∧ wr.heap[g']? = some (.cells arr 9 (0, 0)) ∧ ∀ i : Nat, k ≤ i → i < l.length → arr[i]? = some (.string (rdOf ByteArray.empty l (i : Int)))) ∧ Aside0 (QL wr g ch cap l) ∧ Aside0 (Kept w wr (fun k => k = ch)) ∧ Aside0 (wr.heap[w.heap.size]? = some (.cells #[.slice A l.length c, .int .i64 cap] 41 (0, 0)))) (fun i _ => l.length - (intOf i).toNat)
  case atStart => exact ⟨0, rfl, ⟨Nat.zero_le _⟩, RR, Q2, K2, BK2⟩
  case round =>
    clear RR Q2 K2 BK2
    obtain ⟨k, rfl, hk, RR, Q, K, BK⟩ := hrel
    by_cases hlt : k < l.length
    · obtain ⟨g', arr, rfl, hgt, harr, hall⟩ := RR.out (by omega)
      have Hall := Aside0.mk hall
      have Harr := Aside0.mk harr
      have Hgt := Aside0.mk hgt
      have y0 : wr.cell? ⟨g', k, none⟩ = some (.string (rdOf ByteArray.empty l (k : Int))) := (blk_cell harr k).trans (hall k (Nat.le_refl _) hlt)
      have y1 := blk_frozen harr k
      obtain ⟨ad, rfl, hcell⟩ := Kd.at_string (AS.out.kept K.out (fun j hj => by rw [hj]; exact HCH.out)).1 (k : Int) (by omega) (by omega)
      simp only [Int.toNat_natCast] at hcell
      have z0 : wr.cell? ⟨w.heap.size, 0, none⟩ = some (.slice (some ad) l.length c) := (blk_cell BK.out 0).trans rfl
      have hk64 : (k : Int) ≤ 64 := by have := AL.out; omega
      clear RR harr hall hgt
      generalize rdOf ByteArray.empty l (k : Int) = x at hcell y0
      go_wp2_with (fail)
      go_quiet (fail)
      go_wp2
      go_roundw
      case measure => have := hk.out; simp [intOf]; omega
      case rel =>
        refine ⟨k + 1, by go_num, ⟨hlt⟩, ⟨fun _ => ⟨g', arr.setIfInBounds k (.string ⟨#[]⟩), rfl, Hgt.out, ?_, fun i h1 h2 => ?_⟩⟩, ⟨?_⟩, ⟨?_⟩, ⟨?_⟩⟩
        · have hh : (wr.drewN nq).heap[g']? = some (.cells arr 9 (0, 0)) := Harr.out
          exact blk_set hh k _
        · rw [Array.getElem?_setIfInBounds_ne (by omega)]
          exact Hall.out i (by omega) h2
        · have := HLT.out
          have := Hgt.out
          exact QL.kept (Q.out.drewN nq) (Kept.setCell (S := fun j => j = g') (Kept.refl _ _) (.inl rfl) _) (by omega) (by omega)
        · exact Kept.setCell (K.out.drewN nq) (.inr (Nat.le_of_lt Hgt.out)) _
        · have hh : (wr.drewN nq).heap[w.heap.size]? = some (.cells #[.slice (some ad) l.length c, .int .i64 cap] 41 (0, 0)) := BK.out
          have := Hgt.out
          exact (Below.heap_setCell _ _ _ _ (by simp; omega)).trans hh
    · obtain rfl : k = l.length := by have := hk.out; omega
      go_wp2
      go_ret
      exact ⟨rfl, Q.out, K.out⟩
end Go.Proofs.Ytdgeaadcidmmfaa
