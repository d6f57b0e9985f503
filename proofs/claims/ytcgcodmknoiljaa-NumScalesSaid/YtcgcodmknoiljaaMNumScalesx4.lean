-- This text was written by a program of this session (a changed scratch copy of a tool of the kit; NOTES.md tells the changes).
import Derived.Test.YtcgcodmknoiljaaMNumScalesx0
import Derived.Test.YtcgcodmknoiljaaMNumScalesx1
import Derived.Test.YtcgcodmknoiljaaMNumScalesx2
import Derived.Test.YtcgcodmknoiljaaMNumScalesx3
namespace Go.Proofs.Ytcgcodmknoiljaa.MNumScales
open Go.RowKit Go.Proofs.YtcgcodmknoiljaaW.PrintWords Go.Proofs.YtcgcodmknoiljaaW.PrintLast Go.Proofs.YtcgcodmknoiljaaW.PrintMore
attribute [local go_sem] max2_int min2_int max_two min_two max_three min_three max_four min_four   -- for this text's walks alone
set_option linter.unusedVariables false
set_option linter.unusedSimpArgs false

/-! ### horologeref01_Quotient: function 14 -/
def horologeref01_Quotient.f (k : Nat) (a0_0 : Bool) (l0_1 : List Int) (a1_0 : Bool) (l1_1 : List Int) (a2_0 : Bool) (l2_1 : List Int) : Option Bool :=
  (horologeref01_Times.f k a2_0 l2_1 a1_0 l1_1).bind fun p => (horologeref01_Of.f k 1).bind fun o => (horologeref01_Plus.f k a2_0 l2_1 o.1 o.2).bind fun s => (horologeref01_Times.f k s.1 s.2 a1_0 l1_1).bind fun q =>
    if a1_0 = true then (horologeref01_Less.f k p.1 p.2 a0_0 l0_1).bind fun c => if c = true then some false else horologeref01_Less.f k q.1 q.2 a0_0 l0_1
    else (horologeref01_Less.f k a0_0 l0_1 p.1 p.2).bind fun c => if c = true then some false else horologeref01_Less.f k a0_0 l0_1 q.1 q.2
theorem horologeref01_Quotient.mono : ∀ a0 a1 a2 a3 a4 a5 k, LeO (horologeref01_Quotient.f k a0 a1 a2 a3 a4 a5) (horologeref01_Quotient.f (k + 1) a0 a1 a2 a3 a4 a5) := by
  intro a0 a1 a2 a3 a4 a5 k
  unfold horologeref01_Quotient.f
  exact LeO.bind (horologeref01_Times.mono _ _ _ _ _) fun _ => LeO.bind (horologeref01_Of.mono _ _) fun _ => LeO.bind (horologeref01_Plus.mono _ _ _ _ _) fun _ => LeO.bind (horologeref01_Times.mono _ _ _ _ _) fun _ =>
    LeO.ite (LeO.bind (horologeref01_Less.mono _ _ _ _ _) fun _ => LeO.ite (LeO.refl _) (horologeref01_Less.mono _ _ _ _ _)) (LeO.bind (horologeref01_Less.mono _ _ _ _ _) fun _ => LeO.ite (LeO.refl _) (horologeref01_Less.mono _ _ _ _ _))
section
variable {P : Program} {ops : Array Oper} {Q : Exit → Act → World → Prop} {md : Region.Mode} {S : World → Prop} {ds : List Nat}
/-- What each operation keeps, told once: whatever the order. -/
theorem quo_inv (Inv : Nat → Array Bool → Act → World → Prop) (m : Nat)
    (hstep : ∀ f l a w, (∀ l' a' w', Inv f l' a' w' → wpAnyLast P md ops Q S ds (f + m) l' a' w') → Inv (f + 1) l a w → wpAnyLast P md ops Q S ds (f + m + 1) l a w)
    (hend : ∀ l a w, Inv 0 l a w → wpAnyLast P md ops Q S ds m l a w) : ∀ f l a w, Inv f l a w → wpAnyLast P md ops Q S ds (f + m) l a w
  | 0, l, a, w, h => by rw [Nat.zero_add]; exact hend l a w h
  | f + 1, l, a, w, h => by rw [show f + 1 + m = f + m + 1 by omega]; exact hstep f l a w (quo_inv Inv m hstep hend f) h
end
/-- A number that lies apart from the two places. -/
def QRow (w : World) (b7 b8 : Bool) (g7 g8 : Nat) (X : Value) (r : Bool × List Int) : Prop :=
  ∃ v, X = .agg #[.bool r.1, v] ∧ Kd.V (Kd.int .u64) 51 w 0 (fun k => (b7 = true → k ≠ g7) ∧ (b8 = true → k ≠ g8)) v r.2
def QRd (w : World) (X : Value) (r : Bool × List Int) : Prop := ∃ A c, X = .agg #[.bool r.1, .slice A r.2.length c] ∧ r.2.length ≤ c ∧ Kd.C (Kd.int .u64) w A r.2.length r.2
theorem QRow.below {w w' : World} {b7 b8 : Bool} {g7 g8 : Nat} {X : Value} {r : Bool × List Int} (h : QRow w b7 b8 g7 g8 X r) (hb : Below w.heap.size w w') : QRow w' b7 b8 g7 g8 X r := by
  obtain ⟨v, rfl, hv⟩ := h
  exact ⟨v, rfl, Kd.V_below hv hb⟩
theorem QRd.below {w w' : World} {X : Value} {r : Bool × List Int} (h : QRd w X r) (hb : Below w.heap.size w w') : QRd w' X r := by
  obtain ⟨A, c, rfl, hc, hv⟩ := h
  exact ⟨A, c, rfl, hc, Kd.C_below hv hb⟩
theorem QRow.put7 {w : World} {b8 : Bool} {g7 g8 : Nat} {X : Value} {r : Bool × List Int} (h : QRow w false b8 g7 g8 X r) (o : Obj) : QRow (w.alloc o) true b8 w.heap.size g8 X r := by
  obtain ⟨v, rfl, hv⟩ := h
  exact ⟨v, rfl, Kd.V_mono (Kd.V_alloc (Kd.V_elderB hv _ (Nat.le_refl _)) o) (fun k hk => ⟨fun _ => hk.2, hk.1.2⟩)⟩
theorem QRow.put8 {w : World} {b7 : Bool} {g7 g8 : Nat} {X : Value} {r : Bool × List Int} (h : QRow w b7 false g7 g8 X r) (o : Obj) : QRow (w.alloc o) b7 true g7 w.heap.size X r := by
  obtain ⟨v, rfl, hv⟩ := h
  exact ⟨v, rfl, Kd.V_mono (Kd.V_alloc (Kd.V_elderB hv _ (Nat.le_refl _)) o) (fun k hk => ⟨hk.1.1, fun _ => hk.2⟩)⟩
theorem QRow.new {w w' : World} {n : Nat} {b7 b8 : Bool} {g7 g8 : Nat} {v : Value} {r1 : Bool} {r2 : List Int} (h : Kd.V (Kd.int .u64) 51 w' n (fun k => w.heap.size ≤ k) v r2) (h7 : b7 = true → g7 < w.heap.size) (h8 : b8 = true → g8 < w.heap.size) : QRow w' b7 b8 g7 g8 (.agg #[.bool r1, v]) (r1, r2) :=
  ⟨v, rfl, Kd.V_mono h (fun k hk => ⟨fun q e => by have := h7 q; omega, fun q e => by have := h8 q; omega⟩)⟩
theorem QRd.ofV {w' : World} {n : Nat} {ok : Nat → Prop} {v : Value} {r1 : Bool} {r2 : List Int} (h : Kd.V (Kd.int .u64) 51 w' n ok v r2) : QRd w' (.agg #[.bool r1, v]) (r1, r2) := by
  obtain ⟨A, c, rfl⟩ := Kd.V_slice h
  exact ⟨A, c, rfl, (Kd.V_reads' h).2.1, (Kd.V_reads' h).2.2⟩
theorem QRd.ofR {w' : World} {n : Nat} {ok : Nat → Prop} {v : Value} {r1 : Bool} {r2 : List Int} (h : Kd.R (Kd.int .u64) 51 w' n ok v r2) : QRd w' (.agg #[.bool r1, v]) (r1, r2) := by
  obtain ⟨A, c, rfl, hc, hC⟩ := Kd.R_reads h
  exact ⟨A, c, rfl, hc, hC⟩
/-- A place of a number's kind, apart from the three boxes. -/
def QG (w0 w : World) (g3 g4 g5 g : Nat) : Prop := w.heap[g]? = some (.cells #[.bool false, .slice none 0 0] 33 (0, 0)) ∧ w0.heap.size ≤ g ∧ g3 ≠ g ∧ g4 ≠ g ∧ g5 ≠ g
def QB (w0 w : World) (g3 g4 g5 : Nat) (c3 c4 c5 : Array Value) : Prop := Below w0.heap.size w0 w ∧ w.heap[g3]? = some (.cells c3 33 (0, 0)) ∧ w.heap[g4]? = some (.cells c4 33 (0, 0)) ∧ w.heap[g5]? = some (.cells c5 33 (0, 0))
theorem QG.below {w0 w w' : World} {g3 g4 g5 g : Nat} (h : QG w0 w g3 g4 g5 g) (hb : Below w.heap.size w w') : QG w0 w' g3 g4 g5 g := ⟨blk_below h.1 hb, h.2⟩
theorem QB.below {w0 w w' : World} {g3 g4 g5 : Nat} {c3 c4 c5 : Array Value} (h : QB w0 w g3 g4 g5 c3 c4 c5) (hb : Below w.heap.size w w') : QB w0 w' g3 g4 g5 c3 c4 c5 :=
  ⟨below_step h.1 hb, blk_below h.2.1 hb, blk_below h.2.2.1 hb, blk_below h.2.2.2 hb⟩
theorem QB.new {w0 w : World} {g3 g4 g5 : Nat} {c3 c4 c5 : Array Value} (h : QB w0 w g3 g4 g5 c3 c4 c5) : QG w0 (w.alloc (.cells #[.bool false, .slice none 0 0] 33 (0, 0))) g3 g4 g5 w.heap.size :=
  ⟨blk_new _ _, below_size h.1, Nat.ne_of_lt (blk_lt h.2.1), Nat.ne_of_lt (blk_lt h.2.2.1), Nat.ne_of_lt (blk_lt h.2.2.2)⟩
theorem QB.set {w0 w : World} {g3 g4 g5 g : Nat} {c3 c4 c5 : Array Value} (h : QB w0 w g3 g4 g5 c3 c4 c5) (hg : w0.heap.size ≤ g ∧ g3 ≠ g ∧ g4 ≠ g ∧ g5 ≠ g) (j : Nat) (u : Value) : QB w0 (w.setCell ⟨g, j, none⟩ u) g3 g4 g5 c3 c4 c5 :=
  ⟨below_set h.1 hg.1, blk_far h.2.1 (p := ⟨g, j, none⟩) hg.2.1 u, blk_far h.2.2.1 (p := ⟨g, j, none⟩) hg.2.2.1 u, blk_far h.2.2.2 (p := ⟨g, j, none⟩) hg.2.2.2 u⟩
theorem QRow.set {w : World} {b7 b8 : Bool} {g7 g8 g : Nat} {X : Value} {r : Bool × List Int} (h : QRow w b7 b8 g7 g8 X r) (hg : (b7 = true ∧ g = g7) ∨ (b8 = true ∧ g = g8)) (j : Nat) (u : Value) : QRow (w.setCell ⟨g, j, none⟩ u) b7 b8 g7 g8 X r := by
  obtain ⟨v, rfl, hv⟩ := h
  refine ⟨v, rfl, Kd.V_far (p := ⟨g, j, none⟩) hv (fun k hk => ?_) u⟩
  rcases hg with ⟨q, rfl⟩ | ⟨q, rfl⟩
  · exact hk.1 q
  · exact hk.2 q
def qn : Bool → Nat | true => 0 | false => 1
def QL (i : Nat) (b7 b8 : Bool) : Array Bool := #[true, true, decide (1 ≤ i), true, decide (2 ≤ i), decide (3 ≤ i), true, decide (4 ≤ i), b7, b8, false, false]
def QT (t0 t1 t2 v9 v10 : Value) (g3 g4 g5 : Nat) (X7 X8 X11 X13 X14 X16 : Value) : Array Value :=
  #[t0, t1, t2, .pointer (some ⟨g3, 0, none⟩), .pointer (some ⟨g4, 0, none⟩), .pointer (some ⟨g5, 0, none⟩), .bool false, X7, X8, v9, v10, X11, v9, X13, X14, v10, X16, undef, undef, undef, undef, undef, undef, undef, undef, undef, undef, undef, undef, undef, undef, undef, undef, undef, undef, undef, undef]
def QInv (w0 : World) (t0 t1 t2 v9 v10 : Value) (g3 g4 g5 : Nat) (c3 c4 c5 : Array Value) (p o s q : Bool × List Int) (f : Nat) (l : Array Bool) (a : Act) (w : World) : Prop :=
  ∃ (i : Nat) (b7 b8 : Bool) (g7 g8 : Nat) (X7 X8 X11 X13 X14 X16 : Value), i ≤ 4 ∧ f = (4 - i) + qn b7 + qn b8 ∧ l = QL i b7 b8 ∧ a = ⟨QT t0 t1 t2 v9 v10 g3 g4 g5 X7 X8 X11 X13 X14 X16, []⟩ ∧ QB w0 w g3 g4 g5 c3 c4 c5 ∧
    (b7 = true → X7 = .pointer (some ⟨g7, 0, none⟩) ∧ QG w0 w g3 g4 g5 g7) ∧ (b8 = true → X8 = .pointer (some ⟨g8, 0, none⟩) ∧ QG w0 w g3 g4 g5 g8) ∧ (b7 = true → b8 = true → g7 ≠ g8) ∧
    (1 ≤ i → QRow w b7 b8 g7 g8 X11 p) ∧ (2 ≤ i → QRd w X13 o) ∧ (3 ≤ i → QRd w X14 s) ∧ (4 ≤ i → QRow w b7 b8 g7 g8 X16 q)
set_option maxHeartbeats 8000000 in
set_option maxRecDepth 100000 in
theorem horologeref01_Quotient.calls (k : Nat) (a0_0 : Bool) (A0_1 : Option Addr) (c0_1 : Nat) (l0_1 : List Int) (a1_0 : Bool) (A1_1 : Option Addr) (c1_1 : Nat) (l1_1 : List Int) (a2_0 : Bool) (A2_1 : Option Addr) (c2_1 : Nat) (l2_1 : List Int) (r : Bool) (w : World) (hr0_1 : Kd.C (Kd.int .u64) w A0_1 l0_1.length l0_1) (hc0_1 : l0_1.length ≤ c0_1) (hr1_1 : Kd.C (Kd.int .u64) w A1_1 l1_1.length l1_1) (hc1_1 : l1_1.length ≤ c1_1) (hr2_1 : Kd.C (Kd.int .u64) w A2_1 l2_1.length l2_1) (hc2_1 : l2_1.length ≤ c2_1) (h : horologeref01_Quotient.f k a0_0 l0_1 a1_0 l1_1 a2_0 l2_1 = some r) :
    Calls Try.prog 14 #[.agg #[.bool a0_0, .slice A0_1 l0_1.length c0_1], .agg #[.bool a1_0, .slice A1_1 l1_1.length c1_1], .agg #[.bool a2_0, .slice A2_1 l2_1.length c2_1]] w fun e w' => e = .returned (.bool r) ∧ Below w.heap.size w w' := by
  have hu33 := Try.underlying33
  unfold horologeref01_Quotient.f at h
  obtain ⟨p, hp, h1⟩ := Option.bind_eq_some_iff.mp h
  clear h
  obtain ⟨o, ho, h2⟩ := Option.bind_eq_some_iff.mp h1
  clear h1
  obtain ⟨s, hs, h3⟩ := Option.bind_eq_some_iff.mp h2
  clear h2
  obtain ⟨q, hq, h⟩ := Option.bind_eq_some_iff.mp h3
  clear h3
  have H := Aside0.mk h
  clear h
  have HP := Aside0.mk hp
  have HO := Aside0.mk ho
  have HS := Aside0.mk hs
  have HQ := Aside0.mk hq
  clear hp ho hs hq
  have HR0 := Aside0.mk hr0_1
  have HR1 := Aside0.mk hr1_1
  have HR2 := Aside0.mk hr2_1
  clear hr0_1 hr1_1 hr2_1
  go_enter Try.func14, Try.ntmps14
  go_wp2_with (first | ((with_reducible refine gate_dst (N := 3) rfl ?_); refine box_event ?hg (N := 3) ?hd (cs := #[.bool a0_0, .slice A0_1 l0_1.length c0_1]) (t := 33) ?hr ?_; (case hd => rfl); (case hg => rfl); (case hr => first | (go_simp; done) | (go_simp; rfl)); intro g3 hg3 w3 hbox3 hb3; (try clear hg3)) | ((with_reducible refine gate_dst (N := 4) rfl ?_); refine box_event ?hg (N := 4) ?hd (cs := #[.bool a1_0, .slice A1_1 l1_1.length c1_1]) (t := 33) ?hr ?_; (case hd => rfl); (case hg => rfl); (case hr => first | (go_simp; done) | (go_simp; rfl)); intro g4 hg4 w4 hbox4 hb4; (try clear hg4)) | ((with_reducible refine gate_dst (N := 5) rfl ?_); refine box_event ?hg (N := 5) ?hd (cs := #[.bool a2_0, .slice A2_1 l2_1.length c2_1]) (t := 33) ?hr ?_; (case hd => rfl); (case hg => rfl); (case hr => first | (go_simp; done) | (go_simp; rfl)); intro g5 hg5 w5 hbox5 hb5; (try clear hg5)))
  have B0 : QB w w5 g3 g4 g5 #[.bool a0_0, .slice A0_1 l0_1.length c0_1] #[.bool a1_0, .slice A1_1 l1_1.length c1_1] #[.bool a2_0, .slice A2_1 l2_1.length c2_1] :=
    ⟨below_step (below_step hb3 hb4) hb5, blk_below (blk_below hbox3 hb4) hb5, blk_below hbox4 hb5, hbox5⟩
  clear hbox3 hbox4 hbox5 hb3 hb4 hb5
  go_cut [7, 8] (fun v7 v8 wc => ∃ g7 g8 : Nat, ∃ A7 c7 A8 c8, v7 = .pointer (some ⟨g7, 0, none⟩) ∧ v8 = .pointer (some ⟨g8, 0, none⟩) ∧ QB w wc g3 g4 g5 #[.bool a0_0, .slice A0_1 l0_1.length c0_1] #[.bool a1_0, .slice A1_1 l1_1.length c1_1] #[.bool a2_0, .slice A2_1 l2_1.length c2_1] ∧ wc.heap[g7]? = some (.cells #[.bool p.1, .slice A7 p.2.length c7] 33 (0, 0)) ∧ wc.heap[g8]? = some (.cells #[.bool q.1, .slice A8 q.2.length c8] 33 (0, 0)) ∧ p.2.length ≤ c7 ∧ q.2.length ≤ c8 ∧ Kd.C (Kd.int .u64) wc A7 p.2.length p.2 ∧ Kd.C (Kd.int .u64) wc A8 q.2.length q.2)
  case first =>
    refine start_ (n := 12) (S := fun w' => w'.cell? ⟨g5, 0, none⟩ = some (.bool a2_0) ∧ w'.cell? ⟨g5, 1, none⟩ = some (.slice A2_1 l2_1.length c2_1) ∧ w'.cell? ⟨g4, 0, none⟩ = some (.bool a1_0) ∧ w'.cell? ⟨g4, 1, none⟩ = some (.slice A1_1 l1_1.length c1_1)) (ds := []) #[false, false, false, false, false, false, false, false, false, false, false, false] (by kernel_rfl) rfl rfl ⟨(blk_cell (blk_drew B0.2.2.2) 0).trans rfl, (blk_cell (blk_drew B0.2.2.2) 1).trans rfl, (blk_cell (blk_drew B0.2.2.1) 0).trans rfl, (blk_cell (blk_drew B0.2.2.1) 1).trans rfl⟩ (fun hHeld => ?_)
    refine take_ (i := 0) (N := some 9) (v := ?_) (a' := ?_) #[true, false, false, false, false, false, false, false, false, false, false, false] rfl rfl (by kernel_rfl) (fun _ _ _ h => h) (Or.inl ⟨by rfl, ?_⟩) hHeld ?_ ?_
    rotate_left
    · rintro w' ⟨s0, s1, s2, s3⟩
      go_simp
      with_reducible rfl
    rotate_left
    · simp only [Act.put, List.setIfInBounds_toArray, List.set_cons_zero, List.set_cons_succ]
      rfl
    refine take_ (i := 1) (N := some 10) (v := ?_) (a' := ?_) #[true, true, false, false, false, false, false, false, false, false, false, false] rfl rfl (by kernel_rfl) (fun _ _ _ h => h) (Or.inl ⟨by rfl, ?_⟩) hHeld ?_ ?_
    rotate_left
    · rintro w' ⟨s0, s1, s2, s3⟩
      go_simp
      with_reducible rfl
    rotate_left
    · simp only [Act.put, List.setIfInBounds_toArray, List.set_cons_zero, List.set_cons_succ]
      rfl
    refine take_ (i := 3) (N := some 12) (v := ?_) (a' := ?_) #[true, true, false, true, false, false, false, false, false, false, false, false] rfl rfl (by kernel_rfl) (fun _ _ _ h => h) (Or.inl ⟨by rfl, ?_⟩) hHeld ?_ ?_
    rotate_left
    · rintro w' ⟨s0, s1, s2, s3⟩
      go_simp
      with_reducible rfl
    rotate_left
    · simp only [Act.put, List.setIfInBounds_toArray, List.set_cons_zero, List.set_cons_succ]
      rfl
    refine take_ (i := 6) (N := some 15) (v := ?_) (a' := ?_) #[true, true, false, true, false, false, true, false, false, false, false, false] rfl rfl (by kernel_rfl) (fun _ _ _ h => h) (Or.inl ⟨by rfl, ?_⟩) hHeld ?_ ?_
    rotate_left
    · rintro w' ⟨s0, s1, s2, s3⟩
      go_simp
      with_reducible rfl
    rotate_left
    · simp only [Act.put, List.setIfInBounds_toArray, List.set_cons_zero, List.set_cons_succ]
      rfl
    have SS : ∀ w' : World, QB w w' g3 g4 g5 #[.bool a0_0, .slice A0_1 l0_1.length c0_1] #[.bool a1_0, .slice A1_1 l1_1.length c1_1] #[.bool a2_0, .slice A2_1 l2_1.length c2_1] → (w'.cell? ⟨g5, 0, none⟩ = some (.bool a2_0) ∧ w'.cell? ⟨g5, 1, none⟩ = some (.slice A2_1 l2_1.length c2_1) ∧ w'.cell? ⟨g4, 0, none⟩ = some (.bool a1_0) ∧ w'.cell? ⟨g4, 1, none⟩ = some (.slice A1_1 l1_1.length c1_1)) :=
      fun w' B => ⟨(blk_cell B.2.2.2 0).trans rfl, (blk_cell B.2.2.2 1).trans rfl, (blk_cell B.2.2.1 0).trans rfl, (blk_cell B.2.2.1 1).trans rfl⟩
    refine quo_inv (QInv w (.agg #[.bool a0_0, .slice A0_1 l0_1.length c0_1]) (.agg #[.bool a1_0, .slice A1_1 l1_1.length c1_1]) (.agg #[.bool a2_0, .slice A2_1 l2_1.length c2_1]) (.agg #[.bool a2_0, .slice A2_1 l2_1.length c2_1]) (.agg #[.bool a1_0, .slice A1_1 l1_1.length c1_1]) g3 g4 g5 #[.bool a0_0, .slice A0_1 l0_1.length c0_1] #[.bool a1_0, .slice A1_1 l1_1.length c1_1] #[.bool a2_0, .slice A2_1 l2_1.length c2_1] p o s q) 2 ?hstep ?hend 6 _ _ _ ?init
    case init => exact ⟨0, false, false, 0, 0, undef, undef, undef, undef, undef, undef, by omega, rfl, rfl, rfl, ⟨B0.1.drew, B0.2⟩, by simp, by simp, by simp, by simp, by simp, by simp, by simp⟩
    case hstep =>
      clear B0 hHeld
      rintro f l a wc ih ⟨i, b7, b8, g7, g8, X7, X8, X11, X13, X14, X16, hi, hf, rfl, rfl, HB, h7, h8, h78, h11, h13, h14, h16⟩
      obtain rfl | rfl | rfl | rfl | rfl : i = 0 ∨ i = 1 ∨ i = 2 ∨ i = 3 ∨ i = 4 := by omega
      all_goals cases b7 <;> cases b8
      · refine wpAnyLast_ready (rs := [2, 8, 9]) (by kernel_rfl) (by simp) (.cons rfl (by simp) (fun K hK => ?_) (.cons rfl (by simp) (fun K hK => ?_) (.cons rfl (by simp) (fun K hK => ?_) .nil)))
        · refine goes_ Try.func18 (by kernel_rfl) rfl #[Value.agg #[.bool a2_0, .slice A2_1 l2_1.length c2_1], Value.agg #[.bool a1_0, .slice A1_1 l1_1.length c1_1]] (by rfl) rfl rfl (by simp only [List.map_toArray, List.map_cons, List.map_nil]; rfl) ?_
          refine (horologeref01_Times.calls k _ _ _ _ _ _ _ _ p.1 p.2 wc (Kd.C_below HR2.out HB.1) hc2_1 (Kd.C_below HR1.out HB.1) hc1_1 HP.out).mono ?_
          rintro e w' ⟨v, rfl, hv, hb⟩
          exact ⟨_, rfl, hK.out _ _ (SS _ (HB.below hb)) (fun _ => ih _ _ _ ⟨1, false, false, g7, g8, X7, X8, _, X13, X14, X16, by omega, by simp only [qn] at hf ⊢; omega, rfl, rfl, HB.below hb, fun e => ⟨(h7 e).1, (h7 e).2.below hb⟩, fun e => ⟨(h8 e).1, (h8 e).2.below hb⟩, h78, fun _ => QRow.new hv (fun e => blk_lt (h7 e).2.1) (fun e => blk_lt (h8 e).2.1), fun e => absurd e (by decide), fun e => absurd e (by decide), fun e => absurd e (by decide)⟩)⟩
        · have h7' := Aside0.mk h7
          have h8' := Aside0.mk h8
          clear h7 h8
          rw [if_pos (by rfl)]
          go_simp
          have h7 := h7'.out
          have h8 := h8'.out
          have ha := below_alloc (Below.refl wc.heap.size wc) (.cells #[.bool false, .slice none 0 0] 33 (0, 0))
          exact hK.out _ _ (SS _ (HB.below ha)) (fun _ => ih _ _ _ ⟨0, true, false, wc.heap.size, g8, .pointer (some ⟨wc.heap.size, 0, none⟩), X8, X11, X13, X14, X16, by omega, by simp only [qn] at hf ⊢; omega, rfl, rfl, HB.below ha, fun _ => ⟨rfl, HB.new⟩, fun e => ⟨(h8 e).1, (h8 e).2.below ha⟩, fun _ e => Nat.ne_of_gt (blk_lt (h8 e).2.1), fun e => (h11 e).put7 _, fun e => (h13 e).below ha, fun e => (h14 e).below ha, fun e => (h16 e).put7 _⟩)
        · have h7' := Aside0.mk h7
          have h8' := Aside0.mk h8
          clear h7 h8
          rw [if_pos (by rfl)]
          go_simp
          have h7 := h7'.out
          have h8 := h8'.out
          have ha := below_alloc (Below.refl wc.heap.size wc) (.cells #[.bool false, .slice none 0 0] 33 (0, 0))
          exact hK.out _ _ (SS _ (HB.below ha)) (fun _ => ih _ _ _ ⟨0, false, true, g7, wc.heap.size, X7, .pointer (some ⟨wc.heap.size, 0, none⟩), X11, X13, X14, X16, by omega, by simp only [qn] at hf ⊢; omega, rfl, rfl, HB.below ha, fun e => ⟨(h7 e).1, (h7 e).2.below ha⟩, fun _ => ⟨rfl, HB.new⟩, fun e _ => Nat.ne_of_lt (blk_lt (h7 e).2.1), fun e => (h11 e).put8 _, fun e => (h13 e).below ha, fun e => (h14 e).below ha, fun e => (h16 e).put8 _⟩)
      · refine wpAnyLast_ready (rs := [2, 8]) (by kernel_rfl) (by simp) (.cons rfl (by simp) (fun K hK => ?_) (.cons rfl (by simp) (fun K hK => ?_) .nil))
        · refine goes_ Try.func18 (by kernel_rfl) rfl #[Value.agg #[.bool a2_0, .slice A2_1 l2_1.length c2_1], Value.agg #[.bool a1_0, .slice A1_1 l1_1.length c1_1]] (by rfl) rfl rfl (by simp only [List.map_toArray, List.map_cons, List.map_nil]; rfl) ?_
          refine (horologeref01_Times.calls k _ _ _ _ _ _ _ _ p.1 p.2 wc (Kd.C_below HR2.out HB.1) hc2_1 (Kd.C_below HR1.out HB.1) hc1_1 HP.out).mono ?_
          rintro e w' ⟨v, rfl, hv, hb⟩
          exact ⟨_, rfl, hK.out _ _ (SS _ (HB.below hb)) (fun _ => ih _ _ _ ⟨1, false, true, g7, g8, X7, X8, _, X13, X14, X16, by omega, by simp only [qn] at hf ⊢; omega, rfl, rfl, HB.below hb, fun e => ⟨(h7 e).1, (h7 e).2.below hb⟩, fun e => ⟨(h8 e).1, (h8 e).2.below hb⟩, h78, fun _ => QRow.new hv (fun e => blk_lt (h7 e).2.1) (fun e => blk_lt (h8 e).2.1), fun e => absurd e (by decide), fun e => absurd e (by decide), fun e => absurd e (by decide)⟩)⟩
        · have h7' := Aside0.mk h7
          have h8' := Aside0.mk h8
          clear h7 h8
          rw [if_pos (by rfl)]
          go_simp
          have h7 := h7'.out
          have h8 := h8'.out
          have ha := below_alloc (Below.refl wc.heap.size wc) (.cells #[.bool false, .slice none 0 0] 33 (0, 0))
          exact hK.out _ _ (SS _ (HB.below ha)) (fun _ => ih _ _ _ ⟨0, true, true, wc.heap.size, g8, .pointer (some ⟨wc.heap.size, 0, none⟩), X8, X11, X13, X14, X16, by omega, by simp only [qn] at hf ⊢; omega, rfl, rfl, HB.below ha, fun _ => ⟨rfl, HB.new⟩, fun e => ⟨(h8 e).1, (h8 e).2.below ha⟩, fun _ e => Nat.ne_of_gt (blk_lt (h8 e).2.1), fun e => (h11 e).put7 _, fun e => (h13 e).below ha, fun e => (h14 e).below ha, fun e => (h16 e).put7 _⟩)
      · refine wpAnyLast_ready (rs := [2, 9]) (by kernel_rfl) (by simp) (.cons rfl (by simp) (fun K hK => ?_) (.cons rfl (by simp) (fun K hK => ?_) .nil))
        · refine goes_ Try.func18 (by kernel_rfl) rfl #[Value.agg #[.bool a2_0, .slice A2_1 l2_1.length c2_1], Value.agg #[.bool a1_0, .slice A1_1 l1_1.length c1_1]] (by rfl) rfl rfl (by simp only [List.map_toArray, List.map_cons, List.map_nil]; rfl) ?_
          refine (horologeref01_Times.calls k _ _ _ _ _ _ _ _ p.1 p.2 wc (Kd.C_below HR2.out HB.1) hc2_1 (Kd.C_below HR1.out HB.1) hc1_1 HP.out).mono ?_
          rintro e w' ⟨v, rfl, hv, hb⟩
          exact ⟨_, rfl, hK.out _ _ (SS _ (HB.below hb)) (fun _ => ih _ _ _ ⟨1, true, false, g7, g8, X7, X8, _, X13, X14, X16, by omega, by simp only [qn] at hf ⊢; omega, rfl, rfl, HB.below hb, fun e => ⟨(h7 e).1, (h7 e).2.below hb⟩, fun e => ⟨(h8 e).1, (h8 e).2.below hb⟩, h78, fun _ => QRow.new hv (fun e => blk_lt (h7 e).2.1) (fun e => blk_lt (h8 e).2.1), fun e => absurd e (by decide), fun e => absurd e (by decide), fun e => absurd e (by decide)⟩)⟩
        · have h7' := Aside0.mk h7
          have h8' := Aside0.mk h8
          clear h7 h8
          rw [if_pos (by rfl)]
          go_simp
          have h7 := h7'.out
          have h8 := h8'.out
          have ha := below_alloc (Below.refl wc.heap.size wc) (.cells #[.bool false, .slice none 0 0] 33 (0, 0))
          exact hK.out _ _ (SS _ (HB.below ha)) (fun _ => ih _ _ _ ⟨0, true, true, g7, wc.heap.size, X7, .pointer (some ⟨wc.heap.size, 0, none⟩), X11, X13, X14, X16, by omega, by simp only [qn] at hf ⊢; omega, rfl, rfl, HB.below ha, fun e => ⟨(h7 e).1, (h7 e).2.below ha⟩, fun _ => ⟨rfl, HB.new⟩, fun e _ => Nat.ne_of_lt (blk_lt (h7 e).2.1), fun e => (h11 e).put8 _, fun e => (h13 e).below ha, fun e => (h14 e).below ha, fun e => (h16 e).put8 _⟩)
      · refine wpAnyLast_ready (rs := [2]) (by kernel_rfl) (by simp) (.cons rfl (by simp) (fun K hK => ?_) .nil)
        · refine goes_ Try.func18 (by kernel_rfl) rfl #[Value.agg #[.bool a2_0, .slice A2_1 l2_1.length c2_1], Value.agg #[.bool a1_0, .slice A1_1 l1_1.length c1_1]] (by rfl) rfl rfl (by simp only [List.map_toArray, List.map_cons, List.map_nil]; rfl) ?_
          refine (horologeref01_Times.calls k _ _ _ _ _ _ _ _ p.1 p.2 wc (Kd.C_below HR2.out HB.1) hc2_1 (Kd.C_below HR1.out HB.1) hc1_1 HP.out).mono ?_
          rintro e w' ⟨v, rfl, hv, hb⟩
          exact ⟨_, rfl, hK.out _ _ (SS _ (HB.below hb)) (fun _ => ih _ _ _ ⟨1, true, true, g7, g8, X7, X8, _, X13, X14, X16, by omega, by simp only [qn] at hf ⊢; omega, rfl, rfl, HB.below hb, fun e => ⟨(h7 e).1, (h7 e).2.below hb⟩, fun e => ⟨(h8 e).1, (h8 e).2.below hb⟩, h78, fun _ => QRow.new hv (fun e => blk_lt (h7 e).2.1) (fun e => blk_lt (h8 e).2.1), fun e => absurd e (by decide), fun e => absurd e (by decide), fun e => absurd e (by decide)⟩)⟩
      · refine wpAnyLast_ready (rs := [4, 8, 9]) (by kernel_rfl) (by simp) (.cons rfl (by simp) (fun K hK => ?_) (.cons rfl (by simp) (fun K hK => ?_) (.cons rfl (by simp) (fun K hK => ?_) .nil)))
        · refine goes_ Try.func13 (by kernel_rfl) rfl #[.int .i64 1] (by rfl) rfl rfl (by simp only [List.map_toArray, List.map_cons, List.map_nil]; rfl) ?_
          refine (horologeref01_Of.calls k _ o.1 o.2 wc HO.out).mono ?_
          rintro e w' ⟨v, rfl, hv, hb⟩
          exact ⟨_, rfl, hK.out _ _ (SS _ (HB.below hb)) (fun _ => ih _ _ _ ⟨2, false, false, g7, g8, X7, X8, X11, _, X14, X16, by omega, by simp only [qn] at hf ⊢; omega, rfl, rfl, HB.below hb, fun e => ⟨(h7 e).1, (h7 e).2.below hb⟩, fun e => ⟨(h8 e).1, (h8 e).2.below hb⟩, h78, fun e => (h11 (by decide)).below hb, fun _ => QRd.ofR hv, fun e => absurd e (by decide), fun e => absurd e (by decide)⟩)⟩
        · have h7' := Aside0.mk h7
          have h8' := Aside0.mk h8
          clear h7 h8
          rw [if_pos (by rfl)]
          go_simp
          have h7 := h7'.out
          have h8 := h8'.out
          have ha := below_alloc (Below.refl wc.heap.size wc) (.cells #[.bool false, .slice none 0 0] 33 (0, 0))
          exact hK.out _ _ (SS _ (HB.below ha)) (fun _ => ih _ _ _ ⟨1, true, false, wc.heap.size, g8, .pointer (some ⟨wc.heap.size, 0, none⟩), X8, X11, X13, X14, X16, by omega, by simp only [qn] at hf ⊢; omega, rfl, rfl, HB.below ha, fun _ => ⟨rfl, HB.new⟩, fun e => ⟨(h8 e).1, (h8 e).2.below ha⟩, fun _ e => Nat.ne_of_gt (blk_lt (h8 e).2.1), fun e => (h11 e).put7 _, fun e => (h13 e).below ha, fun e => (h14 e).below ha, fun e => (h16 e).put7 _⟩)
        · have h7' := Aside0.mk h7
          have h8' := Aside0.mk h8
          clear h7 h8
          rw [if_pos (by rfl)]
          go_simp
          have h7 := h7'.out
          have h8 := h8'.out
          have ha := below_alloc (Below.refl wc.heap.size wc) (.cells #[.bool false, .slice none 0 0] 33 (0, 0))
          exact hK.out _ _ (SS _ (HB.below ha)) (fun _ => ih _ _ _ ⟨1, false, true, g7, wc.heap.size, X7, .pointer (some ⟨wc.heap.size, 0, none⟩), X11, X13, X14, X16, by omega, by simp only [qn] at hf ⊢; omega, rfl, rfl, HB.below ha, fun e => ⟨(h7 e).1, (h7 e).2.below ha⟩, fun _ => ⟨rfl, HB.new⟩, fun e _ => Nat.ne_of_lt (blk_lt (h7 e).2.1), fun e => (h11 e).put8 _, fun e => (h13 e).below ha, fun e => (h14 e).below ha, fun e => (h16 e).put8 _⟩)
      · refine wpAnyLast_ready (rs := [4, 8]) (by kernel_rfl) (by simp) (.cons rfl (by simp) (fun K hK => ?_) (.cons rfl (by simp) (fun K hK => ?_) .nil))
        · refine goes_ Try.func13 (by kernel_rfl) rfl #[.int .i64 1] (by rfl) rfl rfl (by simp only [List.map_toArray, List.map_cons, List.map_nil]; rfl) ?_
          refine (horologeref01_Of.calls k _ o.1 o.2 wc HO.out).mono ?_
          rintro e w' ⟨v, rfl, hv, hb⟩
          exact ⟨_, rfl, hK.out _ _ (SS _ (HB.below hb)) (fun _ => ih _ _ _ ⟨2, false, true, g7, g8, X7, X8, X11, _, X14, X16, by omega, by simp only [qn] at hf ⊢; omega, rfl, rfl, HB.below hb, fun e => ⟨(h7 e).1, (h7 e).2.below hb⟩, fun e => ⟨(h8 e).1, (h8 e).2.below hb⟩, h78, fun e => (h11 (by decide)).below hb, fun _ => QRd.ofR hv, fun e => absurd e (by decide), fun e => absurd e (by decide)⟩)⟩
        · have h7' := Aside0.mk h7
          have h8' := Aside0.mk h8
          clear h7 h8
          rw [if_pos (by rfl)]
          go_simp
          have h7 := h7'.out
          have h8 := h8'.out
          have ha := below_alloc (Below.refl wc.heap.size wc) (.cells #[.bool false, .slice none 0 0] 33 (0, 0))
          exact hK.out _ _ (SS _ (HB.below ha)) (fun _ => ih _ _ _ ⟨1, true, true, wc.heap.size, g8, .pointer (some ⟨wc.heap.size, 0, none⟩), X8, X11, X13, X14, X16, by omega, by simp only [qn] at hf ⊢; omega, rfl, rfl, HB.below ha, fun _ => ⟨rfl, HB.new⟩, fun e => ⟨(h8 e).1, (h8 e).2.below ha⟩, fun _ e => Nat.ne_of_gt (blk_lt (h8 e).2.1), fun e => (h11 e).put7 _, fun e => (h13 e).below ha, fun e => (h14 e).below ha, fun e => (h16 e).put7 _⟩)
      · refine wpAnyLast_ready (rs := [4, 9]) (by kernel_rfl) (by simp) (.cons rfl (by simp) (fun K hK => ?_) (.cons rfl (by simp) (fun K hK => ?_) .nil))
        · refine goes_ Try.func13 (by kernel_rfl) rfl #[.int .i64 1] (by rfl) rfl rfl (by simp only [List.map_toArray, List.map_cons, List.map_nil]; rfl) ?_
          refine (horologeref01_Of.calls k _ o.1 o.2 wc HO.out).mono ?_
          rintro e w' ⟨v, rfl, hv, hb⟩
          exact ⟨_, rfl, hK.out _ _ (SS _ (HB.below hb)) (fun _ => ih _ _ _ ⟨2, true, false, g7, g8, X7, X8, X11, _, X14, X16, by omega, by simp only [qn] at hf ⊢; omega, rfl, rfl, HB.below hb, fun e => ⟨(h7 e).1, (h7 e).2.below hb⟩, fun e => ⟨(h8 e).1, (h8 e).2.below hb⟩, h78, fun e => (h11 (by decide)).below hb, fun _ => QRd.ofR hv, fun e => absurd e (by decide), fun e => absurd e (by decide)⟩)⟩
        · have h7' := Aside0.mk h7
          have h8' := Aside0.mk h8
          clear h7 h8
          rw [if_pos (by rfl)]
          go_simp
          have h7 := h7'.out
          have h8 := h8'.out
          have ha := below_alloc (Below.refl wc.heap.size wc) (.cells #[.bool false, .slice none 0 0] 33 (0, 0))
          exact hK.out _ _ (SS _ (HB.below ha)) (fun _ => ih _ _ _ ⟨1, true, true, g7, wc.heap.size, X7, .pointer (some ⟨wc.heap.size, 0, none⟩), X11, X13, X14, X16, by omega, by simp only [qn] at hf ⊢; omega, rfl, rfl, HB.below ha, fun e => ⟨(h7 e).1, (h7 e).2.below ha⟩, fun _ => ⟨rfl, HB.new⟩, fun e _ => Nat.ne_of_lt (blk_lt (h7 e).2.1), fun e => (h11 e).put8 _, fun e => (h13 e).below ha, fun e => (h14 e).below ha, fun e => (h16 e).put8 _⟩)
      · refine wpAnyLast_ready (rs := [4]) (by kernel_rfl) (by simp) (.cons rfl (by simp) (fun K hK => ?_) .nil)
        · refine goes_ Try.func13 (by kernel_rfl) rfl #[.int .i64 1] (by rfl) rfl rfl (by simp only [List.map_toArray, List.map_cons, List.map_nil]; rfl) ?_
          refine (horologeref01_Of.calls k _ o.1 o.2 wc HO.out).mono ?_
          rintro e w' ⟨v, rfl, hv, hb⟩
          exact ⟨_, rfl, hK.out _ _ (SS _ (HB.below hb)) (fun _ => ih _ _ _ ⟨2, true, true, g7, g8, X7, X8, X11, _, X14, X16, by omega, by simp only [qn] at hf ⊢; omega, rfl, rfl, HB.below hb, fun e => ⟨(h7 e).1, (h7 e).2.below hb⟩, fun e => ⟨(h8 e).1, (h8 e).2.below hb⟩, h78, fun e => (h11 (by decide)).below hb, fun _ => QRd.ofR hv, fun e => absurd e (by decide), fun e => absurd e (by decide)⟩)⟩
      · refine wpAnyLast_ready (rs := [5, 8, 9]) (by kernel_rfl) (by simp) (.cons rfl (by simp) (fun K hK => ?_) (.cons rfl (by simp) (fun K hK => ?_) (.cons rfl (by simp) (fun K hK => ?_) .nil)))
        · obtain ⟨Ao, co, rfl, hco, hCo⟩ := h13 (by omega)
          refine goes_ Try.func16 (by kernel_rfl) rfl #[Value.agg #[.bool a2_0, .slice A2_1 l2_1.length c2_1], .agg #[.bool o.1, .slice Ao o.2.length co]] (by rfl) rfl rfl (by simp only [List.map_toArray, List.map_cons, List.map_nil]; rfl) ?_
          refine (horologeref01_Plus.calls k _ _ _ _ _ _ _ _ s.1 s.2 wc (Kd.C_below HR2.out HB.1) hc2_1 hCo hco HS.out).mono ?_
          rintro e w' ⟨v, rfl, hv, hb⟩
          exact ⟨_, rfl, hK.out _ _ (SS _ (HB.below hb)) (fun _ => ih _ _ _ ⟨3, false, false, g7, g8, X7, X8, X11, _, _, X16, by omega, by simp only [qn] at hf ⊢; omega, rfl, rfl, HB.below hb, fun e => ⟨(h7 e).1, (h7 e).2.below hb⟩, fun e => ⟨(h8 e).1, (h8 e).2.below hb⟩, h78, fun e => (h11 (by decide)).below hb, fun _ => ⟨Ao, co, rfl, hco, Kd.C_below hCo hb⟩, fun _ => QRd.ofV hv, fun e => absurd e (by decide)⟩)⟩
        · have h7' := Aside0.mk h7
          have h8' := Aside0.mk h8
          clear h7 h8
          rw [if_pos (by rfl)]
          go_simp
          have h7 := h7'.out
          have h8 := h8'.out
          have ha := below_alloc (Below.refl wc.heap.size wc) (.cells #[.bool false, .slice none 0 0] 33 (0, 0))
          exact hK.out _ _ (SS _ (HB.below ha)) (fun _ => ih _ _ _ ⟨2, true, false, wc.heap.size, g8, .pointer (some ⟨wc.heap.size, 0, none⟩), X8, X11, X13, X14, X16, by omega, by simp only [qn] at hf ⊢; omega, rfl, rfl, HB.below ha, fun _ => ⟨rfl, HB.new⟩, fun e => ⟨(h8 e).1, (h8 e).2.below ha⟩, fun _ e => Nat.ne_of_gt (blk_lt (h8 e).2.1), fun e => (h11 e).put7 _, fun e => (h13 e).below ha, fun e => (h14 e).below ha, fun e => (h16 e).put7 _⟩)
        · have h7' := Aside0.mk h7
          have h8' := Aside0.mk h8
          clear h7 h8
          rw [if_pos (by rfl)]
          go_simp
          have h7 := h7'.out
          have h8 := h8'.out
          have ha := below_alloc (Below.refl wc.heap.size wc) (.cells #[.bool false, .slice none 0 0] 33 (0, 0))
          exact hK.out _ _ (SS _ (HB.below ha)) (fun _ => ih _ _ _ ⟨2, false, true, g7, wc.heap.size, X7, .pointer (some ⟨wc.heap.size, 0, none⟩), X11, X13, X14, X16, by omega, by simp only [qn] at hf ⊢; omega, rfl, rfl, HB.below ha, fun e => ⟨(h7 e).1, (h7 e).2.below ha⟩, fun _ => ⟨rfl, HB.new⟩, fun e _ => Nat.ne_of_lt (blk_lt (h7 e).2.1), fun e => (h11 e).put8 _, fun e => (h13 e).below ha, fun e => (h14 e).below ha, fun e => (h16 e).put8 _⟩)
      · refine wpAnyLast_ready (rs := [5, 8]) (by kernel_rfl) (by simp) (.cons rfl (by simp) (fun K hK => ?_) (.cons rfl (by simp) (fun K hK => ?_) .nil))
        · obtain ⟨Ao, co, rfl, hco, hCo⟩ := h13 (by omega)
          refine goes_ Try.func16 (by kernel_rfl) rfl #[Value.agg #[.bool a2_0, .slice A2_1 l2_1.length c2_1], .agg #[.bool o.1, .slice Ao o.2.length co]] (by rfl) rfl rfl (by simp only [List.map_toArray, List.map_cons, List.map_nil]; rfl) ?_
          refine (horologeref01_Plus.calls k _ _ _ _ _ _ _ _ s.1 s.2 wc (Kd.C_below HR2.out HB.1) hc2_1 hCo hco HS.out).mono ?_
          rintro e w' ⟨v, rfl, hv, hb⟩
          exact ⟨_, rfl, hK.out _ _ (SS _ (HB.below hb)) (fun _ => ih _ _ _ ⟨3, false, true, g7, g8, X7, X8, X11, _, _, X16, by omega, by simp only [qn] at hf ⊢; omega, rfl, rfl, HB.below hb, fun e => ⟨(h7 e).1, (h7 e).2.below hb⟩, fun e => ⟨(h8 e).1, (h8 e).2.below hb⟩, h78, fun e => (h11 (by decide)).below hb, fun _ => ⟨Ao, co, rfl, hco, Kd.C_below hCo hb⟩, fun _ => QRd.ofV hv, fun e => absurd e (by decide)⟩)⟩
        · have h7' := Aside0.mk h7
          have h8' := Aside0.mk h8
          clear h7 h8
          rw [if_pos (by rfl)]
          go_simp
          have h7 := h7'.out
          have h8 := h8'.out
          have ha := below_alloc (Below.refl wc.heap.size wc) (.cells #[.bool false, .slice none 0 0] 33 (0, 0))
          exact hK.out _ _ (SS _ (HB.below ha)) (fun _ => ih _ _ _ ⟨2, true, true, wc.heap.size, g8, .pointer (some ⟨wc.heap.size, 0, none⟩), X8, X11, X13, X14, X16, by omega, by simp only [qn] at hf ⊢; omega, rfl, rfl, HB.below ha, fun _ => ⟨rfl, HB.new⟩, fun e => ⟨(h8 e).1, (h8 e).2.below ha⟩, fun _ e => Nat.ne_of_gt (blk_lt (h8 e).2.1), fun e => (h11 e).put7 _, fun e => (h13 e).below ha, fun e => (h14 e).below ha, fun e => (h16 e).put7 _⟩)
      · refine wpAnyLast_ready (rs := [5, 9]) (by kernel_rfl) (by simp) (.cons rfl (by simp) (fun K hK => ?_) (.cons rfl (by simp) (fun K hK => ?_) .nil))
        · obtain ⟨Ao, co, rfl, hco, hCo⟩ := h13 (by omega)
          refine goes_ Try.func16 (by kernel_rfl) rfl #[Value.agg #[.bool a2_0, .slice A2_1 l2_1.length c2_1], .agg #[.bool o.1, .slice Ao o.2.length co]] (by rfl) rfl rfl (by simp only [List.map_toArray, List.map_cons, List.map_nil]; rfl) ?_
          refine (horologeref01_Plus.calls k _ _ _ _ _ _ _ _ s.1 s.2 wc (Kd.C_below HR2.out HB.1) hc2_1 hCo hco HS.out).mono ?_
          rintro e w' ⟨v, rfl, hv, hb⟩
          exact ⟨_, rfl, hK.out _ _ (SS _ (HB.below hb)) (fun _ => ih _ _ _ ⟨3, true, false, g7, g8, X7, X8, X11, _, _, X16, by omega, by simp only [qn] at hf ⊢; omega, rfl, rfl, HB.below hb, fun e => ⟨(h7 e).1, (h7 e).2.below hb⟩, fun e => ⟨(h8 e).1, (h8 e).2.below hb⟩, h78, fun e => (h11 (by decide)).below hb, fun _ => ⟨Ao, co, rfl, hco, Kd.C_below hCo hb⟩, fun _ => QRd.ofV hv, fun e => absurd e (by decide)⟩)⟩
        · have h7' := Aside0.mk h7
          have h8' := Aside0.mk h8
          clear h7 h8
          rw [if_pos (by rfl)]
          go_simp
          have h7 := h7'.out
          have h8 := h8'.out
          have ha := below_alloc (Below.refl wc.heap.size wc) (.cells #[.bool false, .slice none 0 0] 33 (0, 0))
          exact hK.out _ _ (SS _ (HB.below ha)) (fun _ => ih _ _ _ ⟨2, true, true, g7, wc.heap.size, X7, .pointer (some ⟨wc.heap.size, 0, none⟩), X11, X13, X14, X16, by omega, by simp only [qn] at hf ⊢; omega, rfl, rfl, HB.below ha, fun e => ⟨(h7 e).1, (h7 e).2.below ha⟩, fun _ => ⟨rfl, HB.new⟩, fun e _ => Nat.ne_of_lt (blk_lt (h7 e).2.1), fun e => (h11 e).put8 _, fun e => (h13 e).below ha, fun e => (h14 e).below ha, fun e => (h16 e).put8 _⟩)
      · refine wpAnyLast_ready (rs := [5]) (by kernel_rfl) (by simp) (.cons rfl (by simp) (fun K hK => ?_) .nil)
        · obtain ⟨Ao, co, rfl, hco, hCo⟩ := h13 (by omega)
          refine goes_ Try.func16 (by kernel_rfl) rfl #[Value.agg #[.bool a2_0, .slice A2_1 l2_1.length c2_1], .agg #[.bool o.1, .slice Ao o.2.length co]] (by rfl) rfl rfl (by simp only [List.map_toArray, List.map_cons, List.map_nil]; rfl) ?_
          refine (horologeref01_Plus.calls k _ _ _ _ _ _ _ _ s.1 s.2 wc (Kd.C_below HR2.out HB.1) hc2_1 hCo hco HS.out).mono ?_
          rintro e w' ⟨v, rfl, hv, hb⟩
          exact ⟨_, rfl, hK.out _ _ (SS _ (HB.below hb)) (fun _ => ih _ _ _ ⟨3, true, true, g7, g8, X7, X8, X11, _, _, X16, by omega, by simp only [qn] at hf ⊢; omega, rfl, rfl, HB.below hb, fun e => ⟨(h7 e).1, (h7 e).2.below hb⟩, fun e => ⟨(h8 e).1, (h8 e).2.below hb⟩, h78, fun e => (h11 (by decide)).below hb, fun _ => ⟨Ao, co, rfl, hco, Kd.C_below hCo hb⟩, fun _ => QRd.ofV hv, fun e => absurd e (by decide)⟩)⟩
      · refine wpAnyLast_ready (rs := [7, 8, 9]) (by kernel_rfl) (by simp) (.cons rfl (by simp) (fun K hK => ?_) (.cons rfl (by simp) (fun K hK => ?_) (.cons rfl (by simp) (fun K hK => ?_) .nil)))
        · obtain ⟨As, cs, rfl, hcs, hCs⟩ := h14 (by omega)
          refine goes_ Try.func18 (by kernel_rfl) rfl #[.agg #[.bool s.1, .slice As s.2.length cs], Value.agg #[.bool a1_0, .slice A1_1 l1_1.length c1_1]] (by rfl) rfl rfl (by simp only [List.map_toArray, List.map_cons, List.map_nil]; rfl) ?_
          refine (horologeref01_Times.calls k _ _ _ _ _ _ _ _ q.1 q.2 wc hCs hcs (Kd.C_below HR1.out HB.1) hc1_1 HQ.out).mono ?_
          rintro e w' ⟨v, rfl, hv, hb⟩
          exact ⟨_, rfl, hK.out _ _ (SS _ (HB.below hb)) (fun _ => ih _ _ _ ⟨4, false, false, g7, g8, X7, X8, X11, X13, _, _, by omega, by simp only [qn] at hf ⊢; omega, rfl, rfl, HB.below hb, fun e => ⟨(h7 e).1, (h7 e).2.below hb⟩, fun e => ⟨(h8 e).1, (h8 e).2.below hb⟩, h78, fun e => (h11 (by decide)).below hb, fun e => (h13 (by decide)).below hb, fun _ => ⟨As, cs, rfl, hcs, Kd.C_below hCs hb⟩, fun _ => QRow.new hv (fun e => blk_lt (h7 e).2.1) (fun e => blk_lt (h8 e).2.1)⟩)⟩
        · have h7' := Aside0.mk h7
          have h8' := Aside0.mk h8
          clear h7 h8
          rw [if_pos (by rfl)]
          go_simp
          have h7 := h7'.out
          have h8 := h8'.out
          have ha := below_alloc (Below.refl wc.heap.size wc) (.cells #[.bool false, .slice none 0 0] 33 (0, 0))
          exact hK.out _ _ (SS _ (HB.below ha)) (fun _ => ih _ _ _ ⟨3, true, false, wc.heap.size, g8, .pointer (some ⟨wc.heap.size, 0, none⟩), X8, X11, X13, X14, X16, by omega, by simp only [qn] at hf ⊢; omega, rfl, rfl, HB.below ha, fun _ => ⟨rfl, HB.new⟩, fun e => ⟨(h8 e).1, (h8 e).2.below ha⟩, fun _ e => Nat.ne_of_gt (blk_lt (h8 e).2.1), fun e => (h11 e).put7 _, fun e => (h13 e).below ha, fun e => (h14 e).below ha, fun e => (h16 e).put7 _⟩)
        · have h7' := Aside0.mk h7
          have h8' := Aside0.mk h8
          clear h7 h8
          rw [if_pos (by rfl)]
          go_simp
          have h7 := h7'.out
          have h8 := h8'.out
          have ha := below_alloc (Below.refl wc.heap.size wc) (.cells #[.bool false, .slice none 0 0] 33 (0, 0))
          exact hK.out _ _ (SS _ (HB.below ha)) (fun _ => ih _ _ _ ⟨3, false, true, g7, wc.heap.size, X7, .pointer (some ⟨wc.heap.size, 0, none⟩), X11, X13, X14, X16, by omega, by simp only [qn] at hf ⊢; omega, rfl, rfl, HB.below ha, fun e => ⟨(h7 e).1, (h7 e).2.below ha⟩, fun _ => ⟨rfl, HB.new⟩, fun e _ => Nat.ne_of_lt (blk_lt (h7 e).2.1), fun e => (h11 e).put8 _, fun e => (h13 e).below ha, fun e => (h14 e).below ha, fun e => (h16 e).put8 _⟩)
      · refine wpAnyLast_ready (rs := [7, 8]) (by kernel_rfl) (by simp) (.cons rfl (by simp) (fun K hK => ?_) (.cons rfl (by simp) (fun K hK => ?_) .nil))
        · obtain ⟨As, cs, rfl, hcs, hCs⟩ := h14 (by omega)
          refine goes_ Try.func18 (by kernel_rfl) rfl #[.agg #[.bool s.1, .slice As s.2.length cs], Value.agg #[.bool a1_0, .slice A1_1 l1_1.length c1_1]] (by rfl) rfl rfl (by simp only [List.map_toArray, List.map_cons, List.map_nil]; rfl) ?_
          refine (horologeref01_Times.calls k _ _ _ _ _ _ _ _ q.1 q.2 wc hCs hcs (Kd.C_below HR1.out HB.1) hc1_1 HQ.out).mono ?_
          rintro e w' ⟨v, rfl, hv, hb⟩
          exact ⟨_, rfl, hK.out _ _ (SS _ (HB.below hb)) (fun _ => ih _ _ _ ⟨4, false, true, g7, g8, X7, X8, X11, X13, _, _, by omega, by simp only [qn] at hf ⊢; omega, rfl, rfl, HB.below hb, fun e => ⟨(h7 e).1, (h7 e).2.below hb⟩, fun e => ⟨(h8 e).1, (h8 e).2.below hb⟩, h78, fun e => (h11 (by decide)).below hb, fun e => (h13 (by decide)).below hb, fun _ => ⟨As, cs, rfl, hcs, Kd.C_below hCs hb⟩, fun _ => QRow.new hv (fun e => blk_lt (h7 e).2.1) (fun e => blk_lt (h8 e).2.1)⟩)⟩
        · have h7' := Aside0.mk h7
          have h8' := Aside0.mk h8
          clear h7 h8
          rw [if_pos (by rfl)]
          go_simp
          have h7 := h7'.out
          have h8 := h8'.out
          have ha := below_alloc (Below.refl wc.heap.size wc) (.cells #[.bool false, .slice none 0 0] 33 (0, 0))
          exact hK.out _ _ (SS _ (HB.below ha)) (fun _ => ih _ _ _ ⟨3, true, true, wc.heap.size, g8, .pointer (some ⟨wc.heap.size, 0, none⟩), X8, X11, X13, X14, X16, by omega, by simp only [qn] at hf ⊢; omega, rfl, rfl, HB.below ha, fun _ => ⟨rfl, HB.new⟩, fun e => ⟨(h8 e).1, (h8 e).2.below ha⟩, fun _ e => Nat.ne_of_gt (blk_lt (h8 e).2.1), fun e => (h11 e).put7 _, fun e => (h13 e).below ha, fun e => (h14 e).below ha, fun e => (h16 e).put7 _⟩)
      · refine wpAnyLast_ready (rs := [7, 9]) (by kernel_rfl) (by simp) (.cons rfl (by simp) (fun K hK => ?_) (.cons rfl (by simp) (fun K hK => ?_) .nil))
        · obtain ⟨As, cs, rfl, hcs, hCs⟩ := h14 (by omega)
          refine goes_ Try.func18 (by kernel_rfl) rfl #[.agg #[.bool s.1, .slice As s.2.length cs], Value.agg #[.bool a1_0, .slice A1_1 l1_1.length c1_1]] (by rfl) rfl rfl (by simp only [List.map_toArray, List.map_cons, List.map_nil]; rfl) ?_
          refine (horologeref01_Times.calls k _ _ _ _ _ _ _ _ q.1 q.2 wc hCs hcs (Kd.C_below HR1.out HB.1) hc1_1 HQ.out).mono ?_
          rintro e w' ⟨v, rfl, hv, hb⟩
          exact ⟨_, rfl, hK.out _ _ (SS _ (HB.below hb)) (fun _ => ih _ _ _ ⟨4, true, false, g7, g8, X7, X8, X11, X13, _, _, by omega, by simp only [qn] at hf ⊢; omega, rfl, rfl, HB.below hb, fun e => ⟨(h7 e).1, (h7 e).2.below hb⟩, fun e => ⟨(h8 e).1, (h8 e).2.below hb⟩, h78, fun e => (h11 (by decide)).below hb, fun e => (h13 (by decide)).below hb, fun _ => ⟨As, cs, rfl, hcs, Kd.C_below hCs hb⟩, fun _ => QRow.new hv (fun e => blk_lt (h7 e).2.1) (fun e => blk_lt (h8 e).2.1)⟩)⟩
        · have h7' := Aside0.mk h7
          have h8' := Aside0.mk h8
          clear h7 h8
          rw [if_pos (by rfl)]
          go_simp
          have h7 := h7'.out
          have h8 := h8'.out
          have ha := below_alloc (Below.refl wc.heap.size wc) (.cells #[.bool false, .slice none 0 0] 33 (0, 0))
          exact hK.out _ _ (SS _ (HB.below ha)) (fun _ => ih _ _ _ ⟨3, true, true, g7, wc.heap.size, X7, .pointer (some ⟨wc.heap.size, 0, none⟩), X11, X13, X14, X16, by omega, by simp only [qn] at hf ⊢; omega, rfl, rfl, HB.below ha, fun e => ⟨(h7 e).1, (h7 e).2.below ha⟩, fun _ => ⟨rfl, HB.new⟩, fun e _ => Nat.ne_of_lt (blk_lt (h7 e).2.1), fun e => (h11 e).put8 _, fun e => (h13 e).below ha, fun e => (h14 e).below ha, fun e => (h16 e).put8 _⟩)
      · refine wpAnyLast_ready (rs := [7]) (by kernel_rfl) (by simp) (.cons rfl (by simp) (fun K hK => ?_) .nil)
        · obtain ⟨As, cs, rfl, hcs, hCs⟩ := h14 (by omega)
          refine goes_ Try.func18 (by kernel_rfl) rfl #[.agg #[.bool s.1, .slice As s.2.length cs], Value.agg #[.bool a1_0, .slice A1_1 l1_1.length c1_1]] (by rfl) rfl rfl (by simp only [List.map_toArray, List.map_cons, List.map_nil]; rfl) ?_
          refine (horologeref01_Times.calls k _ _ _ _ _ _ _ _ q.1 q.2 wc hCs hcs (Kd.C_below HR1.out HB.1) hc1_1 HQ.out).mono ?_
          rintro e w' ⟨v, rfl, hv, hb⟩
          exact ⟨_, rfl, hK.out _ _ (SS _ (HB.below hb)) (fun _ => ih _ _ _ ⟨4, true, true, g7, g8, X7, X8, X11, X13, _, _, by omega, by simp only [qn] at hf ⊢; omega, rfl, rfl, HB.below hb, fun e => ⟨(h7 e).1, (h7 e).2.below hb⟩, fun e => ⟨(h8 e).1, (h8 e).2.below hb⟩, h78, fun e => (h11 (by decide)).below hb, fun e => (h13 (by decide)).below hb, fun _ => ⟨As, cs, rfl, hcs, Kd.C_below hCs hb⟩, fun _ => QRow.new hv (fun e => blk_lt (h7 e).2.1) (fun e => blk_lt (h8 e).2.1)⟩)⟩
      · refine wpAnyLast_ready (rs := [8, 9]) (by kernel_rfl) (by simp) (.cons rfl (by simp) (fun K hK => ?_) (.cons rfl (by simp) (fun K hK => ?_) .nil))
        · have h7' := Aside0.mk h7
          have h8' := Aside0.mk h8
          clear h7 h8
          rw [if_pos (by rfl)]
          go_simp
          have h7 := h7'.out
          have h8 := h8'.out
          have ha := below_alloc (Below.refl wc.heap.size wc) (.cells #[.bool false, .slice none 0 0] 33 (0, 0))
          exact hK.out _ _ (SS _ (HB.below ha)) (fun _ => ih _ _ _ ⟨4, true, false, wc.heap.size, g8, .pointer (some ⟨wc.heap.size, 0, none⟩), X8, X11, X13, X14, X16, by omega, by simp only [qn] at hf ⊢; omega, rfl, rfl, HB.below ha, fun _ => ⟨rfl, HB.new⟩, fun e => ⟨(h8 e).1, (h8 e).2.below ha⟩, fun _ e => Nat.ne_of_gt (blk_lt (h8 e).2.1), fun e => (h11 e).put7 _, fun e => (h13 e).below ha, fun e => (h14 e).below ha, fun e => (h16 e).put7 _⟩)
        · have h7' := Aside0.mk h7
          have h8' := Aside0.mk h8
          clear h7 h8
          rw [if_pos (by rfl)]
          go_simp
          have h7 := h7'.out
          have h8 := h8'.out
          have ha := below_alloc (Below.refl wc.heap.size wc) (.cells #[.bool false, .slice none 0 0] 33 (0, 0))
          exact hK.out _ _ (SS _ (HB.below ha)) (fun _ => ih _ _ _ ⟨4, false, true, g7, wc.heap.size, X7, .pointer (some ⟨wc.heap.size, 0, none⟩), X11, X13, X14, X16, by omega, by simp only [qn] at hf ⊢; omega, rfl, rfl, HB.below ha, fun e => ⟨(h7 e).1, (h7 e).2.below ha⟩, fun _ => ⟨rfl, HB.new⟩, fun e _ => Nat.ne_of_lt (blk_lt (h7 e).2.1), fun e => (h11 e).put8 _, fun e => (h13 e).below ha, fun e => (h14 e).below ha, fun e => (h16 e).put8 _⟩)
      · refine wpAnyLast_ready (rs := [8]) (by kernel_rfl) (by simp) (.cons rfl (by simp) (fun K hK => ?_) .nil)
        · have h7' := Aside0.mk h7
          have h8' := Aside0.mk h8
          clear h7 h8
          rw [if_pos (by rfl)]
          go_simp
          have h7 := h7'.out
          have h8 := h8'.out
          have ha := below_alloc (Below.refl wc.heap.size wc) (.cells #[.bool false, .slice none 0 0] 33 (0, 0))
          exact hK.out _ _ (SS _ (HB.below ha)) (fun _ => ih _ _ _ ⟨4, true, true, wc.heap.size, g8, .pointer (some ⟨wc.heap.size, 0, none⟩), X8, X11, X13, X14, X16, by omega, by simp only [qn] at hf ⊢; omega, rfl, rfl, HB.below ha, fun _ => ⟨rfl, HB.new⟩, fun e => ⟨(h8 e).1, (h8 e).2.below ha⟩, fun _ e => Nat.ne_of_gt (blk_lt (h8 e).2.1), fun e => (h11 e).put7 _, fun e => (h13 e).below ha, fun e => (h14 e).below ha, fun e => (h16 e).put7 _⟩)
      · refine wpAnyLast_ready (rs := [9]) (by kernel_rfl) (by simp) (.cons rfl (by simp) (fun K hK => ?_) .nil)
        · have h7' := Aside0.mk h7
          have h8' := Aside0.mk h8
          clear h7 h8
          rw [if_pos (by rfl)]
          go_simp
          have h7 := h7'.out
          have h8 := h8'.out
          have ha := below_alloc (Below.refl wc.heap.size wc) (.cells #[.bool false, .slice none 0 0] 33 (0, 0))
          exact hK.out _ _ (SS _ (HB.below ha)) (fun _ => ih _ _ _ ⟨4, true, true, g7, wc.heap.size, X7, .pointer (some ⟨wc.heap.size, 0, none⟩), X11, X13, X14, X16, by omega, by simp only [qn] at hf ⊢; omega, rfl, rfl, HB.below ha, fun e => ⟨(h7 e).1, (h7 e).2.below ha⟩, fun _ => ⟨rfl, HB.new⟩, fun e _ => Nat.ne_of_lt (blk_lt (h7 e).2.1), fun e => (h11 e).put8 _, fun e => (h13 e).below ha, fun e => (h14 e).below ha, fun e => (h16 e).put8 _⟩)
      · exact absurd hf (by simp [qn])
    case hend =>
      rintro l a wc ⟨i, b7, b8, g7, g8, X7, X8, X11, X13, X14, X16, hi, hf, rfl, rfl, HB, h7, h8, h78, h11, h13, h14, h16⟩
      obtain rfl : i = 4 := by omega
      cases b7 with
      | false => exact absurd hf (by cases b8 <;> simp [qn])
      | true =>
        cases b8 with
        | false => exact absurd hf (by simp [qn])
        | true =>
          obtain ⟨rfl, hG7⟩ := h7 rfl
          obtain ⟨rfl, hG8⟩ := h8 rfl
          have h78 := h78 rfl rfl
          have R11 := h11 (by omega)
          have R16 := h16 (by omega)
          obtain ⟨A7, c7, e7⟩ : ∃ A c, X11 = .agg #[.bool p.1, .slice A p.2.length c] := by
            obtain ⟨v, e, hv⟩ := R11
            obtain ⟨A, c, rfl⟩ := Kd.V_slice hv
            exact ⟨A, c, e⟩
          subst e7
          obtain ⟨A8, c8, e8⟩ : ∃ A c, X16 = .agg #[.bool q.1, .slice A q.2.length c] := by
            obtain ⟨v, e, hv⟩ := R16
            obtain ⟨A, c, rfl⟩ := Kd.V_slice hv
            exact ⟨A, c, e⟩
          subst e8
          clear h11 h13 h14 h16 hf hi
          unfold QT QL
          refine one_ (i := 10) (N := none) #[true, true, true, true, true, true, true, true, true, true, true, false] rfl rfl (by kernel_rfl) (by decide) (fun K hK => ?_)
          have hs0 : wc.cell? ⟨g7, 0, none⟩ = some (.bool false) := (blk_cell hG7.1 0).trans rfl
          have hs1 : wc.cell? ⟨g7, 1, none⟩ = some (.slice none 0 0) := (blk_cell hG7.1 1).trans rfl
          have hf0 := blk_frozen hG7.1 0
          have hf1 := blk_frozen hG7.1 1
          refine skip_ (w1 := ?_) (by rfl) rfl ?_ ?_
          rotate_left
          · go_simp
            rfl
          have HB1 := (HB.set hG7.2 0 (.bool p.1)).set hG7.2 1 (.slice A7 p.2.length c7)
          have k7 := blk_put (cs := #[.bool p.1, .slice none 0 0]) (blk_put (cs := #[.bool false, .slice none 0 0]) hG7.1 0 (.bool p.1) rfl) 1 (.slice A7 p.2.length c7) rfl
          have k8 := blk_far (blk_far hG8.1 (p := ⟨g7, 0, none⟩) (Ne.symm h78) (.bool p.1)) (p := ⟨g7, 1, none⟩) (Ne.symm h78) (.slice A7 p.2.length c7)
          have R11 := (R11.set (.inl ⟨rfl, rfl⟩) 0 (.bool p.1)).set (.inl ⟨rfl, rfl⟩) 1 (.slice A7 p.2.length c7)
          have R16 := (R16.set (.inl ⟨rfl, rfl⟩) 0 (.bool p.1)).set (.inl ⟨rfl, rfl⟩) 1 (.slice A7 p.2.length c7)
          clear hs0 hs1 hf0 hf1
          refine hK.out _ _ (SS _ HB1) (fun _ => ?_)
          clear hK K
          generalize (wc.setCell ⟨g7, 0, none⟩ (.bool p.1)).setCell ⟨g7, 1, none⟩ (.slice A7 p.2.length c7) = W1 at HB1 k7 k8 R11 R16 ⊢
          refine one_ (i := 11) (N := none) #[true, true, true, true, true, true, true, true, true, true, true, true] rfl rfl (by kernel_rfl) (by decide) (fun K hK => ?_)
          have hs0 : W1.cell? ⟨g8, 0, none⟩ = some (.bool false) := (blk_cell k8 0).trans rfl
          have hs1 : W1.cell? ⟨g8, 1, none⟩ = some (.slice none 0 0) := (blk_cell k8 1).trans rfl
          have hf0 := blk_frozen k8 0
          have hf1 := blk_frozen k8 1
          refine skip_ (w1 := ?_) (by rfl) rfl ?_ ?_
          rotate_left
          · go_simp
            rfl
          have HB2 := (HB1.set hG8.2 0 (.bool q.1)).set hG8.2 1 (.slice A8 q.2.length c8)
          have j8 := blk_put (cs := #[.bool q.1, .slice none 0 0]) (blk_put (cs := #[.bool false, .slice none 0 0]) k8 0 (.bool q.1) rfl) 1 (.slice A8 q.2.length c8) rfl
          have j7 := blk_far (blk_far k7 (p := ⟨g8, 0, none⟩) h78 (.bool q.1)) (p := ⟨g8, 1, none⟩) h78 (.slice A8 q.2.length c8)
          have R11 := (R11.set (.inr ⟨rfl, rfl⟩) 0 (.bool q.1)).set (.inr ⟨rfl, rfl⟩) 1 (.slice A8 q.2.length c8)
          have R16 := (R16.set (.inr ⟨rfl, rfl⟩) 0 (.bool q.1)).set (.inr ⟨rfl, rfl⟩) 1 (.slice A8 q.2.length c8)
          clear hs0 hs1 hf0 hf1 k7 k8
          refine hK.out _ _ (SS _ HB2) (fun _ => ?_)
          clear hK K
          generalize (W1.setCell ⟨g8, 0, none⟩ (.bool q.1)).setCell ⟨g8, 1, none⟩ (.slice A8 q.2.length c8) = W2 at HB2 j7 j8 R11 R16 ⊢
          refine done_ (by kernel_rfl) ?_
          try go_wp2
          go_meet
          case rel =>
            obtain ⟨v, e, hv⟩ := R11
            obtain ⟨v', e', hv'⟩ := R16
            injection e with e
            injection e' with e'
            simp only [Array.mk.injEq, List.cons.injEq, and_true, true_and] at e e'
            subst e e'
            exact ⟨g7, g8, A7, c7, A8, c8, rfl, rfl, HB2, j7, j8, (Kd.V_reads' hv).2.1, (Kd.V_reads' hv').2.1, (Kd.V_reads' hv).2.2, (Kd.V_reads' hv').2.2⟩
  case rest =>
    obtain ⟨g7, g8, A7, c7, A8, c8, rfl, rfl, HB, k7, k8, hc7, hc8, hC7, hC8⟩ := hcut
    have hCA := Kd.C_below HR0.out HB.1
    have d40 : wc.cell? ⟨g4, 0, none⟩ = some (.bool a1_0) := (blk_cell HB.2.2.1 0).trans rfl
    have d30 : wc.cell? ⟨g3, 0, none⟩ = some (.bool a0_0) := (blk_cell HB.2.1 0).trans rfl
    have d31 : wc.cell? ⟨g3, 1, none⟩ = some (.slice A0_1 l0_1.length c0_1) := (blk_cell HB.2.1 1).trans rfl
    have d70 : wc.cell? ⟨g7, 0, none⟩ = some (.bool p.1) := (blk_cell k7 0).trans rfl
    have d71 : wc.cell? ⟨g7, 1, none⟩ = some (.slice A7 p.2.length c7) := (blk_cell k7 1).trans rfl
    have H1 := H.out
    clear HP HO HS HQ H
    have k3 := HB.2.1
    have HB1 := HB.1
    clear HB HR0 HR1 HR2
    cases a1_0 with
    | true =>
      rw [if_pos rfl] at H1
      obtain ⟨c, hc, H⟩ := Option.bind_eq_some_iff.mp H1
      clear H1
      cases c with
      | true =>
        rw [if_pos rfl] at H
        obtain rfl := Option.some.inj H
        go_wp2_with (first | (go_at_call 29; with_reducible refine (horologeref01_Less.calls k _ _ _ _ _ _ _ _ true wc hC7 hc7 hCA hc0_1 hc).mono ?_; rintro e w1 ⟨rfl, hb⟩))
        go_ret
        exact ⟨rfl, below_step HB1 hb⟩
      | false =>
        rw [if_neg (by decide)] at H
        go_wp2_with (first | (go_at_call 29; with_reducible refine (horologeref01_Less.calls k _ _ _ _ _ _ _ _ r _ hC8' hc8 hCA' hc0_1 H).mono ?_; rintro e w2 ⟨rfl, hb2⟩) | (go_at_call 29; with_reducible refine (horologeref01_Less.calls k _ _ _ _ _ _ _ _ false wc hC7 hc7 hCA hc0_1 hc).mono ?_; rintro e w1 ⟨rfl, hb⟩; have e30 : w1.cell? ⟨g3, 0, none⟩ = some (.bool a0_0) := (blk_cell (blk_below k3 hb) 0).trans rfl; have e31 : w1.cell? ⟨g3, 1, none⟩ = some (.slice A0_1 l0_1.length c0_1) := (blk_cell (blk_below k3 hb) 1).trans rfl; have e80 : w1.cell? ⟨g8, 0, none⟩ = some (.bool q.1) := (blk_cell (blk_below k8 hb) 0).trans rfl; have e81 : w1.cell? ⟨g8, 1, none⟩ = some (.slice A8 q.2.length c8) := (blk_cell (blk_below k8 hb) 1).trans rfl; have hC8' := Kd.C_below hC8 hb; have hCA' := Kd.C_below hCA hb))
        go_ret
        exact ⟨rfl, below_step (below_step HB1 hb) hb2⟩
    | false =>
      rw [if_neg (by decide)] at H1
      obtain ⟨c, hc, H⟩ := Option.bind_eq_some_iff.mp H1
      clear H1
      cases c with
      | true =>
        rw [if_pos rfl] at H
        obtain rfl := Option.some.inj H
        go_wp2_with (first | (go_at_call 29; with_reducible refine (horologeref01_Less.calls k _ _ _ _ _ _ _ _ true wc hCA hc0_1 hC7 hc7 hc).mono ?_; rintro e w1 ⟨rfl, hb⟩))
        go_ret
        exact ⟨rfl, below_step HB1 hb⟩
      | false =>
        rw [if_neg (by decide)] at H
        go_wp2_with (first | (go_at_call 29; with_reducible refine (horologeref01_Less.calls k _ _ _ _ _ _ _ _ r _ hCA' hc0_1 hC8' hc8 H).mono ?_; rintro e w2 ⟨rfl, hb2⟩) | (go_at_call 29; with_reducible refine (horologeref01_Less.calls k _ _ _ _ _ _ _ _ false wc hCA hc0_1 hC7 hc7 hc).mono ?_; rintro e w1 ⟨rfl, hb⟩; have e30 : w1.cell? ⟨g3, 0, none⟩ = some (.bool a0_0) := (blk_cell (blk_below k3 hb) 0).trans rfl; have e31 : w1.cell? ⟨g3, 1, none⟩ = some (.slice A0_1 l0_1.length c0_1) := (blk_cell (blk_below k3 hb) 1).trans rfl; have e80 : w1.cell? ⟨g8, 0, none⟩ = some (.bool q.1) := (blk_cell (blk_below k8 hb) 0).trans rfl; have e81 : w1.cell? ⟨g8, 1, none⟩ = some (.slice A8 q.2.length c8) := (blk_cell (blk_below k8 hb) 1).trans rfl; have hC8' := Kd.C_below hC8 hb; have hCA' := Kd.C_below hCA hb))
        go_ret
        exact ⟨rfl, below_step (below_step HB1 hb) hb2⟩

/-! ### bits_Mul64: function 34 -/
def bits_Mul64.f (a0 : Int) (a1 : Int) : Option (Int × Int) := some (IntKind.u64.wrap ((IntKind.u64.wrap ((IntKind.u64.wrap ((a0 / 4294967296) * (a1 / 4294967296))) + ((IntKind.u64.wrap ((IntKind.u64.wrap ((a0 / 4294967296) * (Go.bits .and .u64 a1 4294967295))) + ((IntKind.u64.wrap ((Go.bits .and .u64 a0 4294967295) * (Go.bits .and .u64 a1 4294967295))) / 4294967296))) / 4294967296))) + ((IntKind.u64.wrap ((Go.bits .and .u64 (IntKind.u64.wrap ((IntKind.u64.wrap ((a0 / 4294967296) * (Go.bits .and .u64 a1 4294967295))) + ((IntKind.u64.wrap ((Go.bits .and .u64 a0 4294967295) * (Go.bits .and .u64 a1 4294967295))) / 4294967296))) 4294967295) + (IntKind.u64.wrap ((Go.bits .and .u64 a0 4294967295) * (a1 / 4294967296))))) / 4294967296)), IntKind.u64.wrap (a0 * a1))
set_option maxHeartbeats 8000000 in
set_option maxRecDepth 100000 in
theorem bits_Mul64.calls (a0 : Int) (a1 : Int) (r1 : Int) (r2 : Int) (w : World) (h : bits_Mul64.f a0 a1 = some (r1, r2)) :
    Calls Try.prog 34 #[.int .u64 a0, .int .u64 a1] w fun e w' => e = .returned (.tuple #[.int .u64 r1, .int .u64 r2]) ∧ Drawn0 w w' := by
  have H : (some (IntKind.u64.wrap ((IntKind.u64.wrap ((IntKind.u64.wrap ((a0 / 4294967296) * (a1 / 4294967296))) + ((IntKind.u64.wrap ((IntKind.u64.wrap ((a0 / 4294967296) * (Go.bits .and .u64 a1 4294967295))) + ((IntKind.u64.wrap ((Go.bits .and .u64 a0 4294967295) * (Go.bits .and .u64 a1 4294967295))) / 4294967296))) / 4294967296))) + ((IntKind.u64.wrap ((Go.bits .and .u64 (IntKind.u64.wrap ((IntKind.u64.wrap ((a0 / 4294967296) * (Go.bits .and .u64 a1 4294967295))) + ((IntKind.u64.wrap ((Go.bits .and .u64 a0 4294967295) * (Go.bits .and .u64 a1 4294967295))) / 4294967296))) 4294967295) + (IntKind.u64.wrap ((Go.bits .and .u64 a0 4294967295) * (a1 / 4294967296))))) / 4294967296)), IntKind.u64.wrap (a0 * a1))) = some (r1, r2) := h
  clear h
  simp only [Option.some.injEq, Prod.mk.injEq] at H
  obtain ⟨rfl, rfl⟩ := H
  go_enter Try.func34, Try.ntmps34
  go_wp2
  go_ret2
  exact ⟨by first | rfl | (simp; done) | (simp [*]; done), by repeat (first | exact Drawn0.refl _ | apply Drawn0.step)⟩

/-! ### num_signed: function 36 -/
def num_signed.j0 : Nat → Int → Bool → Bool → Option (Int × Option Int)
  | 0, _, _, _ => none
  | k + 1, x0, x1, x6 => if x6 = true then (some (wrap64 (IntKind.u64.wrap (-x0)), none)) else (if x1 = true then (some (0, some 5)) else (if x0 ≤ 9223372036854775807 then (some (wrap64 (x0), none)) else (some (0, some 5))))
def num_signed.f (k : Nat) (a0 : Int) (a1 : Bool) : Option (Int × Option Int) := if a1 = true then (num_signed.j0 k a0 a1 (decide (a0 ≤ 9223372036854775808))) else (num_signed.j0 k a0 a1 false)
theorem num_signed.mono_l : ∀ k, (∀ y0 y1 y2, LeO (num_signed.j0 k y0 y1 y2) (num_signed.j0 (k + 1) y0 y1 y2))
  | 0 => fun _ _ _ r h => by simp [num_signed.j0] at h
  | k + 1 => by
    have ih0 := num_signed.mono_l k
    · intro y0 y1 y2
      unfold num_signed.j0
      repeat' first
      | (with_reducible exact ih0 _ _ _)
      | (with_reducible exact LeO.refl _)
      | (with_reducible exact LeO.none _)
      | (with_reducible refine LeO.ite ?_ ?_)
      | (with_reducible refine LeO.bind ?_ (fun _ => ?_))
      | exact ih0 _ _ _
      | exact LeO.none _
      | refine LeO.ite ?_ ?_
      | refine LeO.bind ?_ (fun _ => ?_)
theorem num_signed.mono : ∀ a0 a1 k, LeO (num_signed.f k a0 a1) (num_signed.f (k + 1) a0 a1) := by
  intro a0 a1 k
  have ih0 := num_signed.mono_l k
  unfold num_signed.f
  repeat' first
      | (with_reducible exact ih0 _ _ _)
      | (with_reducible exact LeO.refl _)
      | (with_reducible exact LeO.none _)
      | (with_reducible refine LeO.ite ?_ ?_)
      | (with_reducible refine LeO.bind ?_ (fun _ => ?_))
      | exact ih0 _ _ _
      | exact LeO.none _
      | refine LeO.ite ?_ ?_
      | refine LeO.bind ?_ (fun _ => ?_)
set_option maxHeartbeats 8000000 in
set_option maxRecDepth 100000 in
theorem num_signed.calls (k : Nat) (a0 : Int) (a1 : Bool) (r1 : Int) (r2 : Option Int) (w : World) (h : num_signed.f k a0 a1 = some (r1, r2)) :
    Calls Try.prog 36 #[.int .u64 a0, .bool a1] w fun e w' => e = .returned (.tuple #[.int .i64 r1, errW r2]) ∧ Drawn0 w w' := by
  have hu24 := Try.underlying24
  have hu30 := Try.underlying30
  have H : (if a1 = true then (num_signed.j0 k a0 a1 (decide (a0 ≤ 9223372036854775808))) else (num_signed.j0 k a0 a1 false)) = some (r1, r2) := h
  clear h
  have HC3 := Aside0.mk H
  clear H
  go_enter Try.func36, Try.ntmps36
  go_upto_region 1 with (fail)
  go_cut [6] (fun v6 wc => ∃ (kq : Nat) (x6_2 : Bool), v6 = .bool x6_2 ∧ Aside0 (num_signed.j0 kq a0 a1 x6_2 = some (r1, r2)) ∧ Aside0 (kq ≤ k) ∧ Drawn0 w wc)
  case first =>
    have H := HC3.out
    clear HC3
    by_cases c4 : a1 = true
    · subst c4
      have H1 : (num_signed.j0 k a0 true (decide (a0 ≤ 9223372036854775808))) = some (r1, r2) := by rw [if_pos rfl] at H; exact H
      clear H
      have H := H1
      clear H1
      have H' := Aside0.mk H
      clear H
      go_wp2
      go_meet
      case rel => exact ⟨_, (decide (a0 ≤ 9223372036854775808)), (by first | rfl | (simp; done) | (simp [*]; done)), H', ⟨by first | omega | exact Nat.le_refl _⟩, by repeat (first | exact Drawn0.refl _ | apply Drawn0.step)⟩
    · replace c4 := Bool.eq_false_iff.mpr c4
      subst c4
      have H1 : (num_signed.j0 k a0 false false) = some (r1, r2) := by rw [if_neg (show ¬ (false = true) by decide)] at H; exact H
      clear H
      have H := H1
      clear H1
      have H' := Aside0.mk H
      clear H
      go_wp2
      go_meet
      case rel => exact ⟨_, (false), (by first | rfl | (simp; done) | (simp [*]; done)), H', ⟨by first | omega | exact Nat.le_refl _⟩, by repeat (first | exact Drawn0.refl _ | apply Drawn0.step)⟩
  case rest =>
    clear HC3
    try clear p2
    try clear c3
    try clear c4
    obtain ⟨kq, x6_2, rfl, HA, HJ2, ⟨mc2, rfl⟩⟩ := hcut
    cases kq with
    | zero => exact absurd HA.out (by simp [num_signed.j0])
    | succ kj2 =>
      have H := HA.out
      clear HA
      simp only [num_signed.j0] at H
      by_cases c5 : x6_2 = true
      · subst c5
        have H1 : (some (wrap64 (IntKind.u64.wrap (-a0)), none)) = some (r1, r2) := by rw [if_pos rfl] at H; exact H
        clear H
        have H := H1
        clear H1
        simp only [Option.some.injEq, Prod.mk.injEq] at H
        obtain ⟨rfl, rfl⟩ := H
        go_wp2
        go_ret2
        exact ⟨by first | rfl | (simp; done) | (simp [*]; done), by repeat (first | exact Drawn0.refl _ | apply Drawn0.step)⟩
      · replace c5 := Bool.eq_false_iff.mpr c5
        subst c5
        have H1 : (if a1 = true then (some (0, some 5)) else (if a0 ≤ 9223372036854775807 then (some (wrap64 (a0), none)) else (some (0, some 5)))) = some (r1, r2) := by rw [if_neg (show ¬ (false = true) by decide)] at H; exact H
        clear H
        have H := H1
        clear H1
        by_cases c6 : a1 = true
        · subst c6
          have H1 : (some (0, some 5)) = some (r1, r2) := by rw [if_pos rfl] at H; exact H
          clear H
          have H := H1
          clear H1
          simp only [Option.some.injEq, Prod.mk.injEq] at H
          obtain ⟨rfl, rfl⟩ := H
          go_wp2
          go_ret2
          exact ⟨by first | rfl | (simp; done) | (simp [*]; done), by repeat (first | exact Drawn0.refl _ | apply Drawn0.step)⟩
        · replace c6 := Bool.eq_false_iff.mpr c6
          subst c6
          have H1 : (if a0 ≤ 9223372036854775807 then (some (wrap64 (a0), none)) else (some (0, some 5))) = some (r1, r2) := by rw [if_neg (show ¬ (false = true) by decide)] at H; exact H
          clear H
          have H := H1
          clear H1
          by_cases c7 : a0 ≤ 9223372036854775807
          · rw [if_pos c7] at H
            have c7b0 : decide (a0 ≤ 9223372036854775807) = true := decide_eq_true c7
            clear c7
            simp only [Option.some.injEq, Prod.mk.injEq] at H
            obtain ⟨rfl, rfl⟩ := H
            go_wp2
            go_ret2
            exact ⟨by first | rfl | (simp; done) | (simp [*]; done), by repeat (first | exact Drawn0.refl _ | apply Drawn0.step)⟩
          · rw [if_neg c7] at H
            have c7b0 : decide (a0 ≤ 9223372036854775807) = false := decide_eq_false c7
            clear c7
            simp only [Option.some.injEq, Prod.mk.injEq] at H
            obtain ⟨rfl, rfl⟩ := H
            go_wp2
            go_ret2
            exact ⟨by first | rfl | (simp; done) | (simp [*]; done), by repeat (first | exact Drawn0.refl _ | apply Drawn0.step)⟩

/-! ### bits_Len64: function 41 -/
mutual
def bits_Len64.j0 : Nat → Int → Int → Option (Int)
  | 0, _, _ => none
  | k + 1, x0, x2 => if x0 ≥ 65536 then (bits_Len64.j1 k (x0 / 65536) (wrap64 (x2 + 16))) else (bits_Len64.j1 k x0 x2)
def bits_Len64.j1 : Nat → Int → Int → Option (Int)
  | 0, _, _ => none
  | k + 1, x0, x2 => if x0 ≥ 256 then (if 0 ≤ ((x0 / 256) % 256) then (if ((x0 / 256) % 256) < 256 then (some (wrap64 ((wrap64 (x2 + 8)) + (wrap64 (bt (⟨#[0, 1, 2, 2, 3, 3, 3, 3, 4, 4, 4, 4, 4, 4, 4, 4, 5, 5, 5, 5, 5, 5, 5, 5, 5, 5, 5, 5, 5, 5, 5, 5, 6, 6, 6, 6, 6, 6, 6, 6, 6, 6, 6, 6, 6, 6, 6, 6, 6, 6, 6, 6, 6, 6, 6, 6, 6, 6, 6, 6, 6, 6, 6, 6, 7, 7, 7, 7, 7, 7, 7, 7, 7, 7, 7, 7, 7, 7, 7, 7, 7, 7, 7, 7, 7, 7, 7, 7, 7, 7, 7, 7, 7, 7, 7, 7, 7, 7, 7, 7, 7, 7, 7, 7, 7, 7, 7, 7, 7, 7, 7, 7, 7, 7, 7, 7, 7, 7, 7, 7, 7, 7, 7, 7, 7, 7, 7, 7, 8, 8, 8, 8, 8, 8, 8, 8, 8, 8, 8, 8, 8, 8, 8, 8, 8, 8, 8, 8, 8, 8, 8, 8, 8, 8, 8, 8, 8, 8, 8, 8, 8, 8, 8, 8, 8, 8, 8, 8, 8, 8, 8, 8, 8, 8, 8, 8, 8, 8, 8, 8, 8, 8, 8, 8, 8, 8, 8, 8, 8, 8, 8, 8, 8, 8, 8, 8, 8, 8, 8, 8, 8, 8, 8, 8, 8, 8, 8, 8, 8, 8, 8, 8, 8, 8, 8, 8, 8, 8, 8, 8, 8, 8, 8, 8, 8, 8, 8, 8, 8, 8, 8, 8, 8, 8, 8, 8, 8, 8, 8, 8, 8, 8, 8, 8, 8, 8, 8, 8, 8, 8, 8, 8, 8, 8, 8, 8]⟩ : ByteArray) ((x0 / 256) % 256)))))) else (none)) else (none)) else (if 0 ≤ ((x0) % 256) then (if ((x0) % 256) < 256 then (some (wrap64 (x2 + (wrap64 (bt (⟨#[0, 1, 2, 2, 3, 3, 3, 3, 4, 4, 4, 4, 4, 4, 4, 4, 5, 5, 5, 5, 5, 5, 5, 5, 5, 5, 5, 5, 5, 5, 5, 5, 6, 6, 6, 6, 6, 6, 6, 6, 6, 6, 6, 6, 6, 6, 6, 6, 6, 6, 6, 6, 6, 6, 6, 6, 6, 6, 6, 6, 6, 6, 6, 6, 7, 7, 7, 7, 7, 7, 7, 7, 7, 7, 7, 7, 7, 7, 7, 7, 7, 7, 7, 7, 7, 7, 7, 7, 7, 7, 7, 7, 7, 7, 7, 7, 7, 7, 7, 7, 7, 7, 7, 7, 7, 7, 7, 7, 7, 7, 7, 7, 7, 7, 7, 7, 7, 7, 7, 7, 7, 7, 7, 7, 7, 7, 7, 7, 8, 8, 8, 8, 8, 8, 8, 8, 8, 8, 8, 8, 8, 8, 8, 8, 8, 8, 8, 8, 8, 8, 8, 8, 8, 8, 8, 8, 8, 8, 8, 8, 8, 8, 8, 8, 8, 8, 8, 8, 8, 8, 8, 8, 8, 8, 8, 8, 8, 8, 8, 8, 8, 8, 8, 8, 8, 8, 8, 8, 8, 8, 8, 8, 8, 8, 8, 8, 8, 8, 8, 8, 8, 8, 8, 8, 8, 8, 8, 8, 8, 8, 8, 8, 8, 8, 8, 8, 8, 8, 8, 8, 8, 8, 8, 8, 8, 8, 8, 8, 8, 8, 8, 8, 8, 8, 8, 8, 8, 8, 8, 8, 8, 8, 8, 8, 8, 8, 8, 8, 8, 8, 8, 8, 8, 8, 8, 8]⟩ : ByteArray) ((x0) % 256)))))) else (none)) else (none))
end
def bits_Len64.f (k : Nat) (a0 : Int) : Option (Int) := if a0 ≥ 4294967296 then (bits_Len64.j0 k (a0 / 4294967296) 32) else (bits_Len64.j0 k a0 0)
theorem bits_Len64.mono_l : ∀ k, (∀ y0 y1, LeO (bits_Len64.j0 k y0 y1) (bits_Len64.j0 (k + 1) y0 y1)) ∧ (∀ y0 y1, LeO (bits_Len64.j1 k y0 y1) (bits_Len64.j1 (k + 1) y0 y1))
  | 0 => ⟨fun _ _ r h => by simp [bits_Len64.j0] at h, fun _ _ r h => by simp [bits_Len64.j1] at h⟩
  | k + 1 => by
    obtain ⟨ih0, ih1⟩ := bits_Len64.mono_l k
    refine ⟨?_, ?_⟩
    · intro y0 y1
      unfold bits_Len64.j0
      repeat' first
      | (with_reducible exact ih0 _ _)
      | (with_reducible exact ih1 _ _)
      | (with_reducible exact LeO.refl _)
      | (with_reducible exact LeO.none _)
      | (with_reducible refine LeO.ite ?_ ?_)
      | (with_reducible refine LeO.bind ?_ (fun _ => ?_))
      | exact ih0 _ _
      | exact ih1 _ _
      | exact LeO.none _
      | refine LeO.ite ?_ ?_
      | refine LeO.bind ?_ (fun _ => ?_)
    · intro y0 y1
      unfold bits_Len64.j1
      repeat' first
      | (with_reducible exact ih0 _ _)
      | (with_reducible exact ih1 _ _)
      | (with_reducible exact LeO.refl _)
      | (with_reducible exact LeO.none _)
      | (with_reducible refine LeO.ite ?_ ?_)
      | (with_reducible refine LeO.bind ?_ (fun _ => ?_))
      | exact ih0 _ _
      | exact ih1 _ _
      | exact LeO.none _
      | refine LeO.ite ?_ ?_
      | refine LeO.bind ?_ (fun _ => ?_)
theorem bits_Len64.mono : ∀ a0 k, LeO (bits_Len64.f k a0) (bits_Len64.f (k + 1) a0) := by
  intro a0 k
  obtain ⟨ih0, ih1⟩ := bits_Len64.mono_l k
  unfold bits_Len64.f
  repeat' first
      | (with_reducible exact ih0 _ _)
      | (with_reducible exact ih1 _ _)
      | (with_reducible exact LeO.refl _)
      | (with_reducible exact LeO.none _)
      | (with_reducible refine LeO.ite ?_ ?_)
      | (with_reducible refine LeO.bind ?_ (fun _ => ?_))
      | exact ih0 _ _
      | exact ih1 _ _
      | exact LeO.none _
      | refine LeO.ite ?_ ?_
      | refine LeO.bind ?_ (fun _ => ?_)
set_option maxHeartbeats 8000000 in
set_option maxRecDepth 100000 in
theorem bits_Len64.calls (k : Nat) (a0 : Int) (r : Int) (w : World) (h : bits_Len64.f k a0 = some r) :
    Calls Try.prog 41 #[.int .u64 a0] w fun e w' => e = .returned (.int .i64 r) ∧ Drawn0 w w' := by
  have H : (if a0 ≥ 4294967296 then (bits_Len64.j0 k (a0 / 4294967296) 32) else (bits_Len64.j0 k a0 0)) = some r := h
  clear h
  have HC2 := Aside0.mk H
  clear H
  go_enter Try.func41, Try.ntmps41
  go_upto_if 4 with (fail)
  go_cut [0, 2] (fun v0 v2 wc => ∃ (kq : Nat) (x0_1 : Int) (x2_1 : Int), v0 = .int .u64 x0_1 ∧ v2 = .int .i64 x2_1 ∧ Aside0 (bits_Len64.j0 kq x0_1 x2_1 = some r) ∧ Aside0 (kq ≤ k) ∧ Drawn0 w wc)
  case first =>
    have H := HC2.out
    clear HC2
    by_cases c3 : a0 ≥ 4294967296
    · rw [if_pos c3] at H
      have c3b0 : decide (4294967296 ≤ a0) = true := decide_eq_true c3
      clear c3
      (first | rw [c3b0] | (simp only [i64_w, i32_w]; rw [c3b0]) | skip)
      have H' := Aside0.mk H
      clear H
      go_wp2
      go_meet
      case rel => exact ⟨_, (a0 / 4294967296), (32), (by first | rfl | (simp; done) | (simp [*]; done)), (by first | rfl | (simp; done) | (simp [*]; done)), H', ⟨by first | omega | exact Nat.le_refl _⟩, by repeat (first | exact Drawn0.refl _ | apply Drawn0.step)⟩
    · rw [if_neg c3] at H
      have c3b0 : decide (4294967296 ≤ a0) = false := decide_eq_false c3
      clear c3
      (first | rw [c3b0] | (simp only [i64_w, i32_w]; rw [c3b0]) | skip)
      have H' := Aside0.mk H
      clear H
      go_wp2
      go_meet
      case rel => exact ⟨_, (a0), (0), (by first | rfl | (simp; done) | (simp [*]; done)), (by first | rfl | (simp; done) | (simp [*]; done)), H', ⟨by first | omega | exact Nat.le_refl _⟩, by repeat (first | exact Drawn0.refl _ | apply Drawn0.step)⟩
  case rest =>
    clear HC2
    try clear p2
    try clear c3
    try clear c3b0
    obtain ⟨kq, x0_1, x2_1, rfl, rfl, HA, HJ1, ⟨mc1, rfl⟩⟩ := hcut
    cases kq with
    | zero => exact absurd HA.out (by simp [bits_Len64.j0])
    | succ kj1 =>
      have H := HA.out
      clear HA
      simp only [bits_Len64.j0] at H
      have HC4 := Aside0.mk H
      clear H
      go_upto_if 8 with (fail)
      go_cut [0, 2] (fun v0 v2 wc => ∃ (kq : Nat) (x0_3 : Int) (x2_3 : Int), v0 = .int .u64 x0_3 ∧ v2 = .int .i64 x2_3 ∧ Aside0 (bits_Len64.j1 kq x0_3 x2_3 = some r) ∧ Aside0 (kq ≤ kj1) ∧ Drawn0 w wc)
      case first =>
        have H := HC4.out
        clear HC4
        by_cases c5 : x0_1 ≥ 65536
        · rw [if_pos c5] at H
          have c5b0 : decide (65536 ≤ x0_1) = true := decide_eq_true c5
          clear c5
          (first | rw [c5b0] | (simp only [i64_w, i32_w]; rw [c5b0]) | skip)
          have H' := Aside0.mk H
          clear H
          go_wp2
          go_meet
          case rel => exact ⟨_, (x0_1 / 65536), (wrap64 (x2_1 + 16)), (by first | rfl | (simp; done) | (simp [*]; done)), (by first | rfl | (simp; done) | (simp [*]; done)), H', ⟨by have := HJ1.out; first | omega | exact Nat.le_refl _⟩, by repeat (first | exact Drawn0.refl _ | apply Drawn0.step)⟩
        · rw [if_neg c5] at H
          have c5b0 : decide (65536 ≤ x0_1) = false := decide_eq_false c5
          clear c5
          (first | rw [c5b0] | (simp only [i64_w, i32_w]; rw [c5b0]) | skip)
          have H' := Aside0.mk H
          clear H
          go_wp2
          go_meet
          case rel => exact ⟨_, (x0_1), (x2_1), (by first | rfl | (simp; done) | (simp [*]; done)), (by first | rfl | (simp; done) | (simp [*]; done)), H', ⟨by have := HJ1.out; first | omega | exact Nat.le_refl _⟩, by repeat (first | exact Drawn0.refl _ | apply Drawn0.step)⟩
      case rest =>
        clear HC4
        try clear c1
        try clear p2
        try clear c3
        try clear c3b0
        try clear c4
        try clear c5
        try clear c5b0
        try clear p2
        obtain ⟨kq, x0_3, x2_3, rfl, rfl, HA, HJ3, ⟨mc3, rfl⟩⟩ := hcut
        cases kq with
        | zero => exact absurd HA.out (by simp [bits_Len64.j1])
        | succ kj3 =>
          have H := HA.out
          clear HA
          simp only [bits_Len64.j1] at H
          by_cases c6 : x0_3 ≥ 256
          · rw [if_pos c6] at H
            have c6b0 : decide (256 ≤ x0_3) = true := decide_eq_true c6
            clear c6
            obtain ⟨ji7, hji7⟩ : ∃ j_ : Int, ((x0_3 / 256) % 256) = j_ := ⟨_, rfl⟩
            replace H : (if 0 ≤ (ji7) then (if (ji7) < 256 then (some (wrap64 ((wrap64 (x2_3 + 8)) + (wrap64 (bt (⟨#[0, 1, 2, 2, 3, 3, 3, 3, 4, 4, 4, 4, 4, 4, 4, 4, 5, 5, 5, 5, 5, 5, 5, 5, 5, 5, 5, 5, 5, 5, 5, 5, 6, 6, 6, 6, 6, 6, 6, 6, 6, 6, 6, 6, 6, 6, 6, 6, 6, 6, 6, 6, 6, 6, 6, 6, 6, 6, 6, 6, 6, 6, 6, 6, 7, 7, 7, 7, 7, 7, 7, 7, 7, 7, 7, 7, 7, 7, 7, 7, 7, 7, 7, 7, 7, 7, 7, 7, 7, 7, 7, 7, 7, 7, 7, 7, 7, 7, 7, 7, 7, 7, 7, 7, 7, 7, 7, 7, 7, 7, 7, 7, 7, 7, 7, 7, 7, 7, 7, 7, 7, 7, 7, 7, 7, 7, 7, 7, 8, 8, 8, 8, 8, 8, 8, 8, 8, 8, 8, 8, 8, 8, 8, 8, 8, 8, 8, 8, 8, 8, 8, 8, 8, 8, 8, 8, 8, 8, 8, 8, 8, 8, 8, 8, 8, 8, 8, 8, 8, 8, 8, 8, 8, 8, 8, 8, 8, 8, 8, 8, 8, 8, 8, 8, 8, 8, 8, 8, 8, 8, 8, 8, 8, 8, 8, 8, 8, 8, 8, 8, 8, 8, 8, 8, 8, 8, 8, 8, 8, 8, 8, 8, 8, 8, 8, 8, 8, 8, 8, 8, 8, 8, 8, 8, 8, 8, 8, 8, 8, 8, 8, 8, 8, 8, 8, 8, 8, 8, 8, 8, 8, 8, 8, 8, 8, 8, 8, 8, 8, 8, 8, 8, 8, 8, 8, 8]⟩ : ByteArray) (ji7)))))) else (none)) else (none)) = some r := by first | (rw [hji7] at H; exact H) | (simp only [hji7] at H ⊢; exact H)
            by_cases c8 : 0 ≤ (ji7)
            · rw [if_pos c8] at H
              have c8b0 : decide (0 ≤ (ji7)) = true := decide_eq_true c8
              clear c8
              by_cases c9 : (ji7) < 256
              · rw [if_pos c9] at H
                have c9b0 : decide ((ji7) < 256) = true := decide_eq_true c9
                clear c9
                obtain rfl := Option.some.inj H
                have p10 : 0 ≤ ((ji7) : Int) := of_decide_eq_true (by first | (with_reducible assumption) | assumption)
                have q10 : (ji7) < (256 : Int) := of_decide_eq_true (by first | (with_reducible assumption) | assumption)
                have hx10 := bt_at (⟨#[0, 1, 2, 2, 3, 3, 3, 3, 4, 4, 4, 4, 4, 4, 4, 4, 5, 5, 5, 5, 5, 5, 5, 5, 5, 5, 5, 5, 5, 5, 5, 5, 6, 6, 6, 6, 6, 6, 6, 6, 6, 6, 6, 6, 6, 6, 6, 6, 6, 6, 6, 6, 6, 6, 6, 6, 6, 6, 6, 6, 6, 6, 6, 6, 7, 7, 7, 7, 7, 7, 7, 7, 7, 7, 7, 7, 7, 7, 7, 7, 7, 7, 7, 7, 7, 7, 7, 7, 7, 7, 7, 7, 7, 7, 7, 7, 7, 7, 7, 7, 7, 7, 7, 7, 7, 7, 7, 7, 7, 7, 7, 7, 7, 7, 7, 7, 7, 7, 7, 7, 7, 7, 7, 7, 7, 7, 7, 7, 8, 8, 8, 8, 8, 8, 8, 8, 8, 8, 8, 8, 8, 8, 8, 8, 8, 8, 8, 8, 8, 8, 8, 8, 8, 8, 8, 8, 8, 8, 8, 8, 8, 8, 8, 8, 8, 8, 8, 8, 8, 8, 8, 8, 8, 8, 8, 8, 8, 8, 8, 8, 8, 8, 8, 8, 8, 8, 8, 8, 8, 8, 8, 8, 8, 8, 8, 8, 8, 8, 8, 8, 8, 8, 8, 8, 8, 8, 8, 8, 8, 8, 8, 8, 8, 8, 8, 8, 8, 8, 8, 8, 8, 8, 8, 8, 8, 8, 8, 8, 8, 8, 8, 8, 8, 8, 8, 8, 8, 8, 8, 8, 8, 8, 8, 8, 8, 8, 8, 8, 8, 8, 8, 8, 8, 8, 8, 8]⟩ : ByteArray) (ji7)
                replace p10 := eq_true p10
                replace q10 := eq_true q10
                go_wp2
                go_ret
                exact ⟨by first | rfl | (simp; done) | (simp only [← hji7] <;> (first | rfl | simp)) | (simp [*]; done), by repeat (first | exact Drawn0.refl _ | apply Drawn0.step)⟩
              · rw [if_neg c9] at H
                exact absurd H (by simp)
            · rw [if_neg c8] at H
              exact absurd H (by simp)
          · rw [if_neg c6] at H
            have c6b0 : decide (256 ≤ x0_3) = false := decide_eq_false c6
            clear c6
            obtain ⟨ji11, hji11⟩ : ∃ j_ : Int, ((x0_3) % 256) = j_ := ⟨_, rfl⟩
            replace H : (if 0 ≤ (ji11) then (if (ji11) < 256 then (some (wrap64 (x2_3 + (wrap64 (bt (⟨#[0, 1, 2, 2, 3, 3, 3, 3, 4, 4, 4, 4, 4, 4, 4, 4, 5, 5, 5, 5, 5, 5, 5, 5, 5, 5, 5, 5, 5, 5, 5, 5, 6, 6, 6, 6, 6, 6, 6, 6, 6, 6, 6, 6, 6, 6, 6, 6, 6, 6, 6, 6, 6, 6, 6, 6, 6, 6, 6, 6, 6, 6, 6, 6, 7, 7, 7, 7, 7, 7, 7, 7, 7, 7, 7, 7, 7, 7, 7, 7, 7, 7, 7, 7, 7, 7, 7, 7, 7, 7, 7, 7, 7, 7, 7, 7, 7, 7, 7, 7, 7, 7, 7, 7, 7, 7, 7, 7, 7, 7, 7, 7, 7, 7, 7, 7, 7, 7, 7, 7, 7, 7, 7, 7, 7, 7, 7, 7, 8, 8, 8, 8, 8, 8, 8, 8, 8, 8, 8, 8, 8, 8, 8, 8, 8, 8, 8, 8, 8, 8, 8, 8, 8, 8, 8, 8, 8, 8, 8, 8, 8, 8, 8, 8, 8, 8, 8, 8, 8, 8, 8, 8, 8, 8, 8, 8, 8, 8, 8, 8, 8, 8, 8, 8, 8, 8, 8, 8, 8, 8, 8, 8, 8, 8, 8, 8, 8, 8, 8, 8, 8, 8, 8, 8, 8, 8, 8, 8, 8, 8, 8, 8, 8, 8, 8, 8, 8, 8, 8, 8, 8, 8, 8, 8, 8, 8, 8, 8, 8, 8, 8, 8, 8, 8, 8, 8, 8, 8, 8, 8, 8, 8, 8, 8, 8, 8, 8, 8, 8, 8, 8, 8, 8, 8, 8, 8]⟩ : ByteArray) (ji11)))))) else (none)) else (none)) = some r := by first | (rw [hji11] at H; exact H) | (simp only [hji11] at H ⊢; exact H)
            by_cases c12 : 0 ≤ (ji11)
            · rw [if_pos c12] at H
              have c12b0 : decide (0 ≤ (ji11)) = true := decide_eq_true c12
              clear c12
              by_cases c13 : (ji11) < 256
              · rw [if_pos c13] at H
                have c13b0 : decide ((ji11) < 256) = true := decide_eq_true c13
                clear c13
                obtain rfl := Option.some.inj H
                have p14 : 0 ≤ ((ji11) : Int) := of_decide_eq_true (by first | (with_reducible assumption) | assumption)
                have q14 : (ji11) < (256 : Int) := of_decide_eq_true (by first | (with_reducible assumption) | assumption)
                have hx14 := bt_at (⟨#[0, 1, 2, 2, 3, 3, 3, 3, 4, 4, 4, 4, 4, 4, 4, 4, 5, 5, 5, 5, 5, 5, 5, 5, 5, 5, 5, 5, 5, 5, 5, 5, 6, 6, 6, 6, 6, 6, 6, 6, 6, 6, 6, 6, 6, 6, 6, 6, 6, 6, 6, 6, 6, 6, 6, 6, 6, 6, 6, 6, 6, 6, 6, 6, 7, 7, 7, 7, 7, 7, 7, 7, 7, 7, 7, 7, 7, 7, 7, 7, 7, 7, 7, 7, 7, 7, 7, 7, 7, 7, 7, 7, 7, 7, 7, 7, 7, 7, 7, 7, 7, 7, 7, 7, 7, 7, 7, 7, 7, 7, 7, 7, 7, 7, 7, 7, 7, 7, 7, 7, 7, 7, 7, 7, 7, 7, 7, 7, 8, 8, 8, 8, 8, 8, 8, 8, 8, 8, 8, 8, 8, 8, 8, 8, 8, 8, 8, 8, 8, 8, 8, 8, 8, 8, 8, 8, 8, 8, 8, 8, 8, 8, 8, 8, 8, 8, 8, 8, 8, 8, 8, 8, 8, 8, 8, 8, 8, 8, 8, 8, 8, 8, 8, 8, 8, 8, 8, 8, 8, 8, 8, 8, 8, 8, 8, 8, 8, 8, 8, 8, 8, 8, 8, 8, 8, 8, 8, 8, 8, 8, 8, 8, 8, 8, 8, 8, 8, 8, 8, 8, 8, 8, 8, 8, 8, 8, 8, 8, 8, 8, 8, 8, 8, 8, 8, 8, 8, 8, 8, 8, 8, 8, 8, 8, 8, 8, 8, 8, 8, 8, 8, 8, 8, 8, 8, 8]⟩ : ByteArray) (ji11)
                replace p14 := eq_true p14
                replace q14 := eq_true q14
                go_wp2
                go_ret
                exact ⟨by first | rfl | (simp; done) | (simp only [← hji11] <;> (first | rfl | simp)) | (simp [*]; done), by repeat (first | exact Drawn0.refl _ | apply Drawn0.step)⟩
              · rw [if_neg c13] at H
                exact absurd H (by simp)
            · rw [if_neg c12] at H
              exact absurd H (by simp)

end Go.Proofs.Ytcgcodmknoiljaa.MNumScales
