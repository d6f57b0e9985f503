/-
  What an act's walk keeps.
-/
import Derived.Test.YtdgeaadcidmmfaaQPlaysSame
import Derived.Test.YtdgeaadcidmmfaaRegInv
namespace Go.Proofs.Ytdgeaadcidmmfaa
set_option linter.unusedVariables false
set_option linter.unusedSimpArgs false
open Go.Conc Go.RowKit Go.Proofs.YtdgeaadcidmmfaaW.PrintWords Go.Proofs.YtdgeaadcidmmfaaW.PrintLast Go.Proofs.YtdgeaadcidmmfaaW.PrintMore Go.Proofs.Ytdgeaadcidmmfaa.MQueuePlays
theorem SR.of {w : World} {A : Option Addr} {n c : Nat} {l : List ByteArray} (h : n = l.length ∧ n ≤ c ∧ Kd.C Kd.string w A l.length l) : SR w A c l := ⟨h.2.2, by rw [← h.1]; exact h.2.1⟩
theorem noF {p : Prop} : (false = true → p) := fun h => by cases h
/-- What stays of two queues: that they lie apart, and their rooms. -/
structure Far (g0 c0 cap0 g1 c1 cap1 : Nat) : Prop where
  gg : g0 ≠ g1
  cc : c0 ≠ c1
  gc : g0 ≠ c1
  cg : g1 ≠ c0
  m0 : cap0 ≤ 64
  m1 : cap1 ≤ 64
/-- The world of an act: the queues, and the act's own boxes. -/
structure Env (w0 : World) (b3 b4 b5 b6 : Nat) (kind : Int) (other : Bool) (text : ByteArray) (g0 c0 cap0 g1 c1 cap1 : Nat) (x0 x1 : List ByteArray) (v4 v6 : Array Value) (w : World) : Prop where
  F : Far g0 c0 cap0 g1 c1 cap1
  q0 : QL w g0 c0 cap0 x0
  q1 : QL w g1 c1 cap1 x1
  e3 : w.heap[b3]? = some (.cells #[.pointer (some ⟨g0, 0, none⟩), .pointer (some ⟨g1, 0, none⟩)] 38 (0, 0))
  e4 : w.heap[b4]? = some (.cells v4 42 (0, 0))
  e5 : w.heap[b5]? = some (.cells #[.int .i64 kind, .bool other, .string text] 48 (0, 0))
  e6 : w.heap[b6]? = some (.cells v6 42 (0, 0))
  k : Kept w0 w (fun j => j = c0 ∨ j = c1)
  o4 : w0.heap.size ≤ b4
  o6 : w0.heap.size ≤ b6
  n46 : b4 ≠ b6
section
variable {w0 : World} {b3 b4 b5 b6 : Nat} {kind : Int} {other : Bool} {text : ByteArray} {g0 c0 cap0 g1 c1 cap1 : Nat} {x0 x1 x0' x1' : List ByteArray} {v4 v6 : Array Value} {w w' : World}
theorem blk_ne {g h : Nat} {o p : Obj} (hg : w.heap[g]? = some o) (hh : w.heap[h]? = some p) (ho : o ≠ p) : g ≠ h := by
  intro e
  subst e
  exact ho (Option.some.inj (hg.symm.trans hh))
theorem QL.box {g c cap : Nat} {l : List ByteArray} (h : QL w g c cap l) : w.heap[g]? = some (.cells #[.chan (some c)] 64 (0, 0)) := by
  obtain ⟨s, r, h⟩ := h
  exact h.box
theorem Env.below (E : Env w0 b3 b4 b5 b6 kind other text g0 c0 cap0 g1 c1 cap1 x0 x1 v4 v6 w) (hb : Below w.heap.size w w') : Env w0 b3 b4 b5 b6 kind other text g0 c0 cap0 g1 c1 cap1 x0 x1 v4 v6 w' :=
  ⟨E.F, E.q0.kept (Kept.of_below hb (fun _ => False)) (fun h => h) (fun h => h), E.q1.kept (Kept.of_below hb (fun _ => False)) (fun h => h) (fun h => h), blk_below E.e3 hb, blk_below E.e4 hb, blk_below E.e5 hb, blk_below E.e6 hb, E.k.below hb, E.o4, E.o6, E.n46⟩
theorem Env.drewN (E : Env w0 b3 b4 b5 b6 kind other text g0 c0 cap0 g1 c1 cap1 x0 x1 v4 v6 w) (n : Nat) : Env w0 b3 b4 b5 b6 kind other text g0 c0 cap0 g1 c1 cap1 x0 x1 v4 v6 (w.drewN n) := E.below (pw_below_drewN (Below.refl _ _) n)
/-- Behind what the queues' functions do. -/
theorem Env.call {S : Nat → Prop} (E : Env w0 b3 b4 b5 b6 kind other text g0 c0 cap0 g1 c1 cap1 x0 x1 v4 v6 w) (hk : Kept w w' S) (hS : ∀ j, S j → j = c0 ∨ j = c1) (h0 : QL w' g0 c0 cap0 x0') (h1 : QL w' g1 c1 cap1 x1') : Env w0 b3 b4 b5 b6 kind other text g0 c0 cap0 g1 c1 cap1 x0' x1' v4 v6 w' := by
  have hn : ∀ {g : Nat} {cs : Array Value} {t : TypeId}, w.heap[g]? = some (.cells cs t (0, 0)) → ¬ S g := by
    intro g cs t hg hs
    rcases hS g hs with rfl | rfl
    · obtain ⟨cap, b, a, s, r, t, hc⟩ := E.q0.chan
      rw [hg] at hc
      cases hc
    · obtain ⟨cap, b, a, s, r, t, hc⟩ := E.q1.chan
      rw [hg] at hc
      cases hc
  exact ⟨E.F, h0, h1, blk_kept E.e3 hk (hn E.e3), blk_kept E.e4 hk (hn E.e4), blk_kept E.e5 hk (hn E.e5), blk_kept E.e6 hk (hn E.e6), E.k.then_ hk (fun j hj => .inl (hS j hj)), E.o4, E.o6, E.n46⟩
theorem Env.call0 (E : Env w0 b3 b4 b5 b6 kind other text g0 c0 cap0 g1 c1 cap1 x0 x1 v4 v6 w) (hk : Kept w w' (fun j => j = c0)) (h0 : QL w' g0 c0 cap0 x0') : Env w0 b3 b4 b5 b6 kind other text g0 c0 cap0 g1 c1 cap1 x0' x1 v4 v6 w' :=
  E.call hk (fun j hj => .inl hj) h0 (E.q1.kept hk E.F.cg (fun e => E.F.cc e.symm))
theorem Env.call1 (E : Env w0 b3 b4 b5 b6 kind other text g0 c0 cap0 g1 c1 cap1 x0 x1 v4 v6 w) (hk : Kept w w' (fun j => j = c1)) (h1 : QL w' g1 c1 cap1 x1') : Env w0 b3 b4 b5 b6 kind other text g0 c0 cap0 g1 c1 cap1 x0 x1' v4 v6 w' :=
  E.call hk (fun j hj => .inr hj) (E.q0.kept hk E.F.gc E.F.cc) h1
/-- A store into the document's pair. -/
theorem Env.set4 (E : Env w0 b3 b4 b5 b6 kind other text g0 c0 cap0 g1 c1 cap1 x0 x1 v4 v6 w) (j : Nat) (u : Value) : Env w0 b3 b4 b5 b6 kind other text g0 c0 cap0 g1 c1 cap1 x0 x1 (v4.setIfInBounds j u) v6 (w.setCell ⟨b4, j, none⟩ u) := by
  have hk : Kept w (w.setCell ⟨b4, j, none⟩ u) (fun k => k = b4) := Kept.setCell (S := fun k => k = b4) (p := ⟨b4, j, none⟩) (Kept.refl _ _) (.inl rfl) u
  obtain ⟨cap, b, a, s, r, t, hc0⟩ := E.q0.chan
  obtain ⟨cap', b', a', s', r', t', hc1⟩ := E.q1.chan
  have n3 : b3 ≠ b4 := blk_ne E.e3 E.e4 (by simp)
  have n5 : b5 ≠ b4 := blk_ne E.e5 E.e4 (by simp)
  have ng0 : g0 ≠ b4 := blk_ne E.q0.box E.e4 (by simp)
  have ng1 : g1 ≠ b4 := blk_ne E.q1.box E.e4 (by simp)
  have nc0 : c0 ≠ b4 := blk_ne hc0 E.e4 (by simp)
  have nc1 : c1 ≠ b4 := blk_ne hc1 E.e4 (by simp)
  exact ⟨E.F, E.q0.kept hk ng0 nc0, E.q1.kept hk ng1 nc1, blk_kept E.e3 hk n3, blk_set E.e4 j u, blk_kept E.e5 hk n5, blk_kept E.e6 hk (fun e => E.n46 e.symm), E.k.setCell (.inr E.o4) u, E.o4, E.o6, E.n46⟩
/-- A store into the result. -/
theorem Env.set6 (E : Env w0 b3 b4 b5 b6 kind other text g0 c0 cap0 g1 c1 cap1 x0 x1 v4 v6 w) (j : Nat) (u : Value) : Env w0 b3 b4 b5 b6 kind other text g0 c0 cap0 g1 c1 cap1 x0 x1 v4 (v6.setIfInBounds j u) (w.setCell ⟨b6, j, none⟩ u) := by
  have hk : Kept w (w.setCell ⟨b6, j, none⟩ u) (fun k => k = b6) := Kept.setCell (S := fun k => k = b6) (p := ⟨b6, j, none⟩) (Kept.refl _ _) (.inl rfl) u
  obtain ⟨cap, b, a, s, r, t, hc0⟩ := E.q0.chan
  obtain ⟨cap', b', a', s', r', t', hc1⟩ := E.q1.chan
  have n3 : b3 ≠ b6 := blk_ne E.e3 E.e6 (by simp)
  have n5 : b5 ≠ b6 := blk_ne E.e5 E.e6 (by simp)
  have ng0 : g0 ≠ b6 := blk_ne E.q0.box E.e6 (by simp)
  have ng1 : g1 ≠ b6 := blk_ne E.q1.box E.e6 (by simp)
  have nc0 : c0 ≠ b6 := blk_ne hc0 E.e6 (by simp)
  have nc1 : c1 ≠ b6 := blk_ne hc1 E.e6 (by simp)
  exact ⟨E.F, E.q0.kept hk ng0 nc0, E.q1.kept hk ng1 nc1, blk_kept E.e3 hk n3, blk_kept E.e4 hk E.n46, blk_kept E.e5 hk n5, blk_set E.e6 j u, E.k.setCell (.inr E.o6) u, E.o4, E.o6, E.n46⟩
/-- A store into a box of a document's queue. -/
theorem Env.set41 (E : Env w0 b3 b4 b5 b6 kind other text g0 c0 cap0 g1 c1 cap1 x0 x1 v4 v6 w) {g : Nat} {cs : Array Value} (hg : w.heap[g]? = some (.cells cs 41 (0, 0))) (og : w0.heap.size ≤ g) (j : Nat) (u : Value) : Env w0 b3 b4 b5 b6 kind other text g0 c0 cap0 g1 c1 cap1 x0 x1 v4 v6 (w.setCell ⟨g, j, none⟩ u) := by
  have hk : Kept w (w.setCell ⟨g, j, none⟩ u) (fun k => k = g) := Kept.setCell (S := fun k => k = g) (p := ⟨g, j, none⟩) (Kept.refl _ _) (.inl rfl) u
  obtain ⟨cap, b, a, s, r, t, hc0⟩ := E.q0.chan
  obtain ⟨cap', b', a', s', r', t', hc1⟩ := E.q1.chan
  have n3 : b3 ≠ g := blk_ne E.e3 hg (by simp)
  have n4 : b4 ≠ g := blk_ne E.e4 hg (by simp)
  have n5 : b5 ≠ g := blk_ne E.e5 hg (by simp)
  have n6 : b6 ≠ g := blk_ne E.e6 hg (by simp)
  have ng0 : g0 ≠ g := blk_ne E.q0.box hg (by simp)
  have ng1 : g1 ≠ g := blk_ne E.q1.box hg (by simp)
  have nc0 : c0 ≠ g := blk_ne hc0 hg (by simp)
  have nc1 : c1 ≠ g := blk_ne hc1 hg (by simp)
  exact ⟨E.F, E.q0.kept hk ng0 nc0, E.q1.kept hk ng1 nc1, blk_kept E.e3 hk n3, blk_kept E.e4 hk n4, blk_kept E.e5 hk n5, blk_kept E.e6 hk n6, E.k.setCell (.inr og) u, E.o4, E.o6, E.n46⟩
/-- A row of texts stays where a box without texts is written. -/
theorem SR.set {A : Option Addr} {c : Nat} {l : List ByteArray} (h : SR w A c l) {g : Nat} {cs : Array Value} {t : TypeId} (hg : w.heap[g]? = some (.cells cs t (0, 0))) (hn : ∀ (i : Nat) (s : ByteArray), cs[i]? ≠ some (Value.string s)) (j : Nat) (u : Value) : SR (w.setCell ⟨g, j, none⟩ u) A c l := by
  obtain ⟨⟨h1, h2, h3⟩, hc⟩ := h
  refine ⟨⟨h1, h2, fun hp => ?_⟩, hc⟩
  obtain ⟨ad, e, hcell⟩ := h3 hp
  refine ⟨ad, e, fun j' p hj => ?_⟩
  obtain ⟨cc, q1, q2, q3⟩ := hcell j' p hj
  refine ⟨cc, q1, q2, fun i u' hu => ?_⟩
  have h4 := q3 i u' hu
  obtain ⟨s, rfl⟩ : ∃ s, u' = .string s := by
    have hq : cc = [.string p] := q2
    subst hq
    cases i with
    | zero => exact ⟨p, by simpa using hu.symm⟩
    | succ i => simp at hu
  refine cell_kept h4 (Kept.setCell (S := fun k => k = g) (Kept.refl _ _) (.inl rfl) u) (fun hs => ?_)
  have hs : (ad.add (j' * Kd.string.sz + i)).block = g := hs
  generalize ad.add (j' * Kd.string.sz + i) = aa at h4 hs
  obtain ⟨bb, oo, sp⟩ := aa
  obtain rfl : bb = g := hs
  unfold World.cell? at h4
  simp only [hg] at h4
  split at h4
  · cases h4
  · exact hn _ _ h4
theorem SR.call {S : Nat → Prop} (E : Env w0 b3 b4 b5 b6 kind other text g0 c0 cap0 g1 c1 cap1 x0 x1 v4 v6 w) {A : Option Addr} {c : Nat} {l : List ByteArray} (h : SR w A c l) (hk : Kept w w' S) (hS : ∀ j, S j → j = c0 ∨ j = c1) : SR w' A c l :=
  h.kept hk (fun j hj => by
    rcases hS j hj with rfl | rfl
    · exact E.q0.chan
    · exact E.q1.chan)
end
theorem nos4 (a : Option Addr) (n m : Nat) (i : Int) (b : Option Addr) (p q : Nat) (j : Int) : ∀ (k : Nat) (s : ByteArray), (#[Value.slice a n m, .int .i64 i, .slice b p q, .int .i64 j] : Array Value)[k]? ≠ some (Value.string s) := by
  intro k s
  rcases k with _ | _ | _ | _ | k <;> simp
theorem nos2 (a : Option Addr) (n m : Nat) (i : Int) : ∀ (k : Nat) (s : ByteArray), (#[Value.slice a n m, .int .i64 i] : Array Value)[k]? ≠ some (Value.string s) := by
  intro k s
  rcases k with _ | _ | k <;> simp
theorem env_start {w : World} {g0 c0 cap0 g1 c1 cap1 : Nat} {l0 l1 : List ByteArray} (A0 : Option Addr) (n0 : Nat) (A1 : Option Addr) (n1 : Nat) (kind : Int) (other : Bool) (text : ByteArray) (F : Far g0 c0 cap0 g1 c1 cap1) (q0 : QL w g0 c0 cap0 l0) (q1 : QL w g1 c1 cap1 l1) :
    Env w w.heap.size (w.heap.size + 1) (w.heap.size + 1 + 1) (w.heap.size + 1 + 1 + 1) kind other text g0 c0 cap0 g1 c1 cap1 l0 l1 #[.slice A0 l0.length n0, .int .i64 cap0, .slice A1 l1.length n1, .int .i64 cap1] #[.slice none 0 0, .int .i64 0, .slice none 0 0, .int .i64 0]
      ((((w.alloc (.cells #[.pointer (some ⟨g0, 0, none⟩), .pointer (some ⟨g1, 0, none⟩)] 38)).alloc (.cells #[.slice A0 l0.length n0, .int .i64 cap0, .slice A1 l1.length n1, .int .i64 cap1] 42)).alloc (.cells #[.int .i64 kind, .bool other, .string text] 48)).alloc (.cells #[.slice none 0 0, .int .i64 0, .slice none 0 0, .int .i64 0] 42)) := by
  generalize h3 : (Obj.cells #[.pointer (some ⟨g0, 0, none⟩), .pointer (some ⟨g1, 0, none⟩)] 38) = o3
  generalize h4 : (Obj.cells #[.slice A0 l0.length n0, .int .i64 cap0, .slice A1 l1.length n1, .int .i64 cap1] 42) = o4
  generalize h5 : (Obj.cells #[.int .i64 kind, .bool other, .string text] 48) = o5
  generalize h6 : (Obj.cells #[.slice none 0 0, .int .i64 0, .slice none 0 0, .int .i64 0] 42) = o6
  have s3 : (w.alloc o3).heap.size = w.heap.size + 1 := World.size_alloc _ _
  have s4 : ((w.alloc o3).alloc o4).heap.size = w.heap.size + 1 + 1 := by rw [World.size_alloc, s3]
  have s5 : (((w.alloc o3).alloc o4).alloc o5).heap.size = w.heap.size + 1 + 1 + 1 := by rw [World.size_alloc, s4]
  have b1 : Below w.heap.size w (w.alloc o3) := below_alloc (Below.refl _ _) _
  have bb : ∀ (W : World) (o : Obj), Below W.heap.size W (W.alloc o) := fun W o => below_alloc (Below.refl _ _) o
  have ball : Below w.heap.size w ((((w.alloc o3).alloc o4).alloc o5).alloc o6) := below_alloc (below_alloc (below_alloc b1 _) _) _
  refine ⟨F, q0.kept (Kept.of_below ball (fun _ => False)) (fun h => h) (fun h => h), q1.kept (Kept.of_below ball (fun _ => False)) (fun h => h) (fun h => h), ?_, ?_, ?_, ?_, Kept.of_below ball _, by omega, by omega, by omega⟩
  · have h := blk_below (blk_below (blk_below (blk_new w o3) (bb _ o4)) (bb _ o5)) (bb _ o6)
    rw [← h3] at h ⊢
    exact h
  · have h := blk_below (blk_below (blk_new (w.alloc o3) o4) (bb _ o5)) (bb _ o6)
    rw [s3] at h
    rw [← h4] at h ⊢
    exact h
  · have h := blk_below (blk_new ((w.alloc o3).alloc o4) o5) (bb _ o6)
    rw [s4] at h
    rw [← h5] at h ⊢
    exact h
  · have h := blk_new (((w.alloc o3).alloc o4).alloc o5) o6
    rw [s5] at h
    rw [← h6] at h ⊢
    exact h
/-- A document's queue as a value. -/
def RowQ (w : World) (v : Value) (y : List ByteArray) (cap : Nat) : Prop := ∃ A c, v = .agg #[.slice A y.length c, .int .i64 cap] ∧ SR w A c y
def MoveQ (w : World) (v : Value) (m : Nat) (y : List ByteArray) (cap : Nat) (y' : List ByteArray) (cap' : Nat) : Prop := ∃ A c A' c', v = .tuple #[.int .i64 m, .agg #[.slice A y.length c, .int .i64 cap], .agg #[.slice A' y'.length c', .int .i64 cap']] ∧ SR w A c y ∧ SR w A' c' y'
def PutQ (w : World) (v : Value) (b : Bool) (y : List ByteArray) (cap : Nat) : Prop := ∃ A c, v = .tuple #[.bool b, .agg #[.slice A y.length c, .int .i64 cap]] ∧ SR w A c y
/-- A box of a document's queue: new (false), written (true). -/
def BoxS (b : Bool) (n0 : Nat) (w : World) (v : Value) (y : List ByteArray) (cap : Nat) : Prop := ∃ g, v = .pointer (some ⟨g, 0, none⟩) ∧ n0 ≤ g ∧ (b = false → w.heap[g]? = some (.cells #[.slice none 0 0, .int .i64 0] 41 (0, 0))) ∧ (b = true → ∃ A c, w.heap[g]? = some (.cells #[.slice A y.length c, .int .i64 cap] 41 (0, 0)) ∧ SR w A c y)
section
variable {w w' : World} {v : Value} {y y' : List ByteArray} {cap cap' m n0 : Nat} {b : Bool}
theorem RowQ.below (h : RowQ w v y cap) (hb : Below w.heap.size w w') : RowQ w' v y cap := by obtain ⟨A, c, e, s⟩ := h; exact ⟨A, c, e, s.below hb⟩
theorem MoveQ.below (h : MoveQ w v m y cap y' cap') (hb : Below w.heap.size w w') : MoveQ w' v m y cap y' cap' := by obtain ⟨A, c, A', c', e, s, s'⟩ := h; exact ⟨A, c, A', c', e, s.below hb, s'.below hb⟩
theorem PutQ.below (h : PutQ w v b y cap) (hb : Below w.heap.size w w') : PutQ w' v b y cap := by obtain ⟨A, c, e, s⟩ := h; exact ⟨A, c, e, s.below hb⟩
theorem BoxS.below (h : BoxS b n0 w v y cap) (hb : Below w.heap.size w w') : BoxS b n0 w' v y cap := by
  obtain ⟨g, e, o, z, f⟩ := h
  exact ⟨g, e, o, fun q => blk_below (z q) hb, fun q => by obtain ⟨A, c, k, s⟩ := f q; exact ⟨A, c, blk_below k hb, s.below hb⟩⟩
theorem BoxS.lt (h : BoxS b n0 w v y cap) : v ≠ .pointer (some ⟨w.heap.size, 0, none⟩) := by
  obtain ⟨g, rfl, o, z, f⟩ := h
  have : g < w.heap.size := by
    cases b with
    | false => exact blk_lt (z rfl)
    | true => obtain ⟨A, c, k, s⟩ := f rfl; exact blk_lt k
  intro e
  injection e with e
  injection e with e
  injection e with e
  omega
theorem RowQ.set {g : Nat} {cs : Array Value} {t : TypeId} (h : RowQ w v y cap) (hg : w.heap[g]? = some (.cells cs t (0, 0))) (hn : ∀ (i : Nat) (s : ByteArray), cs[i]? ≠ some (Value.string s)) (j : Nat) (u : Value) : RowQ (w.setCell ⟨g, j, none⟩ u) v y cap := by obtain ⟨A, c, e, s⟩ := h; exact ⟨A, c, e, s.set hg hn j u⟩
theorem MoveQ.set {g : Nat} {cs : Array Value} {t : TypeId} (h : MoveQ w v m y cap y' cap') (hg : w.heap[g]? = some (.cells cs t (0, 0))) (hn : ∀ (i : Nat) (s : ByteArray), cs[i]? ≠ some (Value.string s)) (j : Nat) (u : Value) : MoveQ (w.setCell ⟨g, j, none⟩ u) v m y cap y' cap' := by obtain ⟨A, c, A', c', e, s, s'⟩ := h; exact ⟨A, c, A', c', e, s.set hg hn j u, s'.set hg hn j u⟩
theorem PutQ.set {g : Nat} {cs : Array Value} {t : TypeId} (h : PutQ w v b y cap) (hg : w.heap[g]? = some (.cells cs t (0, 0))) (hn : ∀ (i : Nat) (s : ByteArray), cs[i]? ≠ some (Value.string s)) (j : Nat) (u : Value) : PutQ (w.setCell ⟨g, j, none⟩ u) v b y cap := by obtain ⟨A, c, e, s⟩ := h; exact ⟨A, c, e, s.set hg hn j u⟩
theorem BoxS.set {g : Nat} {cs : Array Value} {t : TypeId} (h : BoxS b n0 w v y cap) (hg : w.heap[g]? = some (.cells cs t (0, 0))) (hn : ∀ (i : Nat) (s : ByteArray), cs[i]? ≠ some (Value.string s)) (hv : v ≠ .pointer (some ⟨g, 0, none⟩)) (j : Nat) (u : Value) : BoxS b n0 (w.setCell ⟨g, j, none⟩ u) v y cap := by
  obtain ⟨g', rfl, o, z, f⟩ := h
  have hne : g' ≠ g := fun e => hv (by rw [e])
  have hk : Kept w (w.setCell ⟨g, j, none⟩ u) (fun k => k = g) := Kept.setCell (S := fun k => k = g) (p := ⟨g, j, none⟩) (Kept.refl _ _) (.inl rfl) u
  exact ⟨g', rfl, o, fun q => blk_kept (z q) hk hne, fun q => by obtain ⟨A, c, k, s⟩ := f q; exact ⟨A, c, blk_kept k hk hne, s.set hg hn j u⟩⟩
/-- The box is written. -/
theorem BoxS.write {g : Nat} {A : Option Addr} {c : Nat} (o : n0 ≤ g) (hg : w.heap[g]? = some (.cells #[.slice none 0 0, .int .i64 0] 41 (0, 0))) (s : SR w A c y) : BoxS true n0 ((w.setCell ⟨g, 0, none⟩ (.slice A y.length c)).setCell ⟨g, 1, none⟩ (.int .i64 cap)) (.pointer (some ⟨g, 0, none⟩)) y cap :=
  ⟨g, rfl, o, fun q => (Bool.noConfusion q), fun _ => ⟨A, c, blk_set (blk_set hg 0 (.slice A y.length c)) 1 (.int .i64 cap), (s.set hg (nos2 _ _ _ _) 0 _).set (blk_set hg 0 (.slice A y.length c)) (nos2 A y.length c 0) 1 _⟩⟩
end
section
variable {w w' : World} {v : Value} {y y' : List ByteArray} {cap cap' m n0 : Nat} {b : Bool}
/-- Behind both stores into a new box. -/
def put2 (w : World) (g : Nat) (u0 u1 : Value) : World := (w.setCell ⟨g, 0, none⟩ u0).setCell ⟨g, 1, none⟩ u1
theorem SR.w2 {g : Nat} {A : Option Addr} {c : Nat} {l : List ByteArray} (h : SR w A c l) (hg : w.heap[g]? = some (.cells #[.slice none 0 0, .int .i64 0] 41 (0, 0))) (a : Option Addr) (n q : Nat) (k : Int) : SR (put2 w g (.slice a n q) (.int .i64 k)) A c l := (h.set hg (nos2 _ _ _ _) 0 _).set (blk_set hg 0 (.slice a n q)) (nos2 a n q 0) 1 _
theorem RowQ.w2 {g : Nat} (h : RowQ w v y cap) (hg : w.heap[g]? = some (.cells #[.slice none 0 0, .int .i64 0] 41 (0, 0))) (a : Option Addr) (n q : Nat) (k : Int) : RowQ (put2 w g (.slice a n q) (.int .i64 k)) v y cap := (h.set hg (nos2 _ _ _ _) 0 _).set (blk_set hg 0 (.slice a n q)) (nos2 a n q 0) 1 _
theorem MoveQ.w2 {g : Nat} (h : MoveQ w v m y cap y' cap') (hg : w.heap[g]? = some (.cells #[.slice none 0 0, .int .i64 0] 41 (0, 0))) (a : Option Addr) (n q : Nat) (k : Int) : MoveQ (put2 w g (.slice a n q) (.int .i64 k)) v m y cap y' cap' := (h.set hg (nos2 _ _ _ _) 0 _).set (blk_set hg 0 (.slice a n q)) (nos2 a n q 0) 1 _
theorem PutQ.w2 {g : Nat} (h : PutQ w v b y cap) (hg : w.heap[g]? = some (.cells #[.slice none 0 0, .int .i64 0] 41 (0, 0))) (a : Option Addr) (n q : Nat) (k : Int) : PutQ (put2 w g (.slice a n q) (.int .i64 k)) v b y cap := (h.set hg (nos2 _ _ _ _) 0 _).set (blk_set hg 0 (.slice a n q)) (nos2 a n q 0) 1 _
theorem BoxS.w2 {g : Nat} (h : BoxS b n0 w v y cap) (hg : w.heap[g]? = some (.cells #[.slice none 0 0, .int .i64 0] 41 (0, 0))) (hv : v ≠ .pointer (some ⟨g, 0, none⟩)) (a : Option Addr) (n q : Nat) (k : Int) : BoxS b n0 (put2 w g (.slice a n q) (.int .i64 k)) v y cap := (h.set hg (nos2 _ _ _ _) hv 0 _).set (blk_set hg 0 (.slice a n q)) (nos2 a n q 0) hv 1 _
end
section
variable {w0 : World} {b3 b4 b5 b6 : Nat} {kind : Int} {other : Bool} {text : ByteArray} {g0 c0 cap0 g1 c1 cap1 : Nat} {x0 x1 x0' x1' : List ByteArray} {v4 v6 : Array Value} {w w' : World}
theorem Env.w2 (E : Env w0 b3 b4 b5 b6 kind other text g0 c0 cap0 g1 c1 cap1 x0 x1 v4 v6 w) {g : Nat} (hg : w.heap[g]? = some (.cells #[.slice none 0 0, .int .i64 0] 41 (0, 0))) (og : w0.heap.size ≤ g) (u0 u1 : Value) : Env w0 b3 b4 b5 b6 kind other text g0 c0 cap0 g1 c1 cap1 x0 x1 v4 v6 (put2 w g u0 u1) := (E.set41 hg og 0 u0).set41 (blk_set hg 0 u0) og 1 u1
/-- Behind the four stores into the result. -/
def put4 (w : World) (g : Nat) (u0 u1 u2 u3 : Value) : World := (((w.setCell ⟨g, 0, none⟩ u0).setCell ⟨g, 1, none⟩ u1).setCell ⟨g, 2, none⟩ u2).setCell ⟨g, 3, none⟩ u3
theorem Env.w4 (E : Env w0 b3 b4 b5 b6 kind other text g0 c0 cap0 g1 c1 cap1 x0 x1 v4 #[.slice none 0 0, .int .i64 0, .slice none 0 0, .int .i64 0] w) (u0 u1 u2 u3 : Value) : Env w0 b3 b4 b5 b6 kind other text g0 c0 cap0 g1 c1 cap1 x0 x1 v4 #[u0, u1, u2, u3] (put4 w b6 u0 u1 u2 u3) := (((E.set6 0 u0).set6 1 u1).set6 2 u2).set6 3 u3
theorem SR.w4 {A : Option Addr} {c : Nat} {l : List ByteArray} (h : SR w A c l) {g : Nat} (hg : w.heap[g]? = some (.cells #[.slice none 0 0, .int .i64 0, .slice none 0 0, .int .i64 0] 42 (0, 0))) (a : Option Addr) (n m : Nat) (i : Int) (b : Option Addr) (p q : Nat) (j : Int) : SR (put4 w g (.slice a n m) (.int .i64 i) (.slice b p q) (.int .i64 j)) A c l :=
  (((h.set hg (nos4 _ _ _ _ _ _ _ _) 0 _).set (blk_set hg 0 _) (nos4 a n m 0 none 0 0 0) 1 _).set (blk_set (blk_set hg 0 _) 1 _) (nos4 a n m i none 0 0 0) 2 _).set (blk_set (blk_set (blk_set hg 0 _) 1 _) 2 _) (nos4 a n m i b p q 0) 3 _
/-- A box stays where the queues' functions went. -/
theorem Env.keeps {S : Nat → Prop} (E : Env w0 b3 b4 b5 b6 kind other text g0 c0 cap0 g1 c1 cap1 x0 x1 v4 v6 w) (hk : Kept w w' S) (hS : ∀ j, S j → j = c0 ∨ j = c1) {g : Nat} {cs : Array Value} {t : TypeId} (hg : w.heap[g]? = some (.cells cs t (0, 0))) : w'.heap[g]? = some (.cells cs t (0, 0)) := blk_kept hg hk (fun hs => by
    rcases hS g hs with rfl | rfl
    · obtain ⟨cap, b, a, s, r, t, hc⟩ := E.q0.chan
      rw [hg] at hc
      cases hc
    · obtain ⟨cap, b, a, s, r, t, hc⟩ := E.q1.chan
      rw [hg] at hc
      cases hc)
/-- Both stores into one of the document's pair. -/
theorem Env.s4 (E : Env w0 b3 b4 b5 b6 kind other text g0 c0 cap0 g1 c1 cap1 x0 x1 v4 v6 w) (j j' : Nat) (u0 u1 : Value) : Env w0 b3 b4 b5 b6 kind other text g0 c0 cap0 g1 c1 cap1 x0 x1 ((v4.setIfInBounds j u0).setIfInBounds j' u1) v6 ((w.setCell ⟨b4, j, none⟩ u0).setCell ⟨b4, j', none⟩ u1) := (E.set4 j u0).set4 j' u1
theorem keep4 {g : Nat} {cs cs' : Array Value} {t : TypeId} (hg : w.heap[g]? = some (.cells cs t (0, 0))) (h4 : w.heap[b4]? = some (.cells cs' 42 (0, 0))) (ht : t ≠ 42) (j j' : Nat) (u0 u1 : Value) : ((w.setCell ⟨b4, j, none⟩ u0).setCell ⟨b4, j', none⟩ u1).heap[g]? = some (.cells cs t (0, 0)) := by
  have hne : g ≠ b4 := blk_ne hg h4 (by simp [ht])
  exact (Below.heap_setCell _ _ _ _ hne).trans ((Below.heap_setCell _ _ _ _ hne).trans hg)
end
theorem BoxS.write2 {w : World} {v : Value} {y : List ByteArray} {cap n0 : Nat} {g : Nat} {A : Option Addr} {c : Nat} (e : v = .pointer (some ⟨g, 0, none⟩)) (o : n0 ≤ g) (hg : w.heap[g]? = some (.cells #[.slice none 0 0, .int .i64 0] 41 (0, 0))) (s : SR w A c y) : BoxS true n0 (put2 w g (.slice A y.length c) (.int .i64 cap)) v y cap := by
  subst e
  exact BoxS.write o hg s
theorem first_1h (w : World) (g gi ci capi : Nat) (li : List ByteArray) (hne : li ≠ []) (c0 : w.cell? ⟨g, 0, none⟩ = some (.pointer (some ⟨gi, 0, none⟩))) (HI : QL w gi ci capi li) :
    Calls Try.prog 18 #[.slice (some ⟨g, 0, none⟩) 3 3] w fun e w' => e = .returned (.tuple #[.string (hd li), .int .i64 0, .bool true]) ∧ QL w' gi ci capi li.tail ∧ Kept w w' (fun k => k = ci) := by
  cases li with
  | nil => exact absurd rfl hne
  | cons x li => exact first_1 w g gi ci capi x li .nilIface .nilIface c0 HI
theorem first_2h (w : World) (g gi ci capi gj cj capj : Nat) (li lj : List ByteArray) (hi : li = []) (hne : lj ≠ []) (c0 : w.cell? ⟨g, 0, none⟩ = some (.pointer (some ⟨gi, 0, none⟩))) (c1 : w.cell? ⟨g, 1, none⟩ = some (.pointer none)) (c2 : w.cell? ⟨g, 2, none⟩ = some (.pointer (some ⟨gj, 0, none⟩))) (HI : QL w gi ci capi li) (HJ : QL w gj cj capj lj) :
    Calls Try.prog 18 #[.slice (some ⟨g, 0, none⟩) 3 3] w fun e w' => e = .returned (.tuple #[.string (hd lj), .int .i64 2, .bool true]) ∧ QL w' gj cj capj lj.tail ∧ Kept w w' (fun k => k = cj) := by
  subst hi
  cases lj with
  | nil => exact absurd rfl hne
  | cons x lj => exact first_2 w g gi ci capi gj cj capj x lj c0 c1 c2 HI HJ
theorem first_0h (w : World) (g gi ci capi gj cj capj : Nat) (li lj : List ByteArray) (hi : li = []) (hj : lj = []) (c0 : w.cell? ⟨g, 0, none⟩ = some (.pointer (some ⟨gi, 0, none⟩))) (c1 : w.cell? ⟨g, 1, none⟩ = some (.pointer none)) (c2 : w.cell? ⟨g, 2, none⟩ = some (.pointer (some ⟨gj, 0, none⟩))) (HI : QL w gi ci capi li) (HJ : QL w gj cj capj lj) :
    Calls Try.prog 18 #[.slice (some ⟨g, 0, none⟩) 3 3] w fun e w' => e = .returned (.tuple #[.string (hd lj), .int .i64 (-1), .bool false]) ∧ w' = w := by
  subst hi hj
  exact first_0 w g gi ci capi gj cj capj c0 c1 c2 HI HJ
end Go.Proofs.Ytdgeaadcidmmfaa
