/- A map from keys to moments. -/
import Derived.Test.YtbifanoiailjoaaRateSpPure
import Derived.Maps.OwnSet
import Derived.Maps.Views
import Derived.Maps.OwnOps
namespace Go.Proofs.Ytbifanoiailjoaa.MRatePlays
open Go.RowKit Go.Proofs.YtbifanoiailjoaaW.PrintWords Go.Proofs.YtbifanoiailjoaaW.PrintLast Go.Proofs.YtbifanoiailjoaaW.PrintMore Go.Proofs.Ytbifanoiailjoaa.Base
set_option linter.unusedVariables false
set_option linter.unusedSimpArgs false

open Go.Maps
theorem key29 : Keyed Try.prog 29 := int_keyed Try.underlying29
theorem zero2 (w : World) : (zeroValue 2).run Try.prog w = .ok (.int .i64 0) w := by kernel_rfl
theorem atWf {y : Int} (h0 : 0 ≤ y) (h1 : y ≤ 4611686018427387904) : (Lit.int .i64 y).wf = true := by
  simp [Lit.wf, IntKind.min, IntKind.max, IntKind.bits, IntKind.signed]
  omega
def MapIs (W : World) (B n : Nat) (f : Int → Option Int) : Prop :=
  ∃ D : DataW Unit, W.ownsMap Try.prog 29 (plainElem Try.prog 2) B n D ∧ ∀ k, (Lit.int .u32 k).wf = true → Maps.has D (.int .u32 k) = (f k).isSome ∧ D.atKey (.int .u32 k) (.lit (.int .i64 0)) = .lit (.int .i64 ((f k).getD 0))
theorem MapIs.lt {W : World} {B n : Nat} {f : Int → Option Int} (h : MapIs W B n f) : B < W.heap.size := by
  obtain ⟨D, hD, _⟩ := h
  exact hD.lt
theorem MapIs.cast {W : World} {B n : Nat} {f f' : Int → Option Int} (h : MapIs W B n f) (he : ∀ k, f k = f' k) : MapIs W B n f' := by
  obtain rfl : f = f' := funext he
  exact h
theorem MapIs.mono {W : World} {B n n' : Nat} {f : Int → Option Int} (h : MapIs W B n f) (hn : n ≤ n') : MapIs W B n' f := by
  obtain ⟨D, hD, hf⟩ := h
  exact ⟨D, hD.mono hn, hf⟩
theorem MapIs.move {W W' : World} {B n : Nat} {f : Int → Option Int} (h : MapIs W B n f) (hb : W'.heap[B]? = W.heap[B]?) : MapIs W' B n f := by
  obtain ⟨D, ⟨es, clock, h1, h2, h3, h4⟩, hf⟩ := h
  exact ⟨D, ⟨es, clock, hb.trans h1, h2, h3, h4⟩, hf⟩
theorem MapIs.below {W W' : World} {B n : Nat} {f : Int → Option Int} (h : MapIs W B n f) (hb : Below W.heap.size W W') : MapIs W' B n f := h.move (hb.block B h.lt)
theorem MapIs.ne {W : World} {B n g t : Nat} {f : Int → Option Int} {cs : Array Value} {fr : Nat × Nat} (h : MapIs W B n f) (hg : W.heap[g]? = some (.cells cs t fr)) : B ≠ g := by
  obtain ⟨D, ⟨es, clock, h1, _⟩, _⟩ := h
  rintro rfl
  rw [hg] at h1
  cases h1
theorem MapIs.made (w : World) : MapIs (w.alloc (.map #[] 0)) w.heap.size 0 (fun _ => none) :=
  ⟨.map [], World.ownsMap_made w Try.prog 29 _, fun k _ => ⟨rfl, rfl⟩⟩
theorem MapIs.keep {W W' : World} {B n g b : Nat} {f : Int → Option Int} {es : List S37} {room span : Int} (h : MapIs W B n f) (T : Tabu W g b es room span) (F : Fr (fun k => k = g ∨ k = b) W W') : MapIs W' B n f := by
  obtain ⟨sl, hg, hs⟩ := T
  refine h.move (F.block B h.lt (fun q => ?_))
  rcases q with q | q
  · exact h.ne hg q
  · rcases hs with ⟨_, _, rfl⟩ | ⟨_, c, rest, _, hr, _, _⟩
    · exact h.ne hg q
    · exact h.ne hr q
section
variable {ops : Array Oper} {rest : List Oper} {o : Oper} {a : Act} {Q : Exit → Act → World → Prop} {w : World}
theorem map_look_ok (hg : o.guard = none) (m x : Operand) (hop : o.op = Op.lookup 41 m x true) (B n : Nat) (f : Int → Option Int) (hm : a.eval m = .map (some B)) (hM : MapIs w B n f) (k : Int) (hx : a.eval x = .int .u32 k) (hk : (Lit.int .u32 k).wf = true)
    (h : wpList Try.prog ops Q rest (a.put o.dst (.tuple #[.int .i64 ((f k).getD 0), .bool (f k).isSome])) w) : wpList Try.prog ops Q (o :: rest) a w := by
  obtain ⟨D, hD, hf⟩ := hM
  refine wpList_lookup_own_ok_int w hg m x 41 hop 29 2 .i64 key29 Try.underlying41 Try.underlying2 (zero2 w) B n D hm hD _ (.int .u32 k) hx (keyOf_int_mk Try.underlying29 hk) (fun c hat hwc => ?_)
  rw [(hf k hk).2] at hat
  obtain rfl : (f k).getD 0 = c := by injection hat with hat; injection hat
  rw [(hf k hk).1]
  exact h
theorem map_look (hg : o.guard = none) (m x : Operand) (hop : o.op = Op.lookup 41 m x false) (B n : Nat) (f : Int → Option Int) (hm : a.eval m = .map (some B)) (hM : MapIs w B n f) (k : Int) (hx : a.eval x = .int .u32 k) (hk : (Lit.int .u32 k).wf = true)
    (h : wpList Try.prog ops Q rest (a.put o.dst (.int .i64 ((f k).getD 0))) w) : wpList Try.prog ops Q (o :: rest) a w := by
  obtain ⟨D, hD, hf⟩ := hM
  refine wpList_lookup_own_int w hg m x 41 hop 29 2 .i64 key29 Try.underlying41 Try.underlying2 (zero2 w) B n D hm hD _ (.int .u32 k) hx (keyOf_int_mk Try.underlying29 hk) (fun c hat hwc => ?_)
  rw [(hf k hk).2] at hat
  obtain rfl : (f k).getD 0 = c := by injection hat with hat; injection hat
  exact h
theorem map_put (hg : o.guard = none) (m x v : Operand) (hop : o.op = Op.mapUpdate 41 m x v) (B n : Nat) (f : Int → Option Int) (hm : a.eval m = .map (some B)) (hM : MapIs w B n f) (hn : n ≤ 1000000) (k : Int) (hx : a.eval x = .int .u32 k) (hk : (Lit.int .u32 k).wf = true) (y : Int) (hv : a.eval v = .int .i64 y) (hy : (Lit.int .i64 y).wf = true)
    (h : ∀ w', MapIs w' B (n + 1) (updF f k y) → w.grownBy w' (some B) → wpList Try.prog ops Q rest (a.put o.dst undef) w') : wpList Try.prog ops Q (o :: rest) a w := by
  obtain ⟨D, hD, hf⟩ := hM
  have hmap : Maps.IsMap D := hD.isMap
  refine wpList_mapUpdate_own w hg m x v 41 hop 29 2 key29 Try.underlying41 _ B n D hm hD (by unfold maxLen; omega) _ _ (.int .u32 k) hx hv (keyOf_int_mk Try.underlying29 hk) (.lit (.int .i64 y)) [] (plainElem_int Try.underlying2 hy) (fun w' hD' hg' => h w' ⟨_, hD', fun j hj => ?_⟩ hg')
  by_cases q : j = k
  · subst q
    have hkl : WideAt.IsKeyLit (.int .u32 j) := by trivial
    rw [Maps.has_put_same hmap hkl, Maps.atKey_put_same hmap hkl, updF_same]
    exact ⟨rfl, rfl⟩
  · have hne : (Lit.int .u32 j) ≠ .int .u32 k := fun e => q (by injection e)
    rw [Maps.has_put_other hne, Maps.atKey_put_other hne, updF_other _ _ _ _ q]
    exact hf j hj
end
end Go.Proofs.Ytbifanoiailjoaa.MRatePlays
