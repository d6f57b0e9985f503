/- Worlds that differ in some boxes; rows of cells that are changed in the middle. -/
import Derived.Test.YtbifanoiailjoaaRowBase
import Derived.Shelf.Spec.SlicesInsertGrow
namespace Go.Proofs.Ytbifanoiailjoaa.MRatePlays
open Go.RowKit Go.Proofs.YtbifanoiailjoaaW.PrintWords Go.Proofs.YtbifanoiailjoaaW.PrintLast Go.Proofs.YtbifanoiailjoaaW.PrintMore Go.Proofs.Ytbifanoiailjoaa.Base
set_option linter.unusedVariables false
set_option linter.unusedSimpArgs false

structure Fr (S : Nat → Prop) (w w' : World) : Prop where
  os : w'.os = w.os
  tape : w'.tape = w.tape
  output : w'.output = w.output
  size : w.heap.size ≤ w'.heap.size
  block : ∀ k, k < w.heap.size → ¬ S k → w'.heap[k]? = w.heap[k]?
theorem Fr.refl (S : Nat → Prop) (w : World) : Fr S w w := ⟨rfl, rfl, rfl, Nat.le_refl _, fun _ _ _ => rfl⟩
theorem Fr.trans {S S' : Nat → Prop} {w w1 w2 : World} (h : Fr S w w1) (k : Fr S' w1 w2) (hS : ∀ j, S' j → S j ∨ w.heap.size ≤ j) : Fr S w w2 :=
  ⟨k.os.trans h.os, k.tape.trans h.tape, k.output.trans h.output, Nat.le_trans h.size k.size, fun j hj hn => (k.block j (by have := h.size; omega) (fun q => (hS j q).elim hn (fun q2 => by omega))).trans (h.block j hj hn)⟩
theorem Fr.below {S : Nat → Prop} {w w1 w2 : World} (h : Fr S w w1) (hb : Below w1.heap.size w1 w2) : Fr S w w2 :=
  ⟨hb.os.trans h.os, hb.tape.trans h.tape, hb.output.trans h.output, Nat.le_trans h.size hb.size, fun j hj hn => (hb.block j (by have := h.size; omega)).trans (h.block j hj hn)⟩
theorem Fr.ofBelow {S : Nat → Prop} {w w' : World} (hb : Below w.heap.size w w') : Fr S w w' := (Fr.refl S w).below hb
theorem Fr.set {S : Nat → Prop} {w W : World} (h : Fr S w W) (b : Nat) (cs : Array Value) (hS : S b ∨ w.heap.size ≤ b) : Fr S w (W.setRow b cs) :=
  ⟨h.os, h.tape, h.output, by simpa using h.size, fun j hj hn => by
    have hne : j ≠ b := fun e => by subst e; exact hS.elim hn (fun q => by omega)
    exact (setRow_ne _ _ _ _ hne).trans (h.block j hj hn)⟩
theorem Fr.drew {S : Nat → Prop} {w W : World} (h : Fr S w W) : Fr S w W.drew := ⟨h.os, h.tape, h.output, h.size, h.block⟩
theorem Fr.alloc {S : Nat → Prop} {w W : World} (h : Fr S w W) (o : Obj) : Fr S w (W.alloc o) := h.below (below_alloc (Below.refl _ _) _)
theorem putl_mid (A vs B C : List Value) (h : vs.length = B.length) : putl (A ++ B ++ C).toArray A.length vs = (A ++ vs ++ C).toArray := by
  induction vs generalizing A B with
  | nil =>
    obtain rfl : B = [] := List.length_eq_zero_iff.1 h.symm
    rfl
  | cons v r ih =>
    obtain ⟨x, B, rfl⟩ : ∃ x B', B = x :: B' := by
      cases B with
      | nil => simp at h
      | cons x B' => exact ⟨x, B', rfl⟩
    have e : ((A ++ x :: B ++ C).toArray.setIfInBounds A.length v) = ((A ++ [v]) ++ B ++ C).toArray := by simp
    have := ih (A ++ [v]) B (by simpa using h)
    rw [List.length_append, List.length_singleton] at this
    rw [putl, e, this]
    simp
theorem setCells_mid (w : World) (b : Nat) (t : TypeId) (A vs B C : List Value) (h : vs.length = B.length) (hb : w.heap[b]? = some (.cells (A ++ B ++ C).toArray t (0, 0))) (o : Nat) (ho : o = A.length) :
    w.setCells b o vs = w.setRow b (A ++ vs ++ C).toArray := by
  subst ho
  rw [setCells_putl b t (0, 0) vs _ w _ hb, putl_mid A vs B C h]
section
variable {P : Program}
/-- The copy of some elements (of any size), the rows being known. -/
theorem run_copy_mid (w : World) (dT sT ty elem : TypeId) (b o dLen dCap : Nat) (a : Addr) (sLen sCap : Nat) (vs : List Value) (i : TypeInfo)
    (hu : P.underlying dT = some (.slice elem)) (hi : P.info? elem = some i) (n : Nat) (hn : n = Nat.min sLen dLen) (hl : vs.length = n * i.size)
    (hsrc : ∀ j v, vs[j]? = some v → w.cell? (a.add j) = some v) (h1 : ∀ v ∈ vs, v.oneCell' = true)
    (t : TypeId) (A B C : List Value) (hb : w.heap[b]? = some (.cells (A ++ B ++ C).toArray t (0, 0))) (hB : vs.length = B.length) (ho : o = A.length) :
    (Builtin.copy_ #[dT, sT] ty #[.slice (some ⟨b, o, none⟩) dLen dCap, .slice (some a) sLen sCap]).run P w = .ok (goInt n) (w.setRow b (A ++ vs ++ C).toArray) := by
  have hfc := run_firstCells_some (P := P) w i.size n a sLen sCap vs hl hsrc
  have hst := run_storeCells_cells (P := P) b o vs 0 w (fun j hj => by rw [blk_cell hb]; simp; omega) (fun j hj => blk_frozen hb _) h1
  simp only [Nat.add_zero] at hst
  rw [setCells_mid w b t A vs B C hB hb o ho] at hst
  simp [Builtin.copy_, run_underlying hu, Builtin.lenOf, sizeOf, typeInfo, hi, ← hn, hfc, hst]
/-- A clearing of some elements. -/
theorem run_clear_mid (w : World) (t e ty : TypeId) (z : Value) (ht : P.underlying t = some (.slice e)) (hv : ∀ w, (zeroValue e).run P w = .ok z w) (b o n c : Nat) (hn : 0 < n) (vs : List Value) (hz : (Builtin.zeroCells z.cells n).toList = vs) (h1 : ∀ v ∈ vs, v.oneCell' = true)
    (tr : TypeId) (A B C : List Value) (hb : w.heap[b]? = some (.cells (A ++ B ++ C).toArray tr (0, 0))) (hB : vs.length = B.length) (ho : o = A.length) :
    (Builtin.clear_ #[t] ty #[.slice (some ⟨b, o, none⟩) n c]).run P w = .ok (.tuple #[]) (w.setRow b (A ++ vs ++ C).toArray) := by
  have hst := run_storeCells_cells (P := P) b o vs 0 w (fun j hj => by rw [blk_cell hb]; simp; omega) (fun j hj => blk_frozen hb _) h1
  simp only [Nat.add_zero] at hst
  rw [setCells_mid w b tr A vs B C hB hb o ho] at hst
  obtain ⟨m, rfl⟩ : ∃ m, n = m + 1 := ⟨n - 1, by omega⟩
  simp [Builtin.clear_, run_underlying ht, hv, hz, hst]
/-- An append in place. -/
theorem run_append_mid (w : World) (t ty e : TypeId) (i : TypeInfo) (ht : P.underlying t = some (.slice e)) (hi : P.info? e = some i)
    (b sLen sCap : Nat) (a : Addr) (m c : Nat) (vs : List Value) (hl : vs.length = m * i.size) (hsrc : ∀ j u, vs[j]? = some u → w.cell? (a.add j) = some u) (h1 : ∀ u ∈ vs, u.oneCell' = true) (hroom : sLen + m ≤ sCap)
    (tr : TypeId) (A B C : List Value) (hb : w.heap[b]? = some (.cells (A ++ B ++ C).toArray tr (0, 0))) (hB : vs.length = B.length) (ho : sLen * i.size = A.length) :
    (Builtin.append_ #[t, t] ty #[.slice (some ⟨b, 0, none⟩) sLen sCap, .slice (some a) m c]).run P w = .ok (.slice (some ⟨b, 0, none⟩) (sLen + m) sCap) (w.setRow b (A ++ vs ++ C).toArray) := by
  rw [run_append_room_cells w t ty e i ht hi b 0 sLen sCap a m c vs hl hsrc h1 hroom (fun j hj => by rw [blk_cell hb]; simp; omega) (fun j hj => blk_frozen hb _)]
  rw [Nat.zero_add, setCells_mid w b tr A vs B C hB hb _ ho]
/-- A known append, as a step of a region that draws. -/
theorem step_append_run {ops : Array Oper} {o : Oper} {a : Act} {w : World} {K : Act → World → Prop} {Q : Exit → Act → World → Prop} {E : Prop}
    (hg : o.guard = none) (d x : Operand) (dT sT : TypeId) (hop : o.op = Op.call { callee := Callee.builtin Builtin.append, args := #[d, x], argTypes := #[dT, sT] })
    (v u : Value) (hd : a.eval d = v) (hx : a.eval x = u) {v' : Value} {w' : World} (hr : (Builtin.append_ #[dT, sT] o.type #[v, u]).run P w = .ok v' w') (hK : K (a.put o.dst v') w') :
    if Region.wanted o (yielded ops a.tmps) = true then Oper.wp P o a w K Q else E := by
  have hw : Region.wanted o (yielded ops a.tmps) = true := by simp [Region.wanted, hg]
  rw [if_pos hw]
  unfold Oper.wp
  simp [execOp, hop, resolve, invoke, builtin, hd, hx, hr, Result.andThen]
  exact hK
end
end Go.Proofs.Ytbifanoiailjoaa.MRatePlays
