/- Parts of a row that is known: stored and loaded. -/
import Derived.Test.YtbifanoiailjoaaMRatePlaysx4
import Derived.Test.YtbifanoiailjoaaBase
import Derived.Test.YtbifanoiailjoaaRegInv
import Derived.Deep.MidRow
namespace Go.Proofs.Ytbifanoiailjoaa.MRatePlays
open Go.RowKit Go.Proofs.YtbifanoiailjoaaW.PrintWords Go.Proofs.YtbifanoiailjoaaW.PrintLast Go.Proofs.YtbifanoiailjoaaW.PrintMore Go.Proofs.Ytbifanoiailjoaa.Base
set_option linter.unusedVariables false
set_option linter.unusedSimpArgs false

def putl (old : Array Value) (o : Nat) : List Value → Array Value
  | [] => old
  | v :: r => putl (old.setIfInBounds o v) (o + 1) r
theorem setRow_row (w : World) (g : Nat) (cs cs' : Array Value) : (w.setRow g cs).setRow g cs' = w.setRow g cs' := by
  unfold World.setRow
  congr 1
  apply Array.ext
  · simp
  · intro k h1 h2
    simp only [Array.getElem_modify]
    split <;> rename_i hk
    · generalize w.heap[k]'(by simpa using h2) = o
      cases o <;> rfl
    · rfl
theorem setRow_ne (w : World) (g k : Nat) (cs : Array Value) (h : k ≠ g) : (w.setRow g cs).heap[k]? = w.heap[k]? := by
  simp [World.setRow, Array.getElem?_modify, Ne.symm h]
theorem modify_same {α : Type} (A : Array α) (g : Nat) (f : α → α) (h : ∀ o, A[g]? = some o → f o = o) : A.modify g f = A := by
  apply Array.ext
  · simp
  · intro k h1 h2
    simp only [Array.getElem_modify]
    split <;> rename_i hk
    · subst hk
      exact h _ (Array.getElem?_eq_getElem h2)
    · rfl
theorem setRow_same (w : World) (g : Nat) (t : TypeId) (old : Array Value) (fr : Nat × Nat) (h : w.heap[g]? = some (.cells old t fr)) : w.setRow g old = w := by
  unfold World.setRow
  rw [modify_same]
  intro o ho
  rw [h] at ho
  obtain rfl := Option.some.inj ho
  rfl
theorem setCells_putl (g : Nat) (t : TypeId) (fr : Nat × Nat) : ∀ (vs : List Value) (o : Nat) (w : World) (old : Array Value), w.heap[g]? = some (.cells old t fr) → w.setCells g o vs = w.setRow g (putl old o vs)
  | [], o, w, old, h => (setRow_same w g t old fr h).symm
  | v :: r, o, w, old, h => by
    rw [World.setCells, setCell_eq_setRow w g o _ _ _ _ h, setCells_putl g t fr r (o + 1) _ _ (setRow_heap w g _ _ _ _ h), setRow_row]
    rfl
section
variable {P : Program}
theorem run_storeVar_gen (w : World) (b o : Nat) (ty : TypeId) (v : Value) (ht : w.there b o v.cells.size) (hi : (P.info? ty).map (·.size) = some v.cells.size) (h1 : v.cells.all (·.oneCell') = true) :
    (storeVar ty ⟨b, o, none⟩ v).run P w = .ok () (w.setCells b o v.cells.toList) := by
  have := run_storeCells_cells (P := P) b o v.cells.toList 0 w (fun j hj => by simpa using (ht j (by simpa using hj)).1) (fun j hj => by simpa using (ht j (by simpa using hj)).2)
    (fun v hv => (Array.all_eq_true_iff_forall_mem.1 h1) v (by simpa using hv))
  cases hq : P.info? ty with
  | none => simp [hq] at hi
  | some i =>
    have hs : v.cells.size = i.size := by simp [hq] at hi; omega
    simp only [Nat.add_zero] at this
    simp [storeVar, sizeOf, typeInfo, hq, hs, this]
/-- A part of a row that is known is stored: the row then, said by the caller. -/
theorem store_part {ops : Array Oper} {rest : List Oper} {op : Oper} {a : Act} {w : World} {Q : Exit → Act → World → Prop} (hgd : op.guard = none) (ty : TypeId) (x y : Operand) (ho : op.op = .store ty x y) (hd : op.dst = none)
    (g j : Nat) (v : Value) (vs : List Value) (hx : a.eval x = .pointer (some ⟨g, j, none⟩)) (hy : a.eval y = v) (hv : v.cells.toList = vs) (h1 : vs.all (·.oneCell') = true)
    (t : TypeId) (old new : Array Value) (hg : w.heap[g]? = some (.cells old t (0, 0))) (hj : j + vs.length ≤ old.size) (hi : (P.info? ty).map (·.size) = some vs.length) (hn : putl old j vs = new)
    (h : wpList P ops Q rest a (w.setRow g new)) : wpList P ops Q (op :: rest) a w := by
  refine wpList_plain hgd fun K hK => ?_
  have hvs : v.cells.size = vs.length := by rw [← hv]; simp
  have ht : w.there g j v.cells.size := fun i hi => by
    have hc := blk_cell hg (j + i)
    exact ⟨by rw [hc]; simp; omega, blk_frozen hg (j + i)⟩
  have h2 : v.cells.all (·.oneCell') = true := by rw [← Array.all_toList, hv]; exact h1
  unfold Oper.wp execOp
  simp only [ho, hx, hy, Instr.storeAt, Instr.sureAddr, Sem.run_bind, Sem.run_pure, Result.andThen_ok, run_storeVar_gen w g j ty v ht (by rw [hvs]; exact hi) h2]
  rw [setCells_putl g t (0, 0) _ j w old hg, hv, hn]
  have h' : wpList P ops Q rest (a.put op.dst undef) (w.setRow g new) := by rw [hd]; exact h
  exact hK _ _ h'
theorem wp_store_part {op : Oper} {a : Act} {w : World} {K : Act → World → Prop} {Q : Exit → Act → World → Prop} (ty : TypeId) (x y : Operand) (ho : op.op = .store ty x y)
    (g j : Nat) (v : Value) (vs : List Value) (hx : a.eval x = .pointer (some ⟨g, j, none⟩)) (hy : a.eval y = v) (hv : v.cells.toList = vs) (h1 : vs.all (·.oneCell') = true)
    (t : TypeId) (old new : Array Value) (hg : w.heap[g]? = some (.cells old t (0, 0))) (hj : j + vs.length ≤ old.size) (hi : (P.info? ty).map (·.size) = some vs.length) (hn : putl old j vs = new)
    (h : K (a.put op.dst undef) (w.setRow g new)) : op.wp P a w K Q := by
  have hvs : v.cells.size = vs.length := by rw [← hv]; simp
  have ht : w.there g j v.cells.size := fun i hi => by
    have hc := blk_cell hg (j + i)
    exact ⟨by rw [hc]; simp; omega, blk_frozen hg (j + i)⟩
  have h2 : v.cells.all (·.oneCell') = true := by rw [← Array.all_toList, hv]; exact h1
  unfold Oper.wp execOp
  simp only [ho, hx, hy, Instr.storeAt, Instr.sureAddr, Sem.run_bind, Sem.run_pure, Result.andThen_ok, run_storeVar_gen w g j ty v ht (by rw [hvs]; exact hi) h2]
  rw [setCells_putl g t (0, 0) _ j w old hg, hv, hn]
  exact h
/-- A part of a row that is known is loaded: a struct or an array. -/
theorem load_part {ops : Array Oper} {rest : List Oper} {op : Oper} {a : Act} {w : World} {Q : Exit → Act → World → Prop} (hgd : op.guard = none) (ty : TypeId) (x : Operand) (ho : op.op = .load ty x)
    (g j : Nat) (hx : a.eval x = .pointer (some ⟨g, j, none⟩)) (pa : Array Value) (t : TypeId) (cs : Array Value) (hg : w.heap[g]? = some (.cells cs t (0, 0))) (hp : (cs.toList.drop j).take pa.size = pa.toList) (d : TypeDesc)
    (hu : P.underlying ty = some d) (hd : d.isRow = true) (hi : (P.info? ty).map (·.size) = some pa.size)
    (h : wpList P ops Q rest (a.put op.dst (.agg pa)) w) : wpList P ops Q (op :: rest) a w := by
  refine wpList_load_mid hgd ty x ho g j hx pa.toList d (fun i v hv => ?_) hu hd (by rw [hi]; simp) (by simpa using h)
  rw [blk_cell hg (j + i)]
  rw [← hp, List.getElem?_take] at hv
  by_cases hi : i < pa.size
  · rw [if_pos hi, List.getElem?_drop] at hv
    simpa using hv
  · rw [if_neg hi] at hv
    cases hv
end
/-- Since a world: what was there stands; a box that is new since has these cells. -/
structure PH (T : TypeId) (w1 : World) (b : Nat) (cs : Array Value) (W : World) : Prop where
  bel : Below w1.heap.size w1 W
  row : W.heap[b]? = some (.cells cs T (0, 0))
  new : w1.heap.size ≤ b
theorem PH.below {T : TypeId} {w1 W W' : World} {b : Nat} {cs : Array Value} (h : PH T w1 b cs W) (hb : Below W.heap.size W W') : PH T w1 b cs W' := ⟨below_step h.bel hb, blk_below h.row hb, h.new⟩
theorem PH.set {T : TypeId} {w1 W : World} {b : Nat} {cs : Array Value} (h : PH T w1 b cs W) (cs' : Array Value) : PH T w1 b cs' (W.setRow b cs') :=
  ⟨⟨h.bel.os, h.bel.tape, h.bel.output, by simpa using h.bel.size, fun k hk => (setRow_ne _ _ _ _ (by have := h.new; omega)).trans (h.bel.block k hk)⟩, setRow_heap _ _ _ _ _ _ h.row, h.new⟩
theorem PH.setx {T : TypeId} {w1 W : World} {b b' : Nat} {cs cs' : Array Value} (h : PH T w1 b cs W) (hn : w1.heap.size ≤ b') (hb : b ≠ b') : PH T w1 b cs (W.setRow b' cs') :=
  ⟨⟨h.bel.os, h.bel.tape, h.bel.output, by simpa using h.bel.size, fun k hk => (setRow_ne _ _ _ _ (by omega)).trans (h.bel.block k hk)⟩, (setRow_ne _ _ _ _ hb).trans h.row, h.new⟩
/-- A new box is taken from the base. -/
theorem PH.start {T : TypeId} {w1 W W' : World} {b : Nat} {cs : Array Value} (h : Below w1.heap.size w1 W) (hb : Below W.heap.size W W') (hg : b = W.heap.size) (hx : W'.heap[b]? = some (.cells cs T (0, 0))) : PH T w1 b cs W' :=
  ⟨below_step h hb, hx, by have := h.size; omega⟩
end Go.Proofs.Ytbifanoiailjoaa.MRatePlays
