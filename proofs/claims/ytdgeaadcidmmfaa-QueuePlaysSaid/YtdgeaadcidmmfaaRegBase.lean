/-
  A region whose order is open, its first operations walked once each, whatever the order: what each leaves is told by a fact that every other operation keeps.
-/
import Derived.Test.YtdgeaadcidmmfaaWLast
import Derived.Test.YtdgeaadcidmmfaaWWords
namespace Go.Proofs.Ytdgeaadcidmmfaa
open Go.RowKit Go.Proofs.YtdgeaadcidmmfaaW.PrintWords Go.Proofs.YtdgeaadcidmmfaaW.PrintLast

section
variable {P : Program} {ops : Array Oper} {Q : Exit → Act → World → Prop} {md : Region.Mode}

def up (X : Nat → Value) (i : Nat) (v : Value) : Nat → Value := fun j => bif j == i then v else X j
theorem up_self (X : Nat → Value) (i : Nat) (v : Value) : up X i v i = v := by simp [up]
theorem up_ne (X : Nat → Value) (i j : Nat) (v : Value) (h : j ≠ i) : up X i v j = X j := by
  unfold up
  rw [beq_eq_false_iff_ne.2 h]
  rfl

/-- The act with the destinations filled, from number k on. -/
def fill : List (Option Nat) → Nat → (Nat → Value) → Act → Act
  | [], _, _, a => a
  | d :: r, k, X, a => fill r (k + 1) X (a.put d (X k))

theorem fill_put : ∀ (ds : List (Option Nat)) (k : Nat) (X : Nat → Value) (a : Act) (d : Option Nat) (v : Value), (∀ e, d = some e → some e ∉ ds) → fill ds k X (a.put d v) = (fill ds k X a).put d v
  | [], _, _, _, _, _, _ => rfl
  | d' :: r, k, X, a, d, v, h => by
    unfold fill
    rw [Act.put_comm a v (X k) (fun e he hd => h e he (by simp [hd]))]
    exact fill_put r (k + 1) X _ d v (fun e he hm => h e he (by simp [hm]))
theorem fill_congr : ∀ (ds : List (Option Nat)) (k : Nat) (X Y : Nat → Value) (a : Act), (∀ j, k ≤ j → X j = Y j) → fill ds k X a = fill ds k Y a
  | [], _, _, _, _, _ => rfl
  | d :: r, k, X, Y, a, h => by
    unfold fill
    rw [h k (Nat.le_refl _)]
    exact fill_congr r (k + 1) X Y _ (fun j hj => h j (by omega))
theorem put_put (a : Act) (d : Option Nat) (u v : Value) : (a.put d u).put d v = a.put d v := by
  cases d with
  | none => rfl
  | some d => simp [Act.put]

def apartDs : List (Option Nat) → Bool
  | [] => true
  | none :: r => apartDs r
  | some d :: r => !r.contains (some d) && apartDs r

theorem fill_up : ∀ (ds : List (Option Nat)) (k : Nat) (X : Nat → Value) (a : Act) (i : Nat) (d : Option Nat) (v : Value), apartDs ds = true → k ≤ i → ds[i - k]? = some d → fill ds k (up X i v) a = (fill ds k X a).put d v
  | [], _, _, _, _, _, _, _, _, h => by simp at h
  | e :: r, k, X, a, i, d, v, hd, hk, h => by
    have hr : apartDs r = true := by
      cases e with
      | none => exact hd
      | some e => simp only [apartDs, Bool.and_eq_true] at hd; exact hd.2
    by_cases hi : i = k
    · subst hi
      simp only [Nat.sub_self, List.getElem?_cons_zero, Option.some.injEq] at h
      subst h
      unfold fill
      rw [up_self]
      have hne : ∀ q, e = some q → some q ∉ r := by
        intro q hq
        subst hq
        simp only [apartDs, Bool.and_eq_true, Bool.not_eq_true', List.contains_eq_mem, decide_eq_false_iff_not] at hd
        exact hd.1
      rw [fill_congr r (i + 1) (up X i v) X _ (fun j hj => up_ne X i j v (by omega)), ← fill_put r (i + 1) X (a.put e (X i)) e v hne, put_put]
    · have hk1 : k + 1 ≤ i := by omega
      have h' : r[i - (k + 1)]? = some d := by
        have : i - k = (i - (k + 1)) + 1 := by omega
        rw [this] at h
        simpa using h
      unfold fill
      rw [up_ne X i k v (by omega)]
      exact fill_up r (k + 1) X _ i d v hr hk1 h'

/-- What is checked of the region, once: ds are the destinations of the first operations, each once; every operation waits for earlier ones alone; whatever is behind them waits for all of them. -/
def regB (md : Region.Mode) (ops : Array Oper) (ds : List (Option Nat)) : Bool :=
  decide (ds.length ≤ ops.size) && (List.range ds.length).all (fun i => ((ops[i]?).map (·.dst)) == ds[i]?) && apartDs ds &&
  (List.range ds.length).all (fun i => match ops[i]? with | some o => o.after.all (fun e => !Region.binds md e || decide (e.on < i)) | none => false) &&
  (List.range ops.size).all (fun t => decide (t < ds.length) || (List.range ds.length).all (fun i => Region.reachB md ops i 3 t))

theorem countP_drop {p q : Nat → Bool} (i : Nat) (hp : p i = true) (hq : q i = false) (hs : ∀ j, j ≠ i → q j = p j) : ∀ (l : List Nat), l.Nodup → i ∈ l → l.countP q + 1 = l.countP p
  | [], _, h => by cases h
  | x :: r, hn, h => by
    rw [List.nodup_cons] at hn
    by_cases hx : x = i
    · subst hx
      have he : r.countP q = r.countP p := by
        refine List.countP_congr (fun y hy => ?_)
        rw [hs y (fun e => hn.1 (e ▸ hy))]
      simp [hp, hq, he]
    · have hm : i ∈ r := by
        rcases List.mem_cons.1 h with h | h
        · exact absurd h.symm hx
        · exact h
      have := countP_drop i hp hq hs r hn.2 hm
      simp only [List.countP_cons, hs x hx]
      omega

theorem getD_rep_false (m j : Nat) : (Array.replicate m false).getD j false = false := by
  rcases Nat.lt_or_ge j m with h | h
  · simp [h]
  · simp [h]

/-- One of the first operations, in whatever state of the others: T X is the frame in which they have left X. -/
def OpOk (P : Program) (md : Region.Mode) (ops : Array Oper) (Q : Exit → Act → World → Prop) (T : (Nat → Value) → Act) (w0 : World) (G : World → World → Prop) (F : Nat → Value → World → Prop) (i : Nat) : Prop :=
  ∀ o, ops[i]? = some o → ∀ (X : Nat → Value) (w : World), G w0 w → (∀ f j, Region.reachB md ops j f i = true → F j (X j) w) →
    ∀ K : Act → World → Prop, Shut (∀ a' v w', a' = (T X).put o.dst v → G w w' → F i v w' → K a' w') →
      if Region.wanted o (yielded ops (T X).tmps) = true then Oper.wp P o (T X) w K Q else K ((T X).put o.dst undef) w
def OpsOk (P : Program) (md : Region.Mode) (ops : Array Oper) (Q : Exit → Act → World → Prop) (T : (Nat → Value) → Act) (w0 : World) (G : World → World → Prop) (F : Nat → Value → World → Prop) (l : List Nat) : Prop :=
  ∀ i ∈ l, OpOk P md ops Q T w0 G F i
theorem OpsOk.nil {T : (Nat → Value) → Act} {w0 : World} {G : World → World → Prop} {F : Nat → Value → World → Prop} : OpsOk P md ops Q T w0 G F [] := fun _ h => by cases h
theorem OpsOk.cons {T : (Nat → Value) → Act} {w0 : World} {G : World → World → Prop} {F : Nat → Value → World → Prop} {i : Nat} {o : Oper} {r : List Nat} (N : Option Tmp) (ho : ops[i]? = some o) (hN : o.dst = N)
    (h : ∀ (X : Nat → Value) (w : World), G w0 w → (∀ f j, Region.reachB md ops j f i = true → F j (X j) w) →
      ∀ K : Act → World → Prop, Shut (∀ a' v w', a' = (T X).put N v → G w w' → F i v w' → K a' w') →
        if Region.wanted o (yielded ops (T X).tmps) = true then Oper.wp P o (T X) w K Q else K ((T X).put N undef) w)
    (hr : OpsOk P md ops Q T w0 G F r) : OpsOk P md ops Q T w0 G F (i :: r) := fun j hj => by
  rcases List.mem_cons.1 hj with rfl | hj
  · intro o' ho'
    have : o' = o := Option.some.inj (ho'.symm.trans ho)
    subst this
    subst hN
    exact h
  · exact hr j hj

/-- What the destinations hold ahead of it. -/
def had (ds : List (Option Nat)) (a : Act) : Nat → Value := fun i => match ds[i]? with
  | some (some d) => a.tmps.getD d undef
  | _ => undef
theorem put_had (a : Act) (d : Option Nat) (v : Value) (h : ∀ e, d = some e → v = a.tmps.getD e undef) : a.put d v = a := by
  cases d with
  | none => rfl
  | some e =>
    rw [h e rfl]
    show { a with tmps := a.tmps.setIfInBounds e (a.tmps.getD e undef) } = a
    have : a.tmps.setIfInBounds e (a.tmps.getD e undef) = a.tmps := by
      refine Array.ext (by simp) (fun i h1 h2 => ?_)
      by_cases hi : e = i
      · subst hi
        simp [h2]
      · rw [Array.getElem_setIfInBounds h2, if_neg hi]
    rw [this]
theorem fill_had : ∀ (ds : List (Option Nat)) (k : Nat) (X : Nat → Value) (a : Act), (∀ j d, ds[j]? = some (some d) → X (k + j) = a.tmps.getD d undef) → fill ds k X a = a
  | [], _, _, _, _ => rfl
  | d :: r, k, X, a, h => by
    unfold fill
    rw [put_had a d (X k) (fun e he => by simpa using h 0 e (by simp [he]))]
    exact fill_had r (k + 1) X a (fun j d hj => by rw [show k + 1 + j = k + (j + 1) by omega]; exact h (j + 1) d (by simpa using hj))

/-- An operation that yields a value. -/
theorem val_ {oi : Oper} {N : Option Tmp} {a : Act} {w w1 : World} {v : Value} {K : Act → World → Prop} (hw : Region.wanted oi (yielded ops a.tmps) = true) (hN : oi.dst = N) (hrun : (execOp a.eval oi).run P w = .ok (.value v) w1)
    (h : K (a.put N v) w1) : if Region.wanted oi (yielded ops a.tmps) = true then Oper.wp P oi a w K Q else K (a.put N undef) w := by
  subst hN
  rw [if_pos hw]
  unfold Oper.wp
  rw [hrun]
  exact h

theorem calls_args {f : FuncId} {as as' : Array Value} {w : World} {R : Ending → World → Prop} (h : as = as') (hc : Calls P f as' w R) : Calls P f as w R := h ▸ hc
theorem args1 {a a' : Value} (h : a = a') : #[a] = #[a'] := by rw [h]
theorem args2 {a a' b b' : Value} (h : a = a') (k : b = b') : #[a, b] = #[a', b'] := by rw [h, k]
/-- A guard that says so. -/
theorem wanted_of {oi : Oper} {tmps : Array Value} {g d : Nat} {b : Bool} (hg : oi.guard = some (g, b)) (hd : (ops[g]?).bind (·.dst) = some d) (ht : tmps[d]? = some (.bool b)) : Region.wanted oi (yielded ops tmps) = true := by
  unfold Region.wanted yielded
  rw [hg]
  simp [hd, ht]
theorem tail_done {l : Array Bool} {a : Act} {w : World} {n : Nat} (hr : (Region.ready md ops l == []) = true) (h : Q .normal a w) : wpAny P md ops Q n l a w := wpAny_done (by simpa using hr) h n
end
end Go.Proofs.Ytdgeaadcidmmfaa
