/-
  A region whose order is open, its first operations walked once each, whatever the order: what each leaves is told by a fact that every other operation keeps.
-/
import Derived.Test.YtbifanoiailjoaaWLast
import Derived.Test.YtbifanoiailjoaaWWords
namespace Go.Proofs.Ytbifanoiailjoaa
open Go.RowKit Go.Proofs.YtbifanoiailjoaaW.PrintWords Go.Proofs.YtbifanoiailjoaaW.PrintLast

section
variable {P : Program} {ops : Array Oper} {Q : Exit → Act → World → Prop} {md : Region.Mode}

def up (X : Nat → Value) (i : Nat) (v : Value) : Nat → Value := fun j => bif j == i then v else X j
theorem up_self (X : Nat → Value) (i : Nat) (v : Value) : up X i v i = v := by simp [up]
theorem up_ne (X : Nat → Value) (i j : Nat) (v : Value) (h : j ≠ i) : up X i v j = X j := by
  unfold up
  rw [beq_eq_false_iff_ne.2 h]
  rfl

/-- The act with the destinations filled, from number k on. -/
def fill : List (Option Nat) → Nat → (Nat → Value) → Act → Act
  | [], _, _, a => a
  | d :: r, k, X, a => fill r (k + 1) X (a.put d (X k))

theorem fill_put : ∀ (ds : List (Option Nat)) (k : Nat) (X : Nat → Value) (a : Act) (d : Option Nat) (v : Value), (∀ e, d = some e → some e ∉ ds) → fill ds k X (a.put d v) = (fill ds k X a).put d v
  | [], _, _, _, _, _, _ => rfl
  | d' :: r, k, X, a, d, v, h => by
    unfold fill
    rw [Act.put_comm a v (X k) (fun e he hd => h e he (by simp [hd]))]
    exact fill_put r (k + 1) X _ d v (fun e he hm => h e he (by simp [hm]))
theorem fill_congr : ∀ (ds : List (Option Nat)) (k : Nat) (X Y : Nat → Value) (a : Act), (∀ j, k ≤ j → X j = Y j) → fill ds k X a = fill ds k Y a
  | [], _, _, _, _, _ => rfl
  | d :: r, k, X, Y, a, h => by
    unfold fill
    rw [h k (Nat.le_refl _)]
    exact fill_congr r (k + 1) X Y _ (fun j hj => h j (by omega))
theorem put_put (a : Act) (d : Option Nat) (u v : Value) : (a.put d u).put d v = a.put d v := by
  cases d with
  | none => rfl
  | some d => simp [Act.put]

def apartDs : List (Option Nat) → Bool
  | [] => true
  | none :: r => apartDs r
  | some d :: r => !r.contains (some d) && apartDs r

theorem fill_up : ∀ (ds : List (Option Nat)) (k : Nat) (X : Nat → Value) (a : Act) (i : Nat) (d : Option Nat) (v : Value), apartDs ds = true → k ≤ i → ds[i - k]? = some d → fill ds k (up X i v) a = (fill ds k X a).put d v
  | [], _, _, _, _, _, _, _, _, h => by simp at h
  | e :: r, k, X, a, i, d, v, hd, hk, h => by
    have hr : apartDs r = true := by
      cases e with
      | none => exact hd
      | some e => simp only [apartDs, Bool.and_eq_true] at hd; exact hd.2
    by_cases hi : i = k
    · subst hi
      simp only [Nat.sub_self, List.getElem?_cons_zero, Option.some.injEq] at h
      subst h
      unfold fill
      rw [up_self]
      have hne : ∀ q, e = some q → some q ∉ r := by
        intro q hq
        subst hq
        simp only [apartDs, Bool.and_eq_true, Bool.not_eq_true', List.contains_eq_mem, decide_eq_false_iff_not] at hd
        exact hd.1
      rw [fill_congr r (i + 1) (up X i v) X _ (fun j hj => up_ne X i j v (by omega)), ← fill_put r (i + 1) X (a.put e (X i)) e v hne, put_put]
    · have hk1 : k + 1 ≤ i := by omega
      have h' : r[i - (k + 1)]? = some d := by
        have : i - k = (i - (k + 1)) + 1 := by omega
        rw [this] at h
        simpa using h
      unfold fill
      rw [up_ne X i k v (by omega)]
      exact fill_up r (k + 1) X _ i d v hr hk1 h'

/-- What is checked of the region, once: ds are the destinations of the first operations, each once; every operation waits for earlier ones alone; whatever is behind them waits for all of them. -/
def regB (md : Region.Mode) (ops : Array Oper) (ds : List (Option Nat)) : Bool :=
  decide (ds.length ≤ ops.size) && (List.range ds.length).all (fun i => ((ops[i]?).map (·.dst)) == ds[i]?) && apartDs ds &&
  (List.range ds.length).all (fun i => match ops[i]? with | some o => o.after.all (fun e => !Region.binds md e || decide (e.on < i)) | none => false) &&
  (List.range ops.size).all (fun t => decide (t < ds.length) || (List.range ds.length).all (fun i => Region.reachB md ops i 3 t))

theorem countP_drop {p q : Nat → Bool} (i : Nat) (hp : p i = true) (hq : q i = false) (hs : ∀ j, j ≠ i → q j = p j) : ∀ (l : List Nat), l.Nodup → i ∈ l → l.countP q + 1 = l.countP p
  | [], _, h => by cases h
  | x :: r, hn, h => by
    rw [List.nodup_cons] at hn
    by_cases hx : x = i
    · subst hx
      have he : r.countP q = r.countP p := by
        refine List.countP_congr (fun y hy => ?_)
        rw [hs y (fun e => hn.1 (e ▸ hy))]
      simp [hp, hq, he]
    · have hm : i ∈ r := by
        rcases List.mem_cons.1 h with h | h
        · exact absurd h.symm hx
        · exact h
      have := countP_drop i hp hq hs r hn.2 hm
      simp only [List.countP_cons, hs x hx]
      omega

theorem getD_rep_false (m j : Nat) : (Array.replicate m false).getD j false = false := by
  rcases Nat.lt_or_ge j m with h | h
  · simp [h]
  · simp [h]

/-- One of the first operations, in whatever state of the others: T X is the frame in which they have left X. -/
def OpOk (P : Program) (md : Region.Mode) (ops : Array Oper) (Q : Exit → Act → World → Prop) (T : (Nat → Value) → Act) (w0 : World) (G : World → World → Prop) (F : Nat → Value → World → Prop) (i : Nat) : Prop :=
  ∀ o, ops[i]? = some o → ∀ (X : Nat → Value) (w : World), G w0 w → (∀ f j, Region.reachB md ops j f i = true → F j (X j) w) →
    ∀ K : Act → World → Prop, Shut (∀ a' v w', a' = (T X).put o.dst v → G w w' → F i v w' → K a' w') →
      if Region.wanted o (yielded ops (T X).tmps) = true then Oper.wp P o (T X) w K Q else K ((T X).put o.dst undef) w
def OpsOk (P : Program) (md : Region.Mode) (ops : Array Oper) (Q : Exit → Act → World → Prop) (T : (Nat → Value) → Act) (w0 : World) (G : World → World → Prop) (F : Nat → Value → World → Prop) (l : List Nat) : Prop :=
  ∀ i ∈ l, OpOk P md ops Q T w0 G F i
theorem OpsOk.nil {T : (Nat → Value) → Act} {w0 : World} {G : World → World → Prop} {F : Nat → Value → World → Prop} : OpsOk P md ops Q T w0 G F [] := fun _ h => by cases h
theorem OpsOk.cons {T : (Nat → Value) → Act} {w0 : World} {G : World → World → Prop} {F : Nat → Value → World → Prop} {i : Nat} {o : Oper} {r : List Nat} (N : Option Tmp) (ho : ops[i]? = some o) (hN : o.dst = N)
    (h : ∀ (X : Nat → Value) (w : World), G w0 w → (∀ f j, Region.reachB md ops j f i = true → F j (X j) w) →
      ∀ K : Act → World → Prop, Shut (∀ a' v w', a' = (T X).put N v → G w w' → F i v w' → K a' w') →
        if Region.wanted o (yielded ops (T X).tmps) = true then Oper.wp P o (T X) w K Q else K ((T X).put N undef) w)
    (hr : OpsOk P md ops Q T w0 G F r) : OpsOk P md ops Q T w0 G F (i :: r) := fun j hj => by
  rcases List.mem_cons.1 hj with rfl | hj
  · intro o' ho'
    have : o' = o := Option.some.inj (ho'.symm.trans ho)
    subst this
    subst hN
    exact h
  · exact hr j hj

theorem region_any (ds : List (Option Nat)) {a : Act} {w0 : World} (X0 : Nat → Value) (T : (Nat → Value) → Act) (hT : ∀ X, fill ds 0 X a = T X) (G : World → World → Prop) (F : Nat → Value → World → Prop) (hchk : regB md ops ds = true)
    (ha : fill ds 0 X0 a = a) (hr : ∀ w, G w w) (ht : ∀ u v w, G u v → G v w → G u w) (hF : ∀ i v w w', i < ds.length → F i v w → G w w' → F i v w')
    (l : List Nat) (hl : List.range ds.length = l) (hops : OpsOk P md ops Q T w0 G F l)
    (hend : ∀ (X : Nat → Value) (w : World) (listed : Array Bool), G w0 w → (∀ i, i < ds.length → F i (X i) w) → listed = ((List.range ops.size).map (fun i => decide (i < ds.length))).toArray → wpAny P md ops Q (ops.size - ds.length) listed (T X) w) :
    wpAny P md ops Q ops.size (Array.replicate ops.size false) a w0 := by
  subst hl
  simp only [regB, Bool.and_eq_true, decide_eq_true_eq, List.all_eq_true, List.mem_range, beq_iff_eq, Bool.or_eq_true] at hchk
  obtain ⟨⟨⟨⟨hlen, hdst⟩, hap⟩, hdeps⟩, htail⟩ := hchk
  have main : ∀ (m : Nat) (listed : Array Bool) (X : Nat → Value) (w : World), listed.size = ops.size → ListedClosed md ops listed → (∀ t, ds.length ≤ t → t < ops.size → listed.getD t true = false) →
      G w0 w → (∀ j, j < ds.length → listed.getD j false = true → F j (X j) w) → (List.range ds.length).countP (fun j => !listed.getD j true) = m → wpAny P md ops Q (m + (ops.size - ds.length)) listed (fill ds 0 X a) w := by
    intro m
    induction m with
    | zero =>
      intro listed X w hsz hcl htl hG hX hc
      rw [Nat.zero_add]
      have hall : ∀ j, j < ds.length → listed.getD j true = true := by
        intro j hj
        have := List.countP_eq_zero.1 hc j (List.mem_range.2 hj)
        simpa using this
      have hin : ∀ j, j < ds.length → listed.getD j false = true := by
        intro j hj
        have h1 := hall j hj
        have h2 : j < listed.size := by omega
        simp [h2] at h1 ⊢
        exact h1
      rw [hT]
      refine hend X w listed hG (fun i hi => hX i hi (hin i hi)) ?_
      refine Array.ext (by simp [hsz]) (fun i h1 h2 => ?_)
      simp only [List.getElem_toArray, List.getElem_map, List.getElem_range]
      by_cases hi : i < ds.length
      · have := hall i hi
        simp [h1] at this
        simp [this, hi]
      · have := htl i (by omega) (by omega)
        simp [h1] at this
        simp [this, hi]
    | succ m ih =>
      intro listed X w hsz hcl htl hG hX hc
      have hex : ∃ j, j < ds.length ∧ listed.getD j true = false := by
        have : 0 < (List.range ds.length).countP (fun j => !listed.getD j true) := by omega
        obtain ⟨j, hj, hp⟩ := List.countP_pos_iff.1 this
        exact ⟨j, List.mem_range.1 hj, by simpa using hp⟩
      rw [show m + 1 + (ops.size - ds.length) = (m + (ops.size - ds.length)) + 1 by omega]
      refine ⟨fun hnil => ?_, fun i hi => ?_⟩
      · exfalso
        -- the least that has not come up is ready
        have least : ∀ (k : Nat), ∀ j, j < k → j < ds.length → listed.getD j true = true := by
          intro k
          induction k with
          | zero => intro j hj; omega
          | succ k ihk =>
            intro j hj hjl
            rcases Nat.lt_or_ge j k with h | h
            · exact ihk j h hjl
            · obtain rfl : j = k := by omega
              cases hb : listed.getD j true with
              | true => rfl
              | false =>
                exfalso
                have hmem : j ∈ Region.ready md ops listed := by
                  rw [mem_ready]
                  have hjo : j < ops.size := by omega
                  refine ⟨hb, ops[j], by simp [hjo], fun e he hbd => ?_⟩
                  have hd := hdeps j hjl
                  rw [Array.getElem?_eq_getElem hjo] at hd
                  have hd' := Array.all_eq_true_iff_forall_mem.1 hd e he
                  simp only [hbd, Bool.not_true, Bool.false_or, decide_eq_true_eq] at hd'
                  have h1 := ihk e.on hd' (by omega)
                  have h2 : e.on < listed.size := by omega
                  simp [h2] at h1 ⊢
                  exact h1
                rw [hnil] at hmem
                cases hmem
        obtain ⟨j, hj, hf⟩ := hex
        rw [least (j + 1) j (by omega) hj] at hf
        cases hf
      · obtain ⟨hiun, o, ho, hall⟩ := mem_ready.1 hi
        have hio : i < ops.size := (Array.getElem?_eq_some_iff.1 ho).1
        have hin : i < ds.length := by
          rcases Nat.lt_or_ge i ds.length with h | h
          · exact h
          · exfalso
            obtain ⟨j, hj, hf⟩ := hex
            rcases htail i hio with h1 | h1
            · omega
            · exact Region.reach_not_ready hcl (h1 j hj) hf hi
        have hdi : ds[i]? = some o.dst := by
          have := hdst i hin
          rw [ho] at this
          exact this.symm
        refine wpOp_step ho (fun K hK => ?_)
        have hX' : ∀ f j, Region.reachB md ops j f i = true → F j (X j) w := by
          intro f j hf
          have hjl : listed.getD j false = true := by
            cases hb : listed.getD j true with
            | false => exact absurd hi (Region.reach_not_ready hcl hf hb)
            | true =>
              rcases Nat.lt_or_ge j listed.size with h | h
              · simp [h] at hb ⊢; exact hb
              · exfalso
                -- a number that is no operation's is never waited for by what is ready
                have : listed.getD j false = true := by
                  cases f with
                  | zero => simp [Region.reachB] at hf
                  | succ n =>
                    unfold Region.reachB at hf
                    rw [ho] at hf
                    obtain ⟨e, he, h1⟩ := Array.any_eq_true'.1 hf
                    simp only [Bool.and_eq_true, Bool.or_eq_true, beq_iff_eq] at h1
                    have hle := hall e he h1.1
                    rcases h1.2 with h2 | h2
                    · rw [← h2]; exact hle
                    · exact Region.reach_listed hcl n e.on h2 hle
                simp [Array.getElem?_eq_none h] at this
          have hjn : j < ds.length := by
            rcases Nat.lt_or_ge j ds.length with h | h
            · exact h
            · exfalso
              rcases Nat.lt_or_ge j ops.size with h' | h'
              · have := htl j h h'
                have hs : j < listed.size := by omega
                simp [hs] at this hjl
                rw [this] at hjl
                cases hjl
              · simp [Array.getElem?_eq_none (show listed.size ≤ j by omega)] at hjl
          exact hX j hjn hjl
        rw [hT]
        refine hops i (List.mem_range.2 hin) o ho X w hG hX' K (fun a' v w' ha' hGw hFv => hK _ _ ?_)
        subst ha'
        rw [← hT]
        have hup := fill_up ds 0 X a i o.dst v hap (Nat.zero_le _) (by simpa using hdi)
        rw [← hup]
        refine ih (listed.setIfInBounds i true) (up X i v) w' (by simp [hsz]) (hcl.set hi) (fun t ht' htl' => ?_) (ht _ _ _ hG hGw) (fun j hj hjl => ?_) ?_
        · rw [getD_set_ne true (by omega)]; exact htl t ht' htl'
        · by_cases hji : j = i
          · subst hji; rw [up_self]; exact hFv
          · rw [up_ne X i j v hji]
            rw [getD_set_ne false (Ne.symm hji)] at hjl
            exact hF j _ _ _ hj (hX j hj hjl) hGw
        · have := countP_drop (p := fun j => !listed.getD j true) (q := fun j => !(listed.setIfInBounds i true).getD j true) i (by rw [hiun]; rfl)
            (by have hs : i < listed.size := by omega
                simp [hs]) (fun j hj => by rw [getD_set_ne true (Ne.symm hj)]) (List.range ds.length) List.nodup_range (List.mem_range.2 hin)
          omega
  have h0 := main ((List.range ds.length).countP (fun j => !(Array.replicate ops.size false).getD j true)) (Array.replicate ops.size false) X0 w0 (by simp)
    (fun j oj _ hl => by rw [getD_rep_false] at hl; cases hl) (fun t _ h2 => by simp [h2]) (hr w0) (fun j _ hl => by rw [getD_rep_false] at hl; cases hl) rfl
  rw [ha] at h0
  have hc : (List.range ds.length).countP (fun j => !(Array.replicate ops.size false).getD j true) = ds.length := by
    rw [List.countP_eq_length.2 (fun j hj => ?_), List.length_range]
    have hj' := List.mem_range.1 hj
    have : j < ops.size := by omega
    simp [this]
  rw [hc] at h0
  rw [show ds.length + (ops.size - ds.length) = ops.size by omega] at h0
  exact h0

/-- What the destinations hold ahead of it. -/
def had (ds : List (Option Nat)) (a : Act) : Nat → Value := fun i => match ds[i]? with
  | some (some d) => a.tmps.getD d undef
  | _ => undef
theorem put_had (a : Act) (d : Option Nat) (v : Value) (h : ∀ e, d = some e → v = a.tmps.getD e undef) : a.put d v = a := by
  cases d with
  | none => rfl
  | some e =>
    rw [h e rfl]
    show { a with tmps := a.tmps.setIfInBounds e (a.tmps.getD e undef) } = a
    have : a.tmps.setIfInBounds e (a.tmps.getD e undef) = a.tmps := by
      refine Array.ext (by simp) (fun i h1 h2 => ?_)
      by_cases hi : e = i
      · subst hi
        simp [h2]
      · rw [Array.getElem_setIfInBounds h2, if_neg hi]
    rw [this]
theorem fill_had : ∀ (ds : List (Option Nat)) (k : Nat) (X : Nat → Value) (a : Act), (∀ j d, ds[j]? = some (some d) → X (k + j) = a.tmps.getD d undef) → fill ds k X a = a
  | [], _, _, _, _ => rfl
  | d :: r, k, X, a, h => by
    unfold fill
    rw [put_had a d (X k) (fun e he => by simpa using h 0 e (by simp [he]))]
    exact fill_had r (k + 1) X a (fun j d hj => by rw [show k + 1 + j = k + (j + 1) by omega]; exact h (j + 1) d (by simpa using hj))

/-- An operation that yields a value. -/
theorem val_ {oi : Oper} {N : Option Tmp} {a : Act} {w w1 : World} {v : Value} {K : Act → World → Prop} (hw : Region.wanted oi (yielded ops a.tmps) = true) (hN : oi.dst = N) (hrun : (execOp a.eval oi).run P w = .ok (.value v) w1)
    (h : K (a.put N v) w1) : if Region.wanted oi (yielded ops a.tmps) = true then Oper.wp P oi a w K Q else K (a.put N undef) w := by
  subst hN
  rw [if_pos hw]
  unfold Oper.wp
  rw [hrun]
  exact h

/-- The like at a region that draws, where nothing that stood is written. -/
theorem region_below {id n : Nat} (ds : List (Option Nat)) {a : Act} {w0 : World} {T : (Nat → Value) → Act} (hT : ∀ X, fill ds 0 X a = T X) (F : Nat → Value → World → Prop) (hm : P.follows .mixedOrders = true) (hchk : regB .any ops ds = true)
    (hF : ∀ i v w w', i < ds.length → F i v w → Below w.heap.size w w' → F i v w')
    (l : List Nat) (hl : List.range ds.length = l) (hops : OpsOk P .any ops Q T w0.drew (fun w w' => Below w.heap.size w w') F l) (hn : ops.size - ds.length = n)
    (listed : Array Bool) (hls : ((List.range ops.size).map (fun i => decide (i < ds.length))).toArray = listed)
    (hend : ∀ (X : Nat → Value) (w : World), Below w0.heap.size w0 w → (∀ i, i < ds.length → F i (X i) w) → wpAny P .any ops Q n listed (T X) w) :
    (Code.region id ops true).wp P Q a w0 :=
  wp_region_any hm (region_any ds (had ds a) T hT (fun w w' => Below w.heap.size w w') F hchk (fill_had ds 0 (had ds a) a (fun j d hj => by rw [Nat.zero_add]; unfold had; rw [hj])) (fun w => Below.refl _ w) (fun _ _ _ h k => below_step h k) hF l hl hops
    (fun X w l' hb hX e => by subst hn; subst hls; subst e; exact hend X w ((Below.refl w0.heap.size w0).drew.trans hb) hX))
theorem calls_args {f : FuncId} {as as' : Array Value} {w : World} {R : Ending → World → Prop} (h : as = as') (hc : Calls P f as' w R) : Calls P f as w R := h ▸ hc
theorem args1 {a a' : Value} (h : a = a') : #[a] = #[a'] := by rw [h]
theorem args2 {a a' b b' : Value} (h : a = a') (k : b = b') : #[a, b] = #[a', b'] := by rw [h, k]
/-- A guard that says so. -/
theorem wanted_of {oi : Oper} {tmps : Array Value} {g d : Nat} {b : Bool} (hg : oi.guard = some (g, b)) (hd : (ops[g]?).bind (·.dst) = some d) (ht : tmps[d]? = some (.bool b)) : Region.wanted oi (yielded ops tmps) = true := by
  unfold Region.wanted yielded
  rw [hg]
  simp [hd, ht]
theorem wanted_not {oi : Oper} {tmps : Array Value} {g d : Nat} {b : Bool} (hg : oi.guard = some (g, b)) (hd : (ops[g]?).bind (·.dst) = some d) (ht : tmps[d]? = some (.bool (!b))) : Region.wanted oi (yielded ops tmps) = false := by
  unfold Region.wanted yielded
  rw [hg]
  cases b <;> simp [hd, ht]
/-- Behind the first operations: the one that may come up now. -/
theorem tail_ {i : Nat} {N : Option Tmp} {oi : Oper} {fuel : Nat} {l : Array Bool} {a : Act} {w : World} (l' : Array Bool) (hi : ops[i]? = some oi) (hN : oi.dst = N) (hc : readyB md ops l l' i = true)
    (h : ∀ K : Act → World → Prop, Shut (∀ a' w', wpAny P md ops Q fuel l' a' w' → K a' w') → if Region.wanted oi (yielded ops a.tmps) = true then Oper.wp P oi a w K Q else K (a.put N undef) w) :
    wpAny P md ops Q (fuel + 1) l a w := by
  subst hN
  simp only [readyB, Bool.and_eq_true, beq_iff_eq] at hc
  obtain ⟨h1, h2⟩ := hc
  subst h2
  exact wpAny_all h1 (by simp) (fun j hj => by
    obtain rfl : j = i := by simpa using hj
    exact wpOp_step hi (fun K hK => h K hK))
theorem tail_done {l : Array Bool} {a : Act} {w : World} {n : Nat} (hr : (Region.ready md ops l == []) = true) (h : Q .normal a w) : wpAny P md ops Q n l a w := wpAny_done (by simpa using hr) h n
/-- The world under a name. -/
theorem named {c : Code} {a : Act} {w : World} (h : ∀ W, W = w → c.wp P Q a W) : c.wp P Q a w := h w rfl
end
end Go.Proofs.Ytbifanoiailjoaa
