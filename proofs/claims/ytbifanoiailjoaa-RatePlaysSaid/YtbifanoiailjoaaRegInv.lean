/-
  A region whose order is open, by an invariant over what is done: the user's own, proved once an operation.
-/
import Derived.Test.YtbifanoiailjoaaRegBase
namespace Go.Proofs.Ytbifanoiailjoaa
open Go.RowKit Go.Proofs.YtbifanoiailjoaaW.PrintWords Go.Proofs.YtbifanoiailjoaaW.PrintLast

section
variable {P : Program} {ops : Array Oper} {Q : Exit → Act → World → Prop} {md : Region.Mode}
def upd (dn : Nat → Bool) (i : Nat) : Nat → Bool := fun j => bif j == i then true else dn j
def OpsInv (P : Program) (md : Region.Mode) (ops : Array Oper) (Q : Exit → Act → World → Prop) (T : (Nat → Value) → Act) (I : (Nat → Bool) → (Nat → Value) → World → Prop) (l : List Nat) : Prop :=
  ∀ i ∈ l, ∀ o, ops[i]? = some o → ∀ (dn : Nat → Bool) (X : Nat → Value) (w : World), dn i = false → (∀ f j, Region.reachB md ops j f i = true → dn j = true) → I dn X w →
    ∀ K : Act → World → Prop, Shut (∀ a' v w', a' = (T X).put o.dst v → I (upd dn i) (up X i v) w' → K a' w') →
      if Region.wanted o (yielded ops (T X).tmps) = true then Oper.wp P o (T X) w K Q else K ((T X).put o.dst undef) w
theorem OpsInv.nil {T : (Nat → Value) → Act} {I : (Nat → Bool) → (Nat → Value) → World → Prop} : OpsInv P md ops Q T I [] := fun _ h => by cases h
theorem OpsInv.cons {T : (Nat → Value) → Act} {I : (Nat → Bool) → (Nat → Value) → World → Prop} {i : Nat} {o : Oper} {r : List Nat} (N : Option Tmp) (ho : ops[i]? = some o) (hN : o.dst = N)
    (h : ∀ (dn : Nat → Bool) (X : Nat → Value) (w : World), dn i = false → (∀ f j, Region.reachB md ops j f i = true → dn j = true) → I dn X w →
      ∀ K : Act → World → Prop, Shut (∀ a' v w', a' = (T X).put N v → I (upd dn i) (up X i v) w' → K a' w') →
        if Region.wanted o (yielded ops (T X).tmps) = true then Oper.wp P o (T X) w K Q else K ((T X).put N undef) w)
    (hr : OpsInv P md ops Q T I r) : OpsInv P md ops Q T I (i :: r) := fun j hj => by
  rcases List.mem_cons.1 hj with rfl | hj
  · intro o' ho'
    have : o' = o := Option.some.inj (ho'.symm.trans ho)
    subst this
    subst hN
    exact h
  · exact hr j hj
theorem region_inv {id : Nat} (ds : List (Option Nat)) {a : Act} {w0 : World} {T : (Nat → Value) → Act} (hT : ∀ X, fill ds 0 X a = T X) (I : (Nat → Bool) → (Nat → Value) → World → Prop) (hm : P.follows .mixedOrders = true) (hchk : regB .any ops ds = true) (hlen : ds.length = ops.size)
    (l : List Nat) (hl : List.range ds.length = l) (hops : OpsInv P .any ops Q T I l) (h0 : I (fun _ => false) (had ds a) w0.drew)
    (hend : ∀ (dn : Nat → Bool) (X : Nat → Value) (w : World), (∀ j, j < ds.length → dn j = true) → I dn X w → Q .normal (T X) w) :
    (Code.region id ops true).wp P Q a w0 := by
  refine wp_region_any hm ?_
  subst hl
  simp only [regB, Bool.and_eq_true, decide_eq_true_eq, List.all_eq_true, List.mem_range, beq_iff_eq, Bool.or_eq_true] at hchk
  obtain ⟨⟨⟨⟨_, hdst⟩, hap⟩, hdeps⟩, _⟩ := hchk
  have main : ∀ (m : Nat) (listed : Array Bool) (X : Nat → Value) (w : World), listed.size = ops.size → ListedClosed .any ops listed →
      I (fun j => listed.getD j false) X w → (List.range ds.length).countP (fun j => !listed.getD j true) = m → wpAny P .any ops Q m listed (fill ds 0 X a) w := by
    intro m
    induction m with
    | zero =>
      intro listed X w hsz hcl hI hc
      have hall : ∀ j, j < ds.length → listed.getD j true = true := by
        intro j hj
        have := List.countP_eq_zero.1 hc j (List.mem_range.2 hj)
        simpa using this
      rw [hT]
      refine tail_done (by
        rw [beq_iff_eq]
        refine List.eq_nil_iff_forall_not_mem.2 (fun i hi => ?_)
        obtain ⟨hiun, o, ho, _⟩ := mem_ready.1 hi
        have hio : i < ops.size := (Array.getElem?_eq_some_iff.1 ho).1
        rw [hall i (by omega)] at hiun
        cases hiun) (hend _ X w (fun j hj => ?_) hI)
      have h1 := hall j hj
      have h2 : j < listed.size := by omega
      simp [h2] at h1 ⊢
      exact h1
    | succ m ih =>
      intro listed X w hsz hcl hI hc
      have hex : ∃ j, j < ds.length ∧ listed.getD j true = false := by
        have : 0 < (List.range ds.length).countP (fun j => !listed.getD j true) := by omega
        obtain ⟨j, hj, hp⟩ := List.countP_pos_iff.1 this
        exact ⟨j, List.mem_range.1 hj, by simpa using hp⟩
      refine ⟨fun hnil => ?_, fun i hi => ?_⟩
      · exfalso
        have least : ∀ (k : Nat), ∀ j, j < k → j < ds.length → listed.getD j true = true := by
          intro k
          induction k with
          | zero => intro j hj; omega
          | succ k ihk =>
            intro j hj hjl
            rcases Nat.lt_or_ge j k with h | h
            · exact ihk j h hjl
            · obtain rfl : j = k := by omega
              cases hb : listed.getD j true with
              | true => rfl
              | false =>
                exfalso
                have hmem : j ∈ Region.ready .any ops listed := by
                  rw [mem_ready]
                  have hjo : j < ops.size := by omega
                  refine ⟨hb, ops[j], by simp [hjo], fun e he hbd => ?_⟩
                  have hd := hdeps j hjl
                  rw [Array.getElem?_eq_getElem hjo] at hd
                  have hd' := Array.all_eq_true_iff_forall_mem.1 hd e he
                  simp only [hbd, Bool.not_true, Bool.false_or, decide_eq_true_eq] at hd'
                  have h1 := ihk e.on hd' (by omega)
                  have h2 : e.on < listed.size := by omega
                  simp [h2] at h1 ⊢
                  exact h1
                rw [hnil] at hmem
                cases hmem
        obtain ⟨j, hj, hf⟩ := hex
        rw [least (j + 1) j (by omega) hj] at hf
        cases hf
      · obtain ⟨hiun, o, ho, hall⟩ := mem_ready.1 hi
        have hio : i < ops.size := (Array.getElem?_eq_some_iff.1 ho).1
        have hin : i < ds.length := by omega
        have hdi : ds[i]? = some o.dst := by
          have := hdst i hin
          rw [ho] at this
          exact this.symm
        refine wpOp_step ho (fun K hK => ?_)
        rw [hT]
        refine hops i (List.mem_range.2 hin) o ho _ X w ?_ (fun f j hf => ?_) hI K (fun a' v w' ha' hIv => hK _ _ ?_)
        · have hs : i < listed.size := by omega
          simp [hs] at hiun ⊢
          exact hiun
        · show listed.getD j false = true
          cases hb : listed.getD j true with
          | false => exact absurd hi (Region.reach_not_ready hcl hf hb)
          | true =>
            rcases Nat.lt_or_ge j listed.size with h | h
            · simp [h] at hb ⊢; exact hb
            · exfalso
              have : listed.getD j false = true := by
                cases f with
                | zero => simp [Region.reachB] at hf
                | succ n =>
                  unfold Region.reachB at hf
                  rw [ho] at hf
                  obtain ⟨e, he, h1⟩ := Array.any_eq_true'.1 hf
                  simp only [Bool.and_eq_true, Bool.or_eq_true, beq_iff_eq] at h1
                  have hle := hall e he h1.1
                  rcases h1.2 with h2 | h2
                  · rw [← h2]; exact hle
                  · exact Region.reach_listed hcl n e.on h2 hle
              simp [Array.getElem?_eq_none h] at this
        · subst ha'
          rw [← hT]
          have hup := fill_up ds 0 X a i o.dst v hap (Nat.zero_le _) (by simpa using hdi)
          rw [← hup]
          refine ih (listed.setIfInBounds i true) (up X i v) w' (by simp [hsz]) (hcl.set hi) ?_ ?_
          · have he : (fun j => (listed.setIfInBounds i true).getD j false) = upd (fun j => listed.getD j false) i := by
              funext j
              unfold upd
              by_cases hji : j = i
              · subst hji
                have hs : j < listed.size := by omega
                simp [hs]
              · rw [getD_set_ne false (Ne.symm hji), beq_eq_false_iff_ne.2 hji]
                rfl
            rw [he]
            exact hIv
          · have := countP_drop (p := fun j => !listed.getD j true) (q := fun j => !(listed.setIfInBounds i true).getD j true) i (by rw [hiun]; rfl)
              (by have hs : i < listed.size := by omega
                  simp [hs]) (fun j hj => by rw [getD_set_ne true (Ne.symm hj)]) (List.range ds.length) List.nodup_range (List.mem_range.2 hin)
            omega
  have h1 := main ((List.range ds.length).countP (fun j => !(Array.replicate ops.size false).getD j true)) (Array.replicate ops.size false) (had ds a) w0.drew (by simp)
    (fun j oj _ hl => by rw [getD_rep_false] at hl; cases hl) (by
      have he : (fun j => (Array.replicate ops.size false).getD j false) = fun _ => false := by
        funext j
        rcases Nat.lt_or_ge j ops.size with h | h
        · simp [h]
        · simp [h]
      rw [he]
      exact h0) rfl
  rw [fill_had ds 0 (had ds a) a (fun j d hj => by rw [Nat.zero_add]; unfold had; rw [hj])] at h1
  have hc : (List.range ds.length).countP (fun j => !(Array.replicate ops.size false).getD j true) = ds.length := by
    rw [List.countP_eq_length.2 (fun j hj => ?_), List.length_range]
    have hj' := List.mem_range.1 hj
    have : j < ops.size := by omega
    simp [this]
  rw [hc, hlen] at h1
  exact h1
end
end Go.Proofs.Ytbifanoiailjoaa
