/- The document's table: sorted; a key asks. Plain lists. -/
import Derived.Test.YtbifanoiailjoaaRatePRefA
namespace Go.Proofs.Ytbifanoiailjoaa.MRatePlays
open Go.RowKit Go.Proofs.YtbifanoiailjoaaW.PrintWords Go.Proofs.YtbifanoiailjoaaW.PrintLast Go.Proofs.YtbifanoiailjoaaW.PrintMore Go.Proofs.Ytbifanoiailjoaa.Base
set_option linter.unusedVariables false
set_option linter.unusedSimpArgs false

def wpos (out : List S94) (key : Int) : Nat → Nat
  | 0 => 0
  | p + 1 => if (rd_T94 out (p : Int)).f0 > key then wpos out key p else p + 1
theorem wpos_le (out : List S94) (key : Int) : ∀ p, wpos out key p ≤ p
  | 0 => Nat.le_refl _
  | p + 1 => by
    unfold wpos
    split
    · exact Nat.le_succ_of_le (wpos_le out key p)
    · exact Nat.le_refl _
def insA (out : List S94) (y : S94) : List S94 := out.take (wpos out y.f0 out.length) ++ y :: out.drop (wpos out y.f0 out.length)
theorem l2_ev (l out : List S94) (r s : Int) (i q : Nat) (hi : i < l.length) (hl : l.length ≤ 1000000) (ho : out.length ≤ 1000000) (R : List S94)
    (h : Ev (fun k => horologeref31_Sorted.l0 k (out.take q ++ rd_T94 l (i : Int) :: out.drop q) (wrap64 ((i : Int) + 1)) l r s) R) :
    ∀ (d : Nat) (junk : S94), q + d ≤ out.length → Ev (fun k => horologeref31_Sorted.l2 k (out.take (q + d) ++ junk :: out.drop (q + d)) (i : Int) (q : Int) ((q + d : Nat) : Int) l r s) R
  | 0, junk, hd => by
    have hlen : (out.take (q + 0) ++ junk :: out.drop (q + 0)).length = out.length + 1 := by simp; omega
    refine Ev.up ?_
    simp only [horologeref31_Sorted.l2]
    refine Ev.neg (by omega) (Ev.pos (by omega) (Ev.pos (by omega) (Ev.pos (by omega) (Ev.pos (by rw [hlen]; omega) ?_))))
    have e : (out.take (q + 0) ++ junk :: out.drop (q + 0)).set ((q : Int).toNat) (⟨(rd_T94 l (i : Int)).f0, (rd_T94 l (i : Int)).f1, (rd_T94 l (i : Int)).f2⟩ : S94) = out.take q ++ rd_T94 l (i : Int) :: out.drop q := by
      rw [Int.toNat_natCast, Nat.add_zero]
      have ht : (out.take q).length = q := by rw [List.length_take]; omega
      rw [List.set_append_right _ _ (by omega), ht, Nat.sub_self]
      rfl
    rw [e]
    exact h
  | d + 1, junk, hd => by
    have hlen : (out.take (q + (d + 1)) ++ junk :: out.drop (q + (d + 1))).length = out.length + 1 := by simp; omega
    have hw : wrap64 (((q + (d + 1) : Nat) : Int) - 1) = ((q + d : Nat) : Int) := wr94m (q + d) (by omega)
    have ht : (out.take (q + (d + 1))).length = q + (d + 1) := by rw [List.length_take]; omega
    refine Ev.up ?_
    simp only [horologeref31_Sorted.l2, hw]
    refine Ev.pos (by omega) (Ev.pos (by omega) (Ev.pos (by rw [hlen]; omega) (Ev.pos (by omega) (Ev.pos (by rw [hlen]; omega) ?_))))
    have hr : rd_T94 (out.take (q + (d + 1)) ++ junk :: out.drop (q + (d + 1))) ((q + d : Nat) : Int) = out[q + d] := by
      rw [rd94 _ _ (by rw [hlen]; omega), List.getElem_append_left (by rw [ht]; omega), List.getElem_take]
    rw [hr]
    have e : (out.take (q + (d + 1)) ++ junk :: out.drop (q + (d + 1))).set (((q + (d + 1) : Nat) : Int).toNat) (⟨(out[q + d]).f0, (out[q + d]).f1, (out[q + d]).f2⟩ : S94) = out.take (q + d) ++ out[q + d] :: out.drop (q + d) := by
      have e1 : out.take (q + (d + 1)) = out.take (q + d) ++ [out[q + d]] := by rw [← Nat.add_assoc]; exact (List.take_append_getElem (by omega)).symm
      have e2 : out.drop (q + d) = out[q + d] :: out.drop (q + (d + 1)) := by rw [← Nat.add_assoc]; exact List.drop_eq_getElem_cons (by omega)
      rw [Int.toNat_natCast, List.set_append_right _ _ (by omega), ht, Nat.sub_self, List.set_cons_zero, e1, e2, List.append_assoc]
      rfl
    rw [e]
    exact l2_ev l out r s i q hi hl ho R h d out[q + d] (by omega)
theorem j2_ev (l out : List S94) (r s : Int) (i q : Nat) (hi : i < l.length) (hl : l.length ≤ 1000000) (ho : out.length ≤ 1000000) (hq : q ≤ out.length) (R : List S94)
    (h : Ev (fun k => horologeref31_Sorted.l0 k (out.take q ++ rd_T94 l (i : Int) :: out.drop q) (wrap64 ((i : Int) + 1)) l r s) R) : Ev (fun k => horologeref31_Sorted.j2 k out (i : Int) (q : Int) l r s) R := by
  refine Ev.up ?_
  simp only [horologeref31_Sorted.j2, Option.bind_some]
  refine Ev.pos (by omega) ?_
  have hw : wrap64 (((out ++ [(⟨0, 0, false⟩ : S94)]).length : Int) - 1) = (out.length : Int) := by
    have := wr94m out.length ho
    rw [List.length_append, List.length_singleton]
    exact this
  rw [hw]
  have := l2_ev l out r s i q hi hl ho R h (out.length - q) ⟨0, 0, false⟩ (by omega)
  rw [show q + (out.length - q) = out.length by omega, List.take_length, List.drop_length] at this
  exact this
theorem l1_ev (l out : List S94) (r s : Int) (i : Nat) (hi : i < l.length) (hl : l.length ≤ 1000000) (ho : out.length ≤ 1000000) (R : List S94) : ∀ p : Nat, p ≤ out.length →
    Ev (fun k => horologeref31_Sorted.j2 k out (i : Int) ((wpos out (rd_T94 l (i : Int)).f0 p : Nat) : Int) l r s) R → Ev (fun k => horologeref31_Sorted.l1 k out (i : Int) (p : Int) l r s) R
  | 0, hp, h => by
    refine Ev.up ?_
    simp only [horologeref31_Sorted.l1]
    exact Ev.neg (by omega) h
  | p + 1, hp, h => by
    refine Ev.up ?_
    simp only [horologeref31_Sorted.l1, wr94m p (by omega)]
    refine Ev.pos (by omega) (Ev.pos (by omega) (Ev.pos (by omega) (Ev.pos (by omega) (Ev.pos (by omega) (Ev.ite (fun q => ?_) (fun q => ?_))))))
    · unfold wpos at h
      rw [if_pos q] at h
      exact l1_ev l out r s i hi hl ho R p (by omega) h
    · unfold wpos at h
      rw [if_neg q] at h
      exact h
theorem insA_len (out : List S94) (y : S94) : (insA out y).length = out.length + 1 := by
  have := wpos_le out y.f0 out.length
  unfold insA
  rw [List.length_append, List.length_cons, List.length_take, List.length_drop]
  omega
theorem l0_ev (r s : Int) : ∀ (ys pre out : List S94), (pre ++ ys).length ≤ 1000000 → out.length = pre.length → Ev (fun k => horologeref31_Sorted.l0 k out (pre.length : Int) (pre ++ ys) r s) (ys.foldl insA out)
  | [], pre, out, hl, ho => by
    refine Ev.up ?_
    simp only [horologeref31_Sorted.l0]
    exact Ev.neg (by simp) (Ev.now _)
  | y :: ys, pre, out, hl, ho => by
    have hlen : (pre ++ y :: ys).length = pre.length + (ys.length + 1) := by simp
    have e : pre ++ y :: ys = (pre ++ [y]) ++ ys := by simp
    refine Ev.up ?_
    simp only [horologeref31_Sorted.l0]
    refine Ev.pos (by rw [hlen]; omega) ?_
    refine l1_ev (pre ++ y :: ys) out r s pre.length (by rw [hlen]; omega) hl (by omega) _ out.length (Nat.le_refl _) ?_
    refine j2_ev (pre ++ y :: ys) out r s pre.length _ (by rw [hlen]; omega) hl (by omega) (wpos_le _ _ _) _ ?_
    rw [rd94_mid, wr94 _ (by omega)]
    have := l0_ev r s ys (pre ++ [y]) (insA out y) (by rw [← e]; exact hl) (by rw [insA_len]; simp; omega)
    rw [← e] at this
    simpa [insA] using this
def sortedV (l : List S94) : List S94 := l.foldl insA []
theorem sorted_is (l : List S94) (r s : Int) (hl : l.length ≤ 1000000) : Ev (fun k => horologeref31_Sorted.f k l r s) (sortedV l) := l0_ev r s l [] [] hl rfl
theorem wpos_low (out : List S94) (key : Int) : ∀ p, 0 < wpos out key p → (rd_T94 out ((wpos out key p - 1 : Nat) : Int)).f0 ≤ key
  | 0, h => by simp [wpos] at h
  | p + 1, h => by
    unfold wpos at h ⊢
    by_cases q : (rd_T94 out (p : Int)).f0 > key
    · rw [if_pos q] at h ⊢
      exact wpos_low out key p h
    · rw [if_neg q]
      simpa using q
theorem wpos_high (out : List S94) (key : Int) : ∀ p j, wpos out key p ≤ j → j < p → (rd_T94 out (j : Int)).f0 > key
  | 0, j, _, h => by omega
  | p + 1, j, h1, h2 => by
    unfold wpos at h1
    by_cases q : (rd_T94 out (p : Int)).f0 > key
    · rw [if_pos q] at h1
      by_cases hj : j = p
      · subst hj; exact q
      · exact wpos_high out key p j h1 (by omega)
    · rw [if_neg q] at h1
      omega
def Rise94 (l : List S94) : Prop := l.Pairwise (fun a b => a.f0 < b.f0)
theorem insA_rise (out : List S94) (y : S94) (h : Rise94 out) (hy : ∀ z ∈ out, z.f0 ≠ y.f0) : Rise94 (insA out y) := by
  have hw := wpos_le out y.f0 out.length
  have hlo : ∀ z ∈ out.take (wpos out y.f0 out.length), z.f0 < y.f0 := fun z hz => by
    obtain ⟨j, hj, rfl⟩ := List.getElem_of_mem hz
    rw [List.length_take] at hj
    have hne := hy _ (List.mem_of_mem_take hz)
    have h1 := wpos_low out y.f0 out.length (by omega)
    rw [rd94 _ _ (by omega)] at h1
    rw [List.getElem_take] at hne ⊢
    rcases Nat.lt_or_ge j (wpos out y.f0 out.length - 1) with q | q
    · have := List.pairwise_iff_getElem.1 h j (wpos out y.f0 out.length - 1) (by omega) (by omega) q
      omega
    · have : j = wpos out y.f0 out.length - 1 := by omega
      subst this
      omega
  have hhi : ∀ z ∈ out.drop (wpos out y.f0 out.length), y.f0 < z.f0 := fun z hz => by
    obtain ⟨j, hj, rfl⟩ := List.getElem_of_mem hz
    rw [List.length_drop] at hj
    rw [List.getElem_drop]
    have := wpos_high out y.f0 out.length (wpos out y.f0 out.length + j) (by omega) (by omega)
    rw [rd94 _ _ (by omega)] at this
    exact this
  unfold Rise94 insA
  have h' : Rise94 (out.take (wpos out y.f0 out.length) ++ out.drop (wpos out y.f0 out.length)) := by rw [List.take_append_drop]; exact h
  have h2 := List.pairwise_append.1 h'
  rw [List.pairwise_append]
  refine ⟨h2.1, List.pairwise_cons.2 ⟨fun z hz => hhi z hz, h2.2.1⟩, fun a ha b hb => ?_⟩
  rcases List.mem_cons.1 hb with rfl | hb
  · exact hlo a ha
  · exact h2.2.2 a ha b hb
theorem insA_perm (out : List S94) (y : S94) : (insA out y).Perm (y :: out) := by
  unfold insA
  have : (y :: (out.take (wpos out y.f0 out.length) ++ out.drop (wpos out y.f0 out.length))).Perm (y :: out) := by rw [List.take_append_drop]
  exact List.perm_middle.trans this
theorem sorted_fold : ∀ (l out : List S94), Rise94 out → (l.map (·.f0)).Nodup → (∀ y ∈ l, ∀ z ∈ out, z.f0 ≠ y.f0) → Rise94 (l.foldl insA out) ∧ (l.foldl insA out).Perm (l ++ out)
  | [], out, h, _, _ => ⟨h, List.Perm.refl _⟩
  | y :: l, out, h, hn, hd => by
    rw [List.map_cons, List.nodup_cons] at hn
    have h1 := insA_rise out y h (hd y List.mem_cons_self)
    have h2 := insA_perm out y
    obtain ⟨h3, h4⟩ := sorted_fold l (insA out y) h1 hn.2 (fun z hz u hu => by
      rcases List.mem_cons.1 (h2.mem_iff.1 hu) with rfl | hu
      · exact fun e => hn.1 (by rw [e]; exact List.mem_map.2 ⟨z, hz, rfl⟩)
      · exact hd z (List.mem_cons_of_mem _ hz) u hu)
    exact ⟨h3, h4.trans ((List.Perm.append_left l h2).trans List.perm_middle)⟩
theorem sortedV_is (l es : List S94) (hn : (l.map (·.f0)).Nodup) (he : Rise94 es) (hp : l.Perm es) : sortedV l = es := by
  obtain ⟨h1, h2⟩ := sorted_fold l [] List.Pairwise.nil hn (fun y _ z hz => by cases hz)
  rw [List.append_nil] at h2
  have h9 := List.Perm.eq_of_pairwise (α := S94) (le := fun a b => a.f0 < b.f0) (l₁ := l.foldl insA []) (l₂ := es) (fun a b _ _ hab hba => absurd hab (Int.not_lt.2 (Int.le_of_lt hba))) h1 he (h2.trans hp)
  exact h9
theorem ask_bad_is (l : List S94) (r s key m : Int) (hm : ¬ (0 ≤ m ∧ m ≤ 4611686018427387904)) : Ev (fun k => horologeref31_Ask.f k l r s key m) (0, l, r, s, 1) := by
  unfold horologeref31_Ask.f
  have hj : Ev (fun k => horologeref31_Ask.j0 k key m true l r s) (0, l, r, s, 1) := by
    refine Ev.up ?_
    simp only [horologeref31_Ask.j0, if_true]
    exact Ev.now _
  refine Ev.ite (fun h => hj) (fun h => ?_)
  rw [decide_eq_true (by omega)]
  exact hj
section
variable (l : List S94) (r s key m : Int) (hl : l.length ≤ 1000000)
include hl
theorem ask_j0 (hm0 : 0 ≤ m) (hm1 : m ≤ 4611686018427387904) (R : Int × List S94 × Int × Int × Int) (x : Bool) (t : Int) (ht : findV l key = t) (hx : (0 ≤ t → t < (l.length : Int) ∧ x = decide (wrap64 (m - (rd_T94 l t).f1) < s)) ∧ (t < 0 → x = false))
    (h : Ev (fun k => horologeref31_Ask.j1 k key m t x l r s) R) : Ev (fun k => horologeref31_Ask.f k l r s key m) R := by
  unfold horologeref31_Ask.f
  refine Ev.neg (by omega) ?_
  rw [decide_eq_false (by omega)]
  refine Ev.up ?_
  simp only [horologeref31_Ask.j0, Bool.false_eq_true, if_false]
  refine Ev.bind (find_is l r s key hl) ?_
  rw [ht]
  by_cases q : 0 ≤ t
  · obtain ⟨h1, h2⟩ := hx.1 q
    refine Ev.pos q (Ev.pos q (Ev.pos h1 ?_))
    rw [← h2]
    exact h
  · refine Ev.neg (by omega) ?_
    rw [← hx.2 (by omega)]
    exact h
theorem ask_pass_is (hm0 : 0 ≤ m) (hm1 : m ≤ 4611686018427387904) (i : Nat) (hi : i < l.length) (hf : findV l key = i) (hs : wrap64 (m - l[i].f1) < s) (ht : l[i].f2 = true) : Ev (fun k => horologeref31_Ask.f k l r s key m) (3, l, r, s, 0) := by
  refine ask_j0 l r s key m hl hm0 hm1 _ true i hf ⟨fun _ => ⟨by omega, by rw [rd94 l i hi, decide_eq_true hs]⟩, fun h => by omega⟩ (Ev.up ?_)
  simp only [horologeref31_Ask.j1, if_true]
  refine Ev.pos (by omega) (Ev.pos (by omega) (Ev.pos (by rw [rd94 l i hi]; exact ht) (Ev.now _)))
theorem ask_tell_is (hm0 : 0 ≤ m) (hm1 : m ≤ 4611686018427387904) (i : Nat) (hi : i < l.length) (hf : findV l key = i) (hs : wrap64 (m - l[i].f1) < s) (ht : l[i].f2 = false) : Ev (fun k => horologeref31_Ask.f k l r s key m) (2, l.set i ⟨l[i].f0, l[i].f1, true⟩, r, s, 0) := by
  refine ask_j0 l r s key m hl hm0 hm1 _ true i hf ⟨fun _ => ⟨by omega, by rw [rd94 l i hi, decide_eq_true hs]⟩, fun h => by omega⟩ (Ev.up ?_)
  simp only [horologeref31_Ask.j1, if_true, Option.bind_some]
  refine Ev.pos (by omega) (Ev.pos (by omega) (Ev.neg (by rw [rd94 l i hi, ht]; decide) (Ev.pos (by simp; omega) (Ev.pos (by simp; omega) ?_))))
  rw [List.nil_append, rd94 l i hi, Int.toNat_natCast]
  exact Ev.now _
theorem ask_again_is (hm0 : 0 ≤ m) (hm1 : m ≤ 4611686018427387904) (i : Nat) (hi : i < l.length) (hf : findV l key = i) (hs : ¬ wrap64 (m - l[i].f1) < s) : Ev (fun k => horologeref31_Ask.f k l r s key m) (1, l.take i ++ l.drop (i + 1) ++ [⟨key, m, false⟩], r, s, 0) := by
  have hlen : (l.take i ++ l.drop (i + 1)).length ≤ 1000000 := by rw [List.length_append, List.length_take, List.length_drop]; omega
  refine ask_j0 l r s key m hl hm0 hm1 _ false i hf ⟨fun _ => ⟨by omega, by rw [rd94 l i hi, decide_eq_false hs]⟩, fun h => rfl⟩ (Ev.up ?_)
  simp only [horologeref31_Ask.j1, Bool.false_eq_true, if_false]
  refine Ev.pos (by omega) ?_
  rw [without_is l r s i hi hl]
  simp only [Option.bind_some, List.nil_append, List.length_nil, Nat.zero_add]
  refine Ev.pos (by omega) (Ev.pos (by omega) (Ev.now _))
theorem ask_full_is (hm0 : 0 ≤ m) (hm1 : m ≤ 4611686018427387904) (hf : findV l key = -1) (hr : (l.length : Int) = r) (i : Nat) (hi : i < l.length) (ho : Ev (fun k => horologeref31_Oldest.f k l r s) (i : Int)) : Ev (fun k => horologeref31_Ask.f k l r s key m) (1, l.take i ++ l.drop (i + 1) ++ [⟨key, m, false⟩], r, s, 0) := by
  have hlen : (l.take i ++ l.drop (i + 1)).length ≤ 1000000 := by rw [List.length_append, List.length_take, List.length_drop]; omega
  refine ask_j0 l r s key m hl hm0 hm1 _ false (-1) hf ⟨fun h => by omega, fun h => rfl⟩ (Ev.up ?_)
  simp only [horologeref31_Ask.j1, Bool.false_eq_true, if_false]
  refine Ev.neg (by decide) (Ev.pos hr (Ev.bind ho ?_))
  rw [without_is l r s i hi hl]
  simp only [Option.bind_some, List.nil_append, List.length_nil, Nat.zero_add]
  refine Ev.pos (by omega) (Ev.pos (by omega) (Ev.now _))
theorem ask_room_is (hm0 : 0 ≤ m) (hm1 : m ≤ 4611686018427387904) (hf : findV l key = -1) (hr : ¬ (l.length : Int) = r) : Ev (fun k => horologeref31_Ask.f k l r s key m) (1, l ++ [⟨key, m, false⟩], r, s, 0) := by
  refine ask_j0 l r s key m hl hm0 hm1 _ false (-1) hf ⟨fun h => by omega, fun h => rfl⟩ (Ev.up ?_)
  simp only [horologeref31_Ask.j1, Bool.false_eq_true, if_false]
  refine Ev.neg (by decide) (Ev.neg hr ?_)
  simp only [Option.bind_some, List.nil_append, List.length_nil, Nat.zero_add]
  refine Ev.pos (by omega) (Ev.pos (by omega) (Ev.now _))
end
end Go.Proofs.Ytbifanoiailjoaa.MRatePlays
