/- The program's entries and the document's, beside one another. Plain lists. -/
import Derived.Test.YtbifanoiailjoaaRatePRefB
import Derived.Test.YtbifanoiailjoaaRateSpPure
namespace Go.Proofs.Ytbifanoiailjoaa.MRatePlays
open Go.RowKit Go.Proofs.YtbifanoiailjoaaW.PrintWords Go.Proofs.YtbifanoiailjoaaW.PrintLast Go.Proofs.YtbifanoiailjoaaW.PrintMore Go.Proofs.Ytbifanoiailjoaa.Base
set_option linter.unusedVariables false
set_option linter.unusedSimpArgs false

def to94 (x : S37) : S94 := ⟨x.f0, x.f1, x.f2⟩
/-- The document's entries are the program's, in any order. -/
def Ref (es : List S37) (l : List S94) : Prop := l.Perm (es.map to94)
theorem Ref.len {es : List S37} {l : List S94} (h : Ref es l) : l.length = es.length := by rw [List.Perm.length_eq h, List.length_map]
theorem Ref.nil : Ref [] [] := List.Perm.refl _
theorem Ref.mem {es : List S37} {l : List S94} (h : Ref es l) {y : S94} (hy : y ∈ l) : ∃ x ∈ es, to94 x = y := List.mem_map.1 ((List.Perm.mem_iff h).1 hy)
theorem Ref.mem' {es : List S37} {l : List S94} (h : Ref es l) {x : S37} (hx : x ∈ es) : to94 x ∈ l := (List.Perm.mem_iff h).2 (List.mem_map.2 ⟨x, hx, rfl⟩)
theorem find_rel (es : List S37) (l : List S94) (key : Int) (hR : Riseu es) (h : Ref es l) : (findV l key = -1 ∧ hasu es key = false) ∨ ∃ i : Nat, ∃ hi : i < l.length, findV l key = (i : Int) ∧ hasu es key = true ∧ l[i] = to94 (rd_T37 es (lowu es key)) := by
  rcases findV_spec l key with ⟨h1, h2⟩ | ⟨i, hi, h1, h2⟩
  · refine .inl ⟨h1, ?_⟩
    cases q : hasu es key with
    | false => rfl
    | true => exact absurd (hasu_key es key q) (h2 _ (h.mem' (rd_mem es key q)))
  · obtain ⟨x, hx, hxy⟩ := h.mem (List.getElem_mem hi)
    have hxk : x.f0 = key := by rw [← h2, ← hxy]; rfl
    have hh : hasu es key = true := hxk ▸ hasu_mem es hR x hx
    refine .inr ⟨i, hi, h1, hh, ?_⟩
    rw [uniq es hR _ x (rd_mem es key hh) hx ((hasu_key es key hh).trans hxk.symm), hxy]
def olderX (x y : S37) : Prop := x.f1 < y.f1 ∨ (x.f1 = y.f1 ∧ x.f0 < y.f0)
theorem cpu_lt {a b : Int} : cpu a b < 0 ↔ a < b := by rw [cpu_neg]; simp [ltu]
theorem old_iff (x y : S37) : oldu x y < 0 ↔ olderX x y := by
  unfold oldu olderX
  by_cases q : cp64 x.f1 y.f1 = 0
  · rw [if_pos q, cpu_lt]
    have := cp64_zero.1 q
    omega
  · rw [if_neg q, cp64_neg]
    have : x.f1 ≠ y.f1 := fun e => q (cp64_zero.2 e)
    omega
theorem minu_least (m : S37) (r : List S37) : ∀ y ∈ m :: r, ¬ olderX y (minu m r) := by
  induction r generalizing m with
  | nil =>
    intro y hy
    rw [List.mem_singleton.1 hy]
    unfold olderX
    show ¬ (m.f1 < m.f1 ∨ (m.f1 = m.f1 ∧ m.f0 < m.f0))
    omega
  | cons x r ih =>
    intro y hy
    show ¬ olderX y (minu (if oldu x m < 0 then x else m) r)
    have ih0 := ih (if oldu x m < 0 then x else m)
    have hh := ih0 _ List.mem_cons_self
    by_cases q : oldu x m < 0
    · rw [if_pos q] at ih0 hh ⊢
      have q' := (old_iff x m).1 q
      rcases List.mem_cons.1 hy with rfl | hy
      · unfold olderX at *
        omega
      · rcases List.mem_cons.1 hy with rfl | hy
        · exact hh
        · exact ih0 y (List.mem_cons_of_mem _ hy)
    · rw [if_neg q] at ih0 hh ⊢
      have q' : ¬ olderX x m := fun h => q ((old_iff x m).2 h)
      rcases List.mem_cons.1 hy with rfl | hy
      · exact hh
      · rcases List.mem_cons.1 hy with rfl | hy
        · unfold olderX at *
          omega
        · exact ih0 y (List.mem_cons_of_mem _ hy)
theorem oldest_rel (e0 : S37) (er : List S37) (l : List S94) (hR : Riseu (e0 :: er)) (h : Ref (e0 :: er) l) (i : Nat) (hi : i < l.length) (hm : ∀ y ∈ l, ¬ olderR y l[i]) : l[i] = to94 (minu e0 er) := by
  obtain ⟨x, hx, hxy⟩ := h.mem (List.getElem_mem hi)
  have h1 := minu_least e0 er x hx
  have h2 := hm _ (h.mem' (minu_mem e0 er))
  rw [← hxy] at h2 ⊢
  have h3 : ¬ olderX (minu e0 er) x := h2
  have : x.f0 = (minu e0 er).f0 := by
    unfold olderX at h1 h3
    omega
  rw [uniq _ hR x _ hx (minu_mem e0 er) this]
theorem permMid {α : Type} {A C z1 z2 : List α} {x : α} (h : (z1 ++ x :: z2).Perm (A ++ x :: C)) : (z1 ++ z2).Perm (A ++ C) :=
  List.Perm.cons_inv ((List.perm_middle.symm.trans h).trans List.perm_middle)
theorem permMid2 {α : Type} {A C z : List α} (n : α) (h : z.Perm (A ++ C)) : (z ++ [n]).Perm (A ++ n :: C) := by
  have h1 : (z ++ [n]).Perm (n :: z) := List.perm_append_comm
  exact (h1.trans (h.cons n)).trans List.perm_middle.symm
theorem partL (l : List S94) (i : Nat) (hi : i < l.length) : l = l.take i ++ l[i] :: l.drop (i + 1) := by
  rw [← List.drop_eq_getElem_cons hi, List.take_append_drop]
/-- An entry is taken out of both. -/
theorem drop_rel (es : List S37) (l : List S94) (key : Int) (h : Ref es l) (hh : hasu es key = true) (i : Nat) (hi : i < l.length) (hx : l[i] = to94 (rd_T37 es (lowu es key))) : Ref (fgtu es key) (l.take i ++ l.drop (i + 1)) := by
  obtain ⟨A, x, C, he, hk, hA, hC, hxx⟩ := split_at es key hh
  have hf : fgtu es key = A ++ C := by unfold fgtu; rw [if_pos hh, ← hA, ← hC]
  rw [hf]
  unfold Ref at h ⊢
  rw [List.map_append]
  refine permMid (x := to94 x) ?_
  rw [show to94 x :: C.map to94 = (x :: C).map to94 from rfl, ← List.map_append, ← he, hxx, ← hx, ← partL l i hi]
  exact h
theorem set_rel (es : List S37) (l : List S94) (key m : Int) (h : Ref es l) (hh : hasu es key = true) (i : Nat) (hi : i < l.length) (hx : l[i] = to94 (rd_T37 es (lowu es key))) : Ref (setAtu es key m) (l.take i ++ l.drop (i + 1) ++ [⟨key, m, false⟩]) := by
  have h1 := drop_rel es l key h hh i hi hx
  obtain ⟨A, x, C, he, hk, hA, hC, hxx⟩ := split_at es key hh
  have hf : fgtu es key = A ++ C := by unfold fgtu; rw [if_pos hh, ← hA, ← hC]
  have hs : setAtu es key m = A ++ ⟨key, m, false⟩ :: C := by unfold setAtu; rw [← hA, ← hC]
  rw [hf] at h1
  rw [hs]
  unfold Ref at h1 ⊢
  rw [List.map_append] at h1
  rw [List.map_append, List.map_cons]
  exact permMid2 _ h1
theorem put_rel (es : List S37) (l : List S94) (key m : Int) (h : Ref es l) : Ref (putInu es key m) (l ++ [⟨key, m, false⟩]) := by
  obtain ⟨A, C, hp, he⟩ := putIn_perm es key m
  rw [hp]
  unfold Ref at h ⊢
  rw [he, List.map_append] at h
  rw [List.map_append, List.map_cons]
  exact permMid2 _ h
theorem tell_rel (es : List S37) (l : List S94) (key : Int) (h : Ref es l) (hh : hasu es key = true) (i : Nat) (hi : i < l.length) (hx : l[i] = to94 (rd_T37 es (lowu es key))) : Ref (tellu es key) (l.set i ⟨l[i].f0, l[i].f1, true⟩) := by
  have h1 := drop_rel es l key h hh i hi hx
  obtain ⟨A, x, C, he, hk, hA, hC, hxx⟩ := split_at es key hh
  have hf : fgtu es key = A ++ C := by unfold fgtu; rw [if_pos hh, ← hA, ← hC]
  have hs : tellu es key = A ++ { x with f2 := true } :: C := by unfold tellu; rw [← hA, ← hC, ← hxx]
  rw [hf] at h1
  rw [hs]
  unfold Ref at h1 ⊢
  rw [List.map_append] at h1
  rw [List.map_append, List.map_cons, hx, ← hxx]
  have e : l.set i ⟨(to94 x).f0, (to94 x).f1, true⟩ = l.take i ++ ⟨(to94 x).f0, (to94 x).f1, true⟩ :: l.drop (i + 1) := by
    rw [List.set_eq_take_append_cons_drop, if_pos hi]
  rw [e]
  exact (List.perm_middle.trans (h1.cons _)).trans List.perm_middle.symm
theorem oldcut_rel (es : List S37) (l : List S94) (hR : Riseu es) (h : Ref es l) (h0 : 0 < es.length) (i : Nat) (hi : i < l.length) (hm : ∀ y ∈ l, ¬ olderR y l[i]) : Ref (cutu 1 es) (l.take i ++ l.drop (i + 1)) := by
  cases es with
  | nil => simp at h0
  | cons e0 er =>
    have hx := oldest_rel e0 er l hR h i hi hm
    have hmem := minu_mem e0 er
    have hh := hasu_mem (e0 :: er) hR _ hmem
    show Ref (fgtu (e0 :: er) (minu e0 er).f0) _
    refine drop_rel _ l _ h hh i hi ?_
    rw [hx, uniq _ hR (rd_T37 (e0 :: er) (lowu (e0 :: er) (minu e0 er).f0)) (minu e0 er) (rd_mem _ _ hh) hmem (hasu_key _ _ hh)]
theorem cut_succ (n : Nat) (es : List S37) : cutu n (cutu 1 es) = cutu (n + 1) es := by
  cases es with
  | nil => cases n <;> rfl
  | cons e0 er => rfl
theorem rise94 (es : List S37) (h : Riseu es) : Rise94 (es.map to94) := by
  unfold Rise94
  rw [List.pairwise_map]
  refine List.Pairwise.imp (fun {a b} hab => ?_) h
  have : ltu a.f0 b.f0 = true := hab
  simpa [ltu, to94] using this
theorem sorted_rel (es : List S37) (l : List S94) (hR : Riseu es) (h : Ref es l) : sortedV l = es.map to94 := by
  refine sortedV_is l _ ?_ (rise94 es hR) h
  rw [(List.Perm.map (·.f0) h).nodup_iff, List.map_map]
  exact keys_nodup es hR
/-- Both are asked. -/
theorem ask_rel (es : List S37) (l : List S94) (room span key m : Int) (h : Ref es l) (hI : Invu es room) (h1 : 1 ≤ room) (h2 : room ≤ 1024) (hm0 : 0 ≤ m) (hm1 : m ≤ 4611686018427387904) :
    ∃ l2, Ev (fun k => horologeref31_Ask.f k l room span key m) (ansu es key m span, l2, room, span, 0) ∧ Ref (askLu es key m room span) l2 := by
  have hlen := h.len
  have hl : l.length ≤ 1000000 := by have := hI.len; omega
  rcases find_rel es l key hI.rise h with ⟨hf, hh⟩ | ⟨i, hi, hf, hh, hx⟩
  · have ha : ansu es key m span = 1 := by unfold ansu; rw [hh]; rfl
    have hL : askLu es key m room span = putInu (cutu (es.length - (room - 1).toNat) es) key m := by
      unfold askLu accu
      rw [if_pos ha, hh]
      rfl
    rw [ha, hL]
    by_cases hfull : (l.length : Int) = room
    · obtain ⟨at_, hev, hsp⟩ := oldest_is l room span hl
      rcases hsp with ⟨_, h0⟩ | ⟨i, rfl, hi, hmin⟩
      · rw [h0] at hfull
        simp at hfull
        omega
      · refine ⟨_, ask_full_is l room span key m hl hm0 hm1 hf hfull i hi hev, ?_⟩
        rw [show es.length - (room - 1).toNat = 1 by omega]
        exact put_rel _ _ key m (oldcut_rel es l hI.rise h (by omega) i hi hmin)
    · refine ⟨_, ask_room_is l room span key m hl hm0 hm1 hf hfull, ?_⟩
      have := hI.len
      rw [show es.length - (room - 1).toNat = 0 by omega]
      exact put_rel es l key m h
  · have hat := hI.ats _ (rd_mem es key hh)
    have hw : wrap64 (m - l[i].f1) = m - (rd_T37 es (lowu es key)).f1 := by
      rw [hx]
      exact wrap64_id (by unfold I64; show _ ≤ m - (rd_T37 es (lowu es key)).f1 ∧ m - (rd_T37 es (lowu es key)).f1 ≤ _; omega)
    by_cases hs : span ≤ m - (rd_T37 es (lowu es key)).f1
    · have ha : ansu es key m span = 1 := by unfold ansu; rw [hh, if_pos rfl, if_pos hs]
      have hL : askLu es key m room span = setAtu es key m := by
        unfold askLu accu
        rw [if_pos ha, hh]
        rfl
      rw [ha, hL]
      exact ⟨_, ask_again_is l room span key m hl hm0 hm1 i hi hf (by rw [hw]; omega), set_rel es l key m h hh i hi hx⟩
    · cases ht : (rd_T37 es (lowu es key)).f2 with
      | true =>
        have ha : ansu es key m span = 3 := by unfold ansu; rw [hh, if_pos rfl, if_neg hs, ht]; rfl
        have hL : askLu es key m room span = es := by unfold askLu; rw [ha]; rfl
        rw [ha, hL]
        exact ⟨_, ask_pass_is l room span key m hl hm0 hm1 i hi hf (by rw [hw]; omega) (by rw [hx]; exact ht), h⟩
      | false =>
        have ha : ansu es key m span = 2 := by unfold ansu; rw [hh, if_pos rfl, if_neg hs, ht]; rfl
        have hL : askLu es key m room span = tellu es key := by unfold askLu; rw [ha]; rfl
        rw [ha, hL]
        exact ⟨_, ask_tell_is l room span key m hl hm0 hm1 i hi hf (by rw [hw]; omega) (by rw [hx]; exact ht), tell_rel es l key h hh i hi hx⟩
end Go.Proofs.Ytbifanoiailjoaa.MRatePlays
