/- Who stays: the last keys that were accepted. Plain lists. -/
import Derived.Test.YtbifanoiailjoaaRateMU
namespace Go.Proofs.Ytbifanoiailjoaa.MRatePlays
open Go.RowKit Go.Proofs.YtbifanoiailjoaaW.PrintWords Go.Proofs.YtbifanoiailjoaaW.PrintLast Go.Proofs.YtbifanoiailjoaaW.PrintMore Go.Proofs.Ytbifanoiailjoaa.Base
set_option linter.unusedVariables false
set_option linter.unusedSimpArgs false

def wo (xs : List Int) (key : Int) : List Int := xs.filter (fun k => !(k == key))
def Rec (es : List S37) (xs : List Int) (room mom : Int) : Prop :=
  ∃ (pre : List Int) (zs : List S37), xs = pre ++ zs.map (·.f0) ∧ zs.Perm es ∧ (zs.map (·.f1)).Pairwise (· < ·) ∧ (pre = [] ∨ (es.length : Int) = room) ∧ (∀ x ∈ es, x.f1 ≤ mom)
theorem Rec.nil (room mom : Int) : Rec [] [] room mom := ⟨[], [], rfl, List.Perm.refl _, List.Pairwise.nil, .inl rfl, fun x h => by cases h⟩
theorem Rec.later {es : List S37} {xs : List Int} {room mom m : Int} (h : Rec es xs room mom) (hm : mom ≤ m) : Rec es xs room m := by
  obtain ⟨pre, zs, h1, h2, h3, h4, h5⟩ := h
  exact ⟨pre, zs, h1, h2, h3, h4, fun x hx => Int.le_trans (h5 x hx) hm⟩
theorem wo_app (a b : List Int) (key : Int) : wo (a ++ b) key = wo a key ++ wo b key := List.filter_append ..
theorem wo_none (a : List Int) (key : Int) (h : key ∉ a) : wo a key = a := by
  unfold wo
  rw [List.filter_eq_self]
  intro x hx
  simp
  rintro rfl
  exact h hx
theorem wo_len (a : List Int) (key : Int) : (wo a key).length ≤ a.length := List.length_filter_le ..
theorem keys_nodup (es : List S37) (h : Riseu es) : (es.map (·.f0)).Nodup := by
  have h1 := (riseu_keys es).1 h
  refine List.Pairwise.imp (fun {a b} hab => ?_) h1
  rintro rfl
  rw [ltu_irr] at hab
  cases hab
theorem not_mem_keys (es : List S37) (key : Int) (hR : Riseu es) (h : hasu es key = false) : key ∉ es.map (·.f0) := by
  intro hm
  obtain ⟨x, hx, rfl⟩ := List.mem_map.1 hm
  rw [hasu_mem es hR x hx] at h
  cases h
theorem split_at (es : List S37) (key : Int) (h : hasu es key = true) : ∃ A x C, es = A ++ x :: C ∧ x.f0 = key ∧ A = es.take (lowu es key) ∧ C = es.drop (lowu es key + 1) ∧ x = rd_T37 es (lowu es key) :=
  ⟨_, _, _, by rw [← List.singleton_append, ← List.append_assoc]; exact partu es _ (hasu_lt es key h), hasu_key es key h, rfl, rfl, rfl⟩
theorem perm_mid {A C z1 z2 : List S37} {x : S37} (h : (z1 ++ x :: z2).Perm (A ++ x :: C)) : (z1 ++ z2).Perm (A ++ C) :=
  List.Perm.cons_inv ((List.perm_middle.symm.trans h).trans List.perm_middle)
theorem perm_mid2 {A C z : List S37} (n : S37) (h : z.Perm (A ++ C)) : (z ++ [n]).Perm (A ++ n :: C) := by
  have h1 : (z ++ [n]).Perm (n :: z) := List.perm_append_comm
  exact (h1.trans (h.cons n)).trans List.perm_middle.symm
theorem rise_snoc {zs : List S37} {n : S37} (h : (zs.map (·.f1)).Pairwise (· < ·)) (hn : ∀ z ∈ zs, z.f1 < n.f1) : ((zs ++ [n]).map (·.f1)).Pairwise (· < ·) := by
  rw [List.map_append, List.pairwise_append]
  refine ⟨h, List.pairwise_singleton _ _, fun a ha b hb => ?_⟩
  obtain ⟨z, hz, rfl⟩ := List.mem_map.1 ha
  rw [List.map_singleton, List.mem_singleton] at hb
  subst hb
  exact hn z hz
theorem rec_set (es : List S37) (xs : List Int) (room mom m key : Int) (h : Rec es xs room mom) (hR : Riseu es) (hm : mom < m) (hh : hasu es key = true) : Rec (setAtu es key m) (wo xs key ++ [key]) room m := by
  obtain ⟨pre, zs, h1, h2, h3, h4, h5⟩ := h
  obtain ⟨A, x, C, he, hk, hA, hC, _⟩ := split_at es key hh
  have hset : setAtu es key m = A ++ ⟨key, m, false⟩ :: C := by unfold setAtu; rw [← hA, ← hC]
  have hx : x ∈ zs := h2.mem_iff.2 (by rw [he]; simp)
  obtain ⟨z1, z2, hz⟩ := List.append_of_mem hx
  have hnd : (zs.map (·.f0)).Nodup := (h2.map _).nodup_iff.2 (keys_nodup es hR)
  rw [hz, List.map_append, List.map_cons, hk] at hnd
  have hn1 : key ∉ z1.map (·.f0) := fun q => by
    have := (List.pairwise_append.1 hnd).2.2 key q key List.mem_cons_self
    exact this rfl
  have hn2 : key ∉ z2.map (·.f0) := fun q => by
    have := (List.pairwise_cons.1 (List.pairwise_append.1 hnd).2.1).1 key q
    exact this rfl
  have hlen := lenu_setAt es key m hh
  refine ⟨wo pre key, z1 ++ z2 ++ [⟨key, m, false⟩], ?_, ?_, ?_, ?_, fun y hy => ?_⟩
  · rw [h1, hz, List.map_append, List.map_cons, hk, wo_app, wo_app, wo_none _ _ hn1]
    rw [show wo (key :: z2.map (·.f0)) key = wo (z2.map (·.f0)) key from by simp [wo], wo_none _ _ hn2]
    simp
  · rw [hset]
    refine perm_mid2 _ (perm_mid (x := x) ?_)
    rw [← hz, ← he]
    exact h2
  · refine rise_snoc ?_ (fun z hzz => ?_)
    · rw [hz] at h3
      refine List.Pairwise.sublist ?_ h3
      rw [List.map_append, List.map_append, List.map_cons]
      exact List.Sublist.append (List.Sublist.refl _) (List.sublist_cons_self _ _)
    · have : z ∈ es := h2.mem_iff.1 (by rw [hz]; rcases List.mem_append.1 hzz with q | q <;> simp [q])
      have := h5 z this
      show z.f1 < m
      omega
  · rcases h4 with rfl | h4
    · exact .inl rfl
    · exact .inr (by rw [hlen]; exact h4)
  · rcases memu_setAt hy with rfl | hy
    · exact Int.le_refl _
    · have := h5 y hy
      omega
theorem cp64_neg {a b : Int} : cp64 a b < 0 ↔ a < b := by unfold cp64; split <;> (try split) <;> omega
theorem cp64_zero {a b : Int} : cp64 a b = 0 ↔ a = b := by unfold cp64; split <;> (try split) <;> omega
theorem old_neg {x y : S37} (h : oldu x y < 0) : x.f1 ≤ y.f1 := by
  unfold oldu at h
  by_cases q : cp64 x.f1 y.f1 = 0
  · have := cp64_zero.1 q
    omega
  · rw [if_neg q] at h
    have := cp64_neg.1 h
    omega
theorem old_not {x y : S37} (h : ¬ oldu x y < 0) : y.f1 ≤ x.f1 := by
  unfold oldu at h
  by_cases q : cp64 x.f1 y.f1 = 0
  · have := cp64_zero.1 q
    omega
  · rw [if_neg q, cp64_neg] at h
    omega
theorem minu_le (m : S37) (r : List S37) : ∀ y ∈ m :: r, (minu m r).f1 ≤ y.f1 := by
  induction r generalizing m with
  | nil => intro y hy; rw [List.mem_singleton.1 hy]; exact Int.le_refl _
  | cons x r ih =>
    intro y hy
    show (minu (if oldu x m < 0 then x else m) r).f1 ≤ y.f1
    have ih0 := ih (if oldu x m < 0 then x else m)
    have hh := ih0 _ List.mem_cons_self
    by_cases q : oldu x m < 0
    · rw [if_pos q] at ih0 hh ⊢
      rcases List.mem_cons.1 hy with rfl | hy
      · exact Int.le_trans hh (old_neg q)
      · rcases List.mem_cons.1 hy with rfl | hy
        · exact hh
        · exact ih0 y (List.mem_cons_of_mem _ hy)
    · rw [if_neg q] at ih0 hh ⊢
      rcases List.mem_cons.1 hy with rfl | hy
      · exact hh
      · rcases List.mem_cons.1 hy with rfl | hy
        · exact Int.le_trans hh (old_not q)
        · exact ih0 y (List.mem_cons_of_mem _ hy)
/-- The one put out is the first of the row. -/
theorem fgt_first (es : List S37) (hR : Riseu es) (z : S37) (zs : List S37) (hz : (z :: zs).Perm es) (hp : ((z :: zs).map (·.f1)).Pairwise (· < ·)) : ∃ A C, cutu 1 es = A ++ C ∧ es = A ++ z :: C ∧ zs.Perm (A ++ C) := by
  cases es with
  | nil => exact absurd hz.length_eq (by simp)
  | cons e0 er =>
    have hmm := minu_mem e0 er
    have hle := minu_le e0 er z (hz.mem_iff.1 List.mem_cons_self)
    have hmz : minu e0 er = z := by
      rcases List.mem_cons.1 (hz.mem_iff.2 hmm) with h | h
      · exact h
      · have h7 : z.f1 < (minu e0 er).f1 := (List.pairwise_cons.1 hp).1 (minu e0 er).f1 (List.mem_map.2 ⟨_, h, rfl⟩)
        omega
    show ∃ A C, fgtu (e0 :: er) (minu e0 er).f0 = A ++ C ∧ _
    rw [hmz] at hmm ⊢
    obtain ⟨i, hi, hzi⟩ := List.getElem_of_mem hmm
    obtain ⟨hlo, hhas⟩ := hasu_at (e0 :: er) hR i hi
    rw [hzi] at hlo hhas
    have hpt := partu (e0 :: er) i hi
    rw [rdu_get _ i hi, hzi, List.append_assoc, List.singleton_append] at hpt
    refine ⟨(e0 :: er).take i, (e0 :: er).drop (i + 1), ?_, hpt, ?_⟩
    · unfold fgtu
      rw [if_pos hhas, hlo]
    · refine perm_mid (z1 := []) (x := z) ?_
      rw [← hpt]
      exact hz
theorem putIn_perm (es : List S37) (key m : Int) : ∃ A C, putInu es key m = A ++ ⟨key, m, false⟩ :: C ∧ es = A ++ C := ⟨_, _, rfl, (List.take_append_drop _ _).symm⟩
theorem rec_put (es : List S37) (xs : List Int) (room mom m key : Int) (h : Rec es xs room mom) (hI : Invu es room) (h1r : 1 ≤ room) (hm : mom < m) (hh : hasu es key = false) : Rec (putInu (cutu (es.length - (room - 1).toNat) es) key m) (wo xs key ++ [key]) room m := by
  obtain ⟨pre, zs, h1, h2, h3, h4, h5⟩ := h
  obtain ⟨hR, hA, hL⟩ := hI
  have hnk := not_mem_keys es key hR hh
  have hnz : key ∉ zs.map (·.f0) := fun q => hnk ((h2.map (·.f0)).mem_iff.1 q)
  have hzl := h2.length_eq
  have hzm : ∀ z ∈ zs, z.f1 < m := fun z hz => by
    have := h5 z (h2.mem_iff.1 hz)
    omega
  by_cases hfull : (es.length : Int) = room
  · obtain ⟨z, zs', rfl⟩ : ∃ z zs', zs = z :: zs' := by
      cases zs with
      | nil => rw [List.length_nil] at hzl; omega
      | cons z zs' => exact ⟨z, zs', rfl⟩
    rw [show es.length - (room - 1).toNat = 1 by omega]
    obtain ⟨A, C, hc, he, hp⟩ := fgt_first es hR z zs' h2 h3
    obtain ⟨A', C', hpi, hAC⟩ := putIn_perm (cutu 1 es) key m
    refine ⟨wo pre key ++ [z.f0], zs' ++ [⟨key, m, false⟩], ?_, ?_, ?_, .inr ?_, fun y hy => ?_⟩
    · rw [h1, wo_app, wo_none _ _ hnz]
      simp
    · rw [hpi]
      refine perm_mid2 _ ?_
      rw [← hAC, hc]
      exact hp
    · rw [List.map_cons] at h3
      exact rise_snoc (List.pairwise_cons.1 h3).2 (fun y hy => hzm y (List.mem_cons_of_mem _ hy))
    · rw [lenu_putIn, cutu_len 1 es hR (by omega)]
      omega
    · rcases memu_putIn hy with rfl | hy
      · exact Int.le_refl _
      · have := h5 y ((cutu_sub 1 es).subset hy)
        omega
  · have hpre : pre = [] := h4.resolve_right hfull
    subst hpre
    rw [show es.length - (room - 1).toNat = 0 by omega]
    obtain ⟨A', C', hpi, hAC⟩ := putIn_perm es key m
    refine ⟨[], zs ++ [⟨key, m, false⟩], ?_, ?_, rise_snoc h3 hzm, .inl rfl, fun y hy => ?_⟩
    · rw [h1, List.nil_append, wo_none _ _ hnz]
      simp
    · show (zs ++ [_]).Perm (putInu es key m)
      rw [hpi]
      refine perm_mid2 _ ?_
      rw [← hAC]
      exact h2
    · rcases memu_putIn (show y ∈ putInu es key m from hy) with rfl | hy
      · exact Int.le_refl _
      · have := h5 y hy
        omega
theorem rec_acc (es : List S37) (xs : List Int) (room mom m key : Int) (h : Rec es xs room mom) (hI : Invu es room) (h1r : 1 ≤ room) (hm : mom < m) : Rec (accu es key m room) (wo xs key ++ [key]) room m := by
  unfold accu
  cases hh : hasu es key with
  | true => exact rec_set es xs room mom m key h hI.rise hm hh
  | false => exact rec_put es xs room mom m key h hI h1r hm hh
theorem rec_tell (es : List S37) (xs : List Int) (room mom key : Int) (h : Rec es xs room mom) (hh : hasu es key = true) : Rec (tellu es key) xs room mom := by
  obtain ⟨pre, zs, h1, h2, h3, h4, h5⟩ := h
  obtain ⟨A, x, C, he, hk, hA, hC, hx⟩ := split_at es key hh
  have htl : tellu es key = A ++ { x with f2 := true } :: C := by unfold tellu; rw [← hA, ← hC, ← hx]
  have hxz : x ∈ zs := h2.mem_iff.2 (by rw [he]; simp)
  obtain ⟨z1, z2, hz⟩ := List.append_of_mem hxz
  have hlen := lenu_tell es key hh
  refine ⟨pre, z1 ++ { x with f2 := true } :: z2, ?_, ?_, ?_, ?_, fun y hy => ?_⟩
  · rw [h1, hz]
    simp
  · rw [htl]
    have h6 : (z1 ++ z2).Perm (A ++ C) := perm_mid (x := x) (by rw [← hz, ← he]; exact h2)
    exact (List.perm_middle.trans (h6.cons _)).trans List.perm_middle.symm
  · rw [hz] at h3
    simpa using h3
  · rcases h4 with h4 | h4
    · exact .inl h4
    · exact .inr (by rw [hlen]; exact h4)
  · rw [htl] at hy
    rcases List.mem_append.1 hy with hy | hy
    · exact h5 y (by rw [he]; simp [hy])
    · rcases List.mem_cons.1 hy with rfl | hy
      · exact h5 x (by rw [he]; simp)
      · exact h5 y (by rw [he]; simp [hy])
/-- An asking at a later moment. -/
theorem rec_ask (es : List S37) (xs : List Int) (room span mom m key : Int) (h : Rec es xs room mom) (hI : Invu es room) (h1r : 1 ≤ room) (hm : mom < m) : Rec (askLu es key m room span) (if ansu es key m span = 1 then wo xs key ++ [key] else xs) room m := by
  unfold askLu
  by_cases q : ansu es key m span = 1
  · rw [if_pos q, if_pos q]
    exact rec_acc es xs room mom m key h hI h1r hm
  · rw [if_neg q, if_neg q]
    split
    · exact (rec_tell es xs room mom key h (ansu_two es key m span q)).later (by omega)
    · exact h.later (by omega)
/-- A key of the row that is not remembered has as many behind it as there is room for. -/
theorem rec_out (es : List S37) (xs : List Int) (room mom : Int) (h : Rec es xs room mom) (hR : Riseu es) (i : Nat) (hi : i < xs.length) (hh : hasu es xs[i] = false) : room < (xs.length : Int) - (i : Int) := by
  obtain ⟨pre, zs, h1, h2, h3, h4, h5⟩ := h
  have hzl := h2.length_eq
  rcases Nat.lt_or_ge i pre.length with hp | hp
  · rcases h4 with rfl | h4
    · simp at hp
    · have : xs.length = pre.length + zs.length := by rw [h1]; simp
      omega
  · exfalso
    refine not_mem_keys es xs[i] hR hh ?_
    rw [← (h2.map (·.f0)).mem_iff]
    have : xs[i] = (zs.map (·.f0))[i - pre.length]'(by rw [h1, List.length_append] at hi; omega) := by
      simp only [h1]
      rw [List.getElem_append_right hp]
    rw [this]
    exact List.getElem_mem _
end Go.Proofs.Ytbifanoiailjoaa.MRatePlays
