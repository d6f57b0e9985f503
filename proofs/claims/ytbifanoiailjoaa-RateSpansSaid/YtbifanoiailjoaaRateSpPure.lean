/- When a key was accepted last. Plain lists. -/
import Derived.Test.YtbifanoiailjoaaRateStPure
namespace Go.Proofs.Ytbifanoiailjoaa.MRatePlays
open Go.RowKit Go.Proofs.YtbifanoiailjoaaW.PrintWords Go.Proofs.YtbifanoiailjoaaW.PrintLast Go.Proofs.YtbifanoiailjoaaW.PrintMore Go.Proofs.Ytbifanoiailjoaa.Base
set_option linter.unusedVariables false
set_option linter.unusedSimpArgs false

def lookF (es : List S37) (k : Int) : Option Int := (es.find? (fun x => x.f0 == k)).map (·.f1)
def updF (f : Int → Option Int) (k v : Int) : Int → Option Int := fun j => if j = k then some v else f j
theorem uniq (es : List S37) (hR : Riseu es) (x y : S37) (hx : x ∈ es) (hy : y ∈ es) (h : x.f0 = y.f0) : x = y := by
  obtain ⟨i, hi, rfl⟩ := List.getElem_of_mem hx
  obtain ⟨j, hj, rfl⟩ := List.getElem_of_mem hy
  have h1 := (hasu_at es hR i hi).1
  have h2 := (hasu_at es hR j hj).1
  rw [h, h2] at h1
  subst h1
  rfl
theorem lookF_mem (es : List S37) (hR : Riseu es) (x : S37) (hx : x ∈ es) : lookF es x.f0 = some x.f1 := by
  unfold lookF
  cases q : es.find? (fun y => y.f0 == x.f0) with
  | none =>
    have := List.find?_eq_none.1 q x hx
    simp at this
  | some y =>
    have h1 := List.mem_of_find?_eq_some q
    have h2 := List.find?_some q
    have h3 : y.f0 = x.f0 := by simpa using h2
    rw [uniq es hR y x h1 hx h3]
    rfl
theorem lookF_none (es : List S37) (k : Int) (h : ∀ x ∈ es, x.f0 ≠ k) : lookF es k = none := by
  unfold lookF
  rw [List.find?_eq_none.2 (fun x hx => by simpa using h x hx)]
  rfl
theorem lookF_hasnt (es : List S37) (hR : Riseu es) (k : Int) (h : hasu es k = false) : lookF es k = none := by
  refine lookF_none es k (fun x hx q => ?_)
  subst q
  rw [hasu_mem es hR x hx] at h
  cases h
theorem rd_mem (es : List S37) (k : Int) (h : hasu es k = true) : rd_T37 es (lowu es k) ∈ es := by
  have hl := hasu_lt es k h
  rw [rdu_get es _ hl]
  exact List.getElem_mem _
theorem lookF_has (es : List S37) (hR : Riseu es) (k : Int) (h : hasu es k = true) : lookF es k = some (rd_T37 es (lowu es k)).f1 := by
  have hk := hasu_key es k h
  have := lookF_mem es hR _ (rd_mem es k h)
  rwa [hk] at this
theorem updF_same (f : Int → Option Int) (k v : Int) : updF f k v k = some v := by simp [updF]
theorem updF_other (f : Int → Option Int) (k v j : Int) (h : j ≠ k) : updF f k v j = f j := by simp [updF, h]
/-- Behind an asking: each entry's moment is what is noted. -/
theorem noted (es : List S37) (room span m key : Int) (hI : Invu es room) (h1 : 1 ≤ room) (hm0 : 0 ≤ m) (hm1 : m ≤ 4611686018427387904) : ∀ x ∈ askLu es key m room span, (if ansu es key m span = 1 then updF (lookF es) key m else lookF es) x.f0 = some x.f1 := by
  intro x hx
  have hI2 := invu_ask es key m room span hI h1 hm0 hm1
  by_cases q : ansu es key m span = 1
  · rw [if_pos q]
    have hin : (⟨key, m, false⟩ : S37) ∈ askLu es key m room span := by
      unfold askLu accu
      rw [if_pos q]
      split
      · unfold setAtu; simp
      · unfold putInu; simp
    by_cases hk : x.f0 = key
    · have := uniq _ hI2.rise x ⟨key, m, false⟩ hx hin hk
      rw [this]
      exact updF_same _ _ _
    · rw [updF_other _ _ _ _ hk]
      refine lookF_mem es hI.rise x ?_
      unfold askLu accu at hx
      rw [if_pos q] at hx
      split at hx
      · rcases memu_setAt hx with rfl | h
        · exact absurd rfl hk
        · exact h
      · rcases memu_putIn hx with rfl | h
        · exact absurd rfl hk
        · exact (cutu_sub _ es).subset h
  · rw [if_neg q]
    unfold askLu at hx
    rw [if_neg q] at hx
    split at hx
    · have hh := ansu_two es key m span q
      unfold tellu at hx
      rcases List.mem_append.1 hx with h | h
      · exact lookF_mem es hI.rise x (List.mem_of_mem_take h)
      · rcases List.mem_cons.1 h with rfl | h
        · have h5 := lookF_mem es hI.rise _ (rd_mem es key hh)
          exact h5
        · exact lookF_mem es hI.rise x (List.mem_of_mem_drop h)
    · exact lookF_mem es hI.rise x hx
/-- Between two moments lies at least the span. -/
theorem spans (es : List S37) (span m key was : Int) (hR : Riseu es) (h : ansu es key m span = 1) (hw : lookF es key = some was) : span ≤ m - was := by
  cases hh : hasu es key with
  | false =>
    rw [lookF_hasnt es hR key hh] at hw
    cases hw
  | true =>
    rw [lookF_has es hR key hh] at hw
    obtain rfl := Option.some.inj hw
    unfold ansu at h
    rw [hh, if_pos rfl] at h
    by_cases q : span ≤ m - (rd_T37 es (lowu es key)).f1
    · exact q
    · rw [if_neg q] at h
      split at h <;> simp at h
theorem lookF_snoc (es : List S37) (hR : Riseu es) (j : Nat) (hj : j < es.length) : lookF (es.take (j + 1)) = updF (lookF (es.take j)) es[j].f0 es[j].f1 := by
  funext k
  rw [← List.take_append_getElem hj]
  unfold lookF updF
  rw [List.find?_append]
  by_cases q : k = es[j].f0
  · rw [if_pos q]
    have h0 : (es.take j).find? (fun x => x.f0 == k) = none := by
      refine List.find?_eq_none.2 (fun x hx => ?_)
      intro hc
      have hc' : x.f0 = es[j].f0 := by rw [← q]; simpa using hc
      obtain ⟨i, hi, rfl⟩ := List.getElem_of_mem hx
      rw [List.length_take] at hi
      rw [List.getElem_take] at hc'
      have h1 := (hasu_at es hR i (by omega)).1
      have h2 := (hasu_at es hR j hj).1
      rw [hc', h2] at h1
      omega
    rw [h0]
    simp [q]
  · rw [if_neg q]
    have : (es[j].f0 == k) = false := by simpa using fun e => q e.symm
    simp [this]
theorem was_range (es : List S37) (hA : Atsu es) (k : Int) : 0 ≤ (lookF es k).getD 0 ∧ (lookF es k).getD 0 ≤ 4611686018427387904 := by
  unfold lookF
  cases q : es.find? (fun y => y.f0 == k) with
  | none => simp
  | some y => exact hA y (List.mem_of_find?_eq_some q)
end Go.Proofs.Ytbifanoiailjoaa.MRatePlays
