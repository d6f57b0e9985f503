/- Values that come in, of kinds put together of whole numbers, bools, strings, slices and structs: laid open as what the printed contracts speak of. No condition. -/
import Derived.OpenShut
import Derived.ChangeShapes
import Derived.WalkKit
import Derived.Test.YtbifanoiailjoaaWMore
namespace Go.Proofs.Ytbifanoiailjoaa.OpenBase
open Go.ChangeShapes Go.WideShapes Go.Proofs.YtbifanoiailjoaaW.PrintWords Go.RowKit
set_option linter.unusedVariables false
set_option linter.unusedSimpArgs false
/-- What reads as a datum of type t reads as a value of the kind d, with what its numbers and lengths are held to. -/
def Opens {α : Type} (P : Program) (w : World) (t : TypeId) (d : Kd α) (ok : α → Prop) : Prop :=
  ∀ {H : Type} (enc : TypeId × Value → H) (base : Nat) (spare : Nat → Bool) (held : Bool) (fuel : Nat) (cs : List Value) (x : DataW H × List MemPlace), DataW.trod enc P w base spare held fuel t cs = some x → ∃ a : α, d.K w a cs ∧ ok a
variable {P : Program} {w : World} {t : TypeId}
theorem opens_int {k : IntKind} (h : P.underlying t = some (.int k)) : Opens P w t (Kd.int k) (fun n => (Lit.int k n).wf = true) := by
  intro H enc base spare held fuel cs x hx
  obtain ⟨n, e, _, hw⟩ := DataW.trod_int h hx
  exact ⟨n, e, hw⟩
theorem choose_list {α : Type} {n : Nat} {Q : Nat → α → Prop} (h : ∀ i, i < n → ∃ a, Q i a) : ∃ l : List α, l.length = n ∧ ∀ i a, l[i]? = some a → Q i a := by
  induction n with
  | zero => exact ⟨[], rfl, fun i a hi => by simp at hi⟩
  | succ n ih =>
    obtain ⟨l, hl, hq⟩ := ih (fun i hi => h i (by omega))
    obtain ⟨a, ha⟩ := h n (by omega)
    refine ⟨l ++ [a], by simp [hl], fun i b hi => ?_⟩
    by_cases hlt : i < l.length
    · rw [List.getElem?_append_left hlt] at hi
      exact hq i b hi
    · rw [List.getElem?_append_right (by omega)] at hi
      by_cases h0 : i - l.length = 0
      · rw [h0] at hi
        simp at hi
        subst hi
        rw [show i = n by omega]
        exact ha
      · rw [List.getElem?_eq_none (by simp; omega)] at hi
        cases hi
theorem add_two (a : Addr) (m n : Nat) : (a.add m).add n = a.add (m + n) := by
  unfold Addr.add
  by_cases hm : m = 0
  · subst hm; simp
  · by_cases hn : n = 0
    · subst hn; simp [hm]
    · simp [hm, hn]; omega
/-- A slice's elements. -/
theorem opens_slice {α : Type} {e : TypeId} {d : Kd α} {ok : α → Prop} (h : P.underlying t = some (.slice e)) (he : Opens P w e d ok) (hs : P.cellsOf e = d.sz) :
    Opens P w t (Kd.slice e d) (fun l => l.length ≤ 9223372036854775807 ∧ ∀ x ∈ l, ok x) := by
  intro H enc base spare held fuel cs x hx
  rcases DataW.trod_slice h hx with ⟨rfl, _⟩ | ⟨a, len, cap, elems, rest, n, _, rfl, _, hb, hl, hc, hlen, hel, _⟩
  · exact ⟨[], ⟨none, 0, rfl, Nat.le_refl _, rfl, by simp, fun hp => absurd hp (by simp)⟩, by simp, fun x hx => by cases hx⟩
  · have each : ∀ i, i < len → ∃ y : α, ok y ∧ ∃ c, c.length = d.sz ∧ d.K w y c ∧ ∀ j u, c[j]? = some u → w.cell? (a.add (i * d.sz + j)) = some u := by
      intro i hi
      have hq := hel i hi
      rw [List.getElem?_eq_getElem (show i < elems.length by omega)] at hq
      obtain ⟨c, h1, h2⟩ := Option.bind_eq_some_iff.mp hq
      obtain ⟨_, hcl, hcell⟩ := World.cells?_some h1
      obtain ⟨y, hk, ho⟩ := he enc base spare held n c _ h2
      refine ⟨y, ho, c, by rw [hcl, hs], hk, fun j u hu => ?_⟩
      have hj : j < P.cellsOf e := by
        rw [← hcl]
        exact (List.getElem?_eq_some_iff.mp hu).1
      have := hcell j hj
      rw [hu] at this
      rw [← this, ← hs, add_two]
    obtain ⟨l, hll, hlq⟩ := choose_list each
    have hm : cap ≤ 9223372036854775807 := by simpa [maxLen] using hc
    refine ⟨l, ⟨some a, cap, by rw [hll], by omega, rfl, by omega, fun hp => ⟨a, rfl, fun j p hj => ?_⟩⟩, by omega, fun y hy => ?_⟩
    · exact (hlq j p hj).2
    · obtain ⟨i, hi, rfl⟩ := List.getElem_of_mem hy
      exact (hlq i _ (List.getElem?_eq_getElem hi)).1
/-- A slice that came in, laid open. -/
theorem open_slice_C {α : Type} {e : TypeId} {d : Kd α} {ok : α → Prop} {H : Type} {enc : TypeId × Value → H} {base : Nat} {spare : Nat → Bool} {held : Bool} {A : Option Addr} {n c : Nat} {dd : DataW H} {ps : List MemPlace}
    (hd : DataW.Trod enc P w base spare held t (.slice A n c) dd ps) (hu : P.underlying t = some (.slice e)) (he : Opens P w e d ok) (hs : P.cellsOf e = d.sz) :
    ∃ l : List α, l.length = n ∧ n ≤ c ∧ d.C w A n l ∧ n ≤ 9223372036854775807 ∧ ∀ x ∈ l, ok x := by
  obtain ⟨fuel, hf⟩ := hd
  obtain ⟨l, ⟨A', c', hcs, hc', hC⟩, hm, ho⟩ := opens_slice hu he hs enc base spare held fuel _ _ hf
  simp [Value.cells] at hcs
  obtain ⟨rfl, rfl, rfl⟩ := hcs
  exact ⟨l, rfl, hc', hC, hm, ho⟩
end Go.Proofs.Ytbifanoiailjoaa.OpenBase
