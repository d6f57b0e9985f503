/-
  Rows that may be read, and boxes that are written: a row of numbers lies in no box that holds none.
-/
import Derived.Test.YtecbahciplnhfaaRegBase
namespace Go.Proofs.Ytecbahciplnhfaa
open Go.RowKit Go.Proofs.YtecbahciplnhfaaW.PrintWords Go.Proofs.YtecbahciplnhfaaW.PrintLast

theorem C_apart {α : Type} {enc : α → Value} (d : α) {h1 : ∀ x, (enc x).oneCell' = true} {w : World} {A : Option Addr} {n g t : Nat} {fr : Nat × Nat} {cs : Array Value} {xs : List α} (h : (Kd.scalar enc h1).C w A n xs)
    (hb : w.heap[g]? = some (.cells cs t fr)) (hne : ∀ u, u ∈ cs.toList → ∀ x, u ≠ enc x) : ∀ ad, A = some ad → 0 < n → ad.block ≠ g := by
  intro ad hA hn e
  obtain ⟨ad', e', hc⟩ := (Kd.reads_of_C (enc := enc) (d := d) (h1 := h1) h).2.2 hn
  obtain rfl : ad = ad' := Option.some.inj (hA.symm.trans e')
  have h0 := hc 0 hn
  have e0 : (ad.add 0).block = ad.block := add_block ad 0
  unfold World.cell? at h0
  rw [e0, e, hb] at h0
  simp only at h0
  split at h0
  · cases h0
  · exact hne _ (by simpa using Array.mem_of_getElem? h0) _ rfl
theorem C_setCell {α : Type} {enc : α → Value} (d : α) {h1 : ∀ x, (enc x).oneCell' = true} {w : World} {A : Option Addr} {n g t j : Nat} {fr : Nat × Nat} {cs : Array Value} {u : Value} {xs : List α} (h : (Kd.scalar enc h1).C w A n xs)
    (hb : w.heap[g]? = some (.cells cs t fr)) (hne : ∀ u, u ∈ cs.toList → ∀ x, u ≠ enc x) : (Kd.scalar enc h1).C (w.setCell ⟨g, j, none⟩ u) A n xs :=
  Kd.C_keep d h ((KeepBut.refl w g none).set_ j u) (C_apart d h hb hne)
theorem C_setInt {k : IntKind} {w : World} {A : Option Addr} {n g t j : Nat} {fr : Nat × Nat} {cs : Array Value} {u : Value} {xs : List Int} (h : (Kd.int k).C w A n xs)
    (hb : w.heap[g]? = some (.cells cs t fr)) (hne : ∀ u, u ∈ cs.toList → ∀ x, u ≠ .int k x) : (Kd.int k).C (w.setCell ⟨g, j, none⟩ u) A n xs := C_setCell (0 : Int) h hb hne
end Go.Proofs.Ytecbahciplnhfaa
