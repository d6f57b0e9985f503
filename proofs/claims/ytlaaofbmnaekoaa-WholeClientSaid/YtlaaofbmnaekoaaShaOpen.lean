/- Arrays of whole numbers of any length, as values that come in: opened. No condition. -/
import Derived.Test.YtlaaofbmnaekoaaOpenBase
import Derived.OpenShut
import Derived.ChangeShapes
import Derived.WalkKit
import Derived.WideKeyArr2
namespace Go.Proofs.Ytlaaofbmnaekoaa.ArrOpen
open Go.ChangeShapes Go.WideShapes
set_option linter.unusedVariables false
theorem mapM_all {α β : Type} {f : α → Option β} : ∀ {l : List α} {ys : List β}, l.mapM f = some ys → ∀ x ∈ l, ∃ y, f x = some y
  | [], _, _ => fun x h => by cases h
  | a :: l, ys, h => by
    rw [List.mapM_cons] at h
    simp only [Option.bind_eq_bind, Option.bind_eq_some_iff] at h
    obtain ⟨y, h1, zs, h2, _⟩ := h
    intro x hx
    rcases List.mem_cons.1 hx with rfl | hx
    · exact ⟨y, h1⟩
    · exact mapM_all h2 x hx
section
variable {H : Type} {enc : TypeId × Value → H} {P : Program} {t e : TypeId} {q : IntKind} {W : World} {base b0 : Nat} {sp : Nat → Bool} {held : Bool} {r : Reach} {v : Value} {d : DataW H} {ps : List MemPlace}
theorem okWide_arrN {n : Nat} (hu : P.underlying t = some (.array n e)) (hC : P.cellsOf t = n) (h : Value.okWide P W r b0 t v) : ∃ xs : Array Value, v = .agg xs ∧ xs.size = n := by
  simp only [Value.okWide, hu] at h
  obtain ⟨cs, h1, h2, _⟩ := h
  exact ⟨cs, h1, by rw [h2, hC]⟩
def num : Value → Int
  | .int _ a => a
  | _ => 0
theorem open_arrN {n : Nat} (hu : P.underlying t = some (.array n e)) (hC : P.cellsOf t = n) (he : P.underlying e = some (.int q)) (hE : P.cellsOf e = 1) (hv : Value.okWide P W r b0 t v) (hd : DataW.Trod enc P W base sp held t v d ps) :
    ∃ l : List Int, v = .agg (l.map (Value.int q)).toArray ∧ l.length = n ∧ ∀ x ∈ l, (Lit.int q x).wf = true := by
  obtain ⟨xs, rfl, hn⟩ := okWide_arrN hu hC hv
  obtain ⟨xs⟩ := xs
  simp only [List.size_toArray] at hn
  have key : ∀ i (hi : i < xs.length), ∃ a, xs[i] = .int q a ∧ (Lit.int q a).wf = true := by
    intro i hi
    obtain ⟨fuel, hf⟩ := hd
    cases fuel with
    | zero => simp [DataW.trod] at hf
    | succ m =>
      rw [DataW.trod_step] at hf
      unfold DataW.trodStep at hf
      simp only [hu, Value.cells, hC, hE] at hf
      rw [if_pos hn] at hf
      obtain ⟨ys, h1, _⟩ := Option.map_eq_some_iff.1 hf
      obtain ⟨y, h2⟩ := mapM_all h1 i (List.mem_range.2 (by omega))
      obtain ⟨a, ha, _, hw⟩ := DataW.trod_int he h2
      refine ⟨a, ?_, hw⟩
      have h3 : ((xs.drop (i * 1)).take 1)[0]? = some (Value.int q a) := by rw [ha]; rfl
      simp [hi] at h3
      exact h3
  refine ⟨xs.map num, ?_, by simp [hn], ?_⟩
  · congr 2
    rw [List.map_map]
    refine List.ext_getElem (by simp) (fun i h1 h2 => ?_)
    obtain ⟨a, ha, _⟩ := key i h1
    simp [ha, num]
  · intro x hx
    obtain ⟨y, hy, rfl⟩ := List.mem_map.1 hx
    obtain ⟨i, hi, rfl⟩ := List.getElem_of_mem hy
    obtain ⟨a, ha, hw⟩ := key i hi
    rw [ha]
    exact hw
end
end Go.Proofs.Ytlaaofbmnaekoaa.ArrOpen
