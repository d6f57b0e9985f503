/- Arrays of two or three whole numbers, as values that come in: opened and shut. No condition. -/
import Derived.OpenShut
import Derived.ChangeShapes
import Derived.WalkKit
import Derived.WideKeyArr2
namespace Go.Proofs.Ytdgeaadcidmmfaa.ArrBase
open Go.ChangeShapes Go.WideShapes
set_option linter.unusedVariables false
variable {H : Type} {enc : TypeId × Value → H} {P : Program} {t e : TypeId} {q : IntKind} {W : World} {base b0 : Nat} {sp : Nat → Bool} {held : Bool} {r : Reach} {v : Value} {d : DataW H} {ps : List MemPlace}
theorem okWide_arrN {n : Nat} (hu : P.underlying t = some (.array n e)) (hC : P.cellsOf t = n) (h : Value.okWide P W r b0 t v) : ∃ xs : Array Value, v = .agg xs ∧ xs.size = n := by
  simp only [Value.okWide, hu] at h
  obtain ⟨cs, h1, h2, _⟩ := h
  exact ⟨cs, h1, by rw [h2, hC]⟩
theorem open_arr2 (hu : P.underlying t = some (.array 2 e)) (hC : P.cellsOf t = 2) (he : P.underlying e = some (.int q)) (hE : P.cellsOf e = 1) (hv : Value.okWide P W r b0 t v) (hd : DataW.Trod enc P W base sp held t v d ps) :
    ∃ a b : Int, v = .agg #[.int q a, .int q b] ∧ d = .agg [.lit (.int q a), .lit (.int q b)] ∧ ps = [] ∧ (Lit.int q a).wf = true ∧ (Lit.int q b).wf = true := by
  obtain ⟨xs, rfl, hn⟩ := okWide_arrN hu hC hv
  obtain ⟨l⟩ := xs
  match l, hn with
  | [x0, x1], _ =>
    obtain ⟨fuel, hf⟩ := hd
    cases fuel with
    | zero => simp [DataW.trod] at hf
    | succ m =>
      rw [DataW.trod_step] at hf
      unfold DataW.trodStep at hf
      simp only [hu, Value.cells, hC, hE] at hf
      simp [List.range_succ, Option.bind_eq_some_iff] at hf
      obtain ⟨d0, p0, h0, l, ⟨d1, p1, h1, rfl⟩, hd, hp⟩ := hf
      obtain ⟨n0, e0, f0, w0⟩ := DataW.trod_int he h0
      simp only [List.cons.injEq, and_true] at e0
      simp only [Prod.mk.injEq] at f0
      obtain ⟨rfl, rfl⟩ := f0
      subst e0
      obtain ⟨n1, e1, f1, w1⟩ := DataW.trod_int he h1
      simp only [List.cons.injEq, and_true] at e1
      simp only [Prod.mk.injEq] at f1
      obtain ⟨rfl, rfl⟩ := f1
      subst e1
      exact ⟨n0, n1, rfl, hd.symm, by simpa using hp.symm, w0, w1⟩
end Go.Proofs.Ytdgeaadcidmmfaa.ArrBase
