/- Arrays of two or three whole numbers, as values that come in: opened and shut. No condition. -/
import Derived.OpenShut
import Derived.ChangeShapes
import Derived.WalkKit
import Derived.WideKeyArr2
namespace Go.Proofs.Ytnjeemghkpgcfaa.ArrBase
open Go.ChangeShapes Go.WideShapes
set_option linter.unusedVariables false
variable {H : Type} {enc : TypeId × Value → H} {P : Program} {t e : TypeId} {q : IntKind} {W : World} {base b0 : Nat} {sp : Nat → Bool} {held : Bool} {r : Reach} {v : Value} {d : DataW H} {ps : List MemPlace}
theorem array5_ {α : Type} {cs : Array α} (h : cs.size = 5) : ∃ c0 c1 c2 c3 c4, cs = #[c0, c1, c2, c3, c4] := by
  obtain ⟨l⟩ := cs
  match l, h with
  | [c0, c1, c2, c3, c4], _ => exact ⟨c0, c1, c2, c3, c4, rfl⟩
theorem open_st5 {f0 f1 f2 f3 f4 : Field} (hu : P.underlying t = some (.struct #[f0, f1, f2, f3, f4])) (hC : P.cellsOf t = 5) (o0 : f0.offset = 0) (o1 : f1.offset = 1) (o2 : f2.offset = 2) (o3 : f3.offset = 3) (o4 : f4.offset = 4) (y0 : f0.type = e) (y1 : f1.type = e) (y2 : f2.type = e) (y3 : f3.type = e) (y4 : f4.type = e) (he : P.underlying e = some (.int q)) (hE : P.cellsOf e = 1) (hv : Value.okWide P W r b0 t v) (hd : DataW.Trod enc P W base sp held t v d ps) :
    ∃ a0 a1 a2 a3 a4 : Int, v = .agg #[.int q a0, .int q a1, .int q a2, .int q a3, .int q a4] ∧ d = .agg [.lit (.int q a0), .lit (.int q a1), .lit (.int q a2), .lit (.int q a3), .lit (.int q a4)] ∧ ps = [] ∧ (Lit.int q a0).wf = true ∧ (Lit.int q a1).wf = true ∧ (Lit.int q a2).wf = true ∧ (Lit.int q a3).wf = true ∧ (Lit.int q a4).wf = true := by
  obtain ⟨cs, rfl, hsz⟩ := okWide_struct hu hv
  obtain ⟨c0, c1, c2, c3, c4, rfl⟩ := array5_ (hsz.trans hC)
  obtain ⟨fuel, hf⟩ := hd
  obtain ⟨xs, n, _, hx, hl, hlen, hg⟩ := DataW.trod_struct hu hf
  match xs, hlen with
  | [x0, x1, x2, x3, x4], _ =>
    have g0 := hg 0 f0 rfl
    rw [y0, o0, hE] at g0
    obtain ⟨n0, e0, q0, w0⟩ := DataW.trod_int he (g0.trans (show _ = some x0 from rfl))
    obtain rfl : c0 = .int q n0 := by simpa [Value.cells] using e0
    subst q0
    have g1 := hg 1 f1 rfl
    rw [y1, o1, hE] at g1
    obtain ⟨n1, e1, q1, w1⟩ := DataW.trod_int he (g1.trans (show _ = some x1 from rfl))
    obtain rfl : c1 = .int q n1 := by simpa [Value.cells] using e1
    subst q1
    have g2 := hg 2 f2 rfl
    rw [y2, o2, hE] at g2
    obtain ⟨n2, e2, q2, w2⟩ := DataW.trod_int he (g2.trans (show _ = some x2 from rfl))
    obtain rfl : c2 = .int q n2 := by simpa [Value.cells] using e2
    subst q2
    have g3 := hg 3 f3 rfl
    rw [y3, o3, hE] at g3
    obtain ⟨n3, e3, q3, w3⟩ := DataW.trod_int he (g3.trans (show _ = some x3 from rfl))
    obtain rfl : c3 = .int q n3 := by simpa [Value.cells] using e3
    subst q3
    have g4 := hg 4 f4 rfl
    rw [y4, o4, hE] at g4
    obtain ⟨n4, e4, q4, w4⟩ := DataW.trod_int he (g4.trans (show _ = some x4 from rfl))
    obtain rfl : c4 = .int q n4 := by simpa [Value.cells] using e4
    subst q4
    simp only [Prod.mk.injEq] at hx
    exact ⟨n0, n1, n2, n3, n4, rfl, hx.1, by simpa using hx.2, w0, w1, w2, w3, w4⟩
theorem shut_st5 {a0 a1 a2 a3 a4 : Int} {f0 f1 f2 f3 f4 : Field} (hu : P.underlying t = some (.struct #[f0, f1, f2, f3, f4])) (hC : P.cellsOf t = 5) (o0 : f0.offset = 0) (o1 : f1.offset = 1) (o2 : f2.offset = 2) (o3 : f3.offset = 3) (o4 : f4.offset = 4) (y0 : f0.type = e) (y1 : f1.type = e) (y2 : f2.type = e) (y3 : f3.type = e) (y4 : f4.type = e) (he : P.underlying e = some (.int q)) (hE : P.cellsOf e = 1) (w0 : (Lit.int q a0).wf = true) (w1 : (Lit.int q a1).wf = true) (w2 : (Lit.int q a2).wf = true) (w3 : (Lit.int q a3).wf = true) (w4 : (Lit.int q a4).wf = true) : DataW.Trod enc P W base sp held t (.agg #[.int q a0, .int q a1, .int q a2, .int q a3, .int q a4]) (.agg [.lit (.int q a0), .lit (.int q a1), .lit (.int q a2), .lit (.int q a3), .lit (.int q a4)]) [] := by
  refine ⟨2, ?_⟩
  rw [DataW.trod_step]
  unfold DataW.trodStep
  simp only [hu, Value.cells, hC]
  simp [o0, y0, o1, y1, o2, y2, o3, y3, o4, y4, hE, DataW.trod, he, w0, w1, w2, w3, w4]
end Go.Proofs.Ytnjeemghkpgcfaa.ArrBase
