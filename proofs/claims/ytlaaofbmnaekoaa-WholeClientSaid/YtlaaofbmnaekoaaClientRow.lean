/- WholeClient's walk in the row's terms. -/
import Derived.Test.YtlaaofbmnaekoaaClientLaw
namespace Go.Proofs.Ytlaaofbmnaekoaa.MWholeClient
open Go.RowKit Go.Proofs.YtlaaofbmnaekoaaW.PrintWords Go.Proofs.YtlaaofbmnaekoaaW.PrintLast Go.Proofs.YtlaaofbmnaekoaaW.PrintMore Go.Proofs.Ytlaaofbmnaekoaa.Base
set_option linter.unusedVariables false
set_option linter.unusedSimpArgs false

theorem client_row (l0 : List Int) (e0 : l0.length = 3) (w0 : ∀ x ∈ l0, (Lit.int .u32 x).wf = true) (p : Int) (wp : (Lit.int .u8 p).wf = true) (r : Int) (wr_ : (Lit.int .u64 r).wf = true) (w : World) :
    Calls Try.prog 4 #[.agg (l0.map (Value.int .u32)).toArray, .int .u8 p, .int .u64 r] w fun e w' => e = .returned (.bool true) ∧ Below w.heap.size w w' := by
  match l0, e0 with
  | [a, b, c], _ =>
    have ha := bounds_u32 (w0 a (by simp))
    have hb := bounds_u32 (w0 b (by simp))
    have hc := bounds_u32 (w0 c (by simp))
    have h1 := bounds_u8 wp
    have h2 := bounds_u64 wr_
    exact client_c w a b c p r (by omega) (by omega) (by omega) (by omega) (by omega)
end Go.Proofs.Ytlaaofbmnaekoaa.MWholeClient
