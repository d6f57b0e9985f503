/- What both kinds of tables share. -/
import Derived.Test.YtbifanoiailjoaaRateFr
import Derived.WalkSpells
import Derived.Laws.ResultCell
namespace Go.Proofs.Ytbifanoiailjoaa.MRatePlays
open Go.RowKit Go.Proofs.YtbifanoiailjoaaW.PrintWords Go.Proofs.YtbifanoiailjoaaW.PrintLast Go.Proofs.YtbifanoiailjoaaW.PrintMore Go.Proofs.Ytbifanoiailjoaa.Base
set_option linter.unusedVariables false
set_option linter.unusedSimpArgs false

def cp64 (a b : Int) : Int := if a < b then -1 else if b < a then 1 else 0
theorem cp64_f (a b : Int) : cmp_Compare_int64.f a b = some (cp64 a b) := by
  unfold cmp_Compare_int64.f cmp_isNaN_int64.f cp64
  simp only [Option.bind_some, bne_self_eq_false, Bool.false_eq_true, if_false, decide_eq_true_eq]
  by_cases h : a < b
  · rw [if_pos h, if_pos h]
  · rw [if_neg h, if_neg h]
    by_cases h2 : b < a
    · rw [if_pos h2, if_pos (show a > b from h2)]
    · rw [if_neg h2, if_neg (show ¬ a > b from h2)]
theorem or2 (a b : Int) : cmp_Or_int.f 4 [a, b] = some (if a = 0 then b else a) := by
  unfold cmp_Or_int.f cmp_Or_int.l0 cmp_Or_int.l0 cmp_Or_int.l0
  have e1 : rd [a, b] 0 = a := rfl
  have e2 : wrap64 (0 + 1) = 1 := wrap64_id (by unfold I64; omega)
  have e3 : rd [a, b] 1 = b := rfl
  have e4 : wrap64 (1 + 1) = 2 := wrap64_id (by unfold I64; omega)
  simp only [List.length_cons, List.length_nil, e1, e2, e3, e4]
  by_cases h : a = 0
  · by_cases h2 : b = 0
    · subst h h2; simp
    · subst h; simp [h2]
  · simp [h]
section
variable {P : Program}
theorem results_cell_row_tmp {fn : Func} {p u : Tmp} {ty : TypeId} (h : fn.results = #[.cell p ty, .tmp u]) (tmps : Array Value) (w : World) (g : Nat) (t : TypeId) (cs : Array Value) (fr : Nat × Nat) (d : TypeDesc) (vu : Value)
    (hp : tmps.getD p undef = .pointer (some ⟨g, 0, none⟩)) (hg : w.heap[g]? = some (.cells cs t fr))
    (hu : P.underlying ty = some d) (hd : (match d with | .struct _ | .array _ _ => true | _ => false) = true) (hi : (P.info? ty).map (·.size) = some cs.size) (hv : tmps.getD u undef = vu) :
    (results fn tmps).run P w = .ok (.tuple #[.agg cs, vu]) w := by
  rw [results_cell_tmp h, hp, hv]
  simp [asAddr, run_loadVar_row w g t ty cs fr d hg hu hd hi, Result.andThen]
variable {ops : Array Oper} {Q : Exit → Act → World → Prop}
/-- A call of a function value. -/
theorem goesV_ {oi : Oper} {N : Option Tmp} {a : Act} {w : World} {K : Act → World → Prop} {f : FuncId} {fn : Func} {az : Array Operand} {ts : Array TypeId} (hf : P.funcs[f]? = some fn) (hname : (fn.name == "runtime.NumGoroutine") = false) (hb : fn.body.isSome = true) (args : Array Value)
    (hw : Region.wanted oi (yielded ops a.tmps) = true) (hN : oi.dst = N) (c : Operand) (hop : oi.op = .call { callee := .value c, args := az, argTypes := ts }) (hc : a.eval c = .func (.func f) #[] #[]) (hargs : az.map a.eval = args)
    (h : Calls P f args w fun e w' => ∃ v, e = .returned v ∧ K (a.put N v) w') : if Region.wanted oi (yielded ops a.tmps) = true then Oper.wp P oi a w K Q else K (a.put N undef) w := by
  refine call_ f args hw hN ?_ h
  have he := enters_ hf hname hb args w
  unfold execOp
  simp [hop, resolve, hc, Deferred.ofValue, invoke, hargs, he]
end
end Go.Proofs.Ytbifanoiailjoaa.MRatePlays
