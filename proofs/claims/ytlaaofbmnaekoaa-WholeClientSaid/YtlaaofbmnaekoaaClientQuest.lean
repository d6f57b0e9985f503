/- A question's bytes as they are written; a question is answered. -/
import Derived.Test.YtlaaofbmnaekoaaClientMatch
namespace Go.Proofs.Ytlaaofbmnaekoaa.MWholeClient
open Go.RowKit Go.Proofs.YtlaaofbmnaekoaaW.PrintWords Go.Proofs.YtlaaofbmnaekoaaW.PrintLast Go.Proofs.YtlaaofbmnaekoaaW.PrintMore Go.Proofs.Ytlaaofbmnaekoaa.Base
set_option linter.unusedVariables false
set_option linter.unusedSimpArgs false

def sets (xs : List Int) (o : Nat) : List Int → List Int
  | [] => xs
  | y :: r => sets (xs.set o y) (o + 1) r
theorem R_sets {base g c n : Nat} : ∀ (ys : List Int) (o : Nat) (W : World) (xs : List Int), xs.length = n → Kd.R (Kd.int .u8) 5 W base (fun _ => True) (.slice (some ⟨g, 0, none⟩) n c) xs →
    Kd.R (Kd.int .u8) 5 (W.setCells g o (ys.map (Value.int .u8))) base (fun _ => True) (.slice (some ⟨g, 0, none⟩) n c) (sets xs o ys)
  | [], o, W, xs, hn, h => h
  | y :: r, o, W, xs, hn, h => by
    subst hn
    have h2 := (Kd.R_put (enc := Value.int .u8) (h1 := fun _ => rfl) h (o : Int) y).1
    rw [Int.toNat_natCast] at h2
    have h3 := R_sets r (o + 1) _ (xs.set o y) (by simp) h2
    exact h3
theorem below_sets {w W : World} {g : Nat} (h : Below w.heap.size w W) (hg : w.heap.size ≤ g) (vs : List Value) (o : Nat) : Below w.heap.size w (W.setCells g o vs) := by
  induction vs generalizing W o with
  | nil => exact h
  | cons v r ih => exact ih (below_set h hg) (o + 1)
theorem copy8 (W : World) (ba c base : Nat) (xs : List Int) (hx : xs.length = 48) (hR : Kd.R (Kd.int .u8) 5 W base (fun _ => True) (.slice (some ⟨ba, 0, none⟩) 48 c) xs) (A : Option Addr) (c2 : Nat) (ys : List Int) (hC : Kd.C (Kd.int .u8) W A ys.length ys) (h8 : ys.length = 8) :
    (Builtin.copy_ #[39, 39] 3 #[.slice (some ⟨ba, 40, none⟩) 8 (c - 40), .slice A 8 c2]).run Try.prog W = .ok (.int .i64 8) (W.setCells ba 40 (ys.map (Value.int .u8))) := by
  have hr := Kd.reads_of_C (enc := Value.int .u8) (d := (0 : Int)) (h1 := fun _ => rfl) hC
  obtain ⟨ad, rfl, hcell⟩ := hr.2.2 (by omega)
  have hw : ∀ j, j < 8 → W.cell? ⟨ba, 40 + j, none⟩ = some (.int .u8 (rdOf (0 : Int) xs ((40 + j : Nat) : Int))) ∧ W.frozen? ⟨ba, 40 + j, none⟩ = false := fun j hj => by
    have hR' := hR
    rw [← hx] at hR'
    have h := Kd.R_cell (enc := Value.int .u8) (h1 := fun _ => rfl) (0 : Int) hR' ((40 + j : Nat) : Int) (by omega) (by omega)
    rwa [Int.toNat_natCast] at h
  have h := run_copy_cells (P := Try.prog) W 39 39 3 5 ba 40 8 (c - 40) ad 8 c2 (ys.map (Value.int .u8)) Try.underlying39 (by kernel_rfl) (by rw [List.length_map, h8]; rfl)
    (fun j v hv => by
      have hj : j < ys.length := by
        rcases Nat.lt_or_ge j ys.length with h | h
        · exact h
        · rw [List.getElem?_eq_none (by simpa using h)] at hv; cases hv
      rw [hcell j (by omega), ← hv]
      simp [List.getD_eq_getElem?_getD, hj])
    (fun j hj => by rw [(hw j (by rw [List.length_map, h8] at hj; exact hj)).1]; rfl) (fun j hj => (hw j (by rw [List.length_map, h8] at hj; exact hj)).2)
    (fun v hv => by obtain ⟨q, _, rfl⟩ := List.mem_map.1 hv; rfl)
  rw [List.length_map, h8] at h
  exact h
theorem copy_step {ops : Array Oper} {o : Oper} {a : Act} {Q : Exit → Act → World → Prop} {Kc : Act → World → Prop} {W w' : World} {v u v' : Value} (hw : Region.wanted o (yielded ops a.tmps) = true) (s x : Operand) (ho : o.op = .call { callee := .builtin .copy, args := #[s, x], argTypes := #[39, 39] }) (hty : o.type = 3)
    (hs : a.eval s = v) (hx : a.eval x = u) (hr : (Builtin.copy_ #[39, 39] 3 #[v, u]).run Try.prog W = .ok v' w') (h : Kc (a.put o.dst v') w') :
    if Region.wanted o (yielded ops a.tmps) = true then Oper.wp Try.prog o a W Kc Q else Kc (a.put o.dst undef) W := by
  rw [if_pos hw]
  unfold Oper.wp execOp
  simp only [ho, hty, resolve, invoke, builtin, Sem.run_bind, Sem.run_pure, Result.andThen_ok, List.map_toArray, List.map_cons, List.map_nil, hs, hx, hr]
  exact h
theorem load53 {W : World} {g : Nat} {cs : Array Value} (h : W.heap[g]? = some (.cells cs 53 (0, 0))) (hz : cs.size = 22) : (Instr.loadAt 53 (.pointer (some ⟨g, 0, none⟩))).run Try.prog W = .ok (.agg cs) W := by
  have q := run_loadAt_mid (P := Try.prog) W g 0 53 cs.toList _ (fun j v hv => by rw [blk_cell h (0 + j), Nat.zero_add]; simpa using hv) Try.underlying53 rfl (by rw [show cs.toList.length = 22 by simpa using hz]; kernel_rfl)
  simpa using q
theorem question_is : horologetop_question.f = some (qL 0 0 9) := by
  have e : (((List.replicate 48 0 : List Int).set (0 : Int).toNat 35).set (47 : Int).toNat 9) = qL 0 0 9 := by decide
  unfold horologetop_question.f
  rw [if_pos (by decide)]
  simp only [Option.bind_some]
  rw [if_pos (by decide), if_pos (by decide), e]
theorem question_c (w : World) : Calls Try.prog 11 #[] w fun e w' => ∃ ba c, e = .returned (.slice (some ⟨ba, 0, none⟩) 48 c) ∧ Kd.R (Kd.int .u8) 5 w' w.heap.size (fun _ => True) (.slice (some ⟨ba, 0, none⟩) 48 c) (qL 0 0 9) ∧ 48 ≤ c ∧ Below w.heap.size w w' := by
  refine (horologetop_question.calls (qL 0 0 9) w question_is).mono ?_
  rintro e w' ⟨v, rfl, hr, hb⟩
  obtain ⟨ba, c, rfl, _⟩ := Kd.R_form hr (by rw [qL_len]; omega)
  have h := (Kd.R_reads' hr).2.1
  rw [qL_len] at hr h ⊢
  exact ⟨ba, c, rfl, hr, h, hb⟩
theorem rowC {W : World} {ba c base : Nat} {l : List Int} (hl : l.length = 48) (h : Kd.R (Kd.int .u8) 5 W base (fun _ => True) (.slice (some ⟨ba, 0, none⟩) 48 c) l) : Kd.C (Kd.int .u8) W (some ⟨ba, 0, none⟩) l.length l := (Kd.R_reads' h).2.2
theorem ask_q (w : World) (ba c : Nat) (p a b : Int) (ha : B32 a) (hb : B32 b) (hC : Kd.C (Kd.int .u8) w (some ⟨ba, 0, none⟩) (qL p a b).length (qL p a b)) (hc : 48 ≤ c) (W : World) (hW : Below w.heap.size w W) :
    Calls Try.prog 44 #[.slice (some ⟨ba, 0, none⟩) 48 c] W fun e w' => e = .returned (.tuple #[.agg (qH p a b).cs, .nilIface]) ∧ Below W.heap.size W w' :=
  ask_c W ba c (qH p a b) hc rfl rfl (fun W' hW' => q_parse w ba c p a b ha hb hC hc W' (below_step hW hW'))
theorem reply_q (w : World) (g ba c : Nat) (p a b came goes : Int) (ha : B32 a) (hb : B32 b) (hst : w.heap[g]? = some (.cells S18 82 (0, 0))) (hC : Kd.C (Kd.int .u8) w (some ⟨ba, 0, none⟩) (qL p a b).length (qL p a b)) (hc : 48 ≤ c) (h1 : 0 ≤ came) (h2 : came ≤ goes) (h3 : goes < 18446744073709551616) :
    Calls Try.prog 14 #[.pointer (some ⟨g, 0, none⟩), .slice (some ⟨ba, 0, none⟩) 48 c, .int .u64 came, .int .u64 goes] w fun e w' => ∃ v, e = .returned (.tuple #[v, .nilIface]) ∧ Kd.R (Kd.int .u8) 5 w' w.heap.size (fun _ => True) v (aL p a b (SA came) (SB came) (SA goes) (SB goes)) ∧ Below w.heap.size w w' := by
  obtain ⟨n1, k1⟩ := stamp_is came ⟨h1, by omega⟩
  obtain ⟨n2, k2⟩ := stamp_is goes ⟨by omega, h3⟩
  obtain ⟨n3, k3⟩ := secs_is goes ⟨by omega, h3⟩
  exact reply_c w g ba c (qH p a b) (n1 + n2 + n3) came goes (SA came) (SB came) (SA goes) (SB goes) _ _ hst
    (fun W hW => begin_c W g ba c (qH p a b) (n1 + n2 + n3) came goes _ _ _ _ (blk_below hst hW) rfl rfl h2 (fun W' hW' => ask_q w ba c p a b ha hb hC hc W' (below_step hW hW')) (k1 _ (by omega)) (k2 _ (by omega))) (k3 _ (by omega))
    (fun W _ => a_put p a b (SA came) (SB came) (SA goes) (SB goes) ha hb (SA_32 _) (SB_32 _) (SA_32 _) (SB_32 _) W)
end Go.Proofs.Ytlaaofbmnaekoaa.MWholeClient
