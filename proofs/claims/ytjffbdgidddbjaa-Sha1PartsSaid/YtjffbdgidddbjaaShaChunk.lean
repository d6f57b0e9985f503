/-
  SHA-1: blocks of a text (slices.Chunk), one behind the other, and the state behind them.
-/
import Derived.Test.YtjffbdgidddbjaaShaFrom
namespace Go.Proofs.Ytjffbdgidddbjaa
set_option linter.unusedVariables false
set_option linter.unusedSimpArgs false
set_option linter.unnecessarySimpa false
open Go.RowKit Go.Proofs.YtjffbdgidddbjaaW.PrintWords Go.Proofs.YtjffbdgidddbjaaW.PrintLast Go.Proofs.YtjffbdgidddbjaaW.PrintMore Go.Proofs.Ytjffbdgidddbjaa.MSha1Sums Go.Proofs.Ytjffbdgidddbjaa.Base
attribute [local go_sem] max2_int min2_int max_two min_two max_three min_three max_four min_four   -- for this text's walks alone
section
attribute [local go_sem] Oper.semAt_some
theorem chunk64.hmx : Try.prog.follows .mixedOrders = true := by kernel_rfl
theorem chunk64.drewN_grownBy (w : World) (m : Nat) : w.grownBy (w.drewN m) none := ⟨rfl, rfl, rfl, Nat.le_refl _, fun _ _ _ => rfl⟩
open chunk64 in
set_option maxRecDepth 100000 in
set_option maxHeartbeats 4000000 in
theorem chunk64.chunk1 (n l Bs Bn q : Nat) (hn : 1 ≤ n) (A : Option Addr) (ad : Addr) (hA : 0 < q → A = some ad) (c : Nat) (hc : q * 64 ≤ c) (hb : q * 64 ≤ 140737488355328)
    (J Jx : List (Fin q) → World → Prop) (B : Nat) (hJ : AbidesFrom B J)
    (hY : ∀ pre x W, J pre W → pre.length < q → YieldAt Fence.wide (n - 1) Try.prog l #[.slice (some (ad.add (x.val * 64))) 64 64] W fun e W' =>
      (e = .returned (.bool true) ∧ J (pre ++ [x]) W' ∧ ((∀ v, Boxed W Bs 22 v → Boxed W' Bs 22 v) ∧ (∀ v, Boxed W Bn 3 v → Boxed W' Bn 3 v))) ∨ (e = .returned (.bool false) ∧ Jx (pre ++ [x]) W'))
    (W : World) (hBs : Boxed W Bs 22 (.slice A (q * 64) c)) (hBn : Boxed W Bn 3 (.int .i64 64)) (h0 : J [] W) :
    CallsIn Fence.wide n Try.prog 33 #[.func (.yield l) #[] #[], .pointer (some ⟨Bs, 0, none⟩), .pointer (some ⟨Bn, 0, none⟩)] W fun e W' => (∃ v, e = .returned v) ∧
      ((∃ ys : List (Fin q), ys.map Fin.val = List.range q ∧ J ys W') ∨ (∃ pre, True ∧ Jx pre W')) := by
  refine callsIn_of_wp Try.func33 rfl trivial ?_ rfl
  simp only [Try.ntmps33, List.size_toArray, List.length_cons, List.length_nil, Nat.reduceAdd, Nat.reduceSub, Array.replicate_succ, Array.replicate_zero, List.push_toArray, List.append_toArray, List.nil_append, List.cons_append]
  gi_wp2
  gi_loopw [4] (fun i wr => ∃ (pre : List (Fin q)) (k : Nat), pre.map Fin.val = List.range k ∧ k ≤ q ∧ i = .int .i64 ((k * 64 : Nat) : Int) ∧ J pre wr ∧ Boxed wr Bs 22 (.slice A (q * 64) c) ∧ Boxed wr Bn 3 (.int .i64 64))
    (fun i _ => q * 64 - (intOf i).toNat)
  case atStart => exact ⟨[], 0, rfl, Nat.zero_le _, rfl, h0, hBs, hBn⟩
  case round =>
    obtain ⟨pre, k, hp, hk, rfl, hJs, hbs, hbn⟩ := hrel
    have hcs := hbs.cell
    have hcn := hbn.cell
    have hpl : pre.length = k := by have := congrArg List.length hp; simpa using this
    by_cases hlt : k < q
    · have hA' := hA (by omega)
      subst hA'
      have d1 : decide (((k * 64 : Nat) : Int) < ((q * 64 : Nat) : Int)) = true := by simp; omega
      have q1 : ((k * 64 : Nat) : Int) ≤ ((q * 64 : Nat) : Int) := by omega
      have q2 : k * 64 ≤ q * 64 := by omega
      gi_wp2
      refine wpIn_wide.2 ?_
      go_quiet (fail)
      rename_i nq
      obtain ⟨fn, tmps, assign, body, hy, hR⟩ := hY pre ⟨k, hlt⟩ (wr.drewN nq) (hJ _ _ _ none hJs (drewN_grownBy wr nq) (fun r e => by cases e)) (by rw [hpl]; exact hlt)
      dsimp only at hy
      have hcs1 : (wr.drewN nq).cell? ⟨Bs, 0, none⟩ = _ := hcs
      have hcn1 : (wr.drewN nq).cell? ⟨Bn, 0, none⟩ = _ := hcn
      have q3 : ((k * 64 : Nat) : Int) + 64 ≤ ((q * 64 : Nat) : Int) := by omega
      have q4 : ((k * 64 : Nat) : Int) + 64 ≤ (c : Int) := by omega
      have q5 : wrap64 (((k * 64 : Nat) : Int) + 64) = ((k * 64 + 64 : Nat) : Int) := by unfold wrap64; omega
      gi_wp2
      refine hR.mono ?_
      rintro e W3 (⟨rfl, hJ3, hk3, hk4⟩ | ⟨rfl, hJx3⟩)
      · have hbs3 := hk3 _ hbs
        have hbn3 := hk4 _ hbn
        have hcs3 := hbs3.cell
        have hcn3 := hbn3.cell
        gi_wp2
        go_roundw
        case rel => exact ⟨pre ++ [⟨k, hlt⟩], k + 1, by simp [hp, List.range_succ], by omega, by simp; omega, hJ3, hbs3, hbn3⟩
        case measure => simp [intOf]; omega
      · gi_wp2
        refine bodyPost_ret (results_none rfl _ _ _) rfl ?_
        exact ⟨⟨_, rfl⟩, .inr ⟨_, trivial, hJx3⟩⟩
    · obtain rfl : k = q := by omega
      have d1 : decide (((k * 64 : Nat) : Int) < ((k * 64 : Nat) : Int)) = false := by simp
      gi_wp2
      go_end0
      exact ⟨⟨_, rfl⟩, .inl ⟨_, hp, hJs⟩⟩

set_option maxHeartbeats 4000000 in
theorem chunk64.chunk0 (A : Option Addr) (m c : Nat) (w : World) : Calls Try.prog 21 #[.slice A m c, .int .i64 64] w fun e w' =>
    e = .returned (.func (.func 33) #[] #[.pointer (some ⟨w.heap.size, 0, none⟩), .pointer (some ⟨w.heap.size + 1, 0, none⟩)]) ∧ ∃ m_, w' = (((w.alloc (.cells #[.slice A m c] 22)).alloc (.cells #[.int .i64 64] 3))).drewN m_ := by
  go_enter Try.func21, Try.ntmps21
  go_wp2
  go_ret
  exact ⟨rfl, 0, rfl⟩
def chunk64.keep (Bs Bn : Nat) (W W' : World) : Prop := (∀ v, Boxed W Bs 22 v → Boxed W' Bs 22 v) ∧ (∀ v, Boxed W Bn 3 v → Boxed W' Bn 3 v)
theorem chunk64.keep_t {Bs Bn : Nat} {A B C : World} (h : chunk64.keep Bs Bn A B) (k : chunk64.keep Bs Bn B C) : chunk64.keep Bs Bn A C := ⟨fun v hv => k.1 v (h.1 v hv), fun v hv => k.2 v (h.2 v hv)⟩
theorem chunk64.keep_b {Bs Bn : Nat} (W : World) (l : Nat) (o o' : Obj) (hl : W.heap[l]? = some o) (ho : o.isCells = false) : chunk64.keep Bs Bn W (W.putObj l o') := by
  constructor <;>
  · intro v hv
    refine hv.kept (grownBy_putObj' W l o') (fun e => ?_)
    cases e
    rw [show W.heap[_]? = _ from hv] at hl
    cases hl
    cases ho
theorem chunk64.stops (n Bs Bn q : Nat) (hn : 1 ≤ n) (A : Option Addr) (ad : Addr) (hA : 0 < q → A = some ad) (c : Nat) (hc : q * 64 ≤ c) (hb : q * 64 ≤ 140737488355328) (w : World) (hs : Bs < w.heap.size) (hn' : Bn < w.heap.size) (hBs : Boxed w Bs 22 (.slice A (q * 64) c)) (hBn : Boxed w Bn 3 (.int .i64 64)) :
    SeqStopsK Fence.wide n Try.prog 33 #[.pointer (some ⟨Bs, 0, none⟩), .pointer (some ⟨Bn, 0, none⟩)] (fun x : Fin q => #[.slice (some (ad.add (x.val * 64))) 64 64]) (chunk64.keep Bs Bn) (fun ys => ys.map Fin.val = List.range q) (fun _ => True) q w :=
  fun l J Jx W hW hJ _ hY h0 => chunk64.chunk1 n l Bs Bn q hn A ad hA c hc hb J Jx _ hJ hY W ((hW.block Bs hs).trans hBs) ((hW.block Bn hn').trans hBn) h0
theorem chunk64.cut (w : World) (ad : Addr) (l0 : List Int) (m : Nat) (h : Kd.C (Kd.int .u8) w (some ad) l0.length l0) (hm : m + 64 ≤ l0.length) : Kd.C (Kd.int .u8) w (some (ad.add m)) 64 ((l0.drop m).take 64) := by
  have hl : ((l0.drop m).take 64).length = 64 := by simp; omega
  refine ⟨hl, by decide, fun _ => ⟨_, rfl, fun j p hj => ?_⟩⟩
  obtain ⟨ad', e, hc⟩ := h.2.2 (by omega)
  cases e
  have hj1 : j < 64 := by have := (List.getElem?_eq_some_iff.1 hj).1; omega
  rw [List.getElem?_take_of_lt hj1, List.getElem?_drop] at hj
  obtain ⟨c1, h1, h2, h3⟩ := hc (m + j) p hj
  refine ⟨c1, h1, h2, fun i u hu => ?_⟩
  have := h3 i u hu
  rw [show (ad.add m).add (j * (Kd.int .u8).sz + i) = ad.add ((m + j) * (Kd.int .u8).sz + i) by
    have hz : (Kd.int .u8).sz = 1 := rfl
    rw [hz, Addr.add_add]; congr 1; omega]
  exact this
theorem chunk64.enters (args : Array Value) (w : World) : (callFunc 33 args).run Try.prog w = .ok (.enter 33 args) w := by
  have h : (Try.f33.name == "runtime.NumGoroutine") = false := by kernel_rfl
  have h1 : Try.f33.name ≠ "runtime.NumGoroutine" := by simpa using h
  simp [callFunc, Try.func33, h1, show Try.f33.body = some _ from rfl, mark]
end

/-- The state behind the first blocks. -/
def FD (s : St) (l : List Int) : Nat → St
  | 0 => s
  | j + 1 => STEP (FD s l j) ((l.drop (j * 64)).take 64)
theorem own_cells {β : Type} (B g : Nat) (t : TypeId) (f : β → Array Value) : OwnFrom B (fun s W => W.heap[g]? = some (Obj.cells (f s) t (0, 0))) := fun s X Y row hs hg hr =>
  (hg.block g (blk_lt hs) (fun e => by
    obtain ⟨_, o, ho, hc⟩ := hr g e.symm
    rw [hs] at ho
    cases ho
    cases hc)).trans hs
theorem own_obj {β : Type} (B g : Nat) (o : Obj) (h : g < B) : OwnFrom B (fun (_ : β) W => W.heap[g]? = some o) := fun s X Y row hs hg hr =>
  (hg.block g (blk_lt hs) (fun e => by
    obtain ⟨hB, _⟩ := hr g e.symm
    omega)).trans hs
section
variable {P : Program} {F : Fence} {n : Nat} {o : Oper} {a : Act} {w : World} {K : Act → World → Prop} {Q : Exit → Act → World → Prop}
theorem load_row_in (ty : TypeId) (x : Operand) (ho : o.op = .load ty x) (g : Nat) (hx : a.eval x = .pointer (some ⟨g, 0, none⟩)) (t : TypeId) (cs : Array Value) (fr : Nat × Nat) (d : TypeDesc) (hg : w.heap[g]? = some (.cells cs t fr))
    (hu : P.underlying ty = some d) (hd : (match d with | .struct _ | .array _ _ => true | _ => false) = true) (hi : (P.info? ty).map (·.size) = some cs.size) (h : K (a.put o.dst (.agg cs)) w) : Oper.wpIn F n P o a w K Q := by
  unfold Oper.wpIn
  refine ⟨?_, ?_⟩
  · simp [Oper.about, ho]
  · rw [Oper.semAt_plain F _ _ (by rw [ho]; intro c hc'; cases hc')]
    simp only [execOp, ho, hx, Instr.loadAt, Instr.sureAddr, Sem.run_bind, Sem.run_pure, Result.andThen_ok, run_loadVar_row w g t ty cs fr d hg hu hd hi]
    exact h
theorem load_C_in (kk : IntKind) (l : List Int) (ad : Addr) (ty e : TypeId) (x : Operand) (ho : o.op = .load ty x)
    (hx : a.eval x = .pointer (some ad)) (hC : Kd.C (Kd.int kk) w (some ad) l.length l) (hu : P.underlying ty = some (.array l.length e)) (hi : (P.info? ty).map (·.size) = some l.length)
    (h : K (a.put o.dst (.agg (l.map (Value.int kk)).toArray)) w) : Oper.wpIn F n P o a w K Q := by
  unfold Oper.wpIn
  refine ⟨?_, ?_⟩
  · simp [Oper.about, ho]
  · rw [Oper.semAt_plain F _ _ (by rw [ho]; intro c hc'; cases hc')]
    simp only [execOp, ho, hx, Instr.loadAt, Instr.sureAddr, Sem.run_bind, Sem.run_pure, Result.andThen_ok, run_load_C w kk l ad ty e hC hu hi]
    exact h
theorem store_row_in (ty : TypeId) (x y : Operand) (ho : o.op = .store ty x y) (g : Nat) (cells : Array Value) (hx : a.eval x = .pointer (some ⟨g, 0, none⟩)) (hy : a.eval y = .agg cells)
    (t : TypeId) (old : Array Value) (hg : w.heap[g]? = some (.cells old t (0, 0))) (hi : (P.info? ty).map (·.size) = some cells.size)
    (hold : old.size = cells.size) (h1 : cells.all (·.oneCell') = true) (h : K (a.put o.dst undef) (w.setRow g cells)) : Oper.wpIn F n P o a w K Q := by
  unfold Oper.wpIn
  refine ⟨?_, ?_⟩
  · simp [Oper.about, ho]
  · rw [Oper.semAt_plain F _ _ (by rw [ho]; intro c hc'; cases hc')]
    simp only [execOp, ho, hx, hy, Instr.storeAt, Instr.sureAddr, Sem.run_bind, Sem.run_pure, Result.andThen_ok, run_storeVar_row w g t ty old cells hg hi hold h1]
    exact h
end
end Go.Proofs.Ytjffbdgidddbjaa
