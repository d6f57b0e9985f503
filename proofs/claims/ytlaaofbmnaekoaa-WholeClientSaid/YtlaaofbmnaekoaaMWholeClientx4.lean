-- This text was written by a program of this session (a changed scratch copy of a tool of the kit; NOTES.md tells the changes).
import Derived.Test.YtlaaofbmnaekoaaMWholeClientx0
import Derived.Test.YtlaaofbmnaekoaaMWholeClientx3
namespace Go.Proofs.Ytlaaofbmnaekoaa.MWholeClient
open Go.RowKit Go.Proofs.YtlaaofbmnaekoaaW.PrintWords Go.Proofs.YtlaaofbmnaekoaaW.PrintLast Go.Proofs.YtlaaofbmnaekoaaW.PrintMore
attribute [local go_sem] max2_int min2_int max_two min_two max_three min_three max_four min_four   -- for this text's walks alone
set_option linter.unusedVariables false
set_option linter.unusedSimpArgs false

/-! ### octets_List_uint32: function 69 -/
section
attribute [local go_sem] Oper.semAt_some
theorem octets_List_uint32.hmx : Try.prog.follows .mixedOrders = true := by kernel_rfl
theorem octets_List_uint32.drewN_grownBy (w : World) (m : Nat) : w.grownBy (w.drewN m) none := ⟨rfl, rfl, rfl, Nat.le_refl _, fun _ _ _ => rfl⟩
open octets_List_uint32 in
set_option maxRecDepth 100000 in
set_option maxHeartbeats 4000000 in
theorem octets_List_uint32.chunk1 (n l Bs Bn q : Nat) (hn : 1 ≤ n) (A : Option Addr) (ad : Addr) (hA : 0 < q → A = some ad) (c : Nat) (hc : q * 4 ≤ c) (hb : q * 4 ≤ 140737488355328)
    (J Jx : List (Fin q) → World → Prop) (B : Nat) (hJ : AbidesFrom B J)
    (hY : ∀ pre x W, J pre W → pre.length < q → YieldAt Fence.wide (n - 1) Try.prog l #[.slice (some (ad.add (x.val * 4))) 4 4] W fun e W' =>
      (e = .returned (.bool true) ∧ J (pre ++ [x]) W' ∧ ((∀ v, Boxed W Bs 39 v → Boxed W' Bs 39 v) ∧ (∀ v, Boxed W Bn 3 v → Boxed W' Bn 3 v))) ∨ (e = .returned (.bool false) ∧ Jx (pre ++ [x]) W'))
    (W : World) (hBs : Boxed W Bs 39 (.slice A (q * 4) c)) (hBn : Boxed W Bn 3 (.int .i64 4)) (h0 : J [] W) :
    CallsIn Fence.wide n Try.prog 81 #[.func (.yield l) #[] #[], .pointer (some ⟨Bs, 0, none⟩), .pointer (some ⟨Bn, 0, none⟩)] W fun e W' => (∃ v, e = .returned v) ∧
      ((∃ ys : List (Fin q), ys.map Fin.val = List.range q ∧ J ys W') ∨ (∃ pre, True ∧ Jx pre W')) := by
  refine callsIn_of_wp Try.func81 rfl trivial ?_ rfl
  simp only [Try.ntmps81, List.size_toArray, List.length_cons, List.length_nil, Nat.reduceAdd, Nat.reduceSub, Array.replicate_succ, Array.replicate_zero, List.push_toArray, List.append_toArray, List.nil_append, List.cons_append]
  gi_wp2
  gi_loopw [4] (fun i wr => ∃ (pre : List (Fin q)) (k : Nat), pre.map Fin.val = List.range k ∧ k ≤ q ∧ i = .int .i64 ((k * 4 : Nat) : Int) ∧ J pre wr ∧ Boxed wr Bs 39 (.slice A (q * 4) c) ∧ Boxed wr Bn 3 (.int .i64 4))
    (fun i _ => q * 4 - (intOf i).toNat)
  case atStart => exact ⟨[], 0, rfl, Nat.zero_le _, rfl, h0, hBs, hBn⟩
  case round =>
    obtain ⟨pre, k, hp, hk, rfl, hJs, hbs, hbn⟩ := hrel
    have hcs := hbs.cell
    have hcn := hbn.cell
    have hpl : pre.length = k := by have := congrArg List.length hp; simpa using this
    by_cases hlt : k < q
    · have hA' := hA (by omega)
      subst hA'
      have d1 : decide (((k * 4 : Nat) : Int) < ((q * 4 : Nat) : Int)) = true := by simp; omega
      have q1 : ((k * 4 : Nat) : Int) ≤ ((q * 4 : Nat) : Int) := by omega
      have q2 : k * 4 ≤ q * 4 := by omega
      gi_wp2
      refine wpIn_wide.2 ?_
      go_quiet (fail)
      rename_i nq
      obtain ⟨fn, tmps, assign, body, hy, hR⟩ := hY pre ⟨k, hlt⟩ (wr.drewN nq) (hJ _ _ _ none hJs (drewN_grownBy wr nq) (fun r e => by cases e)) (by rw [hpl]; exact hlt)
      dsimp only at hy
      have hcs1 : (wr.drewN nq).cell? ⟨Bs, 0, none⟩ = _ := hcs
      have hcn1 : (wr.drewN nq).cell? ⟨Bn, 0, none⟩ = _ := hcn
      have q3 : ((k * 4 : Nat) : Int) + 4 ≤ ((q * 4 : Nat) : Int) := by omega
      have q4 : ((k * 4 : Nat) : Int) + 4 ≤ (c : Int) := by omega
      have q5 : wrap64 (((k * 4 : Nat) : Int) + 4) = ((k * 4 + 4 : Nat) : Int) := by unfold wrap64; omega
      gi_wp2
      refine hR.mono ?_
      rintro e W3 (⟨rfl, hJ3, hk3, hk4⟩ | ⟨rfl, hJx3⟩)
      · have hbs3 := hk3 _ hbs
        have hbn3 := hk4 _ hbn
        have hcs3 := hbs3.cell
        have hcn3 := hbn3.cell
        gi_wp2
        go_roundw
        case rel => exact ⟨pre ++ [⟨k, hlt⟩], k + 1, by simp [hp, List.range_succ], by omega, by simp; omega, hJ3, hbs3, hbn3⟩
        case measure => simp [intOf]; omega
      · gi_wp2
        refine bodyPost_ret (results_none rfl _ _ _) rfl ?_
        exact ⟨⟨_, rfl⟩, .inr ⟨_, trivial, hJx3⟩⟩
    · obtain rfl : k = q := by omega
      have d1 : decide (((k * 4 : Nat) : Int) < ((k * 4 : Nat) : Int)) = false := by simp
      gi_wp2
      go_end0
      exact ⟨⟨_, rfl⟩, .inl ⟨_, hp, hJs⟩⟩

set_option maxHeartbeats 4000000 in
theorem octets_List_uint32.chunk0 (A : Option Addr) (m c : Nat) (w : World) : Calls Try.prog 77 #[.slice A m c, .int .i64 4] w fun e w' =>
    e = .returned (.func (.func 81) #[] #[.pointer (some ⟨w.heap.size, 0, none⟩), .pointer (some ⟨w.heap.size + 1, 0, none⟩)]) ∧ ∃ m_, w' = (((w.alloc (.cells #[.slice A m c] 39)).alloc (.cells #[.int .i64 4] 3))).drewN m_ := by
  go_enter Try.func77, Try.ntmps77
  go_wp2
  go_ret
  exact ⟨rfl, 0, rfl⟩
def octets_List_uint32.keep (Bs Bn : Nat) (W W' : World) : Prop := (∀ v, Boxed W Bs 39 v → Boxed W' Bs 39 v) ∧ (∀ v, Boxed W Bn 3 v → Boxed W' Bn 3 v)
theorem octets_List_uint32.keep_t {Bs Bn : Nat} {A B C : World} (h : octets_List_uint32.keep Bs Bn A B) (k : octets_List_uint32.keep Bs Bn B C) : octets_List_uint32.keep Bs Bn A C := ⟨fun v hv => k.1 v (h.1 v hv), fun v hv => k.2 v (h.2 v hv)⟩
theorem octets_List_uint32.keep_b {Bs Bn : Nat} (W : World) (l : Nat) (o o' : Obj) (hl : W.heap[l]? = some o) (ho : o.isCells = false) : octets_List_uint32.keep Bs Bn W (W.putObj l o') := by
  constructor <;>
  · intro v hv
    refine hv.kept (grownBy_putObj' W l o') (fun e => ?_)
    cases e
    rw [show W.heap[_]? = _ from hv] at hl
    cases hl
    cases ho
theorem octets_List_uint32.stops (n Bs Bn q : Nat) (hn : 1 ≤ n) (A : Option Addr) (ad : Addr) (hA : 0 < q → A = some ad) (c : Nat) (hc : q * 4 ≤ c) (hb : q * 4 ≤ 140737488355328) (w : World) (hs : Bs < w.heap.size) (hn' : Bn < w.heap.size) (hBs : Boxed w Bs 39 (.slice A (q * 4) c)) (hBn : Boxed w Bn 3 (.int .i64 4)) :
    SeqStopsK Fence.wide n Try.prog 81 #[.pointer (some ⟨Bs, 0, none⟩), .pointer (some ⟨Bn, 0, none⟩)] (fun x : Fin q => #[.slice (some (ad.add (x.val * 4))) 4 4]) (octets_List_uint32.keep Bs Bn) (fun ys => ys.map Fin.val = List.range q) (fun _ => True) q w :=
  fun l J Jx W hW hJ _ hY h0 => octets_List_uint32.chunk1 n l Bs Bn q hn A ad hA c hc hb J Jx _ hJ hY W ((hW.block Bs hs).trans hBs) ((hW.block Bn hn').trans hBn) h0
theorem octets_List_uint32.cut (w : World) (ad : Addr) (l0 : List Int) (m : Nat) (h : Kd.C (Kd.int .u8) w (some ad) l0.length l0) (hm : m + 4 ≤ l0.length) : Kd.C (Kd.int .u8) w (some (ad.add m)) 4 ((l0.drop m).take 4) := by
  have hl : ((l0.drop m).take 4).length = 4 := by simp; omega
  refine ⟨hl, by decide, fun _ => ⟨_, rfl, fun j p hj => ?_⟩⟩
  obtain ⟨ad', e, hc⟩ := h.2.2 (by omega)
  cases e
  have hj1 : j < 4 := by have := (List.getElem?_eq_some_iff.1 hj).1; omega
  rw [List.getElem?_take_of_lt hj1, List.getElem?_drop] at hj
  obtain ⟨c1, h1, h2, h3⟩ := hc (m + j) p hj
  refine ⟨c1, h1, h2, fun i u hu => ?_⟩
  have := h3 i u hu
  rw [show (ad.add m).add (j * (Kd.int .u8).sz + i) = ad.add ((m + j) * (Kd.int .u8).sz + i) by
    have hz : (Kd.int .u8).sz = 1 := rfl
    rw [hz, Addr.add_add]; congr 1; omega]
  exact this

def octets_List_uint32.go (k : Nat) (l : List Int) : Nat → Option (List Int)
  | 0 => some []
  | n + 1 => (octets_List_uint32.go k l n).bind fun xs => (octets_word_uint32.f k ((l.drop (n * 4)).take 4)).bind fun x => some (xs ++ [x])
def octets_List_uint32.f (k : Nat) (l0 : List Int) (a1 a2 : Int) : Option (List Int × Option Int) :=
  (octets_Size_uint32.f k).bind fun z => if z = 4 ∧ l0.length < 35184372088832 then (
    if a1 < 0 then some ([], some 1) else if (l0.length : Int) < a1 then some ([], some 1) else if a2 < 0 then some ([], some 1)
    else if ((l0.length : Int) - a1) / 4 < a2 then some ([], some 4)
    else (octets_List_uint32.go k (l0.drop a1.toNat) a2.toNat).bind fun xs => some (xs, none)) else none
theorem octets_List_uint32.go_mono (k : Nat) (l : List Int) : ∀ n, LeO (octets_List_uint32.go k l n) (octets_List_uint32.go (k + 1) l n)
  | 0 => fun _ h => h
  | n + 1 => by
    intro r h
    simp only [octets_List_uint32.go] at h ⊢
    cases h1 : octets_List_uint32.go k l n with
    | none => rw [h1] at h; cases h
    | some xs =>
      rw [h1] at h
      rw [octets_List_uint32.go_mono k l n _ h1]
      simp only [Option.bind_some] at h ⊢
      cases h2 : octets_word_uint32.f k ((l.drop (n * 4)).take 4) with
      | none => rw [h2] at h; cases h
      | some x => rw [h2] at h; rw [octets_word_uint32.mono _ _ _ h2]; exact h
theorem octets_List_uint32.mono : ∀ a0 a1 a2 k, LeO (octets_List_uint32.f k a0 a1 a2) (octets_List_uint32.f (k + 1) a0 a1 a2) := by
  intro a0 a1 a2 k r h
  unfold octets_List_uint32.f at h ⊢
  cases h1 : octets_Size_uint32.f k with
  | none => rw [h1] at h; cases h
  | some z =>
    rw [h1] at h
    rw [octets_Size_uint32.mono _ _ h1]
    simp only [Option.bind_some] at h ⊢
    split at h
    · rename_i hz
      rw [if_pos hz]
      repeat' (split at h)
      · rw [if_pos (by assumption)]; exact h
      · rw [if_neg (by assumption), if_pos (by assumption)]; exact h
      · rw [if_neg (by assumption), if_neg (by assumption), if_pos (by assumption)]; exact h
      · rw [if_neg (by assumption), if_neg (by assumption), if_neg (by assumption), if_pos (by assumption)]; exact h
      · rw [if_neg (by assumption), if_neg (by assumption), if_neg (by assumption), if_neg (by assumption)]
        cases h2 : octets_List_uint32.go k (a0.drop a1.toNat) a2.toNat with
        | none => rw [h2] at h; cases h
        | some xs => rw [h2] at h; rw [octets_List_uint32.go_mono _ _ _ _ h2]; exact h
    · cases h
theorem octets_List_uint32.go_some (k : Nat) (l : List Int) : ∀ n xs, octets_List_uint32.go k l n = some xs → ∃ val : Nat → Int, xs = (List.range n).map val ∧ ∀ j, j < n → octets_word_uint32.f k ((l.drop (j * 4)).take 4) = some (val j)
  | 0, xs, h => ⟨fun _ => 0, by simpa [octets_List_uint32.go] using h.symm, fun j hj => by omega⟩
  | n + 1, xs, h => by
    simp only [octets_List_uint32.go] at h
    cases h1 : octets_List_uint32.go k l n with
    | none => rw [h1] at h; cases h
    | some ys =>
      rw [h1] at h
      simp only [Option.bind_some] at h
      cases h2 : octets_word_uint32.f k ((l.drop (n * 4)).take 4) with
      | none => rw [h2] at h; cases h
      | some x =>
        rw [h2] at h
        obtain ⟨val, rfl, hv⟩ := octets_List_uint32.go_some k l n ys h1
        refine ⟨fun j => if j < n then val j else x, ?_, fun j hj => ?_⟩
        · rw [← Option.some.inj h, List.range_succ, List.map_append]
          congr 1
          · exact List.map_congr_left fun j hj => by rw [if_pos (List.mem_range.1 hj)]
          · simp
        · by_cases hjn : j < n
          · rw [hv j hjn]; simp [hjn]
          · obtain rfl : j = n := by omega
            rw [h2]; simp
theorem octets_List_uint32.enters (args : Array Value) (w : World) : (callFunc 81 args).run Try.prog w = .ok (.enter 81 args) w := by
  have h : (Try.f81.name == "runtime.NumGoroutine") = false := by kernel_rfl
  have h1 : Try.f81.name ≠ "runtime.NumGoroutine" := by simpa using h
  simp [callFunc, Try.func81, h1, show Try.f81.body = some _ from rfl, mark]
theorem octets_List_uint32.reps (k : IntKind) (xs : List Int) : Reps (fun x cs => cs = [Value.int k x]) 1 xs (xs.map (Value.int k)) := by
  refine ⟨by simp, fun j p hj => ?_⟩
  have hj1 := (List.getElem?_eq_some_iff.1 hj).1
  apply List.ext_getElem?
  intro i
  cases i with
  | zero => simp [List.getElem?_take, List.getElem?_drop, hj]
  | succ i => simp [List.getElem?_take]
theorem octets_List_uint32.info : (Try.prog.info? 23).map (fun i => (i.zero, i.size, i.bytes)) = some (some (.int .u32 0), 1, 4) := by kernel_rfl
theorem octets_List_uint32.append_op {F : Fence} {n : Nat} {P : Program} (w : World) {o : Oper} {a : Act} {Q : Exit → Act → World → Prop} {K : Act → World → Prop}
    (s x : Operand) (t : TypeId) (hop : o.op = Op.call { callee := Callee.builtin Builtin.append, args := #[s, x], argTypes := #[t, t] })
    (base : Nat) (e : TypeId) (i : TypeInfo) (z : Value) (size bytes : Nat) (h1 : P.underlying t = some (.slice e)) (h2 : P.info? e = some i) (h3 : i.zero = some z) (h4 : i.size = size) (h5 : i.bytes = bytes) (h6 : z.cells.size = size) (h7 : 0 < size)
    (v : Value) (k : Nat) (xs : List Value) (hs : a.eval s = v) (hown : w.ownsRow base e size v k xs) (ad : Addr) (m c : Nat) (news : List Value) (hx : a.eval x = .slice (some ad) m c) (hn : news.length = m * size)
    (hc : ∀ j u, news[j]? = some u → w.cell? (ad.add j) = some u) (h1c : ∀ u ∈ news, u.oneCell' = true) (b1 : k + m ≤ maxLen) (b2 : (k + m) * bytes ≤ 140737488355328) (b3 : base ≤ w.heap.size)
    (hK : ∀ v' w', w'.ownsRow base e size v' (k + m) (xs ++ news) → w.grownBy w' v.ownBlock → K (a.put o.dst v') w') :
    Oper.wpIn F n P o a w K Q := by
  obtain ⟨v', w', hrun, r1, r2, r3⟩ := run_append_own (P := P) w base t o.type e i z size bytes h1 h2 h3 h4 h5 h6 h7 v k xs hown ad m c news hn hc h1c b1 b2 b3
  unfold Oper.wpIn
  refine ⟨?_, ?_⟩
  · simp [Oper.about, hop, resolve, Target.leads, Sem.run_pure]
  · rw [Oper.semAt_plain F _ _ (by rw [hop]; intro c hc'; cases hc')]
    simp [execOp, hop, resolve, invoke, builtin, hs, hx, hrun, Result.andThen]
    exact hK v' w' r1 r2
set_option maxHeartbeats 4000000 in
set_option maxRecDepth 100000 in
theorem octets_List_uint32.calls0 (k : Nat) (A0 : Option Addr) (c0 : Nat) (l0 : List Int) (a1 a2 : Int) (r : List Int × Option Int) (w : World) (hr0 : Kd.C (Kd.int .u8) w A0 l0.length l0) (hc0 : l0.length ≤ c0) (h : octets_List_uint32.f k l0 a1 a2 = some r) :
    Calls Try.prog 69 #[.slice A0 l0.length c0, .int .i64 a1, .int .i64 a2] w fun e w' => ∃ v0_ : Value, e = .returned (.tuple #[v0_, errW r.2]) ∧ Kd.R (Kd.int .u32) 23 w' w.heap.size (fun _ => True) v0_ r.1 ∧ Below w.heap.size w w' := by
  unfold octets_List_uint32.f at h
  cases hz : octets_Size_uint32.f k with
  | none => rw [hz] at h; cases h
  | some z =>
  rw [hz] at h
  simp only [Option.bind_some] at h
  by_cases hg : z = 4 ∧ l0.length < 35184372088832
  case neg => rw [if_neg hg] at h; cases h
  rw [if_pos hg] at h
  obtain ⟨rfl, hl⟩ := hg
  have HZ := Aside0.mk hz
  clear hz
  refine (callsIn_wide (n := 3)).1 ?_
  refine callsIn_of_wp_marks Try.func69 rfl trivial ?_ rfl
  simp only [Try.ntmps69, List.size_toArray, List.length_cons, List.length_nil, Nat.reduceAdd, Nat.reduceSub, Array.replicate_succ, Array.replicate_zero, List.push_toArray, List.append_toArray, List.nil_append, List.cons_append]
  refine wpIn_wide.2 ?_
  by_cases t1 : a1 < 0
  · rw [if_pos t1] at h
    obtain rfl := Option.some.inj h
    have d1 : decide (a1 < 0) = true := decide_eq_true t1
    go_wp2_with (go_at_call 40; refine (octets_Size_uint32.calls k _ _ HZ.out).mono ?_; rintro e wz ⟨rfl, ⟨m1, rfl⟩⟩)
    exact ⟨_, results_tmp2 rfl _ _ _, _, rfl, Kd.R_nil _ _ _ _ _, pw_below_drewN (Below.refl _ _) _⟩
  rw [if_neg t1] at h
  have d1 : decide (a1 < 0) = false := decide_eq_false t1
  by_cases t2 : (l0.length : Int) < a1
  · rw [if_pos t2] at h
    obtain rfl := Option.some.inj h
    have d2 : decide ((l0.length : Int) < a1) = true := decide_eq_true t2
    go_wp2_with (go_at_call 40; refine (octets_Size_uint32.calls k _ _ HZ.out).mono ?_; rintro e wz ⟨rfl, ⟨m1, rfl⟩⟩)
    exact ⟨_, results_tmp2 rfl _ _ _, _, rfl, Kd.R_nil _ _ _ _ _, pw_below_drewN (Below.refl _ _) _⟩
  rw [if_neg t2] at h
  have d2 : decide ((l0.length : Int) < a1) = false := decide_eq_false t2
  by_cases t3 : a2 < 0
  · rw [if_pos t3] at h
    obtain rfl := Option.some.inj h
    have d3 : decide (a2 < 0) = true := decide_eq_true t3
    go_wp2_with (go_at_call 40; refine (octets_Size_uint32.calls k _ _ HZ.out).mono ?_; rintro e wz ⟨rfl, ⟨m1, rfl⟩⟩)
    exact ⟨_, results_tmp2 rfl _ _ _, _, rfl, Kd.R_nil _ _ _ _ _, pw_below_drewN (Below.refl _ _) _⟩
  rw [if_neg t3] at h
  have d3 : decide (a2 < 0) = false := decide_eq_false t3
  obtain ⟨m, rfl⟩ := Int.eq_ofNat_of_zero_le (show 0 ≤ a1 by omega)
  obtain ⟨q, rfl⟩ := Int.eq_ofNat_of_zero_le (show 0 ≤ a2 by omega)
  have e1 : wrap64 ((l0.length : Int) - (m : Int)) = ((l0.length - m : Nat) : Int) := by unfold wrap64; omega
  have e2 : ((l0.length - m : Nat) : Int).tdiv 4 = (((l0.length - m) / 4 : Nat) : Int) := rfl
  by_cases t4 : ((l0.length : Int) - (m : Int)) / 4 < (q : Int)
  · rw [if_pos t4] at h
    obtain rfl := Option.some.inj h
    have d4 : decide ((((l0.length - m) / 4 : Nat) : Int) < (q : Int)) = true := decide_eq_true (by omega)
    go_wp2_with (go_at_call 40; refine (octets_Size_uint32.calls k _ _ HZ.out).mono ?_; rintro e wz ⟨rfl, ⟨m1, rfl⟩⟩)
    exact ⟨_, results_tmp2 rfl _ _ _, _, rfl, Kd.R_nil _ _ _ _ _, pw_below_drewN (Below.refl _ _) _⟩
  rw [if_neg t4] at h
  have d4 : decide ((((l0.length - m) / 4 : Nat) : Int) < (q : Int)) = false := decide_eq_false (by omega)
  have hq : m + q * 4 ≤ l0.length := by omega
  have e3 : wrap64 ((q : Int) * 4) = ((q * 4 : Nat) : Int) := by unfold wrap64; omega
  have e4 : wrap64 ((m : Int) + ((q * 4 : Nat) : Int)) = ((m + q * 4 : Nat) : Int) := by unfold wrap64; omega
  have q1 : ((m + q * 4 : Nat) : Int) ≤ (c0 : Int) := Int.ofNat_le.2 (Nat.le_trans hq hc0)
  cases hgo : octets_List_uint32.go k (l0.drop (m : Int).toNat) (q : Int).toNat with
  | none => rw [hgo] at h; cases h
  | some xs =>
  rw [hgo] at h
  obtain rfl := Option.some.inj h
  clear e2
  obtain ⟨val, rfl, hval⟩ := octets_List_uint32.go_some _ _ _ _ hgo
  clear hgo h
  obtain ⟨i0, hi, hz0, hz1, hz2⟩ := info_parts octets_List_uint32.info
  go_wp2_with (first | (go_at_call 40; refine (octets_Size_uint32.calls k _ _ HZ.out).mono ?_; rintro e wz ⟨rfl, ⟨m1, rfl⟩⟩) | (go_at_call 77; refine (octets_List_uint32.chunk0 _ _ _ _).mono ?_; rintro e wz ⟨rfl, ⟨m2, rfl⟩⟩))
  all_goals
    have hch : ∀ ad, A0 = some ad → ∀ j, j < q → Kd.C (Kd.int .u8) w (some ((ad.add m).add (j * 4))) 4 ((l0.drop (m + j * 4)).take 4) := by
      rintro ad rfl j hj
      rw [Addr.add_add]
      exact octets_List_uint32.cut w ad l0 _ hr0 (by omega)
    generalize hW0 : World.drewN _ m2 = W0
    have hsz : W0.heap.size = w.heap.size + 3 := by rw [← hW0]; simp [World.drewN]
    have hB0 : Below w.heap.size w W0 := by
      rw [← hW0]
      exact pw_below_drewN ((((pw_below_drewN (Below.refl _ _) _).alloc (Nat.le_refl _) _).alloc (by simp [World.drewN]) _).alloc (by simp [World.drewN]; omega) _) _
    have hbo : Boxed W0 w.heap.size 98 (.slice none 0 0) := by
      rw [← hW0]
      exact ((Boxed.new (w.drewN m1) 98 (.slice none 0 0)).alloc _).alloc _
    have hbn : Boxed W0 (w.heap.size + 2) 3 (.int .i64 4) := by
      have b := fun (v : Value) => Boxed.new (((w.drewN m1).alloc (.cells #[.slice none 0 0] 98)).alloc (.cells #[v] 39)) 3 (.int .i64 4)
      simp only [World.size_alloc] at b
      rw [← hW0]
      exact b _
    have bs := fun (v : Value) => (Boxed.new ((w.drewN m1).alloc (.cells #[.slice none 0 0] 98)) 39 v)
    simp only [World.size_alloc] at bs
    obtain ⟨A', c', ad', hA', hc', hch', hbs⟩ : ∃ (A' : Option Addr) (c' : Nat) (ad' : Addr), (0 < q → A' = some ad') ∧ q * 4 ≤ c' ∧
        (∀ j, j < q → Kd.C (Kd.int .u8) w (some (ad'.add (j * 4))) 4 ((l0.drop (m + j * 4)).take 4)) ∧ Boxed W0 (w.heap.size + 1) 39 (.slice A' (q * 4) c') := by
      first
        | exact ⟨A0, 0, ⟨0, 0, none⟩, fun h => by omega, by omega, fun j hj => by omega, by rw [← hW0]; exact (bs _).alloc _⟩
        | by_cases hq0 : q = 0
          · exact ⟨A0.map (fun x => x.add m), c0 - m, ⟨0, 0, none⟩, fun h => by omega, by omega, fun j hj => by omega, by rw [← hW0]; exact (bs _).alloc _⟩
          · obtain ⟨ad, hA, _⟩ := hr0.2.2 (by omega)
            exact ⟨A0.map (fun x => x.add m), c0 - m, ad.add m, fun _ => by rw [hA]; rfl, by omega, hch ad hA, by rw [← hW0]; exact (bs _).alloc _⟩
    clear hW0 bs
    refine (wpIn_wide (n := 3)).1 ?_
    refine wpIn_rangeFunc_ownF (Kp := octets_List_uint32.keep (w.heap.size + 1) (w.heap.size + 2)) rfl (by decide) (gf := 81) (lb := #[.pointer (some ⟨w.heap.size + 1, 0, none⟩), .pointer (some ⟨w.heap.size + 2, 0, none⟩)]) rfl trivial octets_List_uint32.enters
      (octets_List_uint32.stops 2 (w.heap.size + 1) (w.heap.size + 2) q (by decide) A' ad' hA' c' hc' (by omega) W0 (by omega) (by omega) hbs hbn) (fun h k => octets_List_uint32.keep_t h k) (fun W l o o' _ h ho _ => octets_List_uint32.keep_b W l o o' h ho) (Below.refl _ _) (fun _ => rfl)
      (fun pre W => ((∃ v, Boxed W w.heap.size 98 v ∧ W.ownsRow w.heap.size 23 1 v (pre.map (fun j => Value.int .u32 (val j.val))).length (pre.map (fun j => Value.int .u32 (val j.val))) ∧ True) ∧
        (Boxed W (w.heap.size + 1) 39 (.slice A' (q * 4) c') ∧ Boxed W (w.heap.size + 2) 3 (.int .i64 4))) ∧ Below w.heap.size w W)
      (fun _ _ _ => False)
      (OwnFrom.and (OwnFrom.and (Own.from (holdsRow_own w.heap.size w.heap.size 98 23 1 (fun pre : List (Fin q) => (pre.map (fun j => Value.int .u32 (val j.val))).length) (fun pre => pre.map (fun j => Value.int .u32 (val j.val))) (fun _ _ => True)) _) (OwnFrom.and (Own.from (boxed_own _ _ _) _) (Own.from (boxed_own _ _ _) _))) (ownFrom_below (Nat.le_refl _) (by omega)))
      (fun _ _ _ _ _ hs _ _ => hs)
      ⟨⟨⟨_, hbo, World.ownsRow_nil _ _ _ _, trivial⟩, hbs, hbn⟩, hB0⟩ ?_ ?_ ?_ ?_ ?_
    rotate_left
    · intro l x W K hK
      gi_wp2
      exact hK
    · rintro l pre x W ⟨⟨⟨v, hv, hrow, _⟩, hbs1, hbn1⟩, hB⟩ hlt
      have hd : 1 ≤ 3 - 1 - 1 := by decide
      have hmx := octets_List_uint32.hmx
      have hx : octets_word_uint32.f k ((l0.drop (m + x.val * 4)).take 4) = some (val x.val) := by
        have := hval x.val (by have := x.isLt; simp)
        rwa [List.drop_drop] at this
      have hck := (hch' x.val x.isLt)
      have hkw : Kd.C (Kd.int .u8) W (some (ad'.add (x.val * 4))) 4 ((l0.drop (m + x.val * 4)).take 4) := Kd.C_below hck hB
      gi_wp2
      refine wpIn_region_any hmx ?_
      obtain ⟨W1, hW1⟩ : ∃ W1, { W with drawn := W.drawn + 1 } = W1 := ⟨_, rfl⟩
      have hh : W1.heap = W.heap := by rw [← hW1]
      have hk1 : KeepsOthers W W1 := by rw [← hW1]; exact KeepsOthers.drew W
      have hb1 : ∀ N, Below N W W1 := fun N => by rw [← hW1]; exact ⟨rfl, rfl, rfl, Nat.le_refl _, fun _ _ => rfl⟩
      have hv1 : Boxed W1 w.heap.size 98 v := by unfold Boxed; rw [hh]; exact hv
      have hrow1 : W1.ownsRow w.heap.size 23 1 v (pre.map (fun j => Value.int .u32 (val j.val))).length (pre.map (fun j => Value.int .u32 (val j.val))) := by rw [← hW1]; exact pw_own_drewN hrow 1
      have hlc : ((l0.drop (m + x.val * 4)).take 4).length = 4 := by have := x.isLt; simp; omega
      have hcall : Calls Try.prog 79 #[.slice (some (ad'.add (x.val * 4))) 4 4] W1 fun e w' => e = .returned (.int .u32 (val x.val)) ∧ Drawn0 W1 w' := by
        have := octets_word_uint32.calls k (some (ad'.add (x.val * 4))) 4 _ _ W1 (by rw [hlc]; exact Kd.C_below hkw (hb1 _)) (by omega) hx
        rwa [hlc] at this
      rw [hW1]
      have hL1 := hv1.cell
      have hsz1 : w.heap.size ≤ W1.heap.size := by rw [hh]; exact hB.size
      have hpl : pre.length < q := hlt
      have hL2 : ∀ m3 : Nat, (W1.drewN m3).cell? ⟨w.heap.size, 0, none⟩ = some v := fun _ => hv1.cell
      have hL3 : ∀ (m3 : Nat) (o : Obj), ((W1.drewN m3).alloc o).cell? ⟨w.heap.size, 0, none⟩ = some v := fun m3 o => (Boxed.alloc (W := W1.drewN m3) hv1 o).cell
      have hkeep : ∀ (m3 : Nat) (tmp : Obj) (w1 : World) (u' : Value) (u : Value), Boxed W (w.heap.size + 1) 39 u → ((W1.drewN m3).alloc tmp).grownBy w1 v.ownBlock → Boxed (w1.setCell ⟨w.heap.size, 0, none⟩ u') (w.heap.size + 1) 39 u := by
        intro m3 tmp w1 u' u hu hg
        have hu1 : Boxed (W1.drewN m3) (w.heap.size + 1) 39 u := by unfold Boxed; show W1.heap[_]? = _; rw [hh]; exact hu
        exact ((hu1.alloc tmp).kept hg (hu1.not_row (by decide) (pw_own_drewN hrow1 m3))).other (by omega) _
      have hkeep2 : ∀ (m3 : Nat) (tmp : Obj) (w1 : World) (u' : Value) (u : Value), Boxed W (w.heap.size + 2) 3 u → ((W1.drewN m3).alloc tmp).grownBy w1 v.ownBlock → Boxed (w1.setCell ⟨w.heap.size, 0, none⟩ u') (w.heap.size + 2) 3 u := by
        intro m3 tmp w1 u' u hu hg
        have hu1 : Boxed (W1.drewN m3) (w.heap.size + 2) 3 u := by unfold Boxed; show W1.heap[_]? = _; rw [hh]; exact hu
        exact ((hu1.alloc tmp).kept hg (hu1.not_row (by decide) (pw_own_drewN hrow1 m3))).other (by omega) _
      clear hh
      refine wpAnyIn_ready (rs := [0, 1]) (by kernel_rfl) (by simp) ?_
      refine AllReadyIn.cons rfl (fun K hK => ?_) (AllReadyIn.cons rfl (fun K hK => ?_) AllReadyIn.nil)
      · go_simp
        refine hK _ _ ?_
        clear hK K
        refine wpAnyIn_ready (rs := [1]) (by kernel_rfl) (by simp) ?_
        refine AllReadyIn.cons rfl (fun K hK => ?_) AllReadyIn.nil
        go_simp
        refine hK _ _ ?_
        clear hK K
        refine wpAnyIn_ready (rs := [2]) (by kernel_rfl) (by simp) ?_
        refine AllReadyIn.cons rfl (fun K hK => ?_) AllReadyIn.nil
        go_simp
        try gi_at_call 79
        try (refine ⟨trivial, ?_⟩)
        refine (CallsIn.inRound l (callsIn_wide.2 hcall)).mono ?_
        rintro e wz ⟨rfl, ⟨m3, rfl⟩⟩
        go_simp
        refine hK _ _ ?_
        clear hK K
        refine wpAnyIn_ready (rs := [3]) (by kernel_rfl) (by simp) ?_
        refine AllReadyIn.cons rfl (fun K hK => ?_) AllReadyIn.nil
        go_simp
        refine hK _ _ ?_
        clear hK K
        refine wpAnyIn_ready (rs := [4]) (by kernel_rfl) (by simp) ?_
        refine AllReadyIn.cons rfl (fun K hK => ?_) AllReadyIn.nil
        rw [if_pos (by rfl)]
        refine octets_List_uint32.append_op _ (.tmp 47) (.tmp 50) 98 rfl w.heap.size 23 i0 (.int .u32 0) 1 4 Try.underlying98 hi hz0 hz1 hz2 rfl (by decide) v _ _ rfl ((pw_own_drewN hrow1 m3).alloc _) ⟨W1.heap.size, 0, none⟩ 1 1 [.int .u32 (val x.val)] rfl rfl (cell_one_new (W1.drewN m3) _ _) (by simp [Value.oneCell']) (by simp [maxLen]; omega) (by simp; omega) (by rw [World.size_alloc]; exact Nat.le_succ_of_le hsz1) ?_
        intro v' w1 r1 r2
        rw [List.length_map] at r1
        obtain ⟨g', cap', rfl⟩ := ownsRow_succ r1
        obtain ⟨hv3, hv4, hr2, hk2, hb2⟩ := Boxed.appended (W := W1.drewN m3) hv1 (by decide) (pw_own_drewN hrow1 m3) hsz1 (Nat.le_refl _) r1 r2
        have hc3 := hv3.cell
        have hf3 := hv3.frozen
        refine hK _ _ ?_
        clear hK K
        refine wpAnyIn_ready (rs := [5]) (by kernel_rfl) (by simp) ?_
        refine AllReadyIn.cons rfl (fun K hK => ?_) AllReadyIn.nil
        go_simp
        refine hK _ _ ?_
        clear hK K
        refine wpAnyIn_done (by kernel_rfl) ?_ _
        refine ⟨hk1.trans ((⟨Nat.le_refl _, fun _ _ h _ => h⟩ : KeepsOthers W1 (W1.drewN m3)).trans hk2), ⟨fun u hu => ?_, fun u hu => ?_⟩, ⟨⟨⟨_, hv4, by simpa using hr2, trivial⟩, ?_, ?_⟩, (hB.trans (hb1 _)).trans ((pw_below_drewN (Below.refl _ W1) m3).trans hb2)⟩⟩
        · exact hkeep _ _ _ _ u hu r2
        · exact hkeep2 _ _ _ _ u hu r2
        · exact hkeep _ _ _ _ _ hbs1 r2
        · exact hkeep2 _ _ _ _ _ hbn1 r2
      · go_simp
        refine hK _ _ ?_
        clear hK K
        refine wpAnyIn_ready (rs := [0, 2]) (by kernel_rfl) (by simp) ?_
        refine AllReadyIn.cons rfl (fun K hK => ?_) (AllReadyIn.cons rfl (fun K hK => ?_) AllReadyIn.nil)
        · go_simp
          refine hK _ _ ?_
          clear hK K
          refine wpAnyIn_ready (rs := [2]) (by kernel_rfl) (by simp) ?_
          refine AllReadyIn.cons rfl (fun K hK => ?_) AllReadyIn.nil
          go_simp
          try gi_at_call 79
          try (refine ⟨trivial, ?_⟩)
          refine (CallsIn.inRound l (callsIn_wide.2 hcall)).mono ?_
          rintro e wz ⟨rfl, ⟨m3, rfl⟩⟩
          go_simp
          refine hK _ _ ?_
          clear hK K
          refine wpAnyIn_ready (rs := [3]) (by kernel_rfl) (by simp) ?_
          refine AllReadyIn.cons rfl (fun K hK => ?_) AllReadyIn.nil
          go_simp
          refine hK _ _ ?_
          clear hK K
          refine wpAnyIn_ready (rs := [4]) (by kernel_rfl) (by simp) ?_
          refine AllReadyIn.cons rfl (fun K hK => ?_) AllReadyIn.nil
          rw [if_pos (by rfl)]
          refine octets_List_uint32.append_op _ (.tmp 47) (.tmp 50) 98 rfl w.heap.size 23 i0 (.int .u32 0) 1 4 Try.underlying98 hi hz0 hz1 hz2 rfl (by decide) v _ _ rfl ((pw_own_drewN hrow1 m3).alloc _) ⟨W1.heap.size, 0, none⟩ 1 1 [.int .u32 (val x.val)] rfl rfl (cell_one_new (W1.drewN m3) _ _) (by simp [Value.oneCell']) (by simp [maxLen]; omega) (by simp; omega) (by rw [World.size_alloc]; exact Nat.le_succ_of_le hsz1) ?_
          intro v' w1 r1 r2
          rw [List.length_map] at r1
          obtain ⟨g', cap', rfl⟩ := ownsRow_succ r1
          obtain ⟨hv3, hv4, hr2, hk2, hb2⟩ := Boxed.appended (W := W1.drewN m3) hv1 (by decide) (pw_own_drewN hrow1 m3) hsz1 (Nat.le_refl _) r1 r2
          have hc3 := hv3.cell
          have hf3 := hv3.frozen
          refine hK _ _ ?_
          clear hK K
          refine wpAnyIn_ready (rs := [5]) (by kernel_rfl) (by simp) ?_
          refine AllReadyIn.cons rfl (fun K hK => ?_) AllReadyIn.nil
          go_simp
          refine hK _ _ ?_
          clear hK K
          refine wpAnyIn_done (by kernel_rfl) ?_ _
          refine ⟨hk1.trans ((⟨Nat.le_refl _, fun _ _ h _ => h⟩ : KeepsOthers W1 (W1.drewN m3)).trans hk2), ⟨fun u hu => ?_, fun u hu => ?_⟩, ⟨⟨⟨_, hv4, by simpa using hr2, trivial⟩, ?_, ?_⟩, (hB.trans (hb1 _)).trans ((pw_below_drewN (Below.refl _ W1) m3).trans hb2)⟩⟩
          · exact hkeep _ _ _ _ u hu r2
          · exact hkeep2 _ _ _ _ u hu r2
          · exact hkeep _ _ _ _ _ hbs1 r2
          · exact hkeep2 _ _ _ _ _ hbn1 r2
        · go_simp
          try gi_at_call 79
          try (refine ⟨trivial, ?_⟩)
          refine (CallsIn.inRound l (callsIn_wide.2 hcall)).mono ?_
          rintro e wz ⟨rfl, ⟨m3, rfl⟩⟩
          go_simp
          refine hK _ _ ?_
          clear hK K
          refine wpAnyIn_ready (rs := [0, 3]) (by kernel_rfl) (by simp) ?_
          refine AllReadyIn.cons rfl (fun K hK => ?_) (AllReadyIn.cons rfl (fun K hK => ?_) AllReadyIn.nil)
          · go_simp
            refine hK _ _ ?_
            clear hK K
            refine wpAnyIn_ready (rs := [3]) (by kernel_rfl) (by simp) ?_
            refine AllReadyIn.cons rfl (fun K hK => ?_) AllReadyIn.nil
            go_simp
            refine hK _ _ ?_
            clear hK K
            refine wpAnyIn_ready (rs := [4]) (by kernel_rfl) (by simp) ?_
            refine AllReadyIn.cons rfl (fun K hK => ?_) AllReadyIn.nil
            rw [if_pos (by rfl)]
            refine octets_List_uint32.append_op _ (.tmp 47) (.tmp 50) 98 rfl w.heap.size 23 i0 (.int .u32 0) 1 4 Try.underlying98 hi hz0 hz1 hz2 rfl (by decide) v _ _ rfl ((pw_own_drewN hrow1 m3).alloc _) ⟨W1.heap.size, 0, none⟩ 1 1 [.int .u32 (val x.val)] rfl rfl (cell_one_new (W1.drewN m3) _ _) (by simp [Value.oneCell']) (by simp [maxLen]; omega) (by simp; omega) (by rw [World.size_alloc]; exact Nat.le_succ_of_le hsz1) ?_
            intro v' w1 r1 r2
            rw [List.length_map] at r1
            obtain ⟨g', cap', rfl⟩ := ownsRow_succ r1
            obtain ⟨hv3, hv4, hr2, hk2, hb2⟩ := Boxed.appended (W := W1.drewN m3) hv1 (by decide) (pw_own_drewN hrow1 m3) hsz1 (Nat.le_refl _) r1 r2
            have hc3 := hv3.cell
            have hf3 := hv3.frozen
            refine hK _ _ ?_
            clear hK K
            refine wpAnyIn_ready (rs := [5]) (by kernel_rfl) (by simp) ?_
            refine AllReadyIn.cons rfl (fun K hK => ?_) AllReadyIn.nil
            go_simp
            refine hK _ _ ?_
            clear hK K
            refine wpAnyIn_done (by kernel_rfl) ?_ _
            refine ⟨hk1.trans ((⟨Nat.le_refl _, fun _ _ h _ => h⟩ : KeepsOthers W1 (W1.drewN m3)).trans hk2), ⟨fun u hu => ?_, fun u hu => ?_⟩, ⟨⟨⟨_, hv4, by simpa using hr2, trivial⟩, ?_, ?_⟩, (hB.trans (hb1 _)).trans ((pw_below_drewN (Below.refl _ W1) m3).trans hb2)⟩⟩
            · exact hkeep _ _ _ _ u hu r2
            · exact hkeep2 _ _ _ _ u hu r2
            · exact hkeep _ _ _ _ _ hbs1 r2
            · exact hkeep2 _ _ _ _ _ hbn1 r2
          · go_simp
            refine hK _ _ ?_
            clear hK K
            refine wpAnyIn_ready (rs := [0]) (by kernel_rfl) (by simp) ?_
            refine AllReadyIn.cons rfl (fun K hK => ?_) AllReadyIn.nil
            go_simp
            refine hK _ _ ?_
            clear hK K
            refine wpAnyIn_ready (rs := [4]) (by kernel_rfl) (by simp) ?_
            refine AllReadyIn.cons rfl (fun K hK => ?_) AllReadyIn.nil
            rw [if_pos (by rfl)]
            refine octets_List_uint32.append_op _ (.tmp 47) (.tmp 50) 98 rfl w.heap.size 23 i0 (.int .u32 0) 1 4 Try.underlying98 hi hz0 hz1 hz2 rfl (by decide) v _ _ rfl ((pw_own_drewN hrow1 m3).alloc _) ⟨W1.heap.size, 0, none⟩ 1 1 [.int .u32 (val x.val)] rfl rfl (cell_one_new (W1.drewN m3) _ _) (by simp [Value.oneCell']) (by simp [maxLen]; omega) (by simp; omega) (by rw [World.size_alloc]; exact Nat.le_succ_of_le hsz1) ?_
            intro v' w1 r1 r2
            rw [List.length_map] at r1
            obtain ⟨g', cap', rfl⟩ := ownsRow_succ r1
            obtain ⟨hv3, hv4, hr2, hk2, hb2⟩ := Boxed.appended (W := W1.drewN m3) hv1 (by decide) (pw_own_drewN hrow1 m3) hsz1 (Nat.le_refl _) r1 r2
            have hc3 := hv3.cell
            have hf3 := hv3.frozen
            refine hK _ _ ?_
            clear hK K
            refine wpAnyIn_ready (rs := [5]) (by kernel_rfl) (by simp) ?_
            refine AllReadyIn.cons rfl (fun K hK => ?_) AllReadyIn.nil
            go_simp
            refine hK _ _ ?_
            clear hK K
            refine wpAnyIn_done (by kernel_rfl) ?_ _
            refine ⟨hk1.trans ((⟨Nat.le_refl _, fun _ _ h _ => h⟩ : KeepsOthers W1 (W1.drewN m3)).trans hk2), ⟨fun u hu => ?_, fun u hu => ?_⟩, ⟨⟨⟨_, hv4, by simpa using hr2, trivial⟩, ?_, ?_⟩, (hB.trans (hb1 _)).trans ((pw_below_drewN (Below.refl _ W1) m3).trans hb2)⟩⟩
            · exact hkeep _ _ _ _ u hu r2
            · exact hkeep2 _ _ _ _ u hu r2
            · exact hkeep _ _ _ _ _ hbs1 r2
            · exact hkeep2 _ _ _ _ _ hbn1 r2
    · rintro D ys W hD hys ⟨⟨⟨v, hv, hrow, _⟩, _, _⟩, hB⟩ hK
      have hc := hv.cell
      go_wp2
      refine ⟨by simp, .inl ⟨_, _, rfl, run_takeDeferred hK, ?_⟩⟩
      refine ⟨_, results_tmp2 rfl _ _ _, v, rfl, ?_, hB.trans (belowK_b (w := w) (Nat.le_refl _) W D _ _ (by omega) hK rfl rfl)⟩
      have hl1 : (ys.map (fun j => Value.int .u32 (val j.val))) = ((List.range q).map val).map (Value.int .u32) := by
        rw [← hys, List.map_map, List.map_map]; rfl
      rw [hl1] at hrow
      have hrow2 := ownsRow_putObj hrow (Obj.deferred none) hK rfl
      refine ⟨fun _ _ => trivial, ((List.range q).map val).map (Value.int .u32), ?_, octets_List_uint32.reps _ _⟩
      rw [List.length_map] at hrow2
      exact hrow2
    · rintro D c pre W _ _ h _
      exact h.elim
theorem octets_List_uint32.calls (k : Nat) (A0 : Option Addr) (c0 : Nat) (l0 : List Int) (a1 a2 : Int) (r1 : List Int) (r2 : Option Int) (w : World) (hr0 : Kd.C (Kd.int .u8) w A0 l0.length l0) (hc0 : l0.length ≤ c0) (h : octets_List_uint32.f k l0 a1 a2 = some (r1, r2)) :
    Calls Try.prog 69 #[.slice A0 l0.length c0, .int .i64 a1, .int .i64 a2] w fun e w' => ∃ v0_ : Value, e = .returned (.tuple #[v0_, errW r2]) ∧ Kd.R (Kd.int .u32) 23 w' w.heap.size (fun _ => True) v0_ r1 ∧ Below w.heap.size w w' := octets_List_uint32.calls0 k A0 c0 l0 a1 a2 (r1, r2) w hr0 hc0 h
end

/-! ### stamp_two_uint32: function 57 -/
def stamp_two_uint32.f (k : Nat) (l0 : List Int) : Option (Int × Int × Option Int) := (octets_List_uint32.f k l0 0 2).bind fun bt170 => (if bt170.2.isNone = true then ((octets_Size_uint32.f k).bind fun t175 => (if (l0.length : Int) = (wrap64 (2 * t175)) then (if 0 < (bt170.1.length : Int) then (if 1 < (bt170.1.length : Int) then (some (rd bt170.1 0, rd bt170.1 1, none)) else (none)) else (none)) else (some (0, 0, some 2)))) else (some (0, 0, some 2)))
theorem stamp_two_uint32.mono : ∀ a0 k, LeO (stamp_two_uint32.f k a0) (stamp_two_uint32.f (k + 1) a0) := by
  intro a0 k
  unfold stamp_two_uint32.f
  repeat' first
      | (with_reducible exact octets_List_uint32.mono _ _ _ _)
      | (with_reducible exact octets_Size_uint32.mono _)
      | (with_reducible exact LeO.refl _)
      | (with_reducible exact LeO.none _)
      | (with_reducible refine LeO.ite ?_ ?_)
      | (with_reducible refine LeO.bind ?_ (fun _ => ?_))
      | exact octets_List_uint32.mono _ _ _ _
      | exact octets_Size_uint32.mono _
      | exact LeO.none _
      | refine LeO.ite ?_ ?_
      | refine LeO.bind ?_ (fun _ => ?_)
set_option maxHeartbeats 8000000 in
set_option maxRecDepth 100000 in
theorem stamp_two_uint32.calls (k : Nat) (A0 : Option Addr) (c0 : Nat) (l0 : List Int) (r1 : Int) (r2 : Int) (r3 : Option Int) (w : World) (hr0 : Kd.C (Kd.int .u8) w A0 l0.length l0) (hc0 : l0.length ≤ c0) (h : stamp_two_uint32.f k l0 = some (r1, r2, r3)) :
    Calls Try.prog 57 #[.slice A0 l0.length c0] w fun e w' => e = .returned (.tuple #[.int .u32 r1, .int .u32 r2, errW r3]) ∧ Below w.heap.size w w' := by
  have hu27 := Try.underlying27
  have hu64 := Try.underlying64
  have HR0 := Aside0.mk hr0
  have HC0 := Aside0.mk hc0
  clear hr0 hc0
  have HB := Aside0.mk (Below.refl w.heap.size w)
  have H : ((octets_List_uint32.f k l0 0 2).bind fun bt170 => (if bt170.2.isNone = true then ((octets_Size_uint32.f k).bind fun t175 => (if (l0.length : Int) = (wrap64 (2 * t175)) then (if 0 < (bt170.1.length : Int) then (if 1 < (bt170.1.length : Int) then (some (rd bt170.1 0, rd bt170.1 1, none)) else (none)) else (none)) else (some (0, 0, some 2)))) else (some (0, 0, some 2)))) = some (r1, r2, r3) := h
  clear h
  replace H := Option.bind_eq_some_iff.mp H
  obtain ⟨⟨t170, t171⟩, A20, H⟩ := H
  replace H : (if t171.isNone = true then ((octets_Size_uint32.f k).bind fun t175 => (if (l0.length : Int) = (wrap64 (2 * t175)) then (if 0 < (t170.length : Int) then (if 1 < (t170.length : Int) then (some (rd t170 0, rd t170 1, none)) else (none)) else (none)) else (some (0, 0, some 2)))) else (some (0, 0, some 2))) = some (r1, r2, r3) := H
  have A2 := Aside0.mk A20
  clear A20
  rcases t171 with _ | q174
  · have H1 : ((octets_Size_uint32.f k).bind fun t175 => (if (l0.length : Int) = (wrap64 (2 * t175)) then (if 0 < (t170.length : Int) then (if 1 < (t170.length : Int) then (some (rd t170 0, rd t170 1, none)) else (none)) else (none)) else (some (0, 0, some 2)))) = some (r1, r2, r3) := by rw [if_pos (show (none : Option Int).isNone = true by rfl)] at H; exact H
    clear H
    have H := H1
    clear H1
    try simp only [errW_none, errW_some]
    replace H := Option.bind_eq_some_iff.mp H
    obtain ⟨t175, A30, H⟩ := H
    replace H : (if (l0.length : Int) = (wrap64 (2 * t175)) then (if 0 < (t170.length : Int) then (if 1 < (t170.length : Int) then (some (rd t170 0, rd t170 1, none)) else (none)) else (none)) else (some (0, 0, some 2))) = some (r1, r2, r3) := H
    have A3 := Aside0.mk A30
    clear A30
    by_cases c4 : (l0.length : Int) = (wrap64 (2 * t175))
    · rw [if_pos c4] at H
      have c4b0 : ((l0.length : Int) == (wrap64 (2 * t175))) = true := beq_iff_eq.mpr c4
      have c4b1 : ((l0.length : Int) != (wrap64 (2 * t175))) = false := bne_eq_false_iff_eq.mpr c4
      clear c4
      by_cases c5 : 0 < (t170.length : Int)
      · rw [if_pos c5] at H
        have c5b0 : decide (0 < (t170.length : Int)) = true := decide_eq_true c5
        have c5b1 : decide (0 < t170.length) = true := decide_eq_true (by omega)
        clear c5
        by_cases c6 : 1 < (t170.length : Int)
        · rw [if_pos c6] at H
          have c6b0 : decide (1 < (t170.length : Int)) = true := decide_eq_true c6
          have c6b1 : decide (1 < t170.length) = true := decide_eq_true (by omega)
          clear c6
          simp only [Option.some.injEq, Prod.mk.injEq] at H
          obtain ⟨rfl, rfl, rfl⟩ := H
          go_enter Try.func57, Try.ntmps57
          go_wp2_with (first | (go_at_call 69; (with_reducible refine (octets_List_uint32.calls k _ _ l0 0 2 t170 none _ ?side1 ?side2 A2.out).mono ?_); (case side1 => repeat (first | exact HR0.out | (with_reducible refine Kd.C_alloc ?_ _) | (with_reducible refine Kd.C_drewN ?_ _) | (with_reducible refine Kd.C_drew ?_))); (case side2 => exact HC0.out); rintro e w7 ⟨v172, rfl, ho0, hb⟩; have n0_ := Aside0.mk (Kd.R_lower ho0 (below_size (by repeat (first | (with_reducible first | exact HB.out | apply below_alloc | apply pw_below_drewN | apply below_drew1) | exact HB.out)))); have n1_ := Aside0.mk (below_step (by repeat (first | (with_reducible first | exact HB.out | apply below_alloc | apply pw_below_drewN | apply below_drew1) | exact HB.out)) hb); clear HB; have HO173 := n0_; have HB := n1_; clear n0_ n1_; (try clear hb); (try clear hb2); (try clear hk); (try clear hi); (try clear ho0); (try simp only [errW_none, errW_some])) | (go_at_call 40; (with_reducible refine (octets_Size_uint32.calls k  t175 _ A3.out).mono ?_); rintro e w' ⟨rfl, ⟨nd, rfl⟩⟩; (try first | exact ⟨rfl, _, World.drewN_drewN _ _ _⟩ | exact ⟨rfl, _, Eq.trans (World.drewN_drewN _ _ _) (congrArg (World.drewN _) (Nat.add_assoc _ _ _))⟩); obtain ⟨Ao8, co8, eo8⟩ := Kd.R_slice HO173.out; subst eo8; have p176 : 0 ≤ (0 : Int) := (by omega); have q176 : 0 < (t170.length : Int) := of_decide_eq_true (by first | (with_reducible assumption) | assumption); obtain ⟨ad176, e176, hx176_0⟩ := Kd.at_int (Kd.R_reads' HO173.out).2.2 0 p176 q176; cases e176; have qi176 : (0 < t170.length) = True := eq_true (by omega); (try rw [show ((0 : Int)).toNat = 0 from rfl] at hx176_0); (try rw [Addr.add_zero'] at hx176_0); replace p176 := eq_true p176; replace q176 := eq_true q176; have p177 : 0 ≤ (1 : Int) := (by omega); have q177 : 1 < (t170.length : Int) := of_decide_eq_true (by first | (with_reducible assumption) | assumption); obtain ⟨ad177, e177, hx177_0⟩ := Kd.at_int (Kd.R_reads' HO173.out).2.2 1 p177 q177; obtain rfl : ad176 = ad177 := (by injection e177); (try simp only [show (1 : Int).toNat = 1 from rfl, Nat.reduceMul, Nat.reduceEqDiff, Go.Addr.add, ↓reduceIte] at hx177_0); have qi177 : (1 < t170.length) = True := eq_true (by omega); (try rw [show ((1 : Int)).toNat = 1 from rfl] at hx177_0); replace p177 := eq_true p177; replace q177 := eq_true q177))
          repeat (go_quiet (first | (go_at_call 69; (with_reducible refine (octets_List_uint32.calls k _ _ l0 0 2 t170 none _ ?side1 ?side2 A2.out).mono ?_); (case side1 => repeat (first | exact HR0.out | (with_reducible refine Kd.C_alloc ?_ _) | (with_reducible refine Kd.C_drewN ?_ _) | (with_reducible refine Kd.C_drew ?_))); (case side2 => exact HC0.out); rintro e w7 ⟨v172, rfl, ho0, hb⟩; have n0_ := Aside0.mk (Kd.R_lower ho0 (below_size (by repeat (first | (with_reducible first | exact HB.out | apply below_alloc | apply pw_below_drewN | apply below_drew1) | exact HB.out)))); have n1_ := Aside0.mk (below_step (by repeat (first | (with_reducible first | exact HB.out | apply below_alloc | apply pw_below_drewN | apply below_drew1) | exact HB.out)) hb); clear HB; have HO173 := n0_; have HB := n1_; clear n0_ n1_; (try clear hb); (try clear hb2); (try clear hk); (try clear hi); (try clear ho0); (try simp only [errW_none, errW_some])) | (go_at_call 40; (with_reducible refine (octets_Size_uint32.calls k  t175 _ A3.out).mono ?_); rintro e w' ⟨rfl, ⟨nd, rfl⟩⟩; (try first | exact ⟨rfl, _, World.drewN_drewN _ _ _⟩ | exact ⟨rfl, _, Eq.trans (World.drewN_drewN _ _ _) (congrArg (World.drewN _) (Nat.add_assoc _ _ _))⟩); obtain ⟨Ao8, co8, eo8⟩ := Kd.R_slice HO173.out; subst eo8; have p176 : 0 ≤ (0 : Int) := (by omega); have q176 : 0 < (t170.length : Int) := of_decide_eq_true (by first | (with_reducible assumption) | assumption); obtain ⟨ad176, e176, hx176_0⟩ := Kd.at_int (Kd.R_reads' HO173.out).2.2 0 p176 q176; cases e176; have qi176 : (0 < t170.length) = True := eq_true (by omega); (try rw [show ((0 : Int)).toNat = 0 from rfl] at hx176_0); (try rw [Addr.add_zero'] at hx176_0); replace p176 := eq_true p176; replace q176 := eq_true q176; have p177 : 0 ≤ (1 : Int) := (by omega); have q177 : 1 < (t170.length : Int) := of_decide_eq_true (by first | (with_reducible assumption) | assumption); obtain ⟨ad177, e177, hx177_0⟩ := Kd.at_int (Kd.R_reads' HO173.out).2.2 1 p177 q177; obtain rfl : ad176 = ad177 := (by injection e177); (try simp only [show (1 : Int).toNat = 1 from rfl, Nat.reduceMul, Nat.reduceEqDiff, Go.Addr.add, ↓reduceIte] at hx177_0); have qi177 : (1 < t170.length) = True := eq_true (by omega); (try rw [show ((1 : Int)).toNat = 1 from rfl] at hx177_0); replace p177 := eq_true p177; replace q177 := eq_true q177)); try go_wp2_with (first | (go_at_call 69; (with_reducible refine (octets_List_uint32.calls k _ _ l0 0 2 t170 none _ ?side1 ?side2 A2.out).mono ?_); (case side1 => repeat (first | exact HR0.out | (with_reducible refine Kd.C_alloc ?_ _) | (with_reducible refine Kd.C_drewN ?_ _) | (with_reducible refine Kd.C_drew ?_))); (case side2 => exact HC0.out); rintro e w7 ⟨v172, rfl, ho0, hb⟩; have n0_ := Aside0.mk (Kd.R_lower ho0 (below_size (by repeat (first | (with_reducible first | exact HB.out | apply below_alloc | apply pw_below_drewN | apply below_drew1) | exact HB.out)))); have n1_ := Aside0.mk (below_step (by repeat (first | (with_reducible first | exact HB.out | apply below_alloc | apply pw_below_drewN | apply below_drew1) | exact HB.out)) hb); clear HB; have HO173 := n0_; have HB := n1_; clear n0_ n1_; (try clear hb); (try clear hb2); (try clear hk); (try clear hi); (try clear ho0); (try simp only [errW_none, errW_some])) | (go_at_call 40; (with_reducible refine (octets_Size_uint32.calls k  t175 _ A3.out).mono ?_); rintro e w' ⟨rfl, ⟨nd, rfl⟩⟩; (try first | exact ⟨rfl, _, World.drewN_drewN _ _ _⟩ | exact ⟨rfl, _, Eq.trans (World.drewN_drewN _ _ _) (congrArg (World.drewN _) (Nat.add_assoc _ _ _))⟩); obtain ⟨Ao8, co8, eo8⟩ := Kd.R_slice HO173.out; subst eo8; have p176 : 0 ≤ (0 : Int) := (by omega); have q176 : 0 < (t170.length : Int) := of_decide_eq_true (by first | (with_reducible assumption) | assumption); obtain ⟨ad176, e176, hx176_0⟩ := Kd.at_int (Kd.R_reads' HO173.out).2.2 0 p176 q176; cases e176; have qi176 : (0 < t170.length) = True := eq_true (by omega); (try rw [show ((0 : Int)).toNat = 0 from rfl] at hx176_0); (try rw [Addr.add_zero'] at hx176_0); replace p176 := eq_true p176; replace q176 := eq_true q176; have p177 : 0 ≤ (1 : Int) := (by omega); have q177 : 1 < (t170.length : Int) := of_decide_eq_true (by first | (with_reducible assumption) | assumption); obtain ⟨ad177, e177, hx177_0⟩ := Kd.at_int (Kd.R_reads' HO173.out).2.2 1 p177 q177; obtain rfl : ad176 = ad177 := (by injection e177); (try simp only [show (1 : Int).toNat = 1 from rfl, Nat.reduceMul, Nat.reduceEqDiff, Go.Addr.add, ↓reduceIte] at hx177_0); have qi177 : (1 < t170.length) = True := eq_true (by omega); (try rw [show ((1 : Int)).toNat = 1 from rfl] at hx177_0); replace p177 := eq_true p177; replace q177 := eq_true q177)))
          go_ret3
          exact ⟨by first | rfl | (simp [errW_none, errW_some] <;> rfl) | (simp [*, errW_none, errW_some] <;> rfl), by repeat (first | (with_reducible first | exact HB.out | apply below_alloc | apply pw_below_drewN | apply below_drew1) | exact HB.out)⟩
        · rw [if_neg c6] at H
          exact absurd H (by simp)
      · rw [if_neg c5] at H
        exact absurd H (by simp)
    · rw [if_neg c4] at H
      have c4b0 : ((l0.length : Int) == (wrap64 (2 * t175))) = false := beq_eq_false_iff_ne.mpr c4
      have c4b1 : ((l0.length : Int) != (wrap64 (2 * t175))) = true := bne_iff_ne.mpr c4
      simp only [Option.some.injEq, Prod.mk.injEq] at H
      obtain ⟨rfl, rfl, rfl⟩ := H
      go_enter Try.func57, Try.ntmps57
      go_wp2_with (first | (go_at_call 69; (with_reducible refine (octets_List_uint32.calls k _ _ l0 0 2 t170 none _ ?side1 ?side2 A2.out).mono ?_); (case side1 => repeat (first | exact HR0.out | (with_reducible refine Kd.C_alloc ?_ _) | (with_reducible refine Kd.C_drewN ?_ _) | (with_reducible refine Kd.C_drew ?_))); (case side2 => exact HC0.out); rintro e w9 ⟨v172, rfl, ho0, hb⟩; have n0_ := Aside0.mk (Kd.R_lower ho0 (below_size (by repeat (first | (with_reducible first | exact HB.out | apply below_alloc | apply pw_below_drewN | apply below_drew1) | exact HB.out)))); have n1_ := Aside0.mk (below_step (by repeat (first | (with_reducible first | exact HB.out | apply below_alloc | apply pw_below_drewN | apply below_drew1) | exact HB.out)) hb); clear HB; have HO173 := n0_; have HB := n1_; clear n0_ n1_; (try clear hb); (try clear hb2); (try clear hk); (try clear hi); (try clear ho0); (try simp only [errW_none, errW_some])) | (go_at_call 40; (with_reducible refine (octets_Size_uint32.calls k  t175 _ A3.out).mono ?_); rintro e w' ⟨rfl, ⟨nd, rfl⟩⟩; (try first | exact ⟨rfl, _, World.drewN_drewN _ _ _⟩ | exact ⟨rfl, _, Eq.trans (World.drewN_drewN _ _ _) (congrArg (World.drewN _) (Nat.add_assoc _ _ _))⟩)))
      repeat (go_quiet (first | (go_at_call 69; (with_reducible refine (octets_List_uint32.calls k _ _ l0 0 2 t170 none _ ?side1 ?side2 A2.out).mono ?_); (case side1 => repeat (first | exact HR0.out | (with_reducible refine Kd.C_alloc ?_ _) | (with_reducible refine Kd.C_drewN ?_ _) | (with_reducible refine Kd.C_drew ?_))); (case side2 => exact HC0.out); rintro e w9 ⟨v172, rfl, ho0, hb⟩; have n0_ := Aside0.mk (Kd.R_lower ho0 (below_size (by repeat (first | (with_reducible first | exact HB.out | apply below_alloc | apply pw_below_drewN | apply below_drew1) | exact HB.out)))); have n1_ := Aside0.mk (below_step (by repeat (first | (with_reducible first | exact HB.out | apply below_alloc | apply pw_below_drewN | apply below_drew1) | exact HB.out)) hb); clear HB; have HO173 := n0_; have HB := n1_; clear n0_ n1_; (try clear hb); (try clear hb2); (try clear hk); (try clear hi); (try clear ho0); (try simp only [errW_none, errW_some])) | (go_at_call 40; (with_reducible refine (octets_Size_uint32.calls k  t175 _ A3.out).mono ?_); rintro e w' ⟨rfl, ⟨nd, rfl⟩⟩; (try first | exact ⟨rfl, _, World.drewN_drewN _ _ _⟩ | exact ⟨rfl, _, Eq.trans (World.drewN_drewN _ _ _) (congrArg (World.drewN _) (Nat.add_assoc _ _ _))⟩))); try go_wp2_with (first | (go_at_call 69; (with_reducible refine (octets_List_uint32.calls k _ _ l0 0 2 t170 none _ ?side1 ?side2 A2.out).mono ?_); (case side1 => repeat (first | exact HR0.out | (with_reducible refine Kd.C_alloc ?_ _) | (with_reducible refine Kd.C_drewN ?_ _) | (with_reducible refine Kd.C_drew ?_))); (case side2 => exact HC0.out); rintro e w9 ⟨v172, rfl, ho0, hb⟩; have n0_ := Aside0.mk (Kd.R_lower ho0 (below_size (by repeat (first | (with_reducible first | exact HB.out | apply below_alloc | apply pw_below_drewN | apply below_drew1) | exact HB.out)))); have n1_ := Aside0.mk (below_step (by repeat (first | (with_reducible first | exact HB.out | apply below_alloc | apply pw_below_drewN | apply below_drew1) | exact HB.out)) hb); clear HB; have HO173 := n0_; have HB := n1_; clear n0_ n1_; (try clear hb); (try clear hb2); (try clear hk); (try clear hi); (try clear ho0); (try simp only [errW_none, errW_some])) | (go_at_call 40; (with_reducible refine (octets_Size_uint32.calls k  t175 _ A3.out).mono ?_); rintro e w' ⟨rfl, ⟨nd, rfl⟩⟩; (try first | exact ⟨rfl, _, World.drewN_drewN _ _ _⟩ | exact ⟨rfl, _, Eq.trans (World.drewN_drewN _ _ _) (congrArg (World.drewN _) (Nat.add_assoc _ _ _))⟩))))
      go_ret3
      exact ⟨by first | rfl | (simp [errW_none, errW_some] <;> rfl) | (simp [*, errW_none, errW_some] <;> rfl), by repeat (first | (with_reducible first | exact HB.out | apply below_alloc | apply pw_below_drewN | apply below_drew1) | exact HB.out)⟩
  · have H1 : (some (0, 0, some 2)) = some (r1, r2, r3) := by rw [if_neg (show ¬ (some q174).isNone = true by simp)] at H; exact H
    clear H
    have H := H1
    clear H1
    try simp only [errW_none, errW_some]
    simp only [Option.some.injEq, Prod.mk.injEq] at H
    obtain ⟨rfl, rfl, rfl⟩ := H
    go_enter Try.func57, Try.ntmps57
    go_wp2_with (first | (go_at_call 69; (with_reducible refine (octets_List_uint32.calls k _ _ l0 0 2 t170 (some q174) _ ?side1 ?side2 A2.out).mono ?_); (case side1 => repeat (first | exact HR0.out | (with_reducible refine Kd.C_alloc ?_ _) | (with_reducible refine Kd.C_drewN ?_ _) | (with_reducible refine Kd.C_drew ?_))); (case side2 => exact HC0.out); rintro e w10 ⟨v172, rfl, ho0, hb⟩; have n0_ := Aside0.mk (Kd.R_lower ho0 (below_size (by repeat (first | (with_reducible first | exact HB.out | apply below_alloc | apply pw_below_drewN | apply below_drew1) | exact HB.out)))); have n1_ := Aside0.mk (below_step (by repeat (first | (with_reducible first | exact HB.out | apply below_alloc | apply pw_below_drewN | apply below_drew1) | exact HB.out)) hb); clear HB; have HO173 := n0_; have HB := n1_; clear n0_ n1_; (try clear hb); (try clear hb2); (try clear hk); (try clear hi); (try clear ho0); (try simp only [errW_none, errW_some])))
    repeat (go_quiet (first | (go_at_call 69; (with_reducible refine (octets_List_uint32.calls k _ _ l0 0 2 t170 (some q174) _ ?side1 ?side2 A2.out).mono ?_); (case side1 => repeat (first | exact HR0.out | (with_reducible refine Kd.C_alloc ?_ _) | (with_reducible refine Kd.C_drewN ?_ _) | (with_reducible refine Kd.C_drew ?_))); (case side2 => exact HC0.out); rintro e w10 ⟨v172, rfl, ho0, hb⟩; have n0_ := Aside0.mk (Kd.R_lower ho0 (below_size (by repeat (first | (with_reducible first | exact HB.out | apply below_alloc | apply pw_below_drewN | apply below_drew1) | exact HB.out)))); have n1_ := Aside0.mk (below_step (by repeat (first | (with_reducible first | exact HB.out | apply below_alloc | apply pw_below_drewN | apply below_drew1) | exact HB.out)) hb); clear HB; have HO173 := n0_; have HB := n1_; clear n0_ n1_; (try clear hb); (try clear hb2); (try clear hk); (try clear hi); (try clear ho0); (try simp only [errW_none, errW_some]))); try go_wp2_with (first | (go_at_call 69; (with_reducible refine (octets_List_uint32.calls k _ _ l0 0 2 t170 (some q174) _ ?side1 ?side2 A2.out).mono ?_); (case side1 => repeat (first | exact HR0.out | (with_reducible refine Kd.C_alloc ?_ _) | (with_reducible refine Kd.C_drewN ?_ _) | (with_reducible refine Kd.C_drew ?_))); (case side2 => exact HC0.out); rintro e w10 ⟨v172, rfl, ho0, hb⟩; have n0_ := Aside0.mk (Kd.R_lower ho0 (below_size (by repeat (first | (with_reducible first | exact HB.out | apply below_alloc | apply pw_below_drewN | apply below_drew1) | exact HB.out)))); have n1_ := Aside0.mk (below_step (by repeat (first | (with_reducible first | exact HB.out | apply below_alloc | apply pw_below_drewN | apply below_drew1) | exact HB.out)) hb); clear HB; have HO173 := n0_; have HB := n1_; clear n0_ n1_; (try clear hb); (try clear hb2); (try clear hk); (try clear hi); (try clear ho0); (try simp only [errW_none, errW_some]))))
    go_ret3
    exact ⟨by first | rfl | (simp [errW_none, errW_some] <;> rfl) | (simp [*, errW_none, errW_some] <;> rfl), by repeat (first | (with_reducible first | exact HB.out | apply below_alloc | apply pw_below_drewN | apply below_drew1) | exact HB.out)⟩

/-! ### stamp_Parse: function 37 -/
def stamp_Parse.f (k : Nat) (l0 : List Int) : Option (Int × Int × Option Int) := (stamp_two_uint32.f k l0).bind fun bt179 => (some (bt179.1, bt179.2.1, bt179.2.2))
theorem stamp_Parse.mono : ∀ a0 k, LeO (stamp_Parse.f k a0) (stamp_Parse.f (k + 1) a0) := by
  intro a0 k
  unfold stamp_Parse.f
  repeat' first
      | (with_reducible exact stamp_two_uint32.mono _ _)
      | (with_reducible exact LeO.refl _)
      | (with_reducible exact LeO.none _)
      | (with_reducible refine LeO.ite ?_ ?_)
      | (with_reducible refine LeO.bind ?_ (fun _ => ?_))
      | exact stamp_two_uint32.mono _ _
      | exact LeO.none _
      | refine LeO.ite ?_ ?_
      | refine LeO.bind ?_ (fun _ => ?_)
set_option maxHeartbeats 8000000 in
set_option maxRecDepth 100000 in
theorem stamp_Parse.calls (k : Nat) (A0 : Option Addr) (c0 : Nat) (l0 : List Int) (r1 : Int) (r2 : Int) (r3 : Option Int) (w : World) (hr0 : Kd.C (Kd.int .u8) w A0 l0.length l0) (hc0 : l0.length ≤ c0) (h : stamp_Parse.f k l0 = some (r1, r2, r3)) :
    Calls Try.prog 37 #[.slice A0 l0.length c0] w fun e w' => e = .returned (.tuple #[.agg #[.int .u32 r1, .int .u32 r2], errW r3]) ∧ Below w.heap.size w w' := by
  have hu25 := Try.underlying25
  have HR0 := Aside0.mk hr0
  have HC0 := Aside0.mk hc0
  clear hr0 hc0
  have HB := Aside0.mk (Below.refl w.heap.size w)
  have H : ((stamp_two_uint32.f k l0).bind fun bt179 => (some (bt179.1, bt179.2.1, bt179.2.2))) = some (r1, r2, r3) := h
  clear h
  replace H := Option.bind_eq_some_iff.mp H
  obtain ⟨⟨t179, t180, t181⟩, A20, H⟩ := H
  replace H : (some (t179, t180, t181)) = some (r1, r2, r3) := H
  have A2 := Aside0.mk A20
  clear A20
  simp only [Option.some.injEq, Prod.mk.injEq] at H
  obtain ⟨rfl, rfl, rfl⟩ := H
  go_enter Try.func37, Try.ntmps37
  go_wp2_with (first | ((with_reducible refine gate_dst (N := 2) rfl ?_); refine box_event ?hg (N := 2) ?hd (cs := #[.int .u32 0, .int .u32 0]) (t := 25) ?hr ?_; (case hd => rfl); (case hg => rfl); (case hr => first | (go_simp; done) | (go_simp; rfl)); intro gb178 hg w3 hbox hb; have n0_ := Aside0.mk (below_step (by repeat (first | (with_reducible first | exact HB.out | apply below_alloc | apply pw_below_drewN | apply below_drew1) | exact HB.out)) hb); have n1_ := Aside0.mk (hbox); have n2_ := Aside0.mk ((by rw [hg]; exact (below_size (by repeat (first | (with_reducible first | exact HB.out | apply below_alloc | apply pw_below_drewN | apply below_drew1) | exact HB.out))) : w.heap.size ≤ gb178)); have n3_ := Aside0.mk ((by rw [hg]; exact (below_size (by repeat (first | (with_reducible first | exact HB.out | apply below_alloc | apply pw_below_drewN | apply below_drew1) | exact HB.out))) : w.heap.size ≤ gb178)); clear HB; have HB := n0_; have BK178 := n1_; have GW178 := n2_; have GE178 := n3_; clear n0_ n1_ n2_ n3_; clear hb hbox hg) | ((with_reducible refine gate_callee (f := 57) rfl ?_); refine goesL_ (some 9) rfl rfl Try.func57 (by kernel_rfl) rfl #[.slice A0 l0.length c0] rfl (by (try simp only [List.map_toArray, List.map_cons, List.map_nil]); first | done | rfl | (simp only [List.length_drop, List.length_take]; rfl) | (refine congrArg (fun z_ => #[Value.int IntKind.i64 z_]) (?_ : Go.RowKit.wrap64 (IntKind.u8.wrap _) = _); rw [IntKind.wrap_u8]; unfold Go.RowKit.wrap64; omega)) ?_; (with_reducible refine (stamp_two_uint32.calls k _ _ l0 t179 t180 t181 _ ?side1 ?side2 A2.out).mono ?_); (case side1 => repeat (first | exact (Kd.C_below HR0.out HB.out) | (with_reducible refine Kd.C_alloc ?_ _) | (with_reducible refine Kd.C_drewN ?_ _) | (with_reducible refine Kd.C_drew ?_))); (case side2 => exact HC0.out); rintro e w4 ⟨rfl, hb⟩; refine ⟨_, rfl, ?_⟩; have n0_ := Aside0.mk (blk_below (g := gb178) (o := .cells #[.int .u32 0, .int .u32 0] 25 (0, 0)) (by (with_reducible repeat (first | refine blk_drewN ?_ _ | refine blk_drew ?_ | refine blk_alloc ?_ _)); exact BK178.out) hb); have n1_ := Aside0.mk (below_step (by repeat (first | (with_reducible first | exact HB.out | apply below_alloc | apply pw_below_drewN | apply below_drew1 | refine below_set ?_ GE178.out) | exact HB.out)) hb); clear BK178; clear HB; have BK178 := n0_; have HB := n1_; clear n0_ n1_; (try clear hb); (try clear hb2); (try clear hk); (try clear hi); (try simp only [errW_none, errW_some]); have hcz5_0 : w4.cell? ⟨gb178, 0, none⟩ = some (.int .u32 0) := (blk_cell BK178.out 0).trans rfl; have hcz5_1 : w4.cell? ⟨gb178, 1, none⟩ = some (.int .u32 0) := (blk_cell BK178.out 1).trans rfl; have hfz5_0 := blk_frozen BK178.out 0; have hfz5_1 := blk_frozen BK178.out 1))
  refine bodyPost_ret (results_ct rfl _ _ gb178 25 #[.int .u32 t179, .int .u32 t180] (0, 0) _ rfl (by (with_reducible repeat (first | refine blk_drewN ?_ _ | refine blk_drew ?_ | refine blk_alloc ?_ _)); refine blk_put (cs := #[.int .u32 t179, .int .u32 0]) ?_ 1 _ rfl; (with_reducible repeat (first | refine blk_drewN ?_ _ | refine blk_drew ?_ | refine blk_alloc ?_ _)); refine blk_put (cs := #[.int .u32 0, .int .u32 0]) ?_ 0 _ rfl; (with_reducible repeat (first | refine blk_drewN ?_ _ | refine blk_drew ?_ | refine blk_alloc ?_ _)); exact BK178.out) Try.underlying25 rfl (by kernel_rfl)) rfl ?_
  exact ⟨by first | rfl | (simp [errW_none, errW_some] <;> rfl) | (simp [*, errW_none, errW_some] <;> rfl), by repeat (first | (with_reducible first | exact HB.out | apply below_alloc | apply pw_below_drewN | apply below_drew1 | refine below_set ?_ GE178.out) | exact HB.out)⟩

-- NOT PRINTED: function 16 (head_Parse)

/-! ### answer_Mode: function 45 -/
mutual
def answer_Mode.j0 : Nat → Int → Int → Bool → Option (Int × Bool)
  | 0, _, _, _ => none
  | k + 1, x0, x1, x6 => if x6 = true then (some (0, false)) else (if x1 = 3 then (answer_Mode.j1 k x1 true) else (if x1 = 0 then (answer_Mode.j1 k x1 (x0 == 1)) else (answer_Mode.j1 k x1 false)))
def answer_Mode.j1 : Nat → Int → Bool → Option (Int × Bool)
  | 0, _, _ => none
  | k + 1, x1, x13 => if x13 = true then (some (4, true)) else (if x1 = 1 then (some (2, true)) else (some (0, false)))
end
def answer_Mode.f (k : Nat) (a0 : Int) (a1 : Int) : Option (Int × Bool) := if a0 < 1 then (answer_Mode.j0 k a0 a1 true) else (answer_Mode.j0 k a0 a1 (decide (a0 > 4)))
theorem answer_Mode.mono_l : ∀ k, (∀ y0 y1 y2, LeO (answer_Mode.j0 k y0 y1 y2) (answer_Mode.j0 (k + 1) y0 y1 y2)) ∧ (∀ y0 y1, LeO (answer_Mode.j1 k y0 y1) (answer_Mode.j1 (k + 1) y0 y1))
  | 0 => ⟨fun _ _ _ r h => by simp [answer_Mode.j0] at h, fun _ _ r h => by simp [answer_Mode.j1] at h⟩
  | k + 1 => by
    obtain ⟨ih0, ih1⟩ := answer_Mode.mono_l k
    refine ⟨?_, ?_⟩
    · intro y0 y1 y2
      unfold answer_Mode.j0
      repeat' first
      | (with_reducible exact ih0 _ _ _)
      | (with_reducible exact ih1 _ _)
      | (with_reducible exact LeO.refl _)
      | (with_reducible exact LeO.none _)
      | (with_reducible refine LeO.ite ?_ ?_)
      | (with_reducible refine LeO.bind ?_ (fun _ => ?_))
      | exact ih0 _ _ _
      | exact ih1 _ _
      | exact LeO.none _
      | refine LeO.ite ?_ ?_
      | refine LeO.bind ?_ (fun _ => ?_)
    · intro y0 y1
      unfold answer_Mode.j1
      repeat' first
      | (with_reducible exact ih0 _ _ _)
      | (with_reducible exact ih1 _ _)
      | (with_reducible exact LeO.refl _)
      | (with_reducible exact LeO.none _)
      | (with_reducible refine LeO.ite ?_ ?_)
      | (with_reducible refine LeO.bind ?_ (fun _ => ?_))
      | exact ih0 _ _ _
      | exact ih1 _ _
      | exact LeO.none _
      | refine LeO.ite ?_ ?_
      | refine LeO.bind ?_ (fun _ => ?_)
theorem answer_Mode.mono : ∀ a0 a1 k, LeO (answer_Mode.f k a0 a1) (answer_Mode.f (k + 1) a0 a1) := by
  intro a0 a1 k
  obtain ⟨ih0, ih1⟩ := answer_Mode.mono_l k
  unfold answer_Mode.f
  repeat' first
      | (with_reducible exact ih0 _ _ _)
      | (with_reducible exact ih1 _ _)
      | (with_reducible exact LeO.refl _)
      | (with_reducible exact LeO.none _)
      | (with_reducible refine LeO.ite ?_ ?_)
      | (with_reducible refine LeO.bind ?_ (fun _ => ?_))
      | exact ih0 _ _ _
      | exact ih1 _ _
      | exact LeO.none _
      | refine LeO.ite ?_ ?_
      | refine LeO.bind ?_ (fun _ => ?_)
set_option maxHeartbeats 8000000 in
set_option maxRecDepth 100000 in
theorem answer_Mode.calls (k : Nat) (a0 : Int) (a1 : Int) (r1 : Int) (r2 : Bool) (w : World) (h : answer_Mode.f k a0 a1 = some (r1, r2)) :
    Calls Try.prog 45 #[.int .i64 a0, .int .i64 a1] w fun e w' => e = .returned (.tuple #[.int .i64 r1, .bool r2]) ∧ Drawn0 w w' := by
  have H : (if a0 < 1 then (answer_Mode.j0 k a0 a1 true) else (answer_Mode.j0 k a0 a1 (decide (a0 > 4)))) = some (r1, r2) := h
  clear h
  have HC3 := Aside0.mk H
  clear H
  go_enter Try.func45, Try.ntmps45
  go_upto_region 1 with (fail)
  go_cut [6] (fun v6 wc => ∃ (kq : Nat) (x6_2 : Bool), v6 = .bool x6_2 ∧ Aside0 (answer_Mode.j0 kq a0 a1 x6_2 = some (r1, r2)) ∧ Aside0 (kq ≤ k) ∧ Drawn0 w wc)
  case first =>
    have H := HC3.out
    clear HC3
    by_cases c4 : a0 < 1
    · rw [if_pos c4] at H
      have c4b0 : decide (a0 < 1) = true := decide_eq_true c4
      clear c4
      (first | rw [c4b0] | (simp only [i64_w, i32_w]; rw [c4b0]) | skip)
      have H' := Aside0.mk H
      clear H
      go_wp2
      go_meet
      case rel => exact ⟨_, (true), (by first | rfl | (simp; done) | (simp [*]; done)), H', ⟨by first | omega | exact Nat.le_refl _⟩, by repeat (first | exact Drawn0.refl _ | apply Drawn0.step)⟩
    · rw [if_neg c4] at H
      have c4b0 : decide (a0 < 1) = false := decide_eq_false c4
      clear c4
      (first | rw [c4b0] | (simp only [i64_w, i32_w]; rw [c4b0]) | skip)
      have H' := Aside0.mk H
      clear H
      go_wp2
      go_meet
      case rel => exact ⟨_, (decide (a0 > 4)), (by first | rfl | (simp; done) | (simp [*]; done)), H', ⟨by first | omega | exact Nat.le_refl _⟩, by repeat (first | exact Drawn0.refl _ | apply Drawn0.step)⟩
  case rest =>
    clear HC3
    try clear p2
    try clear c4
    try clear c4b0
    obtain ⟨kq, x6_2, rfl, HA, HJ2, ⟨mc2, rfl⟩⟩ := hcut
    cases kq with
    | zero => exact absurd HA.out (by simp [answer_Mode.j0])
    | succ kj2 =>
      have H := HA.out
      clear HA
      simp only [answer_Mode.j0] at H
      by_cases c5 : x6_2 = true
      · subst c5
        have H1 : (some (0, false)) = some (r1, r2) := by rw [if_pos rfl] at H; exact H
        clear H
        have H := H1
        clear H1
        simp only [Option.some.injEq, Prod.mk.injEq] at H
        obtain ⟨rfl, rfl⟩ := H
        go_wp2
        go_ret2
        exact ⟨by first | rfl | (simp; done) | (simp [*]; done), by repeat (first | exact Drawn0.refl _ | apply Drawn0.step)⟩
      · replace c5 := Bool.eq_false_iff.mpr c5
        subst c5
        have H1 : (if a1 = 3 then (answer_Mode.j1 kj2 a1 true) else (if a1 = 0 then (answer_Mode.j1 kj2 a1 (a0 == 1)) else (answer_Mode.j1 kj2 a1 false))) = some (r1, r2) := by rw [if_neg (show ¬ (false = true) by decide)] at H; exact H
        clear H
        have H := H1
        clear H1
        have HC6 := Aside0.mk H
        clear H
        go_upto_region 3 with (fail)
        go_cut [13] (fun v13 wc => ∃ (kq : Nat) (x13_5 : Bool), v13 = .bool x13_5 ∧ Aside0 (answer_Mode.j1 kq a1 x13_5 = some (r1, r2)) ∧ Aside0 (kq ≤ kj2) ∧ Drawn0 w wc)
        case first =>
          have H := HC6.out
          clear HC6
          by_cases c7 : a1 = 3
          · rw [if_pos c7] at H
            have c7b0 : (a1 == 3) = true := beq_iff_eq.mpr c7
            have c7b1 : (a1 != 3) = false := bne_eq_false_iff_eq.mpr c7
            clear c7
            (first | rw [c7b0] | (simp only [i64_w, i32_w]; rw [c7b0]) | skip)
            have H' := Aside0.mk H
            clear H
            go_wp2
            go_meet
            case rel => exact ⟨_, (true), (by first | rfl | (simp; done) | (simp [*]; done)), H', ⟨by have := HJ2.out; first | omega | exact Nat.le_refl _⟩, by repeat (first | exact Drawn0.refl _ | apply Drawn0.step)⟩
          · rw [if_neg c7] at H
            have c7b0 : (a1 == 3) = false := beq_eq_false_iff_ne.mpr c7
            have c7b1 : (a1 != 3) = true := bne_iff_ne.mpr c7
            (first | rw [c7b0] | (simp only [i64_w, i32_w]; rw [c7b0]) | skip)
            by_cases c8 : a1 = 0
            · rw [if_pos c8] at H
              have c8b0 : (a1 == 0) = true := beq_iff_eq.mpr c8
              have c8b1 : (a1 != 0) = false := bne_eq_false_iff_eq.mpr c8
              clear c8
              have H' := Aside0.mk H
              clear H
              go_wp2
              go_meet
              case rel => exact ⟨_, ((a0 == 1)), (by first | rfl | (simp; done) | (simp [*]; done)), H', ⟨by have := HJ2.out; first | omega | exact Nat.le_refl _⟩, by repeat (first | exact Drawn0.refl _ | apply Drawn0.step)⟩
            · rw [if_neg c8] at H
              have c8b0 : (a1 == 0) = false := beq_eq_false_iff_ne.mpr c8
              have c8b1 : (a1 != 0) = true := bne_iff_ne.mpr c8
              have H' := Aside0.mk H
              clear H
              go_wp2
              go_meet
              case rel => exact ⟨_, (false), (by first | rfl | (simp; done) | (simp [*]; done)), H', ⟨by have := HJ2.out; first | omega | exact Nat.le_refl _⟩, by repeat (first | exact Drawn0.refl _ | apply Drawn0.step)⟩
        case rest =>
          clear HC6
          try clear c2
          try clear p2
          try clear c4
          try clear c4b0
          try clear c5
          try clear c7
          try clear c7b0
          try clear c7b1
          try clear c8
          try clear c8b0
          try clear c8b1
          try clear p2
          obtain ⟨kq, x13_5, rfl, HA, HJ5, ⟨mc5, rfl⟩⟩ := hcut
          cases kq with
          | zero => exact absurd HA.out (by simp [answer_Mode.j1])
          | succ kj5 =>
            have H := HA.out
            clear HA
            simp only [answer_Mode.j1] at H
            by_cases c9 : x13_5 = true
            · subst c9
              have H1 : (some (4, true)) = some (r1, r2) := by rw [if_pos rfl] at H; exact H
              clear H
              have H := H1
              clear H1
              simp only [Option.some.injEq, Prod.mk.injEq] at H
              obtain ⟨rfl, rfl⟩ := H
              go_wp2
              go_ret2
              exact ⟨by first | rfl | (simp; done) | (simp [*]; done), by repeat (first | exact Drawn0.refl _ | apply Drawn0.step)⟩
            · replace c9 := Bool.eq_false_iff.mpr c9
              subst c9
              have H1 : (if a1 = 1 then (some (2, true)) else (some (0, false))) = some (r1, r2) := by rw [if_neg (show ¬ (false = true) by decide)] at H; exact H
              clear H
              have H := H1
              clear H1
              by_cases c10 : a1 = 1
              · rw [if_pos c10] at H
                have c10b0 : (a1 == 1) = true := beq_iff_eq.mpr c10
                have c10b1 : (a1 != 1) = false := bne_eq_false_iff_eq.mpr c10
                clear c10
                simp only [Option.some.injEq, Prod.mk.injEq] at H
                obtain ⟨rfl, rfl⟩ := H
                go_wp2
                go_ret2
                exact ⟨by first | rfl | (simp; done) | (simp [*]; done), by repeat (first | exact Drawn0.refl _ | apply Drawn0.step)⟩
              · rw [if_neg c10] at H
                have c10b0 : (a1 == 1) = false := beq_eq_false_iff_ne.mpr c10
                have c10b1 : (a1 != 1) = true := bne_iff_ne.mpr c10
                simp only [Option.some.injEq, Prod.mk.injEq] at H
                obtain ⟨rfl, rfl⟩ := H
                go_wp2
                go_ret2
                exact ⟨by first | rfl | (simp; done) | (simp [*]; done), by repeat (first | exact Drawn0.refl _ | apply Drawn0.step)⟩

/-! ### ext_known: function 70 -/
def ext_known.f (a0 : Int) : Option (Bool) := if a0 ≥ 1 then (some (decide (a0 ≤ 4))) else (some false)
set_option maxHeartbeats 8000000 in
set_option maxRecDepth 100000 in
theorem ext_known.calls (a0 : Int) (r : Bool) (w : World) (h : ext_known.f a0 = some r) :
    Calls Try.prog 70 #[.int .i64 a0] w fun e w' => e = .returned (.bool r) ∧ Drawn0 w w' := by
  have H : (if a0 ≥ 1 then (some (decide (a0 ≤ 4))) else (some false)) = some r := h
  clear h
  by_cases c2 : a0 ≥ 1
  · rw [if_pos c2] at H
    have c2b0 : decide (1 ≤ a0) = true := decide_eq_true c2
    clear c2
    obtain rfl := Option.some.inj H
    go_enter Try.func70, Try.ntmps70
    go_wp2
    go_ret
    exact ⟨by first | rfl | (simp; done) | (simp [*]; done), by repeat (first | exact Drawn0.refl _ | apply Drawn0.step)⟩
  · rw [if_neg c2] at H
    have c2b0 : decide (1 ≤ a0) = false := decide_eq_false c2
    clear c2
    obtain rfl := Option.some.inj H
    go_enter Try.func70, Try.ntmps70
    go_wp2
    go_ret
    exact ⟨by first | rfl | (simp; done) | (simp [*]; done), by repeat (first | exact Drawn0.refl _ | apply Drawn0.step)⟩

end Go.Proofs.Ytlaaofbmnaekoaa.MWholeClient
