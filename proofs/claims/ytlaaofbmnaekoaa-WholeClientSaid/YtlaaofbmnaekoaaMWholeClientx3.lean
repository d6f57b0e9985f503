-- This text was written by a program of this session (a changed scratch copy of a tool of the kit; NOTES.md tells the changes).
import Derived.Test.YtlaaofbmnaekoaaMWholeClientx0
import Derived.Test.YtlaaofbmnaekoaaMWholeClientx2
namespace Go.Proofs.Ytlaaofbmnaekoaa.MWholeClient
open Go.RowKit Go.Proofs.YtlaaofbmnaekoaaW.PrintWords Go.Proofs.YtlaaofbmnaekoaaW.PrintLast Go.Proofs.YtlaaofbmnaekoaaW.PrintMore
attribute [local go_sem] max2_int min2_int max_two min_two max_three min_three max_four min_four   -- for this text's walks alone
set_option linter.unusedVariables false
set_option linter.unusedSimpArgs false

/-! ### octets_List_uint16: function 67 -/
section
attribute [local go_sem] Oper.semAt_some
theorem octets_List_uint16.hmx : Try.prog.follows .mixedOrders = true := by kernel_rfl
theorem octets_List_uint16.drewN_grownBy (w : World) (m : Nat) : w.grownBy (w.drewN m) none := ⟨rfl, rfl, rfl, Nat.le_refl _, fun _ _ _ => rfl⟩
open octets_List_uint16 in
set_option maxRecDepth 100000 in
set_option maxHeartbeats 4000000 in
theorem octets_List_uint16.chunk1 (n l Bs Bn q : Nat) (hn : 1 ≤ n) (A : Option Addr) (ad : Addr) (hA : 0 < q → A = some ad) (c : Nat) (hc : q * 2 ≤ c) (hb : q * 2 ≤ 140737488355328)
    (J Jx : List (Fin q) → World → Prop) (B : Nat) (hJ : AbidesFrom B J)
    (hY : ∀ pre x W, J pre W → pre.length < q → YieldAt Fence.wide (n - 1) Try.prog l #[.slice (some (ad.add (x.val * 2))) 2 2] W fun e W' =>
      (e = .returned (.bool true) ∧ J (pre ++ [x]) W' ∧ ((∀ v, Boxed W Bs 39 v → Boxed W' Bs 39 v) ∧ (∀ v, Boxed W Bn 3 v → Boxed W' Bn 3 v))) ∨ (e = .returned (.bool false) ∧ Jx (pre ++ [x]) W'))
    (W : World) (hBs : Boxed W Bs 39 (.slice A (q * 2) c)) (hBn : Boxed W Bn 3 (.int .i64 2)) (h0 : J [] W) :
    CallsIn Fence.wide n Try.prog 81 #[.func (.yield l) #[] #[], .pointer (some ⟨Bs, 0, none⟩), .pointer (some ⟨Bn, 0, none⟩)] W fun e W' => (∃ v, e = .returned v) ∧
      ((∃ ys : List (Fin q), ys.map Fin.val = List.range q ∧ J ys W') ∨ (∃ pre, True ∧ Jx pre W')) := by
  refine callsIn_of_wp Try.func81 rfl trivial ?_ rfl
  simp only [Try.ntmps81, List.size_toArray, List.length_cons, List.length_nil, Nat.reduceAdd, Nat.reduceSub, Array.replicate_succ, Array.replicate_zero, List.push_toArray, List.append_toArray, List.nil_append, List.cons_append]
  gi_wp2
  gi_loopw [4] (fun i wr => ∃ (pre : List (Fin q)) (k : Nat), pre.map Fin.val = List.range k ∧ k ≤ q ∧ i = .int .i64 ((k * 2 : Nat) : Int) ∧ J pre wr ∧ Boxed wr Bs 39 (.slice A (q * 2) c) ∧ Boxed wr Bn 3 (.int .i64 2))
    (fun i _ => q * 2 - (intOf i).toNat)
  case atStart => exact ⟨[], 0, rfl, Nat.zero_le _, rfl, h0, hBs, hBn⟩
  case round =>
    obtain ⟨pre, k, hp, hk, rfl, hJs, hbs, hbn⟩ := hrel
    have hcs := hbs.cell
    have hcn := hbn.cell
    have hpl : pre.length = k := by have := congrArg List.length hp; simpa using this
    by_cases hlt : k < q
    · have hA' := hA (by omega)
      subst hA'
      have d1 : decide (((k * 2 : Nat) : Int) < ((q * 2 : Nat) : Int)) = true := by simp; omega
      have q1 : ((k * 2 : Nat) : Int) ≤ ((q * 2 : Nat) : Int) := by omega
      have q2 : k * 2 ≤ q * 2 := by omega
      gi_wp2
      refine wpIn_wide.2 ?_
      go_quiet (fail)
      rename_i nq
      obtain ⟨fn, tmps, assign, body, hy, hR⟩ := hY pre ⟨k, hlt⟩ (wr.drewN nq) (hJ _ _ _ none hJs (drewN_grownBy wr nq) (fun r e => by cases e)) (by rw [hpl]; exact hlt)
      dsimp only at hy
      have hcs1 : (wr.drewN nq).cell? ⟨Bs, 0, none⟩ = _ := hcs
      have hcn1 : (wr.drewN nq).cell? ⟨Bn, 0, none⟩ = _ := hcn
      have q3 : ((k * 2 : Nat) : Int) + 2 ≤ ((q * 2 : Nat) : Int) := by omega
      have q4 : ((k * 2 : Nat) : Int) + 2 ≤ (c : Int) := by omega
      have q5 : wrap64 (((k * 2 : Nat) : Int) + 2) = ((k * 2 + 2 : Nat) : Int) := by unfold wrap64; omega
      gi_wp2
      refine hR.mono ?_
      rintro e W3 (⟨rfl, hJ3, hk3, hk4⟩ | ⟨rfl, hJx3⟩)
      · have hbs3 := hk3 _ hbs
        have hbn3 := hk4 _ hbn
        have hcs3 := hbs3.cell
        have hcn3 := hbn3.cell
        gi_wp2
        go_roundw
        case rel => exact ⟨pre ++ [⟨k, hlt⟩], k + 1, by simp [hp, List.range_succ], by omega, by simp; omega, hJ3, hbs3, hbn3⟩
        case measure => simp [intOf]; omega
      · gi_wp2
        refine bodyPost_ret (results_none rfl _ _ _) rfl ?_
        exact ⟨⟨_, rfl⟩, .inr ⟨_, trivial, hJx3⟩⟩
    · obtain rfl : k = q := by omega
      have d1 : decide (((k * 2 : Nat) : Int) < ((k * 2 : Nat) : Int)) = false := by simp
      gi_wp2
      go_end0
      exact ⟨⟨_, rfl⟩, .inl ⟨_, hp, hJs⟩⟩

set_option maxHeartbeats 4000000 in
theorem octets_List_uint16.chunk0 (A : Option Addr) (m c : Nat) (w : World) : Calls Try.prog 77 #[.slice A m c, .int .i64 2] w fun e w' =>
    e = .returned (.func (.func 81) #[] #[.pointer (some ⟨w.heap.size, 0, none⟩), .pointer (some ⟨w.heap.size + 1, 0, none⟩)]) ∧ ∃ m_, w' = (((w.alloc (.cells #[.slice A m c] 39)).alloc (.cells #[.int .i64 2] 3))).drewN m_ := by
  go_enter Try.func77, Try.ntmps77
  go_wp2
  go_ret
  exact ⟨rfl, 0, rfl⟩
def octets_List_uint16.keep (Bs Bn : Nat) (W W' : World) : Prop := (∀ v, Boxed W Bs 39 v → Boxed W' Bs 39 v) ∧ (∀ v, Boxed W Bn 3 v → Boxed W' Bn 3 v)
theorem octets_List_uint16.keep_t {Bs Bn : Nat} {A B C : World} (h : octets_List_uint16.keep Bs Bn A B) (k : octets_List_uint16.keep Bs Bn B C) : octets_List_uint16.keep Bs Bn A C := ⟨fun v hv => k.1 v (h.1 v hv), fun v hv => k.2 v (h.2 v hv)⟩
theorem octets_List_uint16.keep_b {Bs Bn : Nat} (W : World) (l : Nat) (o o' : Obj) (hl : W.heap[l]? = some o) (ho : o.isCells = false) : octets_List_uint16.keep Bs Bn W (W.putObj l o') := by
  constructor <;>
  · intro v hv
    refine hv.kept (grownBy_putObj' W l o') (fun e => ?_)
    cases e
    rw [show W.heap[_]? = _ from hv] at hl
    cases hl
    cases ho
theorem octets_List_uint16.stops (n Bs Bn q : Nat) (hn : 1 ≤ n) (A : Option Addr) (ad : Addr) (hA : 0 < q → A = some ad) (c : Nat) (hc : q * 2 ≤ c) (hb : q * 2 ≤ 140737488355328) (w : World) (hs : Bs < w.heap.size) (hn' : Bn < w.heap.size) (hBs : Boxed w Bs 39 (.slice A (q * 2) c)) (hBn : Boxed w Bn 3 (.int .i64 2)) :
    SeqStopsK Fence.wide n Try.prog 81 #[.pointer (some ⟨Bs, 0, none⟩), .pointer (some ⟨Bn, 0, none⟩)] (fun x : Fin q => #[.slice (some (ad.add (x.val * 2))) 2 2]) (octets_List_uint16.keep Bs Bn) (fun ys => ys.map Fin.val = List.range q) (fun _ => True) q w :=
  fun l J Jx W hW hJ _ hY h0 => octets_List_uint16.chunk1 n l Bs Bn q hn A ad hA c hc hb J Jx _ hJ hY W ((hW.block Bs hs).trans hBs) ((hW.block Bn hn').trans hBn) h0
theorem octets_List_uint16.cut (w : World) (ad : Addr) (l0 : List Int) (m : Nat) (h : Kd.C (Kd.int .u8) w (some ad) l0.length l0) (hm : m + 2 ≤ l0.length) : Kd.C (Kd.int .u8) w (some (ad.add m)) 2 ((l0.drop m).take 2) := by
  have hl : ((l0.drop m).take 2).length = 2 := by simp; omega
  refine ⟨hl, by decide, fun _ => ⟨_, rfl, fun j p hj => ?_⟩⟩
  obtain ⟨ad', e, hc⟩ := h.2.2 (by omega)
  cases e
  have hj1 : j < 2 := by have := (List.getElem?_eq_some_iff.1 hj).1; omega
  rw [List.getElem?_take_of_lt hj1, List.getElem?_drop] at hj
  obtain ⟨c1, h1, h2, h3⟩ := hc (m + j) p hj
  refine ⟨c1, h1, h2, fun i u hu => ?_⟩
  have := h3 i u hu
  rw [show (ad.add m).add (j * (Kd.int .u8).sz + i) = ad.add ((m + j) * (Kd.int .u8).sz + i) by
    have hz : (Kd.int .u8).sz = 1 := rfl
    rw [hz, Addr.add_add]; congr 1; omega]
  exact this

def octets_List_uint16.go (k : Nat) (l : List Int) : Nat → Option (List Int)
  | 0 => some []
  | n + 1 => (octets_List_uint16.go k l n).bind fun xs => (octets_word_uint16.f k ((l.drop (n * 2)).take 2)).bind fun x => some (xs ++ [x])
def octets_List_uint16.f (k : Nat) (l0 : List Int) (a1 a2 : Int) : Option (List Int × Option Int) :=
  (octets_Size_uint16.f k).bind fun z => if z = 2 ∧ l0.length < 35184372088832 then (
    if a1 < 0 then some ([], some 1) else if (l0.length : Int) < a1 then some ([], some 1) else if a2 < 0 then some ([], some 1)
    else if ((l0.length : Int) - a1) / 2 < a2 then some ([], some 4)
    else (octets_List_uint16.go k (l0.drop a1.toNat) a2.toNat).bind fun xs => some (xs, none)) else none
theorem octets_List_uint16.go_mono (k : Nat) (l : List Int) : ∀ n, LeO (octets_List_uint16.go k l n) (octets_List_uint16.go (k + 1) l n)
  | 0 => fun _ h => h
  | n + 1 => by
    intro r h
    simp only [octets_List_uint16.go] at h ⊢
    cases h1 : octets_List_uint16.go k l n with
    | none => rw [h1] at h; cases h
    | some xs =>
      rw [h1] at h
      rw [octets_List_uint16.go_mono k l n _ h1]
      simp only [Option.bind_some] at h ⊢
      cases h2 : octets_word_uint16.f k ((l.drop (n * 2)).take 2) with
      | none => rw [h2] at h; cases h
      | some x => rw [h2] at h; rw [octets_word_uint16.mono _ _ _ h2]; exact h
theorem octets_List_uint16.mono : ∀ a0 a1 a2 k, LeO (octets_List_uint16.f k a0 a1 a2) (octets_List_uint16.f (k + 1) a0 a1 a2) := by
  intro a0 a1 a2 k r h
  unfold octets_List_uint16.f at h ⊢
  cases h1 : octets_Size_uint16.f k with
  | none => rw [h1] at h; cases h
  | some z =>
    rw [h1] at h
    rw [octets_Size_uint16.mono _ _ h1]
    simp only [Option.bind_some] at h ⊢
    split at h
    · rename_i hz
      rw [if_pos hz]
      repeat' (split at h)
      · rw [if_pos (by assumption)]; exact h
      · rw [if_neg (by assumption), if_pos (by assumption)]; exact h
      · rw [if_neg (by assumption), if_neg (by assumption), if_pos (by assumption)]; exact h
      · rw [if_neg (by assumption), if_neg (by assumption), if_neg (by assumption), if_pos (by assumption)]; exact h
      · rw [if_neg (by assumption), if_neg (by assumption), if_neg (by assumption), if_neg (by assumption)]
        cases h2 : octets_List_uint16.go k (a0.drop a1.toNat) a2.toNat with
        | none => rw [h2] at h; cases h
        | some xs => rw [h2] at h; rw [octets_List_uint16.go_mono _ _ _ _ h2]; exact h
    · cases h
theorem octets_List_uint16.go_some (k : Nat) (l : List Int) : ∀ n xs, octets_List_uint16.go k l n = some xs → ∃ val : Nat → Int, xs = (List.range n).map val ∧ ∀ j, j < n → octets_word_uint16.f k ((l.drop (j * 2)).take 2) = some (val j)
  | 0, xs, h => ⟨fun _ => 0, by simpa [octets_List_uint16.go] using h.symm, fun j hj => by omega⟩
  | n + 1, xs, h => by
    simp only [octets_List_uint16.go] at h
    cases h1 : octets_List_uint16.go k l n with
    | none => rw [h1] at h; cases h
    | some ys =>
      rw [h1] at h
      simp only [Option.bind_some] at h
      cases h2 : octets_word_uint16.f k ((l.drop (n * 2)).take 2) with
      | none => rw [h2] at h; cases h
      | some x =>
        rw [h2] at h
        obtain ⟨val, rfl, hv⟩ := octets_List_uint16.go_some k l n ys h1
        refine ⟨fun j => if j < n then val j else x, ?_, fun j hj => ?_⟩
        · rw [← Option.some.inj h, List.range_succ, List.map_append]
          congr 1
          · exact List.map_congr_left fun j hj => by rw [if_pos (List.mem_range.1 hj)]
          · simp
        · by_cases hjn : j < n
          · rw [hv j hjn]; simp [hjn]
          · obtain rfl : j = n := by omega
            rw [h2]; simp
theorem octets_List_uint16.enters (args : Array Value) (w : World) : (callFunc 81 args).run Try.prog w = .ok (.enter 81 args) w := by
  have h : (Try.f81.name == "runtime.NumGoroutine") = false := by kernel_rfl
  have h1 : Try.f81.name ≠ "runtime.NumGoroutine" := by simpa using h
  simp [callFunc, Try.func81, h1, show Try.f81.body = some _ from rfl, mark]
theorem octets_List_uint16.reps (k : IntKind) (xs : List Int) : Reps (fun x cs => cs = [Value.int k x]) 1 xs (xs.map (Value.int k)) := by
  refine ⟨by simp, fun j p hj => ?_⟩
  have hj1 := (List.getElem?_eq_some_iff.1 hj).1
  apply List.ext_getElem?
  intro i
  cases i with
  | zero => simp [List.getElem?_take, List.getElem?_drop, hj]
  | succ i => simp [List.getElem?_take]
theorem octets_List_uint16.info : (Try.prog.info? 48).map (fun i => (i.zero, i.size, i.bytes)) = some (some (.int .u16 0), 1, 2) := by kernel_rfl
theorem octets_List_uint16.append_op {F : Fence} {n : Nat} {P : Program} (w : World) {o : Oper} {a : Act} {Q : Exit → Act → World → Prop} {K : Act → World → Prop}
    (s x : Operand) (t : TypeId) (hop : o.op = Op.call { callee := Callee.builtin Builtin.append, args := #[s, x], argTypes := #[t, t] })
    (base : Nat) (e : TypeId) (i : TypeInfo) (z : Value) (size bytes : Nat) (h1 : P.underlying t = some (.slice e)) (h2 : P.info? e = some i) (h3 : i.zero = some z) (h4 : i.size = size) (h5 : i.bytes = bytes) (h6 : z.cells.size = size) (h7 : 0 < size)
    (v : Value) (k : Nat) (xs : List Value) (hs : a.eval s = v) (hown : w.ownsRow base e size v k xs) (ad : Addr) (m c : Nat) (news : List Value) (hx : a.eval x = .slice (some ad) m c) (hn : news.length = m * size)
    (hc : ∀ j u, news[j]? = some u → w.cell? (ad.add j) = some u) (h1c : ∀ u ∈ news, u.oneCell' = true) (b1 : k + m ≤ maxLen) (b2 : (k + m) * bytes ≤ 140737488355328) (b3 : base ≤ w.heap.size)
    (hK : ∀ v' w', w'.ownsRow base e size v' (k + m) (xs ++ news) → w.grownBy w' v.ownBlock → K (a.put o.dst v') w') :
    Oper.wpIn F n P o a w K Q := by
  obtain ⟨v', w', hrun, r1, r2, r3⟩ := run_append_own (P := P) w base t o.type e i z size bytes h1 h2 h3 h4 h5 h6 h7 v k xs hown ad m c news hn hc h1c b1 b2 b3
  unfold Oper.wpIn
  refine ⟨?_, ?_⟩
  · simp [Oper.about, hop, resolve, Target.leads, Sem.run_pure]
  · rw [Oper.semAt_plain F _ _ (by rw [hop]; intro c hc'; cases hc')]
    simp [execOp, hop, resolve, invoke, builtin, hs, hx, hrun, Result.andThen]
    exact hK v' w' r1 r2
set_option maxHeartbeats 4000000 in
set_option maxRecDepth 100000 in
theorem octets_List_uint16.calls0 (k : Nat) (A0 : Option Addr) (c0 : Nat) (l0 : List Int) (a1 a2 : Int) (r : List Int × Option Int) (w : World) (hr0 : Kd.C (Kd.int .u8) w A0 l0.length l0) (hc0 : l0.length ≤ c0) (h : octets_List_uint16.f k l0 a1 a2 = some r) :
    Calls Try.prog 67 #[.slice A0 l0.length c0, .int .i64 a1, .int .i64 a2] w fun e w' => ∃ v0_ : Value, e = .returned (.tuple #[v0_, errW r.2]) ∧ Kd.R (Kd.int .u16) 48 w' w.heap.size (fun _ => True) v0_ r.1 ∧ Below w.heap.size w w' := by
  unfold octets_List_uint16.f at h
  cases hz : octets_Size_uint16.f k with
  | none => rw [hz] at h; cases h
  | some z =>
  rw [hz] at h
  simp only [Option.bind_some] at h
  by_cases hg : z = 2 ∧ l0.length < 35184372088832
  case neg => rw [if_neg hg] at h; cases h
  rw [if_pos hg] at h
  obtain ⟨rfl, hl⟩ := hg
  have HZ := Aside0.mk hz
  clear hz
  refine (callsIn_wide (n := 3)).1 ?_
  refine callsIn_of_wp_marks Try.func67 rfl trivial ?_ rfl
  simp only [Try.ntmps67, List.size_toArray, List.length_cons, List.length_nil, Nat.reduceAdd, Nat.reduceSub, Array.replicate_succ, Array.replicate_zero, List.push_toArray, List.append_toArray, List.nil_append, List.cons_append]
  refine wpIn_wide.2 ?_
  by_cases t1 : a1 < 0
  · rw [if_pos t1] at h
    obtain rfl := Option.some.inj h
    have d1 : decide (a1 < 0) = true := decide_eq_true t1
    go_wp2_with (go_at_call 68; refine (octets_Size_uint16.calls k _ _ HZ.out).mono ?_; rintro e wz ⟨rfl, ⟨m1, rfl⟩⟩)
    exact ⟨_, results_tmp2 rfl _ _ _, _, rfl, Kd.R_nil _ _ _ _ _, pw_below_drewN (Below.refl _ _) _⟩
  rw [if_neg t1] at h
  have d1 : decide (a1 < 0) = false := decide_eq_false t1
  by_cases t2 : (l0.length : Int) < a1
  · rw [if_pos t2] at h
    obtain rfl := Option.some.inj h
    have d2 : decide ((l0.length : Int) < a1) = true := decide_eq_true t2
    go_wp2_with (go_at_call 68; refine (octets_Size_uint16.calls k _ _ HZ.out).mono ?_; rintro e wz ⟨rfl, ⟨m1, rfl⟩⟩)
    exact ⟨_, results_tmp2 rfl _ _ _, _, rfl, Kd.R_nil _ _ _ _ _, pw_below_drewN (Below.refl _ _) _⟩
  rw [if_neg t2] at h
  have d2 : decide ((l0.length : Int) < a1) = false := decide_eq_false t2
  by_cases t3 : a2 < 0
  · rw [if_pos t3] at h
    obtain rfl := Option.some.inj h
    have d3 : decide (a2 < 0) = true := decide_eq_true t3
    go_wp2_with (go_at_call 68; refine (octets_Size_uint16.calls k _ _ HZ.out).mono ?_; rintro e wz ⟨rfl, ⟨m1, rfl⟩⟩)
    exact ⟨_, results_tmp2 rfl _ _ _, _, rfl, Kd.R_nil _ _ _ _ _, pw_below_drewN (Below.refl _ _) _⟩
  rw [if_neg t3] at h
  have d3 : decide (a2 < 0) = false := decide_eq_false t3
  obtain ⟨m, rfl⟩ := Int.eq_ofNat_of_zero_le (show 0 ≤ a1 by omega)
  obtain ⟨q, rfl⟩ := Int.eq_ofNat_of_zero_le (show 0 ≤ a2 by omega)
  have e1 : wrap64 ((l0.length : Int) - (m : Int)) = ((l0.length - m : Nat) : Int) := by unfold wrap64; omega
  have e2 : ((l0.length - m : Nat) : Int).tdiv 2 = (((l0.length - m) / 2 : Nat) : Int) := rfl
  by_cases t4 : ((l0.length : Int) - (m : Int)) / 2 < (q : Int)
  · rw [if_pos t4] at h
    obtain rfl := Option.some.inj h
    have d4 : decide ((((l0.length - m) / 2 : Nat) : Int) < (q : Int)) = true := decide_eq_true (by omega)
    go_wp2_with (go_at_call 68; refine (octets_Size_uint16.calls k _ _ HZ.out).mono ?_; rintro e wz ⟨rfl, ⟨m1, rfl⟩⟩)
    exact ⟨_, results_tmp2 rfl _ _ _, _, rfl, Kd.R_nil _ _ _ _ _, pw_below_drewN (Below.refl _ _) _⟩
  rw [if_neg t4] at h
  have d4 : decide ((((l0.length - m) / 2 : Nat) : Int) < (q : Int)) = false := decide_eq_false (by omega)
  have hq : m + q * 2 ≤ l0.length := by omega
  have e3 : wrap64 ((q : Int) * 2) = ((q * 2 : Nat) : Int) := by unfold wrap64; omega
  have e4 : wrap64 ((m : Int) + ((q * 2 : Nat) : Int)) = ((m + q * 2 : Nat) : Int) := by unfold wrap64; omega
  have q1 : ((m + q * 2 : Nat) : Int) ≤ (c0 : Int) := Int.ofNat_le.2 (Nat.le_trans hq hc0)
  cases hgo : octets_List_uint16.go k (l0.drop (m : Int).toNat) (q : Int).toNat with
  | none => rw [hgo] at h; cases h
  | some xs =>
  rw [hgo] at h
  obtain rfl := Option.some.inj h
  clear e2
  obtain ⟨val, rfl, hval⟩ := octets_List_uint16.go_some _ _ _ _ hgo
  clear hgo h
  obtain ⟨i0, hi, hz0, hz1, hz2⟩ := info_parts octets_List_uint16.info
  go_wp2_with (first | (go_at_call 68; refine (octets_Size_uint16.calls k _ _ HZ.out).mono ?_; rintro e wz ⟨rfl, ⟨m1, rfl⟩⟩) | (go_at_call 77; refine (octets_List_uint16.chunk0 _ _ _ _).mono ?_; rintro e wz ⟨rfl, ⟨m2, rfl⟩⟩))
  all_goals
    have hch : ∀ ad, A0 = some ad → ∀ j, j < q → Kd.C (Kd.int .u8) w (some ((ad.add m).add (j * 2))) 2 ((l0.drop (m + j * 2)).take 2) := by
      rintro ad rfl j hj
      rw [Addr.add_add]
      exact octets_List_uint16.cut w ad l0 _ hr0 (by omega)
    generalize hW0 : World.drewN _ m2 = W0
    have hsz : W0.heap.size = w.heap.size + 3 := by rw [← hW0]; simp [World.drewN]
    have hB0 : Below w.heap.size w W0 := by
      rw [← hW0]
      exact pw_below_drewN ((((pw_below_drewN (Below.refl _ _) _).alloc (Nat.le_refl _) _).alloc (by simp [World.drewN]) _).alloc (by simp [World.drewN]; omega) _) _
    have hbo : Boxed W0 w.heap.size 130 (.slice none 0 0) := by
      rw [← hW0]
      exact ((Boxed.new (w.drewN m1) 130 (.slice none 0 0)).alloc _).alloc _
    have hbn : Boxed W0 (w.heap.size + 2) 3 (.int .i64 2) := by
      have b := fun (v : Value) => Boxed.new (((w.drewN m1).alloc (.cells #[.slice none 0 0] 130)).alloc (.cells #[v] 39)) 3 (.int .i64 2)
      simp only [World.size_alloc] at b
      rw [← hW0]
      exact b _
    have bs := fun (v : Value) => (Boxed.new ((w.drewN m1).alloc (.cells #[.slice none 0 0] 130)) 39 v)
    simp only [World.size_alloc] at bs
    obtain ⟨A', c', ad', hA', hc', hch', hbs⟩ : ∃ (A' : Option Addr) (c' : Nat) (ad' : Addr), (0 < q → A' = some ad') ∧ q * 2 ≤ c' ∧
        (∀ j, j < q → Kd.C (Kd.int .u8) w (some (ad'.add (j * 2))) 2 ((l0.drop (m + j * 2)).take 2)) ∧ Boxed W0 (w.heap.size + 1) 39 (.slice A' (q * 2) c') := by
      first
        | exact ⟨A0, 0, ⟨0, 0, none⟩, fun h => by omega, by omega, fun j hj => by omega, by rw [← hW0]; exact (bs _).alloc _⟩
        | by_cases hq0 : q = 0
          · exact ⟨A0.map (fun x => x.add m), c0 - m, ⟨0, 0, none⟩, fun h => by omega, by omega, fun j hj => by omega, by rw [← hW0]; exact (bs _).alloc _⟩
          · obtain ⟨ad, hA, _⟩ := hr0.2.2 (by omega)
            exact ⟨A0.map (fun x => x.add m), c0 - m, ad.add m, fun _ => by rw [hA]; rfl, by omega, hch ad hA, by rw [← hW0]; exact (bs _).alloc _⟩
    clear hW0 bs
    refine (wpIn_wide (n := 3)).1 ?_
    refine wpIn_rangeFunc_ownF (Kp := octets_List_uint16.keep (w.heap.size + 1) (w.heap.size + 2)) rfl (by decide) (gf := 81) (lb := #[.pointer (some ⟨w.heap.size + 1, 0, none⟩), .pointer (some ⟨w.heap.size + 2, 0, none⟩)]) rfl trivial octets_List_uint16.enters
      (octets_List_uint16.stops 2 (w.heap.size + 1) (w.heap.size + 2) q (by decide) A' ad' hA' c' hc' (by omega) W0 (by omega) (by omega) hbs hbn) (fun h k => octets_List_uint16.keep_t h k) (fun W l o o' _ h ho _ => octets_List_uint16.keep_b W l o o' h ho) (Below.refl _ _) (fun _ => rfl)
      (fun pre W => ((∃ v, Boxed W w.heap.size 130 v ∧ W.ownsRow w.heap.size 48 1 v (pre.map (fun j => Value.int .u16 (val j.val))).length (pre.map (fun j => Value.int .u16 (val j.val))) ∧ True) ∧
        (Boxed W (w.heap.size + 1) 39 (.slice A' (q * 2) c') ∧ Boxed W (w.heap.size + 2) 3 (.int .i64 2))) ∧ Below w.heap.size w W)
      (fun _ _ _ => False)
      (OwnFrom.and (OwnFrom.and (Own.from (holdsRow_own w.heap.size w.heap.size 130 48 1 (fun pre : List (Fin q) => (pre.map (fun j => Value.int .u16 (val j.val))).length) (fun pre => pre.map (fun j => Value.int .u16 (val j.val))) (fun _ _ => True)) _) (OwnFrom.and (Own.from (boxed_own _ _ _) _) (Own.from (boxed_own _ _ _) _))) (ownFrom_below (Nat.le_refl _) (by omega)))
      (fun _ _ _ _ _ hs _ _ => hs)
      ⟨⟨⟨_, hbo, World.ownsRow_nil _ _ _ _, trivial⟩, hbs, hbn⟩, hB0⟩ ?_ ?_ ?_ ?_ ?_
    rotate_left
    · intro l x W K hK
      gi_wp2
      exact hK
    · rintro l pre x W ⟨⟨⟨v, hv, hrow, _⟩, hbs1, hbn1⟩, hB⟩ hlt
      have hd : 1 ≤ 3 - 1 - 1 := by decide
      have hmx := octets_List_uint16.hmx
      have hx : octets_word_uint16.f k ((l0.drop (m + x.val * 2)).take 2) = some (val x.val) := by
        have := hval x.val (by have := x.isLt; simp)
        rwa [List.drop_drop] at this
      have hck := (hch' x.val x.isLt)
      have hkw : Kd.C (Kd.int .u8) W (some (ad'.add (x.val * 2))) 2 ((l0.drop (m + x.val * 2)).take 2) := Kd.C_below hck hB
      gi_wp2
      refine wpIn_region_any hmx ?_
      obtain ⟨W1, hW1⟩ : ∃ W1, { W with drawn := W.drawn + 1 } = W1 := ⟨_, rfl⟩
      have hh : W1.heap = W.heap := by rw [← hW1]
      have hk1 : KeepsOthers W W1 := by rw [← hW1]; exact KeepsOthers.drew W
      have hb1 : ∀ N, Below N W W1 := fun N => by rw [← hW1]; exact ⟨rfl, rfl, rfl, Nat.le_refl _, fun _ _ => rfl⟩
      have hv1 : Boxed W1 w.heap.size 130 v := by unfold Boxed; rw [hh]; exact hv
      have hrow1 : W1.ownsRow w.heap.size 48 1 v (pre.map (fun j => Value.int .u16 (val j.val))).length (pre.map (fun j => Value.int .u16 (val j.val))) := by rw [← hW1]; exact pw_own_drewN hrow 1
      have hlc : ((l0.drop (m + x.val * 2)).take 2).length = 2 := by have := x.isLt; simp; omega
      have hcall : Calls Try.prog 78 #[.slice (some (ad'.add (x.val * 2))) 2 2] W1 fun e w' => e = .returned (.int .u16 (val x.val)) ∧ Drawn0 W1 w' := by
        have := octets_word_uint16.calls k (some (ad'.add (x.val * 2))) 2 _ _ W1 (by rw [hlc]; exact Kd.C_below hkw (hb1 _)) (by omega) hx
        rwa [hlc] at this
      rw [hW1]
      have hL1 := hv1.cell
      have hsz1 : w.heap.size ≤ W1.heap.size := by rw [hh]; exact hB.size
      have hpl : pre.length < q := hlt
      have hL2 : ∀ m3 : Nat, (W1.drewN m3).cell? ⟨w.heap.size, 0, none⟩ = some v := fun _ => hv1.cell
      have hL3 : ∀ (m3 : Nat) (o : Obj), ((W1.drewN m3).alloc o).cell? ⟨w.heap.size, 0, none⟩ = some v := fun m3 o => (Boxed.alloc (W := W1.drewN m3) hv1 o).cell
      have hkeep : ∀ (m3 : Nat) (tmp : Obj) (w1 : World) (u' : Value) (u : Value), Boxed W (w.heap.size + 1) 39 u → ((W1.drewN m3).alloc tmp).grownBy w1 v.ownBlock → Boxed (w1.setCell ⟨w.heap.size, 0, none⟩ u') (w.heap.size + 1) 39 u := by
        intro m3 tmp w1 u' u hu hg
        have hu1 : Boxed (W1.drewN m3) (w.heap.size + 1) 39 u := by unfold Boxed; show W1.heap[_]? = _; rw [hh]; exact hu
        exact ((hu1.alloc tmp).kept hg (hu1.not_row (by decide) (pw_own_drewN hrow1 m3))).other (by omega) _
      have hkeep2 : ∀ (m3 : Nat) (tmp : Obj) (w1 : World) (u' : Value) (u : Value), Boxed W (w.heap.size + 2) 3 u → ((W1.drewN m3).alloc tmp).grownBy w1 v.ownBlock → Boxed (w1.setCell ⟨w.heap.size, 0, none⟩ u') (w.heap.size + 2) 3 u := by
        intro m3 tmp w1 u' u hu hg
        have hu1 : Boxed (W1.drewN m3) (w.heap.size + 2) 3 u := by unfold Boxed; show W1.heap[_]? = _; rw [hh]; exact hu
        exact ((hu1.alloc tmp).kept hg (hu1.not_row (by decide) (pw_own_drewN hrow1 m3))).other (by omega) _
      clear hh
      refine wpAnyIn_ready (rs := [0, 1]) (by kernel_rfl) (by simp) ?_
      refine AllReadyIn.cons rfl (fun K hK => ?_) (AllReadyIn.cons rfl (fun K hK => ?_) AllReadyIn.nil)
      · go_simp
        refine hK _ _ ?_
        clear hK K
        refine wpAnyIn_ready (rs := [1]) (by kernel_rfl) (by simp) ?_
        refine AllReadyIn.cons rfl (fun K hK => ?_) AllReadyIn.nil
        go_simp
        refine hK _ _ ?_
        clear hK K
        refine wpAnyIn_ready (rs := [2]) (by kernel_rfl) (by simp) ?_
        refine AllReadyIn.cons rfl (fun K hK => ?_) AllReadyIn.nil
        go_simp
        try gi_at_call 78
        try (refine ⟨trivial, ?_⟩)
        refine (CallsIn.inRound l (callsIn_wide.2 hcall)).mono ?_
        rintro e wz ⟨rfl, ⟨m3, rfl⟩⟩
        go_simp
        refine hK _ _ ?_
        clear hK K
        refine wpAnyIn_ready (rs := [3]) (by kernel_rfl) (by simp) ?_
        refine AllReadyIn.cons rfl (fun K hK => ?_) AllReadyIn.nil
        go_simp
        refine hK _ _ ?_
        clear hK K
        refine wpAnyIn_ready (rs := [4]) (by kernel_rfl) (by simp) ?_
        refine AllReadyIn.cons rfl (fun K hK => ?_) AllReadyIn.nil
        rw [if_pos (by rfl)]
        refine octets_List_uint16.append_op _ (.tmp 47) (.tmp 50) 130 rfl w.heap.size 48 i0 (.int .u16 0) 1 2 Try.underlying130 hi hz0 hz1 hz2 rfl (by decide) v _ _ rfl ((pw_own_drewN hrow1 m3).alloc _) ⟨W1.heap.size, 0, none⟩ 1 1 [.int .u16 (val x.val)] rfl rfl (cell_one_new (W1.drewN m3) _ _) (by simp [Value.oneCell']) (by simp [maxLen]; omega) (by simp; omega) (by rw [World.size_alloc]; exact Nat.le_succ_of_le hsz1) ?_
        intro v' w1 r1 r2
        rw [List.length_map] at r1
        obtain ⟨g', cap', rfl⟩ := ownsRow_succ r1
        obtain ⟨hv3, hv4, hr2, hk2, hb2⟩ := Boxed.appended (W := W1.drewN m3) hv1 (by decide) (pw_own_drewN hrow1 m3) hsz1 (Nat.le_refl _) r1 r2
        have hc3 := hv3.cell
        have hf3 := hv3.frozen
        refine hK _ _ ?_
        clear hK K
        refine wpAnyIn_ready (rs := [5]) (by kernel_rfl) (by simp) ?_
        refine AllReadyIn.cons rfl (fun K hK => ?_) AllReadyIn.nil
        go_simp
        refine hK _ _ ?_
        clear hK K
        refine wpAnyIn_done (by kernel_rfl) ?_ _
        refine ⟨hk1.trans ((⟨Nat.le_refl _, fun _ _ h _ => h⟩ : KeepsOthers W1 (W1.drewN m3)).trans hk2), ⟨fun u hu => ?_, fun u hu => ?_⟩, ⟨⟨⟨_, hv4, by simpa using hr2, trivial⟩, ?_, ?_⟩, (hB.trans (hb1 _)).trans ((pw_below_drewN (Below.refl _ W1) m3).trans hb2)⟩⟩
        · exact hkeep _ _ _ _ u hu r2
        · exact hkeep2 _ _ _ _ u hu r2
        · exact hkeep _ _ _ _ _ hbs1 r2
        · exact hkeep2 _ _ _ _ _ hbn1 r2
      · go_simp
        refine hK _ _ ?_
        clear hK K
        refine wpAnyIn_ready (rs := [0, 2]) (by kernel_rfl) (by simp) ?_
        refine AllReadyIn.cons rfl (fun K hK => ?_) (AllReadyIn.cons rfl (fun K hK => ?_) AllReadyIn.nil)
        · go_simp
          refine hK _ _ ?_
          clear hK K
          refine wpAnyIn_ready (rs := [2]) (by kernel_rfl) (by simp) ?_
          refine AllReadyIn.cons rfl (fun K hK => ?_) AllReadyIn.nil
          go_simp
          try gi_at_call 78
          try (refine ⟨trivial, ?_⟩)
          refine (CallsIn.inRound l (callsIn_wide.2 hcall)).mono ?_
          rintro e wz ⟨rfl, ⟨m3, rfl⟩⟩
          go_simp
          refine hK _ _ ?_
          clear hK K
          refine wpAnyIn_ready (rs := [3]) (by kernel_rfl) (by simp) ?_
          refine AllReadyIn.cons rfl (fun K hK => ?_) AllReadyIn.nil
          go_simp
          refine hK _ _ ?_
          clear hK K
          refine wpAnyIn_ready (rs := [4]) (by kernel_rfl) (by simp) ?_
          refine AllReadyIn.cons rfl (fun K hK => ?_) AllReadyIn.nil
          rw [if_pos (by rfl)]
          refine octets_List_uint16.append_op _ (.tmp 47) (.tmp 50) 130 rfl w.heap.size 48 i0 (.int .u16 0) 1 2 Try.underlying130 hi hz0 hz1 hz2 rfl (by decide) v _ _ rfl ((pw_own_drewN hrow1 m3).alloc _) ⟨W1.heap.size, 0, none⟩ 1 1 [.int .u16 (val x.val)] rfl rfl (cell_one_new (W1.drewN m3) _ _) (by simp [Value.oneCell']) (by simp [maxLen]; omega) (by simp; omega) (by rw [World.size_alloc]; exact Nat.le_succ_of_le hsz1) ?_
          intro v' w1 r1 r2
          rw [List.length_map] at r1
          obtain ⟨g', cap', rfl⟩ := ownsRow_succ r1
          obtain ⟨hv3, hv4, hr2, hk2, hb2⟩ := Boxed.appended (W := W1.drewN m3) hv1 (by decide) (pw_own_drewN hrow1 m3) hsz1 (Nat.le_refl _) r1 r2
          have hc3 := hv3.cell
          have hf3 := hv3.frozen
          refine hK _ _ ?_
          clear hK K
          refine wpAnyIn_ready (rs := [5]) (by kernel_rfl) (by simp) ?_
          refine AllReadyIn.cons rfl (fun K hK => ?_) AllReadyIn.nil
          go_simp
          refine hK _ _ ?_
          clear hK K
          refine wpAnyIn_done (by kernel_rfl) ?_ _
          refine ⟨hk1.trans ((⟨Nat.le_refl _, fun _ _ h _ => h⟩ : KeepsOthers W1 (W1.drewN m3)).trans hk2), ⟨fun u hu => ?_, fun u hu => ?_⟩, ⟨⟨⟨_, hv4, by simpa using hr2, trivial⟩, ?_, ?_⟩, (hB.trans (hb1 _)).trans ((pw_below_drewN (Below.refl _ W1) m3).trans hb2)⟩⟩
          · exact hkeep _ _ _ _ u hu r2
          · exact hkeep2 _ _ _ _ u hu r2
          · exact hkeep _ _ _ _ _ hbs1 r2
          · exact hkeep2 _ _ _ _ _ hbn1 r2
        · go_simp
          try gi_at_call 78
          try (refine ⟨trivial, ?_⟩)
          refine (CallsIn.inRound l (callsIn_wide.2 hcall)).mono ?_
          rintro e wz ⟨rfl, ⟨m3, rfl⟩⟩
          go_simp
          refine hK _ _ ?_
          clear hK K
          refine wpAnyIn_ready (rs := [0, 3]) (by kernel_rfl) (by simp) ?_
          refine AllReadyIn.cons rfl (fun K hK => ?_) (AllReadyIn.cons rfl (fun K hK => ?_) AllReadyIn.nil)
          · go_simp
            refine hK _ _ ?_
            clear hK K
            refine wpAnyIn_ready (rs := [3]) (by kernel_rfl) (by simp) ?_
            refine AllReadyIn.cons rfl (fun K hK => ?_) AllReadyIn.nil
            go_simp
            refine hK _ _ ?_
            clear hK K
            refine wpAnyIn_ready (rs := [4]) (by kernel_rfl) (by simp) ?_
            refine AllReadyIn.cons rfl (fun K hK => ?_) AllReadyIn.nil
            rw [if_pos (by rfl)]
            refine octets_List_uint16.append_op _ (.tmp 47) (.tmp 50) 130 rfl w.heap.size 48 i0 (.int .u16 0) 1 2 Try.underlying130 hi hz0 hz1 hz2 rfl (by decide) v _ _ rfl ((pw_own_drewN hrow1 m3).alloc _) ⟨W1.heap.size, 0, none⟩ 1 1 [.int .u16 (val x.val)] rfl rfl (cell_one_new (W1.drewN m3) _ _) (by simp [Value.oneCell']) (by simp [maxLen]; omega) (by simp; omega) (by rw [World.size_alloc]; exact Nat.le_succ_of_le hsz1) ?_
            intro v' w1 r1 r2
            rw [List.length_map] at r1
            obtain ⟨g', cap', rfl⟩ := ownsRow_succ r1
            obtain ⟨hv3, hv4, hr2, hk2, hb2⟩ := Boxed.appended (W := W1.drewN m3) hv1 (by decide) (pw_own_drewN hrow1 m3) hsz1 (Nat.le_refl _) r1 r2
            have hc3 := hv3.cell
            have hf3 := hv3.frozen
            refine hK _ _ ?_
            clear hK K
            refine wpAnyIn_ready (rs := [5]) (by kernel_rfl) (by simp) ?_
            refine AllReadyIn.cons rfl (fun K hK => ?_) AllReadyIn.nil
            go_simp
            refine hK _ _ ?_
            clear hK K
            refine wpAnyIn_done (by kernel_rfl) ?_ _
            refine ⟨hk1.trans ((⟨Nat.le_refl _, fun _ _ h _ => h⟩ : KeepsOthers W1 (W1.drewN m3)).trans hk2), ⟨fun u hu => ?_, fun u hu => ?_⟩, ⟨⟨⟨_, hv4, by simpa using hr2, trivial⟩, ?_, ?_⟩, (hB.trans (hb1 _)).trans ((pw_below_drewN (Below.refl _ W1) m3).trans hb2)⟩⟩
            · exact hkeep _ _ _ _ u hu r2
            · exact hkeep2 _ _ _ _ u hu r2
            · exact hkeep _ _ _ _ _ hbs1 r2
            · exact hkeep2 _ _ _ _ _ hbn1 r2
          · go_simp
            refine hK _ _ ?_
            clear hK K
            refine wpAnyIn_ready (rs := [0]) (by kernel_rfl) (by simp) ?_
            refine AllReadyIn.cons rfl (fun K hK => ?_) AllReadyIn.nil
            go_simp
            refine hK _ _ ?_
            clear hK K
            refine wpAnyIn_ready (rs := [4]) (by kernel_rfl) (by simp) ?_
            refine AllReadyIn.cons rfl (fun K hK => ?_) AllReadyIn.nil
            rw [if_pos (by rfl)]
            refine octets_List_uint16.append_op _ (.tmp 47) (.tmp 50) 130 rfl w.heap.size 48 i0 (.int .u16 0) 1 2 Try.underlying130 hi hz0 hz1 hz2 rfl (by decide) v _ _ rfl ((pw_own_drewN hrow1 m3).alloc _) ⟨W1.heap.size, 0, none⟩ 1 1 [.int .u16 (val x.val)] rfl rfl (cell_one_new (W1.drewN m3) _ _) (by simp [Value.oneCell']) (by simp [maxLen]; omega) (by simp; omega) (by rw [World.size_alloc]; exact Nat.le_succ_of_le hsz1) ?_
            intro v' w1 r1 r2
            rw [List.length_map] at r1
            obtain ⟨g', cap', rfl⟩ := ownsRow_succ r1
            obtain ⟨hv3, hv4, hr2, hk2, hb2⟩ := Boxed.appended (W := W1.drewN m3) hv1 (by decide) (pw_own_drewN hrow1 m3) hsz1 (Nat.le_refl _) r1 r2
            have hc3 := hv3.cell
            have hf3 := hv3.frozen
            refine hK _ _ ?_
            clear hK K
            refine wpAnyIn_ready (rs := [5]) (by kernel_rfl) (by simp) ?_
            refine AllReadyIn.cons rfl (fun K hK => ?_) AllReadyIn.nil
            go_simp
            refine hK _ _ ?_
            clear hK K
            refine wpAnyIn_done (by kernel_rfl) ?_ _
            refine ⟨hk1.trans ((⟨Nat.le_refl _, fun _ _ h _ => h⟩ : KeepsOthers W1 (W1.drewN m3)).trans hk2), ⟨fun u hu => ?_, fun u hu => ?_⟩, ⟨⟨⟨_, hv4, by simpa using hr2, trivial⟩, ?_, ?_⟩, (hB.trans (hb1 _)).trans ((pw_below_drewN (Below.refl _ W1) m3).trans hb2)⟩⟩
            · exact hkeep _ _ _ _ u hu r2
            · exact hkeep2 _ _ _ _ u hu r2
            · exact hkeep _ _ _ _ _ hbs1 r2
            · exact hkeep2 _ _ _ _ _ hbn1 r2
    · rintro D ys W hD hys ⟨⟨⟨v, hv, hrow, _⟩, _, _⟩, hB⟩ hK
      have hc := hv.cell
      go_wp2
      refine ⟨by simp, .inl ⟨_, _, rfl, run_takeDeferred hK, ?_⟩⟩
      refine ⟨_, results_tmp2 rfl _ _ _, v, rfl, ?_, hB.trans (belowK_b (w := w) (Nat.le_refl _) W D _ _ (by omega) hK rfl rfl)⟩
      have hl1 : (ys.map (fun j => Value.int .u16 (val j.val))) = ((List.range q).map val).map (Value.int .u16) := by
        rw [← hys, List.map_map, List.map_map]; rfl
      rw [hl1] at hrow
      have hrow2 := ownsRow_putObj hrow (Obj.deferred none) hK rfl
      refine ⟨fun _ _ => trivial, ((List.range q).map val).map (Value.int .u16), ?_, octets_List_uint16.reps _ _⟩
      rw [List.length_map] at hrow2
      exact hrow2
    · rintro D c pre W _ _ h _
      exact h.elim
theorem octets_List_uint16.calls (k : Nat) (A0 : Option Addr) (c0 : Nat) (l0 : List Int) (a1 a2 : Int) (r1 : List Int) (r2 : Option Int) (w : World) (hr0 : Kd.C (Kd.int .u8) w A0 l0.length l0) (hc0 : l0.length ≤ c0) (h : octets_List_uint16.f k l0 a1 a2 = some (r1, r2)) :
    Calls Try.prog 67 #[.slice A0 l0.length c0, .int .i64 a1, .int .i64 a2] w fun e w' => ∃ v0_ : Value, e = .returned (.tuple #[v0_, errW r2]) ∧ Kd.R (Kd.int .u16) 48 w' w.heap.size (fun _ => True) v0_ r1 ∧ Below w.heap.size w w' := octets_List_uint16.calls0 k A0 c0 l0 a1 a2 (r1, r2) w hr0 hc0 h
end

/-! ### stamp_two_uint16: function 56 -/
def stamp_two_uint16.f (k : Nat) (l0 : List Int) : Option (Int × Int × Option Int) := (octets_List_uint16.f k l0 0 2).bind fun bt157 => (if bt157.2.isNone = true then ((octets_Size_uint16.f k).bind fun t162 => (if (l0.length : Int) = (wrap64 (2 * t162)) then (if 0 < (bt157.1.length : Int) then (if 1 < (bt157.1.length : Int) then (some (rd bt157.1 0, rd bt157.1 1, none)) else (none)) else (none)) else (some (0, 0, some 2)))) else (some (0, 0, some 2)))
theorem stamp_two_uint16.mono : ∀ a0 k, LeO (stamp_two_uint16.f k a0) (stamp_two_uint16.f (k + 1) a0) := by
  intro a0 k
  unfold stamp_two_uint16.f
  repeat' first
      | (with_reducible exact octets_List_uint16.mono _ _ _ _)
      | (with_reducible exact octets_Size_uint16.mono _)
      | (with_reducible exact LeO.refl _)
      | (with_reducible exact LeO.none _)
      | (with_reducible refine LeO.ite ?_ ?_)
      | (with_reducible refine LeO.bind ?_ (fun _ => ?_))
      | exact octets_List_uint16.mono _ _ _ _
      | exact octets_Size_uint16.mono _
      | exact LeO.none _
      | refine LeO.ite ?_ ?_
      | refine LeO.bind ?_ (fun _ => ?_)
set_option maxHeartbeats 8000000 in
set_option maxRecDepth 100000 in
theorem stamp_two_uint16.calls (k : Nat) (A0 : Option Addr) (c0 : Nat) (l0 : List Int) (r1 : Int) (r2 : Int) (r3 : Option Int) (w : World) (hr0 : Kd.C (Kd.int .u8) w A0 l0.length l0) (hc0 : l0.length ≤ c0) (h : stamp_two_uint16.f k l0 = some (r1, r2, r3)) :
    Calls Try.prog 56 #[.slice A0 l0.length c0] w fun e w' => e = .returned (.tuple #[.int .u16 r1, .int .u16 r2, errW r3]) ∧ Below w.heap.size w w' := by
  have hu27 := Try.underlying27
  have hu64 := Try.underlying64
  have HR0 := Aside0.mk hr0
  have HC0 := Aside0.mk hc0
  clear hr0 hc0
  have HB := Aside0.mk (Below.refl w.heap.size w)
  have H : ((octets_List_uint16.f k l0 0 2).bind fun bt157 => (if bt157.2.isNone = true then ((octets_Size_uint16.f k).bind fun t162 => (if (l0.length : Int) = (wrap64 (2 * t162)) then (if 0 < (bt157.1.length : Int) then (if 1 < (bt157.1.length : Int) then (some (rd bt157.1 0, rd bt157.1 1, none)) else (none)) else (none)) else (some (0, 0, some 2)))) else (some (0, 0, some 2)))) = some (r1, r2, r3) := h
  clear h
  replace H := Option.bind_eq_some_iff.mp H
  obtain ⟨⟨t157, t158⟩, A20, H⟩ := H
  replace H : (if t158.isNone = true then ((octets_Size_uint16.f k).bind fun t162 => (if (l0.length : Int) = (wrap64 (2 * t162)) then (if 0 < (t157.length : Int) then (if 1 < (t157.length : Int) then (some (rd t157 0, rd t157 1, none)) else (none)) else (none)) else (some (0, 0, some 2)))) else (some (0, 0, some 2))) = some (r1, r2, r3) := H
  have A2 := Aside0.mk A20
  clear A20
  rcases t158 with _ | q161
  · have H1 : ((octets_Size_uint16.f k).bind fun t162 => (if (l0.length : Int) = (wrap64 (2 * t162)) then (if 0 < (t157.length : Int) then (if 1 < (t157.length : Int) then (some (rd t157 0, rd t157 1, none)) else (none)) else (none)) else (some (0, 0, some 2)))) = some (r1, r2, r3) := by rw [if_pos (show (none : Option Int).isNone = true by rfl)] at H; exact H
    clear H
    have H := H1
    clear H1
    try simp only [errW_none, errW_some]
    replace H := Option.bind_eq_some_iff.mp H
    obtain ⟨t162, A30, H⟩ := H
    replace H : (if (l0.length : Int) = (wrap64 (2 * t162)) then (if 0 < (t157.length : Int) then (if 1 < (t157.length : Int) then (some (rd t157 0, rd t157 1, none)) else (none)) else (none)) else (some (0, 0, some 2))) = some (r1, r2, r3) := H
    have A3 := Aside0.mk A30
    clear A30
    by_cases c4 : (l0.length : Int) = (wrap64 (2 * t162))
    · rw [if_pos c4] at H
      have c4b0 : ((l0.length : Int) == (wrap64 (2 * t162))) = true := beq_iff_eq.mpr c4
      have c4b1 : ((l0.length : Int) != (wrap64 (2 * t162))) = false := bne_eq_false_iff_eq.mpr c4
      clear c4
      by_cases c5 : 0 < (t157.length : Int)
      · rw [if_pos c5] at H
        have c5b0 : decide (0 < (t157.length : Int)) = true := decide_eq_true c5
        have c5b1 : decide (0 < t157.length) = true := decide_eq_true (by omega)
        clear c5
        by_cases c6 : 1 < (t157.length : Int)
        · rw [if_pos c6] at H
          have c6b0 : decide (1 < (t157.length : Int)) = true := decide_eq_true c6
          have c6b1 : decide (1 < t157.length) = true := decide_eq_true (by omega)
          clear c6
          simp only [Option.some.injEq, Prod.mk.injEq] at H
          obtain ⟨rfl, rfl, rfl⟩ := H
          go_enter Try.func56, Try.ntmps56
          go_wp2_with (first | (go_at_call 67; (with_reducible refine (octets_List_uint16.calls k _ _ l0 0 2 t157 none _ ?side1 ?side2 A2.out).mono ?_); (case side1 => repeat (first | exact HR0.out | (with_reducible refine Kd.C_alloc ?_ _) | (with_reducible refine Kd.C_drewN ?_ _) | (with_reducible refine Kd.C_drew ?_))); (case side2 => exact HC0.out); rintro e w7 ⟨v159, rfl, ho0, hb⟩; have n0_ := Aside0.mk (Kd.R_lower ho0 (below_size (by repeat (first | (with_reducible first | exact HB.out | apply below_alloc | apply pw_below_drewN | apply below_drew1) | exact HB.out)))); have n1_ := Aside0.mk (below_step (by repeat (first | (with_reducible first | exact HB.out | apply below_alloc | apply pw_below_drewN | apply below_drew1) | exact HB.out)) hb); clear HB; have HO160 := n0_; have HB := n1_; clear n0_ n1_; (try clear hb); (try clear hb2); (try clear hk); (try clear hi); (try clear ho0); (try simp only [errW_none, errW_some])) | (go_at_call 68; (with_reducible refine (octets_Size_uint16.calls k  t162 _ A3.out).mono ?_); rintro e w' ⟨rfl, ⟨nd, rfl⟩⟩; (try first | exact ⟨rfl, _, World.drewN_drewN _ _ _⟩ | exact ⟨rfl, _, Eq.trans (World.drewN_drewN _ _ _) (congrArg (World.drewN _) (Nat.add_assoc _ _ _))⟩); obtain ⟨Ao8, co8, eo8⟩ := Kd.R_slice HO160.out; subst eo8; have p163 : 0 ≤ (0 : Int) := (by omega); have q163 : 0 < (t157.length : Int) := of_decide_eq_true (by first | (with_reducible assumption) | assumption); obtain ⟨ad163, e163, hx163_0⟩ := Kd.at_int (Kd.R_reads' HO160.out).2.2 0 p163 q163; cases e163; have qi163 : (0 < t157.length) = True := eq_true (by omega); (try rw [show ((0 : Int)).toNat = 0 from rfl] at hx163_0); (try rw [Addr.add_zero'] at hx163_0); replace p163 := eq_true p163; replace q163 := eq_true q163; have p164 : 0 ≤ (1 : Int) := (by omega); have q164 : 1 < (t157.length : Int) := of_decide_eq_true (by first | (with_reducible assumption) | assumption); obtain ⟨ad164, e164, hx164_0⟩ := Kd.at_int (Kd.R_reads' HO160.out).2.2 1 p164 q164; obtain rfl : ad163 = ad164 := (by injection e164); (try simp only [show (1 : Int).toNat = 1 from rfl, Nat.reduceMul, Nat.reduceEqDiff, Go.Addr.add, ↓reduceIte] at hx164_0); have qi164 : (1 < t157.length) = True := eq_true (by omega); (try rw [show ((1 : Int)).toNat = 1 from rfl] at hx164_0); replace p164 := eq_true p164; replace q164 := eq_true q164))
          repeat (go_quiet (first | (go_at_call 67; (with_reducible refine (octets_List_uint16.calls k _ _ l0 0 2 t157 none _ ?side1 ?side2 A2.out).mono ?_); (case side1 => repeat (first | exact HR0.out | (with_reducible refine Kd.C_alloc ?_ _) | (with_reducible refine Kd.C_drewN ?_ _) | (with_reducible refine Kd.C_drew ?_))); (case side2 => exact HC0.out); rintro e w7 ⟨v159, rfl, ho0, hb⟩; have n0_ := Aside0.mk (Kd.R_lower ho0 (below_size (by repeat (first | (with_reducible first | exact HB.out | apply below_alloc | apply pw_below_drewN | apply below_drew1) | exact HB.out)))); have n1_ := Aside0.mk (below_step (by repeat (first | (with_reducible first | exact HB.out | apply below_alloc | apply pw_below_drewN | apply below_drew1) | exact HB.out)) hb); clear HB; have HO160 := n0_; have HB := n1_; clear n0_ n1_; (try clear hb); (try clear hb2); (try clear hk); (try clear hi); (try clear ho0); (try simp only [errW_none, errW_some])) | (go_at_call 68; (with_reducible refine (octets_Size_uint16.calls k  t162 _ A3.out).mono ?_); rintro e w' ⟨rfl, ⟨nd, rfl⟩⟩; (try first | exact ⟨rfl, _, World.drewN_drewN _ _ _⟩ | exact ⟨rfl, _, Eq.trans (World.drewN_drewN _ _ _) (congrArg (World.drewN _) (Nat.add_assoc _ _ _))⟩); obtain ⟨Ao8, co8, eo8⟩ := Kd.R_slice HO160.out; subst eo8; have p163 : 0 ≤ (0 : Int) := (by omega); have q163 : 0 < (t157.length : Int) := of_decide_eq_true (by first | (with_reducible assumption) | assumption); obtain ⟨ad163, e163, hx163_0⟩ := Kd.at_int (Kd.R_reads' HO160.out).2.2 0 p163 q163; cases e163; have qi163 : (0 < t157.length) = True := eq_true (by omega); (try rw [show ((0 : Int)).toNat = 0 from rfl] at hx163_0); (try rw [Addr.add_zero'] at hx163_0); replace p163 := eq_true p163; replace q163 := eq_true q163; have p164 : 0 ≤ (1 : Int) := (by omega); have q164 : 1 < (t157.length : Int) := of_decide_eq_true (by first | (with_reducible assumption) | assumption); obtain ⟨ad164, e164, hx164_0⟩ := Kd.at_int (Kd.R_reads' HO160.out).2.2 1 p164 q164; obtain rfl : ad163 = ad164 := (by injection e164); (try simp only [show (1 : Int).toNat = 1 from rfl, Nat.reduceMul, Nat.reduceEqDiff, Go.Addr.add, ↓reduceIte] at hx164_0); have qi164 : (1 < t157.length) = True := eq_true (by omega); (try rw [show ((1 : Int)).toNat = 1 from rfl] at hx164_0); replace p164 := eq_true p164; replace q164 := eq_true q164)); try go_wp2_with (first | (go_at_call 67; (with_reducible refine (octets_List_uint16.calls k _ _ l0 0 2 t157 none _ ?side1 ?side2 A2.out).mono ?_); (case side1 => repeat (first | exact HR0.out | (with_reducible refine Kd.C_alloc ?_ _) | (with_reducible refine Kd.C_drewN ?_ _) | (with_reducible refine Kd.C_drew ?_))); (case side2 => exact HC0.out); rintro e w7 ⟨v159, rfl, ho0, hb⟩; have n0_ := Aside0.mk (Kd.R_lower ho0 (below_size (by repeat (first | (with_reducible first | exact HB.out | apply below_alloc | apply pw_below_drewN | apply below_drew1) | exact HB.out)))); have n1_ := Aside0.mk (below_step (by repeat (first | (with_reducible first | exact HB.out | apply below_alloc | apply pw_below_drewN | apply below_drew1) | exact HB.out)) hb); clear HB; have HO160 := n0_; have HB := n1_; clear n0_ n1_; (try clear hb); (try clear hb2); (try clear hk); (try clear hi); (try clear ho0); (try simp only [errW_none, errW_some])) | (go_at_call 68; (with_reducible refine (octets_Size_uint16.calls k  t162 _ A3.out).mono ?_); rintro e w' ⟨rfl, ⟨nd, rfl⟩⟩; (try first | exact ⟨rfl, _, World.drewN_drewN _ _ _⟩ | exact ⟨rfl, _, Eq.trans (World.drewN_drewN _ _ _) (congrArg (World.drewN _) (Nat.add_assoc _ _ _))⟩); obtain ⟨Ao8, co8, eo8⟩ := Kd.R_slice HO160.out; subst eo8; have p163 : 0 ≤ (0 : Int) := (by omega); have q163 : 0 < (t157.length : Int) := of_decide_eq_true (by first | (with_reducible assumption) | assumption); obtain ⟨ad163, e163, hx163_0⟩ := Kd.at_int (Kd.R_reads' HO160.out).2.2 0 p163 q163; cases e163; have qi163 : (0 < t157.length) = True := eq_true (by omega); (try rw [show ((0 : Int)).toNat = 0 from rfl] at hx163_0); (try rw [Addr.add_zero'] at hx163_0); replace p163 := eq_true p163; replace q163 := eq_true q163; have p164 : 0 ≤ (1 : Int) := (by omega); have q164 : 1 < (t157.length : Int) := of_decide_eq_true (by first | (with_reducible assumption) | assumption); obtain ⟨ad164, e164, hx164_0⟩ := Kd.at_int (Kd.R_reads' HO160.out).2.2 1 p164 q164; obtain rfl : ad163 = ad164 := (by injection e164); (try simp only [show (1 : Int).toNat = 1 from rfl, Nat.reduceMul, Nat.reduceEqDiff, Go.Addr.add, ↓reduceIte] at hx164_0); have qi164 : (1 < t157.length) = True := eq_true (by omega); (try rw [show ((1 : Int)).toNat = 1 from rfl] at hx164_0); replace p164 := eq_true p164; replace q164 := eq_true q164)))
          go_ret3
          exact ⟨by first | rfl | (simp [errW_none, errW_some] <;> rfl) | (simp [*, errW_none, errW_some] <;> rfl), by repeat (first | (with_reducible first | exact HB.out | apply below_alloc | apply pw_below_drewN | apply below_drew1) | exact HB.out)⟩
        · rw [if_neg c6] at H
          exact absurd H (by simp)
      · rw [if_neg c5] at H
        exact absurd H (by simp)
    · rw [if_neg c4] at H
      have c4b0 : ((l0.length : Int) == (wrap64 (2 * t162))) = false := beq_eq_false_iff_ne.mpr c4
      have c4b1 : ((l0.length : Int) != (wrap64 (2 * t162))) = true := bne_iff_ne.mpr c4
      simp only [Option.some.injEq, Prod.mk.injEq] at H
      obtain ⟨rfl, rfl, rfl⟩ := H
      go_enter Try.func56, Try.ntmps56
      go_wp2_with (first | (go_at_call 67; (with_reducible refine (octets_List_uint16.calls k _ _ l0 0 2 t157 none _ ?side1 ?side2 A2.out).mono ?_); (case side1 => repeat (first | exact HR0.out | (with_reducible refine Kd.C_alloc ?_ _) | (with_reducible refine Kd.C_drewN ?_ _) | (with_reducible refine Kd.C_drew ?_))); (case side2 => exact HC0.out); rintro e w9 ⟨v159, rfl, ho0, hb⟩; have n0_ := Aside0.mk (Kd.R_lower ho0 (below_size (by repeat (first | (with_reducible first | exact HB.out | apply below_alloc | apply pw_below_drewN | apply below_drew1) | exact HB.out)))); have n1_ := Aside0.mk (below_step (by repeat (first | (with_reducible first | exact HB.out | apply below_alloc | apply pw_below_drewN | apply below_drew1) | exact HB.out)) hb); clear HB; have HO160 := n0_; have HB := n1_; clear n0_ n1_; (try clear hb); (try clear hb2); (try clear hk); (try clear hi); (try clear ho0); (try simp only [errW_none, errW_some])) | (go_at_call 68; (with_reducible refine (octets_Size_uint16.calls k  t162 _ A3.out).mono ?_); rintro e w' ⟨rfl, ⟨nd, rfl⟩⟩; (try first | exact ⟨rfl, _, World.drewN_drewN _ _ _⟩ | exact ⟨rfl, _, Eq.trans (World.drewN_drewN _ _ _) (congrArg (World.drewN _) (Nat.add_assoc _ _ _))⟩)))
      repeat (go_quiet (first | (go_at_call 67; (with_reducible refine (octets_List_uint16.calls k _ _ l0 0 2 t157 none _ ?side1 ?side2 A2.out).mono ?_); (case side1 => repeat (first | exact HR0.out | (with_reducible refine Kd.C_alloc ?_ _) | (with_reducible refine Kd.C_drewN ?_ _) | (with_reducible refine Kd.C_drew ?_))); (case side2 => exact HC0.out); rintro e w9 ⟨v159, rfl, ho0, hb⟩; have n0_ := Aside0.mk (Kd.R_lower ho0 (below_size (by repeat (first | (with_reducible first | exact HB.out | apply below_alloc | apply pw_below_drewN | apply below_drew1) | exact HB.out)))); have n1_ := Aside0.mk (below_step (by repeat (first | (with_reducible first | exact HB.out | apply below_alloc | apply pw_below_drewN | apply below_drew1) | exact HB.out)) hb); clear HB; have HO160 := n0_; have HB := n1_; clear n0_ n1_; (try clear hb); (try clear hb2); (try clear hk); (try clear hi); (try clear ho0); (try simp only [errW_none, errW_some])) | (go_at_call 68; (with_reducible refine (octets_Size_uint16.calls k  t162 _ A3.out).mono ?_); rintro e w' ⟨rfl, ⟨nd, rfl⟩⟩; (try first | exact ⟨rfl, _, World.drewN_drewN _ _ _⟩ | exact ⟨rfl, _, Eq.trans (World.drewN_drewN _ _ _) (congrArg (World.drewN _) (Nat.add_assoc _ _ _))⟩))); try go_wp2_with (first | (go_at_call 67; (with_reducible refine (octets_List_uint16.calls k _ _ l0 0 2 t157 none _ ?side1 ?side2 A2.out).mono ?_); (case side1 => repeat (first | exact HR0.out | (with_reducible refine Kd.C_alloc ?_ _) | (with_reducible refine Kd.C_drewN ?_ _) | (with_reducible refine Kd.C_drew ?_))); (case side2 => exact HC0.out); rintro e w9 ⟨v159, rfl, ho0, hb⟩; have n0_ := Aside0.mk (Kd.R_lower ho0 (below_size (by repeat (first | (with_reducible first | exact HB.out | apply below_alloc | apply pw_below_drewN | apply below_drew1) | exact HB.out)))); have n1_ := Aside0.mk (below_step (by repeat (first | (with_reducible first | exact HB.out | apply below_alloc | apply pw_below_drewN | apply below_drew1) | exact HB.out)) hb); clear HB; have HO160 := n0_; have HB := n1_; clear n0_ n1_; (try clear hb); (try clear hb2); (try clear hk); (try clear hi); (try clear ho0); (try simp only [errW_none, errW_some])) | (go_at_call 68; (with_reducible refine (octets_Size_uint16.calls k  t162 _ A3.out).mono ?_); rintro e w' ⟨rfl, ⟨nd, rfl⟩⟩; (try first | exact ⟨rfl, _, World.drewN_drewN _ _ _⟩ | exact ⟨rfl, _, Eq.trans (World.drewN_drewN _ _ _) (congrArg (World.drewN _) (Nat.add_assoc _ _ _))⟩))))
      go_ret3
      exact ⟨by first | rfl | (simp [errW_none, errW_some] <;> rfl) | (simp [*, errW_none, errW_some] <;> rfl), by repeat (first | (with_reducible first | exact HB.out | apply below_alloc | apply pw_below_drewN | apply below_drew1) | exact HB.out)⟩
  · have H1 : (some (0, 0, some 2)) = some (r1, r2, r3) := by rw [if_neg (show ¬ (some q161).isNone = true by simp)] at H; exact H
    clear H
    have H := H1
    clear H1
    try simp only [errW_none, errW_some]
    simp only [Option.some.injEq, Prod.mk.injEq] at H
    obtain ⟨rfl, rfl, rfl⟩ := H
    go_enter Try.func56, Try.ntmps56
    go_wp2_with (first | (go_at_call 67; (with_reducible refine (octets_List_uint16.calls k _ _ l0 0 2 t157 (some q161) _ ?side1 ?side2 A2.out).mono ?_); (case side1 => repeat (first | exact HR0.out | (with_reducible refine Kd.C_alloc ?_ _) | (with_reducible refine Kd.C_drewN ?_ _) | (with_reducible refine Kd.C_drew ?_))); (case side2 => exact HC0.out); rintro e w10 ⟨v159, rfl, ho0, hb⟩; have n0_ := Aside0.mk (Kd.R_lower ho0 (below_size (by repeat (first | (with_reducible first | exact HB.out | apply below_alloc | apply pw_below_drewN | apply below_drew1) | exact HB.out)))); have n1_ := Aside0.mk (below_step (by repeat (first | (with_reducible first | exact HB.out | apply below_alloc | apply pw_below_drewN | apply below_drew1) | exact HB.out)) hb); clear HB; have HO160 := n0_; have HB := n1_; clear n0_ n1_; (try clear hb); (try clear hb2); (try clear hk); (try clear hi); (try clear ho0); (try simp only [errW_none, errW_some])))
    repeat (go_quiet (first | (go_at_call 67; (with_reducible refine (octets_List_uint16.calls k _ _ l0 0 2 t157 (some q161) _ ?side1 ?side2 A2.out).mono ?_); (case side1 => repeat (first | exact HR0.out | (with_reducible refine Kd.C_alloc ?_ _) | (with_reducible refine Kd.C_drewN ?_ _) | (with_reducible refine Kd.C_drew ?_))); (case side2 => exact HC0.out); rintro e w10 ⟨v159, rfl, ho0, hb⟩; have n0_ := Aside0.mk (Kd.R_lower ho0 (below_size (by repeat (first | (with_reducible first | exact HB.out | apply below_alloc | apply pw_below_drewN | apply below_drew1) | exact HB.out)))); have n1_ := Aside0.mk (below_step (by repeat (first | (with_reducible first | exact HB.out | apply below_alloc | apply pw_below_drewN | apply below_drew1) | exact HB.out)) hb); clear HB; have HO160 := n0_; have HB := n1_; clear n0_ n1_; (try clear hb); (try clear hb2); (try clear hk); (try clear hi); (try clear ho0); (try simp only [errW_none, errW_some]))); try go_wp2_with (first | (go_at_call 67; (with_reducible refine (octets_List_uint16.calls k _ _ l0 0 2 t157 (some q161) _ ?side1 ?side2 A2.out).mono ?_); (case side1 => repeat (first | exact HR0.out | (with_reducible refine Kd.C_alloc ?_ _) | (with_reducible refine Kd.C_drewN ?_ _) | (with_reducible refine Kd.C_drew ?_))); (case side2 => exact HC0.out); rintro e w10 ⟨v159, rfl, ho0, hb⟩; have n0_ := Aside0.mk (Kd.R_lower ho0 (below_size (by repeat (first | (with_reducible first | exact HB.out | apply below_alloc | apply pw_below_drewN | apply below_drew1) | exact HB.out)))); have n1_ := Aside0.mk (below_step (by repeat (first | (with_reducible first | exact HB.out | apply below_alloc | apply pw_below_drewN | apply below_drew1) | exact HB.out)) hb); clear HB; have HO160 := n0_; have HB := n1_; clear n0_ n1_; (try clear hb); (try clear hb2); (try clear hk); (try clear hi); (try clear ho0); (try simp only [errW_none, errW_some]))))
    go_ret3
    exact ⟨by first | rfl | (simp [errW_none, errW_some] <;> rfl) | (simp [*, errW_none, errW_some] <;> rfl), by repeat (first | (with_reducible first | exact HB.out | apply below_alloc | apply pw_below_drewN | apply below_drew1) | exact HB.out)⟩

/-! ### stamp_ParseShort: function 35 -/
def stamp_ParseShort.f (k : Nat) (l0 : List Int) : Option (Int × Int × Option Int) := (stamp_two_uint16.f k l0).bind fun bt166 => (some (bt166.1, bt166.2.1, bt166.2.2))
theorem stamp_ParseShort.mono : ∀ a0 k, LeO (stamp_ParseShort.f k a0) (stamp_ParseShort.f (k + 1) a0) := by
  intro a0 k
  unfold stamp_ParseShort.f
  repeat' first
      | (with_reducible exact stamp_two_uint16.mono _ _)
      | (with_reducible exact LeO.refl _)
      | (with_reducible exact LeO.none _)
      | (with_reducible refine LeO.ite ?_ ?_)
      | (with_reducible refine LeO.bind ?_ (fun _ => ?_))
      | exact stamp_two_uint16.mono _ _
      | exact LeO.none _
      | refine LeO.ite ?_ ?_
      | refine LeO.bind ?_ (fun _ => ?_)
set_option maxHeartbeats 8000000 in
set_option maxRecDepth 100000 in
theorem stamp_ParseShort.calls (k : Nat) (A0 : Option Addr) (c0 : Nat) (l0 : List Int) (r1 : Int) (r2 : Int) (r3 : Option Int) (w : World) (hr0 : Kd.C (Kd.int .u8) w A0 l0.length l0) (hc0 : l0.length ≤ c0) (h : stamp_ParseShort.f k l0 = some (r1, r2, r3)) :
    Calls Try.prog 35 #[.slice A0 l0.length c0] w fun e w' => e = .returned (.tuple #[.agg #[.int .u16 r1, .int .u16 r2], errW r3]) ∧ Below w.heap.size w w' := by
  have hu50 := Try.underlying50
  have HR0 := Aside0.mk hr0
  have HC0 := Aside0.mk hc0
  clear hr0 hc0
  have HB := Aside0.mk (Below.refl w.heap.size w)
  have H : ((stamp_two_uint16.f k l0).bind fun bt166 => (some (bt166.1, bt166.2.1, bt166.2.2))) = some (r1, r2, r3) := h
  clear h
  replace H := Option.bind_eq_some_iff.mp H
  obtain ⟨⟨t166, t167, t168⟩, A20, H⟩ := H
  replace H : (some (t166, t167, t168)) = some (r1, r2, r3) := H
  have A2 := Aside0.mk A20
  clear A20
  simp only [Option.some.injEq, Prod.mk.injEq] at H
  obtain ⟨rfl, rfl, rfl⟩ := H
  go_enter Try.func35, Try.ntmps35
  go_wp2_with (first | ((with_reducible refine gate_dst (N := 2) rfl ?_); refine box_event ?hg (N := 2) ?hd (cs := #[.int .u16 0, .int .u16 0]) (t := 50) ?hr ?_; (case hd => rfl); (case hg => rfl); (case hr => first | (go_simp; done) | (go_simp; rfl)); intro gb165 hg w3 hbox hb; have n0_ := Aside0.mk (below_step (by repeat (first | (with_reducible first | exact HB.out | apply below_alloc | apply pw_below_drewN | apply below_drew1) | exact HB.out)) hb); have n1_ := Aside0.mk (hbox); have n2_ := Aside0.mk ((by rw [hg]; exact (below_size (by repeat (first | (with_reducible first | exact HB.out | apply below_alloc | apply pw_below_drewN | apply below_drew1) | exact HB.out))) : w.heap.size ≤ gb165)); have n3_ := Aside0.mk ((by rw [hg]; exact (below_size (by repeat (first | (with_reducible first | exact HB.out | apply below_alloc | apply pw_below_drewN | apply below_drew1) | exact HB.out))) : w.heap.size ≤ gb165)); clear HB; have HB := n0_; have BK165 := n1_; have GW165 := n2_; have GE165 := n3_; clear n0_ n1_ n2_ n3_; clear hb hbox hg) | ((with_reducible refine gate_callee (f := 56) rfl ?_); refine goesL_ (some 9) rfl rfl Try.func56 (by kernel_rfl) rfl #[.slice A0 l0.length c0] rfl (by (try simp only [List.map_toArray, List.map_cons, List.map_nil]); first | done | rfl | (simp only [List.length_drop, List.length_take]; rfl) | (refine congrArg (fun z_ => #[Value.int IntKind.i64 z_]) (?_ : Go.RowKit.wrap64 (IntKind.u8.wrap _) = _); rw [IntKind.wrap_u8]; unfold Go.RowKit.wrap64; omega)) ?_; (with_reducible refine (stamp_two_uint16.calls k _ _ l0 t166 t167 t168 _ ?side1 ?side2 A2.out).mono ?_); (case side1 => repeat (first | exact (Kd.C_below HR0.out HB.out) | (with_reducible refine Kd.C_alloc ?_ _) | (with_reducible refine Kd.C_drewN ?_ _) | (with_reducible refine Kd.C_drew ?_))); (case side2 => exact HC0.out); rintro e w4 ⟨rfl, hb⟩; refine ⟨_, rfl, ?_⟩; have n0_ := Aside0.mk (blk_below (g := gb165) (o := .cells #[.int .u16 0, .int .u16 0] 50 (0, 0)) (by (with_reducible repeat (first | refine blk_drewN ?_ _ | refine blk_drew ?_ | refine blk_alloc ?_ _)); exact BK165.out) hb); have n1_ := Aside0.mk (below_step (by repeat (first | (with_reducible first | exact HB.out | apply below_alloc | apply pw_below_drewN | apply below_drew1 | refine below_set ?_ GE165.out) | exact HB.out)) hb); clear BK165; clear HB; have BK165 := n0_; have HB := n1_; clear n0_ n1_; (try clear hb); (try clear hb2); (try clear hk); (try clear hi); (try simp only [errW_none, errW_some]); have hcz5_0 : w4.cell? ⟨gb165, 0, none⟩ = some (.int .u16 0) := (blk_cell BK165.out 0).trans rfl; have hcz5_1 : w4.cell? ⟨gb165, 1, none⟩ = some (.int .u16 0) := (blk_cell BK165.out 1).trans rfl; have hfz5_0 := blk_frozen BK165.out 0; have hfz5_1 := blk_frozen BK165.out 1))
  refine bodyPost_ret (results_ct rfl _ _ gb165 50 #[.int .u16 t166, .int .u16 t167] (0, 0) _ rfl (by (with_reducible repeat (first | refine blk_drewN ?_ _ | refine blk_drew ?_ | refine blk_alloc ?_ _)); refine blk_put (cs := #[.int .u16 t166, .int .u16 0]) ?_ 1 _ rfl; (with_reducible repeat (first | refine blk_drewN ?_ _ | refine blk_drew ?_ | refine blk_alloc ?_ _)); refine blk_put (cs := #[.int .u16 0, .int .u16 0]) ?_ 0 _ rfl; (with_reducible repeat (first | refine blk_drewN ?_ _ | refine blk_drew ?_ | refine blk_alloc ?_ _)); exact BK165.out) Try.underlying50 rfl (by kernel_rfl)) rfl ?_
  exact ⟨by first | rfl | (simp [errW_none, errW_some] <;> rfl) | (simp [*, errW_none, errW_some] <;> rfl), by repeat (first | (with_reducible first | exact HB.out | apply below_alloc | apply pw_below_drewN | apply below_drew1 | refine below_set ?_ GE165.out) | exact HB.out)⟩

-- NOT PRINTED: function 36 (head_Head_longs)

/-! ### octets_Size_uint32: function 40 -/
def octets_Size_uint32.l0 : Nat → Int → Int → Option (Int)
  | 0, _, _ => none
  | k + 1, x1, x2 => if x2 > 0 then (octets_Size_uint32.l0 k (wrap64 (x1 + 1)) (((IntKind.u64.wrap (x2)) / 256) % 4294967296)) else (some x1)
def octets_Size_uint32.f (k : Nat)  : Option (Int) := octets_Size_uint32.l0 k 0 (Go.bits .xor .u32 4294967295 0)
theorem octets_Size_uint32.mono_l : ∀ k, (∀ y0 y1, LeO (octets_Size_uint32.l0 k y0 y1) (octets_Size_uint32.l0 (k + 1) y0 y1))
  | 0 => fun _ _ r h => by simp [octets_Size_uint32.l0] at h
  | k + 1 => by
    have ih0 := octets_Size_uint32.mono_l k
    · intro y0 y1
      unfold octets_Size_uint32.l0
      repeat' first
      | (with_reducible exact ih0 _ _)
      | (with_reducible exact LeO.refl _)
      | (with_reducible exact LeO.none _)
      | (with_reducible refine LeO.ite ?_ ?_)
      | (with_reducible refine LeO.bind ?_ (fun _ => ?_))
      | exact ih0 _ _
      | exact LeO.none _
      | refine LeO.ite ?_ ?_
      | refine LeO.bind ?_ (fun _ => ?_)
theorem octets_Size_uint32.mono : ∀ k, LeO (octets_Size_uint32.f k ) (octets_Size_uint32.f (k + 1) ) := by
  intro  k
  have ih0 := octets_Size_uint32.mono_l k
  unfold octets_Size_uint32.f
  repeat' first
      | (with_reducible exact ih0 _ _)
      | (with_reducible exact LeO.refl _)
      | (with_reducible exact LeO.none _)
      | (with_reducible refine LeO.ite ?_ ?_)
      | (with_reducible refine LeO.bind ?_ (fun _ => ?_))
      | exact ih0 _ _
      | exact LeO.none _
      | refine LeO.ite ?_ ?_
      | refine LeO.bind ?_ (fun _ => ?_)
set_option maxHeartbeats 8000000 in
set_option maxRecDepth 100000 in
theorem octets_Size_uint32.calls (k : Nat)  (r : Int) (w : World) (h : octets_Size_uint32.f k  = some r) :
    Calls Try.prog 40 #[] w fun e w' => e = .returned (.int .i64 r) ∧ Drawn0 w w' := by
  have H : (octets_Size_uint32.l0 k 0 (Go.bits .xor .u32 4294967295 0)) = some r := h
  clear h
  have H' := Aside0.mk H
  clear H
  go_enter Try.func40, Try.ntmps40
  go_wp2
  try simp only [Act.put, List.setIfInBounds_toArray, List.set_cons_zero, List.set_cons_succ]
  go_loopg [1, 2] k (fun kq v1 v2 w' => ∃ (x1_1 : Int) (x2_1 : Int), v1 = .int .i64 x1_1 ∧ v2 = .int .u32 x2_1 ∧ Aside0 (octets_Size_uint32.l0 kq x1_1 x2_1 = some r) ∧ Aside0 (kq ≤ k) ∧ Drawn0 w w')
  case atStart => exact ⟨(0), (Go.bits .xor .u32 4294967295 0), (by first | rfl | (simp; done) | (simp [*]; done)), (by first | rfl | (simp; done) | (simp [*]; done)), H', ⟨Nat.le_refl _⟩, by repeat (first | exact Drawn0.refl _ | apply Drawn0.step)⟩
  case round =>
    clear H'
    obtain ⟨x1_1, x2_1, rfl, rfl, HA, HK1, ⟨m1, rfl⟩⟩ := hrel
    cases gk with
    | zero => exact absurd HA.out (by simp [octets_Size_uint32.l0])
    | succ k1 =>
      have H := HA.out
      clear HA
      simp only [octets_Size_uint32.l0] at H
      by_cases c1 : x2_1 > 0
      · rw [if_pos c1] at H
        have c1b0 : decide (0 < x2_1) = true := decide_eq_true c1
        clear c1
        have H' := Aside0.mk H
        clear H
        go_wp2
        go_roundg k1
        case measure => have := HK1.out; omega
        case rel => exact ⟨(wrap64 (x1_1 + 1)), (((IntKind.u64.wrap (x2_1)) / 256) % 4294967296), (by first | rfl | (simp; done) | (simp [*]; done)), (by first | rfl | (simp; done) | (simp [*]; done)), H', ⟨by have := HK1.out; omega⟩, by repeat (first | exact Drawn0.refl _ | apply Drawn0.step)⟩
      · rw [if_neg c1] at H
        have c1b0 : decide (0 < x2_1) = false := decide_eq_false c1
        clear c1
        obtain rfl := Option.some.inj H
        go_wp2
        go_ret
        exact ⟨by first | rfl | (simp; done) | (simp [*]; done), by repeat (first | exact Drawn0.refl _ | apply Drawn0.step)⟩

/-! ### octets_word_uint32: function 79 -/
def octets_word_uint32.l0 : Nat → Int → List Int → Int → Int → Option (Int)
  | 0, _, _, _, _ => none
  | k + 1, x3, x6, x7, x8 => if x8 < x7 then (if 0 ≤ x8 then (if x8 < (x6.length : Int) then (octets_word_uint32.l0 k (Go.bits .or .u64 (IntKind.u64.wrap (x3 * 256)) (IntKind.u64.wrap (rd x6 x8))) x6 x7 (wrap64 (x8 + 1))) else (none)) else (none)) else (some ((x3) % 4294967296))
def octets_word_uint32.f (k : Nat) (l0 : List Int) : Option (Int) := octets_word_uint32.l0 k 0 l0 (l0.length : Int) 0
theorem octets_word_uint32.mono_l : ∀ k, (∀ y0 y1 y2 y3, LeO (octets_word_uint32.l0 k y0 y1 y2 y3) (octets_word_uint32.l0 (k + 1) y0 y1 y2 y3))
  | 0 => fun _ _ _ _ r h => by simp [octets_word_uint32.l0] at h
  | k + 1 => by
    have ih0 := octets_word_uint32.mono_l k
    · intro y0 y1 y2 y3
      unfold octets_word_uint32.l0
      repeat' first
      | (with_reducible exact ih0 _ _ _ _)
      | (with_reducible exact LeO.refl _)
      | (with_reducible exact LeO.none _)
      | (with_reducible refine LeO.ite ?_ ?_)
      | (with_reducible refine LeO.bind ?_ (fun _ => ?_))
      | exact ih0 _ _ _ _
      | exact LeO.none _
      | refine LeO.ite ?_ ?_
      | refine LeO.bind ?_ (fun _ => ?_)
theorem octets_word_uint32.mono : ∀ a0 k, LeO (octets_word_uint32.f k a0) (octets_word_uint32.f (k + 1) a0) := by
  intro a0 k
  have ih0 := octets_word_uint32.mono_l k
  unfold octets_word_uint32.f
  repeat' first
      | (with_reducible exact ih0 _ _ _ _)
      | (with_reducible exact LeO.refl _)
      | (with_reducible exact LeO.none _)
      | (with_reducible refine LeO.ite ?_ ?_)
      | (with_reducible refine LeO.bind ?_ (fun _ => ?_))
      | exact ih0 _ _ _ _
      | exact LeO.none _
      | refine LeO.ite ?_ ?_
      | refine LeO.bind ?_ (fun _ => ?_)
set_option maxHeartbeats 8000000 in
set_option maxRecDepth 100000 in
theorem octets_word_uint32.calls (k : Nat) (A0 : Option Addr) (c0 : Nat) (l0 : List Int) (r : Int) (w : World) (hr0 : Kd.C (Kd.int .u8) w A0 l0.length l0) (hc0 : l0.length ≤ c0) (h : octets_word_uint32.f k l0 = some r) :
    Calls Try.prog 79 #[.slice A0 l0.length c0] w fun e w' => e = .returned (.int .u32 r) ∧ Drawn0 w w' := by
  have HR0 := Aside0.mk hr0
  have HC0 := Aside0.mk hc0
  clear hr0 hc0
  have H : (octets_word_uint32.l0 k 0 l0 (l0.length : Int) 0) = some r := h
  clear h
  have H' := Aside0.mk H
  clear H
  go_enter Try.func79, Try.ntmps79
  go_wp2
  try simp only [Act.put, List.setIfInBounds_toArray, List.set_cons_zero, List.set_cons_succ]
  go_loopg [3, 8] k (fun kq v3 v8 w' => ∃ (x3_1 : Int) (x8_1 : Int), v3 = .int .u64 x3_1 ∧ v8 = .int .i64 x8_1 ∧ Aside0 (octets_word_uint32.l0 kq x3_1 l0 (l0.length : Int) x8_1 = some r) ∧ Aside0 (kq ≤ k) ∧ Drawn0 w w')
  case atStart => exact ⟨(0), (0), (by first | rfl | (simp; done) | (simp [*]; done)), (by first | rfl | (simp; done) | (simp [*]; done)), H', ⟨Nat.le_refl _⟩, by repeat (first | exact Drawn0.refl _ | apply Drawn0.step)⟩
  case round =>
    clear H'
    obtain ⟨x3_1, x8_1, rfl, rfl, HA, HK1, ⟨m1, rfl⟩⟩ := hrel
    cases gk with
    | zero => exact absurd HA.out (by simp [octets_word_uint32.l0])
    | succ k1 =>
      have H := HA.out
      clear HA
      simp only [octets_word_uint32.l0] at H
      by_cases c2 : x8_1 < (l0.length : Int)
      · rw [if_pos c2] at H
        have c2b0 : decide (x8_1 < (l0.length : Int)) = true := decide_eq_true c2
        clear c2
        by_cases c3 : 0 ≤ x8_1
        · rw [if_pos c3] at H
          have c3b0 : decide (0 ≤ x8_1) = true := decide_eq_true c3
          clear c3
          by_cases c4 : x8_1 < (l0.length : Int)
          · rw [if_pos c4] at H
            have c4b0 : decide (x8_1 < (l0.length : Int)) = true := decide_eq_true c4
            clear c4
            have H' := Aside0.mk H
            clear H
            have p169 : 0 ≤ (x8_1 : Int) := of_decide_eq_true (by first | (with_reducible assumption) | assumption)
            have q169 : x8_1 < (l0.length : Int) := of_decide_eq_true (by first | (with_reducible assumption) | assumption)
            obtain ⟨ad169, e169, hx169_0⟩ := Kd.at_int HR0.out x8_1 p169 q169
            cases e169
            replace p169 := eq_true p169
            replace q169 := eq_true q169
            go_wp2
            go_roundg k1
            case measure => have := HK1.out; omega
            case rel => exact ⟨(Go.bits .or .u64 (IntKind.u64.wrap (x3_1 * 256)) (IntKind.u64.wrap (rd l0 x8_1))), (wrap64 (x8_1 + 1)), (by first | rfl | (simp; done) | (simp [*]; done)), (by first | rfl | (simp; done) | (simp [*]; done)), H', ⟨by have := HK1.out; omega⟩, by repeat (first | exact Drawn0.refl _ | apply Drawn0.step)⟩
          · rw [if_neg c4] at H
            exact absurd H (by simp)
        · rw [if_neg c3] at H
          exact absurd H (by simp)
      · rw [if_neg c2] at H
        have c2b0 : decide (x8_1 < (l0.length : Int)) = false := decide_eq_false c2
        clear c2
        obtain rfl := Option.some.inj H
        go_wp2
        go_ret
        exact ⟨by first | rfl | (simp; done) | (simp [*]; done), by repeat (first | exact Drawn0.refl _ | apply Drawn0.step)⟩

end Go.Proofs.Ytlaaofbmnaekoaa.MWholeClient
