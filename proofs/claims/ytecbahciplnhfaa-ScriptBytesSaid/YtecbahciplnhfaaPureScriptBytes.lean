/-
  ScriptBytes: which acts there are, and their bytes, and which lists are the same. For all lists of acts; no further condition.
-/
import Derived.Test.YtecbahciplnhfaaScriptRenc
import Derived.Test.YtecbahciplnhfaaScriptAlive
import Derived.Test.YtecbahciplnhfaaRegBase
namespace Go.Proofs.Ytecbahciplnhfaa
set_option linter.unusedVariables false
set_option linter.unusedSimpArgs false
set_option linter.unnecessarySimpa false
open Go.RowKit Go.Proofs.YtecbahciplnhfaaW.PrintWords Go.Proofs.YtecbahciplnhfaaW.PrintLast Go.Proofs.YtecbahciplnhfaaW.PrintMore Go.Proofs.Ytecbahciplnhfaa.MScriptBytes Go.Proofs.Ytecbahciplnhfaa.Base
theorem long_l0 (x0 : List S33) : ∀ (ys pre : List S33), (pre ++ ys).length ≤ 9223372036854775807 → ∃ b, Ev (fun k => horologelaw39_Long.l0 k x0 30 (pre ++ ys) ((pre ++ ys).length : Int) (pre.length : Int)) b ∧ (b = false → (x0.length : Int) ≤ 30)
  | [], pre, _ => by
    refine ⟨decide ((x0.length : Int) > 30), Ev.up ?_, fun h => by have := of_decide_eq_false h; omega⟩
    simp only [horologelaw39_Long.l0]
    exact Ev.neg (by simp) (Ev.now _)
  | y :: ys, pre, h => by
    have hlt : pre.length < (pre ++ y :: ys).length := by simp only [List.length_append, List.length_cons]; omega
    obtain ⟨b, hb, hf⟩ := long_l0 x0 ys (pre ++ [y]) (by simpa using h)
    have hj : ∀ c : Bool, ∃ b, Ev (fun k => horologelaw39_Long.j1 k x0 30 (pre ++ y :: ys) ((pre ++ y :: ys).length : Int) (pre.length : Int) c) b ∧ (b = false → (x0.length : Int) ≤ 30) := by
      intro c
      cases c with
      | true =>
        refine ⟨true, Ev.up ?_, fun h => by cases h⟩
        simp only [horologelaw39_Long.j1]
        exact Ev.pos (by first | trivial | rfl) (Ev.now _)
      | false =>
        refine ⟨b, Ev.up ?_, hf⟩
        simp only [horologelaw39_Long.j1]
        refine Ev.neg (by decide) ?_
        rw [nextw hlt h, show pre ++ y :: ys = (pre ++ [y]) ++ ys by simp, show pre.length + 1 = (pre ++ [y]).length by simp]
        exact hb
    by_cases c1 : (((rd_T33 (pre ++ y :: ys) (pre.length : Int)).f6).length : Int) > 1500
    · by_cases c2 : (((rd_T33 (pre ++ y :: ys) (pre.length : Int)).f6).length : Int) ≤ 65535
      · obtain ⟨b', hb', hf'⟩ := hj true
        refine ⟨b', Ev.up ?_, hf'⟩
        simp only [horologelaw39_Long.l0]
        exact Ev.pos (Int.ofNat_lt.2 hlt) (Ev.pos (Int.natCast_nonneg _) (Ev.pos (Int.ofNat_lt.2 hlt) (Ev.pos c1 (Ev.pos c2 hb'))))
      · obtain ⟨b', hb', hf'⟩ := hj (decide ((((rd_T33 (pre ++ y :: ys) (pre.length : Int)).f6).length : Int) > 66000))
        refine ⟨b', Ev.up ?_, hf'⟩
        simp only [horologelaw39_Long.l0]
        exact Ev.pos (Int.ofNat_lt.2 hlt) (Ev.pos (Int.natCast_nonneg _) (Ev.pos (Int.ofNat_lt.2 hlt) (Ev.pos c1 (Ev.neg c2 hb'))))
    · obtain ⟨b', hb', hf'⟩ := hj (decide ((((rd_T33 (pre ++ y :: ys) (pre.length : Int)).f6).length : Int) > 66000))
      refine ⟨b', Ev.up ?_, hf'⟩
      simp only [horologelaw39_Long.l0]
      exact Ev.pos (Int.ofNat_lt.2 hlt) (Ev.pos (Int.natCast_nonneg _) (Ev.pos (Int.ofNat_lt.2 hlt) (Ev.neg c1 hb')))
theorem long_c (w : World) (A : Option Addr) (c : Nat) (l : List S33) (hr : Kd.C k33 w A l.length l) (hc : l.length ≤ c) : ∃ b, (b = false → l.length ≤ 30) ∧ Calls Try.prog 12 #[.slice A l.length c, .int .i64 30] w fun e w' => e = .returned (.bool b) ∧ Below w.heap.size w w' := by
  obtain ⟨b, hb, hf⟩ := long_l0 l l [] (by have := Kd.C_max hr; simpa using this)
  obtain ⟨k, hk⟩ := Ev.ok hb
  exact ⟨b, fun h => by have := hf h; omega, horologelaw39_Long.calls k A c l 30 b w hr hc hk⟩
theorem ecode_e (l : List S33) : (encE l).2 = ecode (EC l) := by
  unfold encE ecode
  by_cases h : EC l = 0
  · rw [if_pos h, if_pos h]
  · rw [if_neg h, if_neg h]
def VB (x : S33) (A6 : Option Addr) (c6 : Nat) (ck : Int) (dv : Value) (k : Nat) (p : Addr) : Nat → Value
  | 0 => .agg #[.int .i64 x.f0, .int .i64 x.f1, .int .u64 x.f2, .int .u32 x.f3, .int .i64 x.f4, .int .i64 x.f5, .slice A6 x.f6.length c6]
  | 1 => errW (ecode ck)
  | 2 => .int .i64 ck
  | 3 => dv
  | 4 => .int .i64 k
  | 5 => .pointer (some p)
  | 6 => .agg #[.int .i64 x.f0, .int .i64 x.f1, .int .u64 x.f2, .int .u32 x.f3, .int .i64 x.f4, .int .i64 x.f5, .string (strOfNums x.f6)]
  | 7 => .int .i64 ck
  | _ => .bool false
theorem chk_c (W : World) (x : S33) (w : wfA x) (A6 : Option Addr) (c6 : Nat) (hr : Kd.C (Kd.int .u8) W A6 x.f6.length x.f6) (hc : x.f6.length ≤ c6) : Calls Try.prog 14 #[.agg #[.int .i64 x.f0, .int .i64 x.f1, .int .u64 x.f2, .int .u32 x.f3, .int .i64 x.f4, .int .i64 x.f5, .slice A6 x.f6.length c6]] W fun e w' => e = .returned (errW (ecode (CK x))) ∧ Below W.heap.size W w' := by
  obtain ⟨k, hk⟩ := Ev.ok (chk_e x w)
  exact script_Check.calls k _ _ _ _ _ _ A6 c6 _ _ W hr hc hk
theorem enc_c (W : World) (A : Option Addr) (c : Nat) (l : List S33) (hr : Kd.C k33 W A l.length l) (hc : l.length ≤ c) (hw : ∀ y ∈ l, wfA y) (hn : l.length ≤ 3000) :
    Calls Try.prog 16 #[.slice A l.length c] W fun e w' => ∃ v, e = .returned (.tuple #[v, errW (ecode (EC l))]) ∧ Kd.R (Kd.int .u8) 5 w' W.heap.size (fun _ => True) v (encE l).1 ∧ Below W.heap.size W w' := by
  obtain ⟨k, hk⟩ := enc_e l hw hn
  rw [← ecode_e l]
  exact script_Encode.calls k A c l _ _ W hr hc hk
theorem doc_c (W : World) (A : Option Addr) (c : Nat) (l : List S33) (hr : Kd.C k33 W A l.length l) (hc : l.length ≤ c) (hn : l.length ≤ 1000000000) :
    Calls Try.prog 9 #[.slice A l.length c] W fun e w' => ∃ v, e = .returned v ∧ Kd.R k43 43 w' W.heap.size (fun _ => True) v (l.map doc) ∧ Below W.heap.size W w' := by
  obtain ⟨k, hk⟩ := document_is hn
  exact horologelaw39_Document.calls k A c l _ W hr hc hk
set_option maxHeartbeats 8000000 in
set_option maxRecDepth 100000 in
theorem bytes_walk (A0 : Option Addr) (c0 : Nat) (l : List S33) (A1 : Option Addr) (c1 : Nat) (m : List S33) (w : World) (h0 : Kd.C k33 w A0 l.length l) (hc0 : l.length ≤ c0) (h1 : Kd.C k33 w A1 m.length m) (hc1 : m.length ≤ c1) (hwl : ∀ y ∈ l, wfA y) (hwm : ∀ y ∈ m, wfA y) :
    Calls Try.prog 4 #[.slice A0 l.length c0, .slice A1 m.length c1] w fun e w' => e = .returned (.bool true) ∧ Below w.heap.size w w' := by
  have H0 := Aside0.mk h0
  have H1 := Aside0.mk h1
  have WL := Aside0.mk hwl
  have C0 := Aside0.mk hc0
  have C1 := Aside0.mk hc1
  clear h0 h1 hwl hwm hc0 hc1
  go_enter Try.func4, Try.ntmps4
  go_wp2_with (fail)
  with_reducible refine (alive_c _).mono ?_
  rintro e w1 ⟨rfl, hb⟩
  have B1 := Aside0.mk hb
  clear hb
  go_wp2_with (fail)
  obtain ⟨lb, hlb, hlong⟩ := long_c w1 A0 c0 l (Kd.C_below H0.out B1.out) C0.out
  with_reducible refine hlong.mono ?_
  rintro e w2 ⟨rfl, hb⟩
  have B2 := Aside0.mk (below_step B1.out hb)
  have HLB := Aside0.mk hlb
  clear hb hlong hlb B1
  cases lb with
  | true =>
    go_wp2
    go_ret
    exact ⟨rfl, B2.out⟩
  | false =>
  have L30 := Aside0.mk (HLB.out rfl)
  clear HLB
  go_wp2_with (fail)
  obtain ⟨mb, hmb, hlong⟩ := long_c w2 A1 c1 m (Kd.C_below H1.out B2.out) C1.out
  with_reducible refine hlong.mono ?_
  rintro e w3 ⟨rfl, hb⟩
  have B3 := Aside0.mk (below_step B2.out hb)
  have HLB := Aside0.mk hmb
  clear hb hlong hmb B2
  cases mb with
  | true =>
    go_wp2
    go_ret
    exact ⟨rfl, B3.out⟩
  | false =>
  have M30 := Aside0.mk (HLB.out rfl)
  clear HLB
  go_wp2_with (fail)
  have hdoc := doc_c w3 A0 c0 l (Kd.C_below H0.out B3.out) C0.out (by have := L30.out; omega)
  obtain ⟨D, hD⟩ : ∃ D, D = l.map doc := ⟨_, rfl⟩
  rw [← hD] at hdoc
  have HD := Aside0.mk hD
  clear hD
  with_reducible refine hdoc.mono ?_
  rintro e w4 ⟨v, rfl, hR, hb⟩
  obtain ⟨A5, c5, rfl⟩ := Kd.R_slice hR
  have R4 := Aside0.mk hR
  have B4 := Aside0.mk (below_step B3.out hb)
  clear hdoc hR hb B3
  have DL : Aside0 (D.length = l.length) := ⟨by rw [HD.out, List.length_map]⟩
  go_wp2
  go_loopw [24] (fun v24 wr => ∃ k : Nat, v24 = .int .i64 k ∧ Aside0 (k ≤ l.length) ∧ Aside0 (Below w4.heap.size w4 wr)) (fun v24 _ => l.length - (intOf v24).toNat)
  case atStart => exact ⟨0, rfl, ⟨Nat.zero_le _⟩, ⟨Below.refl _ _⟩⟩
  case round =>
    obtain ⟨k, rfl, hk, B⟩ := hrel
    by_cases hlt : k < l.length
    · have HK := Aside0.mk hlt
      have hstep := nextw hlt (by have := L30.out; omega)
      have hlt2 : (k : Int) < (l.length : Int) := by omega
      have hlt3 : (k : Int) < (D.length : Int) := by have := DL.out; omega
      have WY := Aside0.mk (WL.out _ (rd_mem hlt))
      obtain ⟨ad0, A2, c2, rfl, x0, x1, x2, x3, x4, x5, x6, x7, x8⟩ := at_T33 (Kd.C_below H0.out (below_step B4.out B.out)) (k : Int) (by omega) (by omega)
      obtain ⟨ad1, e1, y0, y1, y2, y3, y4, y5, y6⟩ := at_T43 (Kd.C_below (Kd.R_reads' R4.out).2.2 B.out) (k : Int) (by omega) hlt3
      subst e1
      rw [HD.out, rd_doc hlt] at y0 y1 y2 y3 y4 y5 y6
      simp only [Int.toNat_natCast] at x0 x1 x2 x3 x4 x5 x6 y0 y1 y2 y3 y4 y5 y6
      generalize rd_T33 l (k : Int) = x at *
      simp only [doc] at y0 y1 y2 y3 y4 y5 y6
      have X7 := Aside0.mk x7
      have BX := Aside0.mk (blk_new wr (.cells #[.int .i64 x.f0, .int .i64 x.f1, .int .u64 x.f2, .int .u32 x.f3, .int .i64 x.f4, .int .i64 x.f5, .slice A2 x.f6.length c2] 33 (0, 0)))
      have BN := Aside0.mk (below_alloc B.out (.cells #[.int .i64 x.f0, .int .i64 x.f1, .int .u64 x.f2, .int .u32 x.f3, .int .i64 x.f4, .int .i64 x.f5, .slice A2 x.f6.length c2] 33 (0, 0)))
      have X8 := Aside0.mk (Kd.C_alloc x8 (.cells #[.int .i64 x.f0, .int .i64 x.f1, .int .u64 x.f2, .int .u32 x.f3, .int .i64 x.f4, .int .i64 x.f5, .slice A2 x.f6.length c2] 33 (0, 0)))
      have Y : Aside0 (∀ o : Obj, _) := ⟨fun o => And.intro (pw_cell_below (below_alloc (Below.refl _ _) o) y0) (And.intro (pw_cell_below (below_alloc (Below.refl _ _) o) y1) (And.intro (pw_cell_below (below_alloc (Below.refl _ _) o) y2) (And.intro (pw_cell_below (below_alloc (Below.refl _ _) o) y3) (And.intro (pw_cell_below (below_alloc (Below.refl _ _) o) y4) (And.intro (pw_cell_below (below_alloc (Below.refl _ _) o) y5) (pw_cell_below (below_alloc (Below.refl _ _) o) y6))))))⟩
      have YY := Aside0.mk (Y.out (.cells #[.int .i64 x.f0, .int .i64 x.f1, .int .u64 x.f2, .int .u32 x.f3, .int .i64 x.f4, .int .i64 x.f5, .slice A2 x.f6.length c2] 33 (0, 0)))
      clear x7 x8 y0 y1 y2 y3 y4 y5 y6 Y
      go_wp2_with (fail)
      clear x0 x1 x2 x3 x4 x5 x6
      generalize wr.alloc (.cells #[.int .i64 x.f0, .int .i64 x.f1, .int .u64 x.f2, .int .u32 x.f3, .int .i64 x.f4, .int .i64 x.f5, .slice A2 x.f6.length c2] 33 (0, 0)) = W at BX BN X8 YY ⊢
      generalize wr.heap.size = gb at BX ⊢
      obtain ⟨ck, hck⟩ : ∃ c, c = CK x := ⟨_, rfl⟩
      have CKE := Aside0.mk hck
      clear hck
      refine region_below (T := ?T) (n := 0) [some 29, some 30, some 31, some 32, some 33, some 34, some 35, some 36, some 37] ?hT (fun i_ v_ _ => v_ = VB x A2 c2 ck (.slice (some ad1) D.length c5) k (ad1.add (k * 7)) i_) (by kernel_rfl) (by kernel_rfl) (fun i_ v_ w_ w1_ _ h_ _ => h_) [0, 1, 2, 3, 4, 5, 6, 7, 8] rfl (.cons (some 29) rfl rfl (fun X wx hG hX K hK => ?_) (.cons (some 30) rfl rfl (fun X wx hG hX K hK => ?_) (.cons (some 31) rfl rfl (fun X wx hG hX K hK => ?_) (.cons (some 32) rfl rfl (fun X wx hG hX K hK => ?_) (.cons (some 33) rfl rfl (fun X wx hG hX K hK => ?_) (.cons (some 34) rfl rfl (fun X wx hG hX K hK => ?_) (.cons (some 35) rfl rfl (fun X wx hG hX K hK => ?_) (.cons (some 36) rfl rfl (fun X wx hG hX K hK => ?_) (.cons (some 37) rfl rfl (fun X wx hG hX K hK => ?_) .nil))))))))) (by kernel_rfl) #[true, true, true, true, true, true, true, true, true] (by kernel_rfl) ?_
      case hT =>
        intro X
        simp only [fill, Act.put, List.setIfInBounds_toArray, List.set_cons_zero, List.set_cons_succ, Nat.zero_add, Nat.reduceAdd]
        rfl
      · have b := blk_below (blk_drew BX.out) hG
        have s0 : wx.cell? ⟨gb, 0, none⟩ = some (.int .i64 x.f0) := (blk_cell b 0).trans rfl
        have s1 : wx.cell? ⟨gb, 1, none⟩ = some (.int .i64 x.f1) := (blk_cell b 1).trans rfl
        have s2 : wx.cell? ⟨gb, 2, none⟩ = some (.int .u64 x.f2) := (blk_cell b 2).trans rfl
        have s3 : wx.cell? ⟨gb, 3, none⟩ = some (.int .u32 x.f3) := (blk_cell b 3).trans rfl
        have s4 : wx.cell? ⟨gb, 4, none⟩ = some (.int .i64 x.f4) := (blk_cell b 4).trans rfl
        have s5 : wx.cell? ⟨gb, 5, none⟩ = some (.int .i64 x.f5) := (blk_cell b 5).trans rfl
        have s6 : wx.cell? ⟨gb, 6, none⟩ = some (.slice A2 x.f6.length c2) := (blk_cell b 6).trans rfl
        refine val_ (w1 := wx) (v := .agg #[.int .i64 x.f0, .int .i64 x.f1, .int .u64 x.f2, .int .u32 x.f3, .int .i64 x.f4, .int .i64 x.f5, .slice A2 x.f6.length c2]) (by rfl) rfl ?_ (hK.out _ _ _ rfl (Below.refl _ _) rfl)
        go_simp
      · have e0 : X 0 = .agg #[.int .i64 x.f0, .int .i64 x.f1, .int .u64 x.f2, .int .u32 x.f3, .int .i64 x.f4, .int .i64 x.f5, .slice A2 x.f6.length c2] := hX 2 0 (by kernel_rfl)
        refine goes_ Try.func14 (by kernel_rfl) rfl #[X 0] (by rfl) rfl rfl (by simp only [List.map_toArray, List.map_cons, List.map_nil]; rfl) ?_
        refine calls_args (args1 e0) ?_
        refine (chk_c wx x WY.out A2 c2 (Kd.C_below X8.out (Below.trans (below_drew (Below.refl _ _)) hG)) X7.out).mono ?_
        rintro e w' ⟨rfl, hb⟩
        exact ⟨_, rfl, hK.out _ _ _ rfl hb (by rw [← CKE.out]; rfl)⟩
      · have e1 : X 1 = errW (ecode ck) := hX 2 1 (by kernel_rfl)
        refine goes_ Try.func13 (by kernel_rfl) rfl #[X 1] (by rfl) rfl rfl (by simp only [List.map_toArray, List.map_cons, List.map_nil]; rfl) ?_
        refine calls_args (args1 e1) ?_
        refine (horologenum_Num.calls (ecode ck) ck wx (num_e ck)).mono ?_
        rintro e w' ⟨rfl, ⟨nd, rfl⟩⟩
        exact ⟨_, rfl, hK.out _ _ _ rfl (pw_below_drewN (Below.refl _ _) nd) rfl⟩
      · refine val_ (w1 := wx) (v := .slice (some ad1) D.length c5) (by rfl) rfl ?_ (hK.out _ _ _ rfl (Below.refl _ _) rfl)
        go_simp
      · refine val_ (w1 := wx) (v := .int .i64 k) (by rfl) rfl ?_ (hK.out _ _ _ rfl (Below.refl _ _) rfl)
        go_simp
      · have e3 : X 3 = .slice (some ad1) D.length c5 := hX 2 3 (by kernel_rfl)
        have e4 : X 4 = .int .i64 k := hX 2 4 (by kernel_rfl)
        refine val_ (w1 := wx) (v := .pointer (some (ad1.add (k * 7)))) (by rfl) rfl ?_ (hK.out _ _ _ rfl (Below.refl _ _) rfl)
        go_simp
      · have e5 : X 5 = .pointer (some (ad1.add (k * 7))) := hX 2 5 (by kernel_rfl)
        have hB := Below.trans (below_drew (Below.refl W.heap.size W)) hG
        obtain ⟨z0, z1, z2, z3, z4, z5, z6⟩ := YY.out
        replace z0 := pw_cell_below hB z0
        replace z1 := pw_cell_below hB z1
        replace z2 := pw_cell_below hB z2
        replace z3 := pw_cell_below hB z3
        replace z4 := pw_cell_below hB z4
        replace z5 := pw_cell_below hB z5
        replace z6 := pw_cell_below hB z6
        refine val_ (w1 := wx) (v := .agg #[.int .i64 x.f0, .int .i64 x.f1, .int .u64 x.f2, .int .u32 x.f3, .int .i64 x.f4, .int .i64 x.f5, .string (strOfNums x.f6)]) (by rfl) rfl ?_ (hK.out _ _ _ rfl (Below.refl _ _) rfl)
        go_simp
      · have e6 : X 6 = .agg #[.int .i64 x.f0, .int .i64 x.f1, .int .u64 x.f2, .int .u32 x.f3, .int .i64 x.f4, .int .i64 x.f5, .string (strOfNums x.f6)] := hX 2 6 (by kernel_rfl)
        refine goes_ Try.func15 (by kernel_rfl) rfl #[X 6] (by rfl) rfl rfl (by simp only [List.map_toArray, List.map_cons, List.map_nil]; rfl) ?_
        refine calls_args (args1 e6) ?_
        refine (rchk_c wx x).mono ?_
        rintro e w' ⟨rfl, hb⟩
        exact ⟨_, rfl, hK.out _ _ _ rfl hb (by rw [← CKE.out]; rfl)⟩
      · have e2 : X 2 = .int .i64 ck := hX 2 2 (by kernel_rfl)
        have e7 : X 7 = .int .i64 ck := hX 2 7 (by kernel_rfl)
        refine val_ (w1 := wx) (v := .bool false) (by rfl) rfl ?_ (hK.out _ _ _ rfl (Below.refl _ _) rfl)
        go_simp
      intro X wx hG hX
      refine tail_done (by kernel_rfl) ?_
      have e8 : X 8 = .bool false := hX 8 (by decide)
      have HBX := Aside0.mk (below_step BN.out hG)
      rw [e8]
      clear hG hX e8 BX BN X8 YY
      go_wp2
      go_roundw
      case measure => exact measv (by first | rw [hstep] | rfl) HK.out
      case rel => exact ⟨k + 1, by first | rw [hstep] | rfl, ⟨HK.out⟩, HBX⟩
    · obtain rfl : k = l.length := by have := hk.out; omega
      clear hlt
      have B5 := Aside0.mk (below_step B4.out B.out)
      have R5 := Aside0.mk (Kd.R_below R4.out B.out)
      go_wp2_with (fail)
      have henc := enc_c wr A0 c0 l (Kd.C_below H0.out B5.out) C0.out WL.out (by have := L30.out; omega)
      obtain ⟨E, hE⟩ : ∃ E, E = (encE l).1 := ⟨_, rfl⟩
      have hrenc := fun (W : World) (hr : Kd.C k43 W A5 l.length (l.map doc)) => refenc_c W A5 c5 l hr WL.out (by have := L30.out; omega)
      rw [← hE] at henc hrenc
      obtain ⟨ec, hec⟩ : ∃ e, e = EC l := ⟨_, rfl⟩
      rw [← hec] at henc hrenc
      clear hE hec
      with_reducible refine henc.mono ?_
      rintro e w6 ⟨v, rfl, hR, hb⟩
      obtain ⟨A6, c6, rfl⟩ := Kd.R_slice hR
      have R6 := Aside0.mk hR
      have B6 := Aside0.mk (below_step B5.out hb)
      have D6 := Aside0.mk (Kd.C_below (Kd.R_reads' R5.out).2.2 hb)
      have D6b := Aside0.mk (Kd.R_reads' R5.out).2.1
      clear hR hb henc R5 R4
      go_wp2_with (fail)
      have hh := hrenc w6 (by rw [← HD.out, ← DL.out]; exact D6.out)
      rw [← DL.out] at hh
      clear hrenc
      with_reducible refine hh.mono ?_
      rintro e w7 ⟨v, rfl, hR, hb⟩
      obtain ⟨A7, c7, rfl⟩ := Kd.R_slice hR
      have R7 := Aside0.mk hR
      have B7 := Aside0.mk (below_step B6.out hb)
      have D7 := Aside0.mk (Kd.C_below D6.out hb)
      have E7 := Aside0.mk (Kd.C_below (Kd.R_reads' R6.out).2.2 hb)
      clear hR hb hh D6
      go_wp2_with (fail)
      have hbytes := horologenum_Bytes.calls A6 c6 E A7 c7 E true w7 E7.out (Kd.R_reads' R6.out).2.1 (Kd.R_reads' R7.out).2.2 (Kd.R_reads' R7.out).2.1 (by unfold horologenum_Bytes.f; simp)
      with_reducible refine hbytes.mono ?_
      rintro e w8 ⟨rfl, ⟨n8, hn8⟩⟩
      have B78 := Aside0.mk (show Below w7.heap.size w7 w8 by rw [hn8]; exact pw_below_drewN (Below.refl _ _) n8)
      clear hbytes hn8 R6 R7 E7
      go_wp2_with (fail)
      with_reducible refine (horologenum_Num.calls (ecode ec) ec w8 (num_e ec)).mono ?_
      rintro e w9 ⟨rfl, ⟨n9, hn9⟩⟩
      have B79 := Aside0.mk (show Below w7.heap.size w7 w9 by rw [hn9]; exact pw_below_drewN B78.out n9)
      have B9 := Aside0.mk (below_step B7.out B79.out)
      have D9 := Aside0.mk (Kd.C_below D7.out B79.out)
      clear hn9 B78 B7 D7 B79
      obtain ⟨sm, hsm⟩ : ∃ b, b = SM l m := ⟨_, rfl⟩
      have hsame := same_g A0 c0 l A1 c1 m w9 (Kd.C_below H0.out B9.out) (Kd.C_below H1.out B9.out)
      rw [← hsm] at hsame
      have HSM := Aside0.mk hsm
      clear hsm
      have dd : (ec == ec) = true := by simp
      have ds : (sm == sm) = true := by simp
      go_wp2_with (fail)
      with_reducible refine hsame.mono ?_
      rintro e w10 ⟨rfl, hb⟩
      have B10 := Aside0.mk (below_step B9.out hb)
      have D10 := Aside0.mk (Kd.C_below D9.out hb)
      clear hb hsame D9
      go_wp2_with (fail)
      have hdoc := doc_c w10 A1 c1 m (Kd.C_below H1.out B10.out) C1.out (by have := M30.out; omega)
      obtain ⟨E2, hE2⟩ : ∃ D, D = m.map doc := ⟨_, rfl⟩
      rw [← hE2] at hdoc
      have HE2 := Aside0.mk hE2
      clear hE2
      with_reducible refine hdoc.mono ?_
      rintro e w11 ⟨v, rfl, hR, hb⟩
      obtain ⟨A11, c11, rfl⟩ := Kd.R_slice hR
      have R11 := Aside0.mk hR
      have B11 := Aside0.mk (below_step B10.out hb)
      have D11 := Aside0.mk (Kd.C_below D10.out hb)
      clear hdoc hR hb D10
      go_wp2_with (fail)
      obtain ⟨ks, hks⟩ := rsame_is l m (by have := L30.out; omega)
      rw [← HD.out, ← HE2.out, ← HSM.out] at hks
      with_reducible refine (horologelaw39_same.calls ks A5 c5 D A11 c11 E2 sm w11 D11.out D6b.out (Kd.R_reads' R11.out).2.2 (Kd.R_reads' R11.out).2.1 hks).mono ?_
      rintro e w12 ⟨rfl, ⟨n12, hn12⟩⟩
      have B12 := Aside0.mk (show Below w.heap.size w w12 by rw [hn12]; exact pw_below_drewN B11.out n12)
      clear hn12 hks
      go_wp2_with (fail)
      have hself := same_g A0 c0 l A0 c0 l w12 (Kd.C_below H0.out B12.out) (Kd.C_below H0.out B12.out)
      rw [SM_self l] at hself
      with_reducible refine hself.mono ?_
      rintro e w13 ⟨rfl, hb⟩
      have B13 := Aside0.mk (below_step B12.out hb)
      clear hb hself
      go_wp2
      go_ret
      exact ⟨rfl, B13.out⟩
end Go.Proofs.Ytecbahciplnhfaa
