/-
  The document's writer of scripts, walked; which lists are the same, walked. For all acts (lists of at most 3000). Written by a program (gen_renc.py).
-/
import Derived.Test.YtecbahciplnhfaaScriptChk
import Derived.Test.YtecbahciplnhfaaScriptDec
namespace Go.Proofs.Ytecbahciplnhfaa
set_option linter.unusedVariables false
set_option linter.unusedSimpArgs false
set_option linter.unnecessarySimpa false
open Go.RowKit Go.Proofs.YtecbahciplnhfaaW.PrintWords Go.Proofs.YtecbahciplnhfaaW.PrintLast Go.Proofs.YtecbahciplnhfaaW.PrintMore Go.Proofs.Ytecbahciplnhfaa.MScriptBytes Go.Proofs.Ytecbahciplnhfaa.Base
theorem rnum_c (W : World) (x : Int) (hx : 0 ≤ x ∧ x < 18446744073709551616) (m : Nat) (hm : m ≤ 8) (mi : Int) (hmi : mi = (m : Int)) :
    Calls Try.prog 26 #[.int .u64 x, .int .i64 mi] W fun e w' => ∃ v, e = .returned v ∧ Kd.R (Kd.int .u8) 5 w' W.heap.size (fun _ => True) v (BE m x) ∧ Below W.heap.size W w' := by
  obtain ⟨k, hk⟩ := Ev.ok (rnum_e hx hm hmi)
  exact horologeref03_Number.calls k x mi _ W hk
theorem rchk_c (W : World) (x : S33) : Calls Try.prog 15 #[.agg #[.int .i64 x.f0, .int .i64 x.f1, .int .u64 x.f2, .int .u32 x.f3, .int .i64 x.f4, .int .i64 x.f5, .string (strOfNums x.f6)]] W fun e w' => e = .returned (.int .i64 (CK x)) ∧ Below W.heap.size W w' := by
  obtain ⟨k, hk⟩ := Ev.ok (rchk_e x)
  exact horologeref39_Check.calls k _ _ _ _ _ _ _ _ W hk
theorem bytes_son {l : List Int} (h : Bytes l) : bytesOf (strOfNums l) = l := by
  unfold bytesOf strOfNums
  simp only [List.map_map]
  induction l with
  | nil => rfl
  | cons a l ih =>
    have ha := h a List.mem_cons_self
    have := ih (fun x hx => h x (List.mem_cons_of_mem _ hx))
    unfold Byte at ha
    simp only [List.map_cons, Function.comp]
    rw [this]
    congr 1
    simp [UInt8.toNat_ofNat']
    omega
theorem encs_app : ∀ a b : List S33, encs (a ++ b) = encs a ++ encs b
  | [], b => rfl
  | x :: a, b => by simp [encs, encs_app a b]
theorem encs_take {l : List S33} {i : Nat} (h : i < l.length) : encs (l.take (i + 1)) = encs (l.take i) ++ encA (rd_T33 l (i : Int)) := by
  rw [List.take_succ_eq_append_getElem h, encs_app]
  simp [encs, rd_T33, List.getD_eq_getElem?_getD, h]
theorem EC_drop {l : List S33} {i : Nat} (h : i < l.length) : EC (l.drop i) = if CK (rd_T33 l (i : Int)) = 0 then EC (l.drop (i + 1)) else CK (rd_T33 l (i : Int)) := by
  rw [List.drop_eq_getElem_cons h]
  simp [EC, rd_T33, List.getD_eq_getElem?_getD, h]
theorem rd_mem {l : List S33} {i : Nat} (h : i < l.length) : rd_T33 l (i : Int) ∈ l := by
  have e : rd_T33 l (i : Int) = l[i] := by simp [rd_T33, List.getD_eq_getElem?_getD, h]
  rw [e]
  exact List.getElem_mem h
/-- A box for an act, beside a row of bytes of one's own. -/
structure BX (w0 : World) (gb : Nat) (cs : Array Value) (v : Value) (acc : List Int) (w : World) : Prop where
  e : w.heap[gb]? = some (.cells cs 43 (0, 0))
  R : Kd.R (Kd.int .u8) 5 w w0.heap.size (fun _ => True) v acc
  B : Below w0.heap.size w0 w
section
variable {w0 w w' : World} {gb : Nat} {cs : Array Value} {v v' : Value} {acc acc' : List Int}
theorem BX.below (M : BX w0 gb cs v acc w) (hb : Below w.heap.size w w') : BX w0 gb cs v acc w' := ⟨blk_below M.e hb, Kd.R_below M.R hb, below_step M.B hb⟩
theorem BX.app (M : BX w0 gb cs v acc w) (ho : Kd.R (Kd.int .u8) 5 w' w0.heap.size (fun _ => True) v' acc') (hb : Below w0.heap.size w0 w') (hg : w.grownBy w' v.ownBlock) : BX w0 gb cs v' acc' w' :=
  ⟨blk_grown M.e hg (Kd.R_ne M.R M.e (by decide)), ho, hb⟩
end
set_option maxHeartbeats 4000000 in
set_option maxRecDepth 100000 in
theorem equal_g (A0 : Option Addr) (c0 : Nat) (l : List S33) (A1 : Option Addr) (c1 : Nat) (m : List S33) (w : World) (hr0 : Kd.C k33 w A0 l.length l) (hr1 : Kd.C k33 w A1 m.length m) :
    Calls Try.prog 27 #[.slice A0 l.length c0, .slice A1 m.length c1, .func (.func 23) #[] #[]] w fun e w' => e = .returned (.bool (SM l m)) ∧ Below w.heap.size w w' := by
  have HR0 := Aside0.mk hr0
  have HR1 := Aside0.mk hr1
  have HMX := Aside0.mk (Kd.C_max hr0)
  clear hr0 hr1
  go_enter Try.func27, Try.ntmps27
  by_cases hlen : l.length = m.length
  case neg =>
    have hsm := SM_len l m hlen
    have d1 : ¬ (l.length : Int) = (m.length : Int) := by omega
    have d2 : ((l.length : Int) != (m.length : Int)) = true := bne_iff_ne.2 d1
    clear HR0 HR1 HMX
    go_wp2
    go_ret
    rw [hsm]
    exact ⟨rfl, Below.refl _ _⟩
  have HLEN := Aside0.mk hlen
  have d1 : (m.length : Int) = (l.length : Int) := by omega
  rw [← hlen] at HR1 ⊢
  obtain ⟨sm, hsm⟩ : ∃ b, b = SM l m := ⟨_, rfl⟩
  rw [← hsm]
  have HSM := Aside0.mk hsm
  clear hsm hlen d1
  go_wp2
  go_loopw [17] (fun i wr => ∃ k : Nat, i = .int .i64 k ∧ Aside0 (k ≤ l.length ∧ sm = SM (l.drop k) (m.drop k)) ∧ Aside0 (Below w.heap.size w wr)) (fun i _ => l.length - (intOf i).toNat)
  case atStart => exact ⟨0, rfl, ⟨Nat.zero_le _, HSM.out⟩, ⟨Below.refl _ _⟩⟩
  case round =>
    obtain ⟨k, rfl, hk, HB⟩ := hrel
    by_cases hlt : k < l.length
    · have HK := Aside0.mk hlt
      have hlm : k < m.length := by rw [← HLEN.out]; exact hlt
      have hstep := nextw hlt HMX.out
      have hlt2 : (k : Int) < (l.length : Int) := by omega
      have hst := Aside0.mk (hk.out.2.trans (SM_step hlt hlm))
      obtain ⟨ad0, A2, c2, rfl, x0, x1, x2, x3, x4, x5, x6, x7, x8⟩ := at_T33 (Kd.C_below HR0.out HB.out) (k : Int) (by omega) (by omega)
      obtain ⟨ad1, A3, c3, rfl, y0, y1, y2, y3, y4, y5, y6, y7, y8⟩ := at_T33 (Kd.C_below HR1.out HB.out) (k : Int) (by omega) (by omega)
      simp only [Int.toNat_natCast] at x0 x1 x2 x3 x4 x5 x6 y0 y1 y2 y3 y4 y5 y6
      have hS := alike_e (rd_T33 l (k : Int)) (rd_T33 m (k : Int))
      generalize rd_T33 l (k : Int) = u at *
      generalize rd_T33 m (k : Int) = v at *
      have HS := Aside0.mk hS
      have X7 := Aside0.mk x7
      have X8 := Aside0.mk x8
      have Y7 := Aside0.mk y7
      have Y8 := Aside0.mk y8
      clear x7 x8 y7 y8 hS hlm
      have y0a := fun o => pw_cell_below (below_alloc (Below.refl _ _) o) y0
      have y1a := fun o => pw_cell_below (below_alloc (Below.refl _ _) o) y1
      have y2a := fun o => pw_cell_below (below_alloc (Below.refl _ _) o) y2
      have y3a := fun o => pw_cell_below (below_alloc (Below.refl _ _) o) y3
      have y4a := fun o => pw_cell_below (below_alloc (Below.refl _ _) o) y4
      have y5a := fun o => pw_cell_below (below_alloc (Below.refl _ _) o) y5
      have y6a := fun o => pw_cell_below (below_alloc (Below.refl _ _) o) y6
      obtain ⟨b, hb⟩ : ∃ b, b = AL u v := ⟨_, rfl⟩
      rw [← hb] at HS hst
      clear hb
      cases b with
      | true =>
        go_wp2_with (first | (go_at_call 23; refine (script_alike.calls _ _ _ _ _ _ _ _ _ _ _ _ _ _ _ _ _ _ true _ (Kd.C_alloc (Kd.C_alloc X8.out _) _) X7.out (Kd.C_alloc (Kd.C_alloc Y8.out _) _) Y7.out HS.out).mono ?_; rintro e w' ⟨rfl, hb⟩; have HB2 := Aside0.mk (below_step (below_alloc (below_alloc HB.out _) _) hb); clear hb) | fail)
        go_roundw
        case measure => exact measv (by first | rw [hstep] | rfl) HK.out
        case rel => exact ⟨k + 1, by first | rw [hstep] | rfl, ⟨HK.out, by rw [hst.out, Bool.true_and]⟩, HB2⟩
      | false =>
        go_wp2_with (first | (go_at_call 23; refine (script_alike.calls _ _ _ _ _ _ _ _ _ _ _ _ _ _ _ _ _ _ false _ (Kd.C_alloc (Kd.C_alloc X8.out _) _) X7.out (Kd.C_alloc (Kd.C_alloc Y8.out _) _) Y7.out HS.out).mono ?_; rintro e w' ⟨rfl, hb⟩; have HB2 := Aside0.mk (below_step (below_alloc (below_alloc HB.out _) _) hb); clear hb) | fail)
        go_ret
        exact ⟨by rw [hst.out]; rfl, HB2.out⟩
    · obtain rfl : k = l.length := by have := hk.out.1; omega
      have hz : Aside0 (sm = true) := ⟨by rw [hk.out.2, List.drop_eq_nil_of_le (Nat.le_refl _), List.drop_eq_nil_of_le (by rw [HLEN.out]; exact Nat.le_refl _)]; rfl⟩
      go_wp2
      go_ret
      exact ⟨by rw [hz.out]; rfl, HB.out⟩
set_option maxHeartbeats 4000000 in
theorem same_g (A0 : Option Addr) (c0 : Nat) (l : List S33) (A1 : Option Addr) (c1 : Nat) (m : List S33) (w : World) (hr0 : Kd.C k33 w A0 l.length l) (hr1 : Kd.C k33 w A1 m.length m) :
    Calls Try.prog 18 #[.slice A0 l.length c0, .slice A1 m.length c1] w fun e w' => e = .returned (.bool (SM l m)) ∧ Below w.heap.size w w' := by
  go_enter Try.func18, Try.ntmps18
  go_wp2_with (first | (go_at_call 27; refine (equal_g A0 c0 l A1 c1 m _ hr0 hr1).mono ?_; rintro e w' ⟨rfl, hb⟩) | fail)
  go_ret
  exact ⟨rfl, hb⟩
set_option maxHeartbeats 8000000 in
set_option maxRecDepth 100000 in
theorem refenc_c (w : World) (A : Option Addr) (c : Nat) (l : List S33) (hr : Kd.C k43 w A l.length (l.map doc)) (hw : ∀ y ∈ l, wfA y) (hn : l.length ≤ 3000) :
    Calls Try.prog 17 #[.slice A l.length c] w fun e w' => ∃ v, e = .returned (.tuple #[v, .int .i64 (EC l)]) ∧ Kd.R (Kd.int .u8) 5 w' w.heap.size (fun _ => True) v (encE l).1 ∧ Below w.heap.size w w' := by
  have HR := Aside0.mk hr
  have HW := Aside0.mk hw
  have HN := Aside0.mk hn
  clear hr hw hn
  go_enter Try.func17, Try.ntmps17
  go_wp2_with (first | ((with_reducible refine gate_dst (N := 8) rfl ?_); refine Kd.R_lit (Kd.int .u8) w.heap.size 5 ?hg (N := 8) ?hd (xs := ([] : List Int)) (inner := []) (ok := fun _ => True) (okp := fun _ => True) ?hr ?hp (fun _ hk => hk) trivial (Below.refl _ _) (Nat.le_refl _) (by simp) ?_; (case hd => rfl); (case hg => rfl); (case hr => first | (go_simp; done) | (go_simp; rfl)); (case hp => exact (Reps.none _ _)); intro v1 w1 ho1 hb1 hg_ hnew_; clear hg_ hnew_; have R1 := Aside0.mk ho1; have B1 := Aside0.mk hb1; clear ho1 hb1) | fail)
  go_loopg [4, 5] (l.length + 1) (fun n v4 v5 wr => ∃ (i : Nat) (acc : List Int), v5 = .int .i64 i ∧ Aside0 (Kd.R (Kd.int .u8) 5 wr w.heap.size (fun _ => True) v4 acc) ∧ Aside0 (i + n = l.length + 1 ∧ i ≤ l.length ∧ acc.length ≤ 65550 * i ∧ acc = encs (l.take i) ∧ EC l = EC (l.drop i)) ∧ Aside0 (Below w.heap.size w wr))
  case atStart => exact ⟨0, [], rfl, R1, ⟨by omega, Nat.zero_le _, by simp, rfl, rfl⟩, B1⟩
  case round =>
    clear R1 B1
    obtain ⟨i, acc, rfl, R, HP, B⟩ := hrel
    by_cases hlt : i < l.length
    · obtain ⟨k1, rfl⟩ : ∃ k1, gk = k1 + 1 := ⟨gk - 1, by have := HP.out.1; omega⟩
      have HLT := Aside0.mk hlt
      have hstep := nextw hlt (by have := HN.out; omega)
      have hlt2 : (i : Int) < (l.length : Int) := by omega
      have ET := Aside0.mk (encs_take hlt)
      have ED := Aside0.mk (EC_drop hlt)
      have WY := Aside0.mk (HW.out _ (rd_mem hlt))
      have LA : Aside0 (acc.length ≤ 196650000) := ⟨by have := HP.out.2.2.1; have := HN.out; omega⟩
      obtain ⟨ad, eA, x0, x1, x2, x3, x4, x5, x6⟩ := at_T43 (Kd.C_below HR.out B.out) (i : Int) (by omega) hlt2
      have HR := Aside0.mk HR.out
      subst eA
      rw [rd_doc hlt] at x0 x1 x2 x3 x4 x5 x6
      simp only [Int.toNat_natCast] at x0 x1 x2 x3 x4 x5 x6
      obtain ⟨y, hy⟩ : ∃ y, y = rd_T33 l (i : Int) := ⟨_, rfl⟩
      rw [← hy] at x0 x1 x2 x3 x4 x5 x6 ET ED WY
      clear hy hlt
      obtain ⟨a0, a1, a2, a3, a4, a5, a6⟩ := y
      simp only [doc] at x0 x1 x2 x3 x4 x5 x6
      have hck := rchk_c (wr.alloc (.cells #[.int .i64 a0, .int .i64 a1, .int .u64 a2, .int .u32 a3, .int .i64 a4, .int .i64 a5, .string (strOfNums a6)] 43 (0, 0))) ⟨a0, a1, a2, a3, a4, a5, a6⟩
      simp only at hck
      have SB := Aside0.mk (bytes_son WY.out.b)
      have SZ := Aside0.mk (size_s a6)
      have M0 := Aside0.mk (show BX w wr.heap.size #[.int .i64 a0, .int .i64 a1, .int .u64 a2, .int .u32 a3, .int .i64 a4, .int .i64 a5, .string (strOfNums a6)] _ acc (wr.alloc (.cells #[.int .i64 a0, .int .i64 a1, .int .u64 a2, .int .u32 a3, .int .i64 a4, .int .i64 a5, .string (strOfNums a6)] 43 (0, 0))) from ⟨blk_new wr _, Kd.R_alloc R.out _, below_alloc B.out _⟩)
      obtain ⟨s, hs⟩ : ∃ s, s = strOfNums a6 := ⟨_, rfl⟩
      rw [← hs] at x6 hck SB SZ M0
      have HS := Aside0.mk hs
      clear hs R
      go_wp2_with (fail)
      have M := M0
      clear M0 x0 x1 x2 x3 x4 x5 x6
      generalize wr.alloc (.cells #[.int .i64 a0, .int .i64 a1, .int .u64 a2, .int .u32 a3, .int .i64 a4, .int .i64 a5, .string s] 43 (0, 0)) = W at M hck ⊢
      generalize wr.heap.size = gb at M ⊢
      with_reducible refine hck.mono ?_
      rintro e w2 ⟨rfl, hb⟩
      have M := Aside0.mk (M.out.below hb)
      clear hb hck
      obtain ⟨ck, hck⟩ : ∃ c, c = CK ⟨a0, a1, a2, a3, a4, a5, a6⟩ := ⟨_, rfl⟩
      rw [← hck] at ED ⊢
      by_cases hc0 : ck = 0
      case neg =>
        have hz : Aside0 (EC l = ck) := ⟨by rw [HP.out.2.2.2.2, ED.out, if_neg hc0]⟩
        have d1 : (ck != 0) = true := bne_iff_ne.2 hc0
        have hE : Aside0 ((encE l).1 = []) := ⟨by unfold encE; rw [hz.out, if_neg hc0]⟩
        clear hck
        go_wp2
        go_ret2
        exact ⟨_, by rw [hz.out]; rfl, by rw [hE.out]; exact Kd.R_nil _ _ _ _ _, M.out.B⟩
      have OK := Aside0.mk (CK_ok.1 (hck.symm.trans hc0))
      have hEC : Aside0 (EC l = EC (l.drop (i + 1))) := ⟨by rw [HP.out.2.2.2.2, ED.out, if_pos hc0]⟩
      have LY := Aside0.mk (encA_len OK.out)
      have SL : Aside0 (s.size ≤ 65535) := ⟨by have h1 := SZ.out; have h2 : a6.length ≤ 65535 := OK.out.l; omega⟩
      subst hc0
      clear hck
      have hk : a0 = 1 ∨ a0 = 2 ∨ a0 = 3 ∨ a0 = 4 := by have h1 : 1 ≤ a0 := OK.out.k1; have h2 : a0 ≤ 4 := OK.out.k4; omega
      have b1 : 0 ≤ a1 ∧ a1 ≤ 255 := OK.out.n
      have b2 : 0 ≤ a2 ∧ a2 < 18446744073709551616 := WY.out.r
      have b3 : 0 ≤ a3 ∧ a3 < 4294967296 := WY.out.f
      have b4 : 0 ≤ a4 ∧ a4 ≤ 65535 := OK.out.s
      have b5 : 0 ≤ a5 ∧ a5 ≤ 65535 := OK.out.p
      have k_1 : a1 % 256 = a1 := by omega
      have k_1b : IntKind.u8.wrap a1 = a1 := by rw [IntKind.wrap_u8]; omega
      have k_3 : IntKind.u64.wrap a3 = a3 := by rw [wrap_u64]; omega
      have k_4 : IntKind.u64.wrap a4 = a4 := by rw [wrap_u64]; omega
      have k_5 : IntKind.u64.wrap a5 = a5 := by rw [wrap_u64]; omega
      have k_6 : IntKind.u64.wrap (s.size : Int) = (s.size : Int) := by rw [wrap_u64]; have := SL.out; omega
      have BB := Aside0.mk (And.intro b2 (And.intro b3 (And.intro b4 b5)))
      clear b1 b2 b3 b4 b5
      rcases hk with rfl | rfl | rfl | rfl
      · have z0_ := (blk_cell M.out.e 0).trans rfl
        have z1_ := (blk_cell M.out.e 1).trans rfl
        have z2_ := (blk_cell M.out.e 2).trans rfl
        have z3_ := (blk_cell M.out.e 3).trans rfl
        have z4_ := (blk_cell M.out.e 4).trans rfl
        have z5_ := (blk_cell M.out.e 5).trans rfl
        have z6_ := (blk_cell M.out.e 6).trans rfl
        go_wp2_with (first | ((with_reducible refine gate_builtin (b := .append) (xs := #[.tmp 24, .tmp 29]) rfl ?_); at_builtin; refine Kd.R_append (Kd.int .u8) (w0 := w) w.heap.size rfl (.tmp 24) (.tmp 29) 22 5 (.int .u8 0) 1 rfl Try.underlying22 info5 rfl (by decide) (by omega) u4 (acc) 0 [.int .u8 0] (fun _ => True) (fun _ => False) rfl rfl rfl (fun _ hk => hk.elim) (fun _ _ => trivial) M.out.R M.out.B M.out.B.size ?aL ?_; (case aL => have := LA.out; (try simp only [List.length_append, List.length_cons, List.length_nil, BE_length]); omega); intro v9 w9 ho9 hb9 hg9 hat9; have M9 := Aside0.mk (M.out.app ho9 hb9 hg9); clear ho9 hb9 hg9 hat9 M; clear z0_ z1_ z2_ z3_ z4_ z5_ z6_; have M := M9; clear M9; have z0_ := (blk_cell M.out.e 0).trans rfl; have z1_ := (blk_cell M.out.e 1).trans rfl; have z2_ := (blk_cell M.out.e 2).trans rfl; have z3_ := (blk_cell M.out.e 3).trans rfl; have z4_ := (blk_cell M.out.e 4).trans rfl; have z5_ := (blk_cell M.out.e 5).trans rfl; have z6_ := (blk_cell M.out.e 6).trans rfl) | ((with_reducible refine gate_builtin (b := .append) (xs := #[.tmp 34, .tmp 38]) rfl ?_); at_builtin; refine Kd.R_append (Kd.int .u8) (w0 := w) w.heap.size rfl (.tmp 34) (.tmp 38) 22 5 (.int .u8 0) 1 rfl Try.underlying22 info5 rfl (by decide) (by omega) _ (acc ++ [0]) a1 [.int .u8 a1] (fun _ => True) (fun _ => False) rfl rfl rfl (fun _ hk => hk.elim) (fun _ _ => trivial) M.out.R M.out.B M.out.B.size ?aL ?_; (case aL => have := LA.out; (try simp only [List.length_append, List.length_cons, List.length_nil, BE_length]); omega); intro v9 w9 ho9 hb9 hg9 hat9; have M9 := Aside0.mk (M.out.app ho9 hb9 hg9); clear ho9 hb9 hg9 hat9 M; clear z0_ z1_ z2_ z3_ z4_ z5_ z6_; have M := M9; clear M9; have z0_ := (blk_cell M.out.e 0).trans rfl; have z1_ := (blk_cell M.out.e 1).trans rfl; have z2_ := (blk_cell M.out.e 2).trans rfl; have z3_ := (blk_cell M.out.e 3).trans rfl; have z4_ := (blk_cell M.out.e 4).trans rfl; have z5_ := (blk_cell M.out.e 5).trans rfl; have z6_ := (blk_cell M.out.e 6).trans rfl) | fail)
        with_reducible refine (rnum_c _ (s.size : Int) ((by have := SL.out; omega)) 2 (by decide) 2 rfl).mono ?_
        rintro e w3 ⟨vn, rfl, hRn, hbn⟩
        obtain ⟨An, cn, rfl⟩ := Kd.R_slice hRn
        have M := Aside0.mk (M.out.below hbn)
        have RN := Aside0.mk (Kd.R_reads' hRn).2.2
        clear z0_ z1_ z2_ z3_ z4_ z5_ z6_
        clear hRn hbn
        have z0_ := (blk_cell M.out.e 0).trans rfl
        have z1_ := (blk_cell M.out.e 1).trans rfl
        have z2_ := (blk_cell M.out.e 2).trans rfl
        have z3_ := (blk_cell M.out.e 3).trans rfl
        have z4_ := (blk_cell M.out.e 4).trans rfl
        have z5_ := (blk_cell M.out.e 5).trans rfl
        have z6_ := (blk_cell M.out.e 6).trans rfl
        go_wp2_with (first | ((with_reducible refine gate_builtin (b := .append) (xs := #[.tmp 77, .tmp 82]) rfl ?_); at_builtin; refine Kd.R_append_rows (Kd.int .u8) (w0 := w) w.heap.size rfl (.tmp 77) (.tmp 82) 22 5 (.int .u8 0) 1 rfl Try.underlying22 info5 rfl (by decide) (by omega) _ ((acc ++ [0]) ++ [a1]) (BE 2 (s.size : Int)) _ _ _ (fun _ => True) (fun _ => False) rfl rfl M.out.R RN.out (fun _ _ h => h) (fun _ h => h.elim) (fun _ _ => trivial) M.out.B M.out.B.size ?aL ?_; (case aL => have := LA.out; (try simp only [List.length_append, List.length_cons, List.length_nil, BE_length]); omega); intro v9 w9 ho9 hb9 hg9 hat9; have M9 := Aside0.mk (M.out.app ho9 hb9 hg9); clear ho9 hb9 hg9 hat9 M; clear z0_ z1_ z2_ z3_ z4_ z5_ z6_; have M := M9; clear M9; have z0_ := (blk_cell M.out.e 0).trans rfl; have z1_ := (blk_cell M.out.e 1).trans rfl; have z2_ := (blk_cell M.out.e 2).trans rfl; have z3_ := (blk_cell M.out.e 3).trans rfl; have z4_ := (blk_cell M.out.e 4).trans rfl; have z5_ := (blk_cell M.out.e 5).trans rfl; have z6_ := (blk_cell M.out.e 6).trans rfl) | ((with_reducible refine gate_builtin (b := .append) (xs := #[.tmp 84, .tmp 86]) rfl ?_); at_builtin; refine print_append_str (w0 := w) w.heap.size rfl (.tmp 84) (.tmp 86) 22 9 5 rfl Try.underlying22 Try.underlying9 info5 _ (((acc ++ [0]) ++ [a1]) ++ BE 2 (s.size : Int)) s rfl rfl (Kd.own_of_R M.out.R) M.out.B M.out.B.size ?aL ?_; (case aL => have := LA.out; have := SL.out; (try simp only [List.length_append, List.length_cons, List.length_nil, BE_length]); omega); intro v9 w9 ho9 hb9 hg9; have M9 := Aside0.mk (M.out.app (Kd.R_of_own ho9 (fun _ _ => trivial)) hb9 hg9); clear ho9 hb9 hg9 M; have M := M9; clear M9) | fail)
        have HA : Aside0 ((((acc ++ [0]) ++ [a1]) ++ BE 2 (s.size : Int)) ++ bytesOf s = encs (l.take (i + 1))) := ⟨by rw [ET.out, ← HP.out.2.2.2.1]; unfold encA; (try simp only [reduceCtorEq, Int.reduceEq, ite_true, ite_false, if_true, if_false]); rw [SZ.out, SB.out]; try simp⟩
        have HLN : Aside0 (((((acc ++ [0]) ++ [a1]) ++ BE 2 (s.size : Int)) ++ bytesOf s).length ≤ 65550 * (i + 1)) := ⟨by rw [HA.out, ET.out, List.length_append, ← HP.out.2.2.2.1]; have := LY.out; have := HP.out.2.2.1; omega⟩
        go_roundg k1
        case measure => omega
        case rel => exact ⟨i + 1, (((acc ++ [0]) ++ [a1]) ++ BE 2 (s.size : Int)) ++ bytesOf s, by first | rw [hstep] | rfl, ⟨M.out.R⟩, ⟨by have := HP.out.1; omega, HLT.out, HLN.out, HA.out, hEC.out⟩, ⟨M.out.B⟩⟩
      · have z0_ := (blk_cell M.out.e 0).trans rfl
        have z1_ := (blk_cell M.out.e 1).trans rfl
        have z2_ := (blk_cell M.out.e 2).trans rfl
        have z3_ := (blk_cell M.out.e 3).trans rfl
        have z4_ := (blk_cell M.out.e 4).trans rfl
        have z5_ := (blk_cell M.out.e 5).trans rfl
        have z6_ := (blk_cell M.out.e 6).trans rfl
        go_wp2_with (first | ((with_reducible refine gate_builtin (b := .append) (xs := #[.tmp 24, .tmp 29]) rfl ?_); at_builtin; refine Kd.R_append (Kd.int .u8) (w0 := w) w.heap.size rfl (.tmp 24) (.tmp 29) 22 5 (.int .u8 0) 1 rfl Try.underlying22 info5 rfl (by decide) (by omega) u4 (acc) 1 [.int .u8 1] (fun _ => True) (fun _ => False) rfl rfl rfl (fun _ hk => hk.elim) (fun _ _ => trivial) M.out.R M.out.B M.out.B.size ?aL ?_; (case aL => have := LA.out; (try simp only [List.length_append, List.length_cons, List.length_nil, BE_length]); omega); intro v9 w9 ho9 hb9 hg9 hat9; have M9 := Aside0.mk (M.out.app ho9 hb9 hg9); clear ho9 hb9 hg9 hat9 M; clear z0_ z1_ z2_ z3_ z4_ z5_ z6_; have M := M9; clear M9; have z0_ := (blk_cell M.out.e 0).trans rfl; have z1_ := (blk_cell M.out.e 1).trans rfl; have z2_ := (blk_cell M.out.e 2).trans rfl; have z3_ := (blk_cell M.out.e 3).trans rfl; have z4_ := (blk_cell M.out.e 4).trans rfl; have z5_ := (blk_cell M.out.e 5).trans rfl; have z6_ := (blk_cell M.out.e 6).trans rfl) | fail)
        with_reducible refine (rnum_c _ a2 (BB.out.1) 8 (by decide) 8 rfl).mono ?_
        rintro e w3 ⟨vn, rfl, hRn, hbn⟩
        obtain ⟨An, cn, rfl⟩ := Kd.R_slice hRn
        have M := Aside0.mk (M.out.below hbn)
        have RN := Aside0.mk (Kd.R_reads' hRn).2.2
        clear z0_ z1_ z2_ z3_ z4_ z5_ z6_
        clear hRn hbn
        have z0_ := (blk_cell M.out.e 0).trans rfl
        have z1_ := (blk_cell M.out.e 1).trans rfl
        have z2_ := (blk_cell M.out.e 2).trans rfl
        have z3_ := (blk_cell M.out.e 3).trans rfl
        have z4_ := (blk_cell M.out.e 4).trans rfl
        have z5_ := (blk_cell M.out.e 5).trans rfl
        have z6_ := (blk_cell M.out.e 6).trans rfl
        go_wp2_with (first | ((with_reducible refine gate_builtin (b := .append) (xs := #[.tmp 43, .tmp 46]) rfl ?_); at_builtin; refine Kd.R_append_rows (Kd.int .u8) (w0 := w) w.heap.size rfl (.tmp 43) (.tmp 46) 22 5 (.int .u8 0) 1 rfl Try.underlying22 info5 rfl (by decide) (by omega) _ (acc ++ [1]) (BE 8 a2) _ _ _ (fun _ => True) (fun _ => False) rfl rfl M.out.R RN.out (fun _ _ h => h) (fun _ h => h.elim) (fun _ _ => trivial) M.out.B M.out.B.size ?aL ?_; (case aL => have := LA.out; (try simp only [List.length_append, List.length_cons, List.length_nil, BE_length]); omega); intro v9 w9 ho9 hb9 hg9 hat9; have M9 := Aside0.mk (M.out.app ho9 hb9 hg9); clear ho9 hb9 hg9 hat9 M; clear z0_ z1_ z2_ z3_ z4_ z5_ z6_; have M := M9; clear M9; have z0_ := (blk_cell M.out.e 0).trans rfl; have z1_ := (blk_cell M.out.e 1).trans rfl; have z2_ := (blk_cell M.out.e 2).trans rfl; have z3_ := (blk_cell M.out.e 3).trans rfl; have z4_ := (blk_cell M.out.e 4).trans rfl; have z5_ := (blk_cell M.out.e 5).trans rfl; have z6_ := (blk_cell M.out.e 6).trans rfl) | fail)
        have HA : Aside0 ((acc ++ [1]) ++ BE 8 a2 = encs (l.take (i + 1))) := ⟨by rw [ET.out, ← HP.out.2.2.2.1]; unfold encA; (try simp only [reduceCtorEq, Int.reduceEq, ite_true, ite_false, if_true, if_false]); try (first | rfl | simp)⟩
        have HLN : Aside0 (((acc ++ [1]) ++ BE 8 a2).length ≤ 65550 * (i + 1)) := ⟨by rw [HA.out, ET.out, List.length_append, ← HP.out.2.2.2.1]; have := LY.out; have := HP.out.2.2.1; omega⟩
        go_roundg k1
        case measure => omega
        case rel => exact ⟨i + 1, (acc ++ [1]) ++ BE 8 a2, by first | rw [hstep] | rfl, ⟨M.out.R⟩, ⟨by have := HP.out.1; omega, HLT.out, HLN.out, HA.out, hEC.out⟩, ⟨M.out.B⟩⟩
      · have z0_ := (blk_cell M.out.e 0).trans rfl
        have z1_ := (blk_cell M.out.e 1).trans rfl
        have z2_ := (blk_cell M.out.e 2).trans rfl
        have z3_ := (blk_cell M.out.e 3).trans rfl
        have z4_ := (blk_cell M.out.e 4).trans rfl
        have z5_ := (blk_cell M.out.e 5).trans rfl
        have z6_ := (blk_cell M.out.e 6).trans rfl
        go_wp2_with (first | ((with_reducible refine gate_builtin (b := .append) (xs := #[.tmp 24, .tmp 29]) rfl ?_); at_builtin; refine Kd.R_append (Kd.int .u8) (w0 := w) w.heap.size rfl (.tmp 24) (.tmp 29) 22 5 (.int .u8 0) 1 rfl Try.underlying22 info5 rfl (by decide) (by omega) u4 (acc) 2 [.int .u8 2] (fun _ => True) (fun _ => False) rfl rfl rfl (fun _ hk => hk.elim) (fun _ _ => trivial) M.out.R M.out.B M.out.B.size ?aL ?_; (case aL => have := LA.out; (try simp only [List.length_append, List.length_cons, List.length_nil, BE_length]); omega); intro v9 w9 ho9 hb9 hg9 hat9; have M9 := Aside0.mk (M.out.app ho9 hb9 hg9); clear ho9 hb9 hg9 hat9 M; clear z0_ z1_ z2_ z3_ z4_ z5_ z6_; have M := M9; clear M9; have z0_ := (blk_cell M.out.e 0).trans rfl; have z1_ := (blk_cell M.out.e 1).trans rfl; have z2_ := (blk_cell M.out.e 2).trans rfl; have z3_ := (blk_cell M.out.e 3).trans rfl; have z4_ := (blk_cell M.out.e 4).trans rfl; have z5_ := (blk_cell M.out.e 5).trans rfl; have z6_ := (blk_cell M.out.e 6).trans rfl) | fail)
        with_reducible refine (rnum_c _ a3 ((by have := BB.out.2.1; omega)) 4 (by decide) 4 rfl).mono ?_
        rintro e w3 ⟨vn, rfl, hRn, hbn⟩
        obtain ⟨An, cn, rfl⟩ := Kd.R_slice hRn
        have M := Aside0.mk (M.out.below hbn)
        have RN := Aside0.mk (Kd.R_reads' hRn).2.2
        clear z0_ z1_ z2_ z3_ z4_ z5_ z6_
        clear hRn hbn
        have z0_ := (blk_cell M.out.e 0).trans rfl
        have z1_ := (blk_cell M.out.e 1).trans rfl
        have z2_ := (blk_cell M.out.e 2).trans rfl
        have z3_ := (blk_cell M.out.e 3).trans rfl
        have z4_ := (blk_cell M.out.e 4).trans rfl
        have z5_ := (blk_cell M.out.e 5).trans rfl
        have z6_ := (blk_cell M.out.e 6).trans rfl
        go_wp2_with (first | ((with_reducible refine gate_builtin (b := .append) (xs := #[.tmp 51, .tmp 55]) rfl ?_); at_builtin; refine Kd.R_append_rows (Kd.int .u8) (w0 := w) w.heap.size rfl (.tmp 51) (.tmp 55) 22 5 (.int .u8 0) 1 rfl Try.underlying22 info5 rfl (by decide) (by omega) _ (acc ++ [2]) (BE 4 a3) _ _ _ (fun _ => True) (fun _ => False) rfl rfl M.out.R RN.out (fun _ _ h => h) (fun _ h => h.elim) (fun _ _ => trivial) M.out.B M.out.B.size ?aL ?_; (case aL => have := LA.out; (try simp only [List.length_append, List.length_cons, List.length_nil, BE_length]); omega); intro v9 w9 ho9 hb9 hg9 hat9; have M9 := Aside0.mk (M.out.app ho9 hb9 hg9); clear ho9 hb9 hg9 hat9 M; clear z0_ z1_ z2_ z3_ z4_ z5_ z6_; have M := M9; clear M9; have z0_ := (blk_cell M.out.e 0).trans rfl; have z1_ := (blk_cell M.out.e 1).trans rfl; have z2_ := (blk_cell M.out.e 2).trans rfl; have z3_ := (blk_cell M.out.e 3).trans rfl; have z4_ := (blk_cell M.out.e 4).trans rfl; have z5_ := (blk_cell M.out.e 5).trans rfl; have z6_ := (blk_cell M.out.e 6).trans rfl) | fail)
        with_reducible refine (rnum_c _ a4 ((by have := BB.out.2.2.1; omega)) 2 (by decide) 2 rfl).mono ?_
        rintro e w3 ⟨vn, rfl, hRn, hbn⟩
        obtain ⟨An, cn, rfl⟩ := Kd.R_slice hRn
        have M := Aside0.mk (M.out.below hbn)
        have RN := Aside0.mk (Kd.R_reads' hRn).2.2
        clear z0_ z1_ z2_ z3_ z4_ z5_ z6_
        clear hRn hbn
        have z0_ := (blk_cell M.out.e 0).trans rfl
        have z1_ := (blk_cell M.out.e 1).trans rfl
        have z2_ := (blk_cell M.out.e 2).trans rfl
        have z3_ := (blk_cell M.out.e 3).trans rfl
        have z4_ := (blk_cell M.out.e 4).trans rfl
        have z5_ := (blk_cell M.out.e 5).trans rfl
        have z6_ := (blk_cell M.out.e 6).trans rfl
        go_wp2_with (first | ((with_reducible refine gate_builtin (b := .append) (xs := #[.tmp 57, .tmp 61]) rfl ?_); at_builtin; refine Kd.R_append_rows (Kd.int .u8) (w0 := w) w.heap.size rfl (.tmp 57) (.tmp 61) 22 5 (.int .u8 0) 1 rfl Try.underlying22 info5 rfl (by decide) (by omega) _ ((acc ++ [2]) ++ BE 4 a3) (BE 2 a4) _ _ _ (fun _ => True) (fun _ => False) rfl rfl M.out.R RN.out (fun _ _ h => h) (fun _ h => h.elim) (fun _ _ => trivial) M.out.B M.out.B.size ?aL ?_; (case aL => have := LA.out; (try simp only [List.length_append, List.length_cons, List.length_nil, BE_length]); omega); intro v9 w9 ho9 hb9 hg9 hat9; have M9 := Aside0.mk (M.out.app ho9 hb9 hg9); clear ho9 hb9 hg9 hat9 M; clear z0_ z1_ z2_ z3_ z4_ z5_ z6_; have M := M9; clear M9; have z0_ := (blk_cell M.out.e 0).trans rfl; have z1_ := (blk_cell M.out.e 1).trans rfl; have z2_ := (blk_cell M.out.e 2).trans rfl; have z3_ := (blk_cell M.out.e 3).trans rfl; have z4_ := (blk_cell M.out.e 4).trans rfl; have z5_ := (blk_cell M.out.e 5).trans rfl; have z6_ := (blk_cell M.out.e 6).trans rfl) | fail)
        with_reducible refine (rnum_c _ a5 ((by have := BB.out.2.2.2; omega)) 2 (by decide) 2 rfl).mono ?_
        rintro e w3 ⟨vn, rfl, hRn, hbn⟩
        obtain ⟨An, cn, rfl⟩ := Kd.R_slice hRn
        have M := Aside0.mk (M.out.below hbn)
        have RN := Aside0.mk (Kd.R_reads' hRn).2.2
        clear z0_ z1_ z2_ z3_ z4_ z5_ z6_
        clear hRn hbn
        have z0_ := (blk_cell M.out.e 0).trans rfl
        have z1_ := (blk_cell M.out.e 1).trans rfl
        have z2_ := (blk_cell M.out.e 2).trans rfl
        have z3_ := (blk_cell M.out.e 3).trans rfl
        have z4_ := (blk_cell M.out.e 4).trans rfl
        have z5_ := (blk_cell M.out.e 5).trans rfl
        have z6_ := (blk_cell M.out.e 6).trans rfl
        go_wp2_with (first | ((with_reducible refine gate_builtin (b := .append) (xs := #[.tmp 63, .tmp 67]) rfl ?_); at_builtin; refine Kd.R_append_rows (Kd.int .u8) (w0 := w) w.heap.size rfl (.tmp 63) (.tmp 67) 22 5 (.int .u8 0) 1 rfl Try.underlying22 info5 rfl (by decide) (by omega) _ (((acc ++ [2]) ++ BE 4 a3) ++ BE 2 a4) (BE 2 a5) _ _ _ (fun _ => True) (fun _ => False) rfl rfl M.out.R RN.out (fun _ _ h => h) (fun _ h => h.elim) (fun _ _ => trivial) M.out.B M.out.B.size ?aL ?_; (case aL => have := LA.out; (try simp only [List.length_append, List.length_cons, List.length_nil, BE_length]); omega); intro v9 w9 ho9 hb9 hg9 hat9; have M9 := Aside0.mk (M.out.app ho9 hb9 hg9); clear ho9 hb9 hg9 hat9 M; clear z0_ z1_ z2_ z3_ z4_ z5_ z6_; have M := M9; clear M9; have z0_ := (blk_cell M.out.e 0).trans rfl; have z1_ := (blk_cell M.out.e 1).trans rfl; have z2_ := (blk_cell M.out.e 2).trans rfl; have z3_ := (blk_cell M.out.e 3).trans rfl; have z4_ := (blk_cell M.out.e 4).trans rfl; have z5_ := (blk_cell M.out.e 5).trans rfl; have z6_ := (blk_cell M.out.e 6).trans rfl) | fail)
        with_reducible refine (rnum_c _ (s.size : Int) ((by have := SL.out; omega)) 2 (by decide) 2 rfl).mono ?_
        rintro e w3 ⟨vn, rfl, hRn, hbn⟩
        obtain ⟨An, cn, rfl⟩ := Kd.R_slice hRn
        have M := Aside0.mk (M.out.below hbn)
        have RN := Aside0.mk (Kd.R_reads' hRn).2.2
        clear z0_ z1_ z2_ z3_ z4_ z5_ z6_
        clear hRn hbn
        have z0_ := (blk_cell M.out.e 0).trans rfl
        have z1_ := (blk_cell M.out.e 1).trans rfl
        have z2_ := (blk_cell M.out.e 2).trans rfl
        have z3_ := (blk_cell M.out.e 3).trans rfl
        have z4_ := (blk_cell M.out.e 4).trans rfl
        have z5_ := (blk_cell M.out.e 5).trans rfl
        have z6_ := (blk_cell M.out.e 6).trans rfl
        go_wp2_with (first | ((with_reducible refine gate_builtin (b := .append) (xs := #[.tmp 77, .tmp 82]) rfl ?_); at_builtin; refine Kd.R_append_rows (Kd.int .u8) (w0 := w) w.heap.size rfl (.tmp 77) (.tmp 82) 22 5 (.int .u8 0) 1 rfl Try.underlying22 info5 rfl (by decide) (by omega) _ ((((acc ++ [2]) ++ BE 4 a3) ++ BE 2 a4) ++ BE 2 a5) (BE 2 (s.size : Int)) _ _ _ (fun _ => True) (fun _ => False) rfl rfl M.out.R RN.out (fun _ _ h => h) (fun _ h => h.elim) (fun _ _ => trivial) M.out.B M.out.B.size ?aL ?_; (case aL => have := LA.out; (try simp only [List.length_append, List.length_cons, List.length_nil, BE_length]); omega); intro v9 w9 ho9 hb9 hg9 hat9; have M9 := Aside0.mk (M.out.app ho9 hb9 hg9); clear ho9 hb9 hg9 hat9 M; clear z0_ z1_ z2_ z3_ z4_ z5_ z6_; have M := M9; clear M9; have z0_ := (blk_cell M.out.e 0).trans rfl; have z1_ := (blk_cell M.out.e 1).trans rfl; have z2_ := (blk_cell M.out.e 2).trans rfl; have z3_ := (blk_cell M.out.e 3).trans rfl; have z4_ := (blk_cell M.out.e 4).trans rfl; have z5_ := (blk_cell M.out.e 5).trans rfl; have z6_ := (blk_cell M.out.e 6).trans rfl) | ((with_reducible refine gate_builtin (b := .append) (xs := #[.tmp 84, .tmp 86]) rfl ?_); at_builtin; refine print_append_str (w0 := w) w.heap.size rfl (.tmp 84) (.tmp 86) 22 9 5 rfl Try.underlying22 Try.underlying9 info5 _ (((((acc ++ [2]) ++ BE 4 a3) ++ BE 2 a4) ++ BE 2 a5) ++ BE 2 (s.size : Int)) s rfl rfl (Kd.own_of_R M.out.R) M.out.B M.out.B.size ?aL ?_; (case aL => have := LA.out; have := SL.out; (try simp only [List.length_append, List.length_cons, List.length_nil, BE_length]); omega); intro v9 w9 ho9 hb9 hg9; have M9 := Aside0.mk (M.out.app (Kd.R_of_own ho9 (fun _ _ => trivial)) hb9 hg9); clear ho9 hb9 hg9 M; have M := M9; clear M9) | fail)
        have HA : Aside0 ((((((acc ++ [2]) ++ BE 4 a3) ++ BE 2 a4) ++ BE 2 a5) ++ BE 2 (s.size : Int)) ++ bytesOf s = encs (l.take (i + 1))) := ⟨by rw [ET.out, ← HP.out.2.2.2.1]; unfold encA; (try simp only [reduceCtorEq, Int.reduceEq, ite_true, ite_false, if_true, if_false]); rw [SZ.out, SB.out]; try simp⟩
        have HLN : Aside0 (((((((acc ++ [2]) ++ BE 4 a3) ++ BE 2 a4) ++ BE 2 a5) ++ BE 2 (s.size : Int)) ++ bytesOf s).length ≤ 65550 * (i + 1)) := ⟨by rw [HA.out, ET.out, List.length_append, ← HP.out.2.2.2.1]; have := LY.out; have := HP.out.2.2.1; omega⟩
        go_roundg k1
        case measure => omega
        case rel => exact ⟨i + 1, (((((acc ++ [2]) ++ BE 4 a3) ++ BE 2 a4) ++ BE 2 a5) ++ BE 2 (s.size : Int)) ++ bytesOf s, by first | rw [hstep] | rfl, ⟨M.out.R⟩, ⟨by have := HP.out.1; omega, HLT.out, HLN.out, HA.out, hEC.out⟩, ⟨M.out.B⟩⟩
      · have z0_ := (blk_cell M.out.e 0).trans rfl
        have z1_ := (blk_cell M.out.e 1).trans rfl
        have z2_ := (blk_cell M.out.e 2).trans rfl
        have z3_ := (blk_cell M.out.e 3).trans rfl
        have z4_ := (blk_cell M.out.e 4).trans rfl
        have z5_ := (blk_cell M.out.e 5).trans rfl
        have z6_ := (blk_cell M.out.e 6).trans rfl
        go_wp2_with (first | ((with_reducible refine gate_builtin (b := .append) (xs := #[.tmp 24, .tmp 29]) rfl ?_); at_builtin; refine Kd.R_append (Kd.int .u8) (w0 := w) w.heap.size rfl (.tmp 24) (.tmp 29) 22 5 (.int .u8 0) 1 rfl Try.underlying22 info5 rfl (by decide) (by omega) u4 (acc) 3 [.int .u8 3] (fun _ => True) (fun _ => False) rfl rfl rfl (fun _ hk => hk.elim) (fun _ _ => trivial) M.out.R M.out.B M.out.B.size ?aL ?_; (case aL => have := LA.out; (try simp only [List.length_append, List.length_cons, List.length_nil, BE_length]); omega); intro v9 w9 ho9 hb9 hg9 hat9; have M9 := Aside0.mk (M.out.app ho9 hb9 hg9); clear ho9 hb9 hg9 hat9 M; clear z0_ z1_ z2_ z3_ z4_ z5_ z6_; have M := M9; clear M9; have z0_ := (blk_cell M.out.e 0).trans rfl; have z1_ := (blk_cell M.out.e 1).trans rfl; have z2_ := (blk_cell M.out.e 2).trans rfl; have z3_ := (blk_cell M.out.e 3).trans rfl; have z4_ := (blk_cell M.out.e 4).trans rfl; have z5_ := (blk_cell M.out.e 5).trans rfl; have z6_ := (blk_cell M.out.e 6).trans rfl) | fail)
        have HA : Aside0 (acc ++ [3] = encs (l.take (i + 1))) := ⟨by rw [ET.out, ← HP.out.2.2.2.1]; unfold encA; (try simp only [reduceCtorEq, Int.reduceEq, ite_true, ite_false, if_true, if_false]); try (first | rfl | simp)⟩
        have HLN : Aside0 ((acc ++ [3]).length ≤ 65550 * (i + 1)) := ⟨by rw [HA.out, ET.out, List.length_append, ← HP.out.2.2.2.1]; have := LY.out; have := HP.out.2.2.1; omega⟩
        go_roundg k1
        case measure => omega
        case rel => exact ⟨i + 1, acc ++ [3], by first | rw [hstep] | rfl, ⟨M.out.R⟩, ⟨by have := HP.out.1; omega, HLT.out, HLN.out, HA.out, hEC.out⟩, ⟨M.out.B⟩⟩
    · obtain rfl : i = l.length := by have := HP.out.2.1; omega
      have hE : Aside0 (EC l = 0) := ⟨by rw [HP.out.2.2.2.2, List.drop_eq_nil_of_le (Nat.le_refl _)]; rfl⟩
      have hA : Aside0 ((encE l).1 = acc) := ⟨by unfold encE; rw [if_pos hE.out, HP.out.2.2.2.1, List.take_of_length_le (Nat.le_refl _)]⟩
      clear hlt
      go_wp2
      go_ret2
      exact ⟨_, by rw [hE.out]; rfl, by rw [hA.out]; exact R.out, B.out⟩
end Go.Proofs.Ytecbahciplnhfaa
