/-
  The document's reader of scripts, walked. For all bytes (at most 1000000000 of them). Written by a program (gen_rdec.py).
-/
import Derived.Test.YtecbahciplnhfaaScriptRef
namespace Go.Proofs.Ytecbahciplnhfaa
set_option linter.unusedVariables false
set_option linter.unusedSimpArgs false
set_option linter.unnecessarySimpa false
open Go.RowKit Go.Proofs.YtecbahciplnhfaaW.PrintWords Go.Proofs.YtecbahciplnhfaaW.PrintLast Go.Proofs.YtecbahciplnhfaaW.PrintMore Go.Proofs.Ytecbahciplnhfaa.MScriptDecodes Go.Proofs.Ytecbahciplnhfaa.Base
theorem wr_ {n : Int} (h : -9223372036854775808 ≤ n ∧ n ≤ 9223372036854775807) : wrap64 n = n := wrap64_id h
theorem rnum_c (W : World) (A : Option Addr) (c : Nat) (b : List Int) (hb : Bytes b) (hr : Kd.C (Kd.int .u8) W A b.length b) (hc : b.length ≤ c) (p m : Nat) (hm : m ≤ 8) (hp : p ≤ 4000000000) (mi : Int) (hmi : mi = (m : Int)) :
    Calls Try.prog 20 #[.slice A b.length c, .int .i64 (p : Int), .int .i64 mi] W fun e w' => e = .returned (.int .u64 (NV (b.drop p) m)) ∧ Drawn0 W w' := by
  obtain ⟨k, hk⟩ := Ev.ok (rnumber_is hb hm hp (x := (p : Int)) (y := mi) rfl hmi)
  exact horologeref39_number.calls k A c b (p : Int) mi _ W hr hc hk
theorem rtext_c (W : World) (A : Option Addr) (c : Nat) (b : List Int) (hb : Bytes b) (hl : b.length ≤ 1000000000) (hr : Kd.C (Kd.int .u8) W A b.length b) (hc : b.length ≤ c) (p : Nat) (hp : p ≤ 3000000000) :
    Calls Try.prog 21 #[.slice A b.length c, .int .i64 (p : Int)] W fun e w' => ∃ q : Nat, e = .returned (.tuple #[.string (strOfNums (tx (b.drop p)).1), .int .i64 (q : Int)]) ∧ (b.drop q = (tx (b.drop p)).2 ∧ q ≤ b.length) ∧ Drawn0 W w' := by
  obtain ⟨q, h1, h2, h3⟩ := rtext_is hb hl hp (x := (p : Int)) rfl
  obtain ⟨k, hk⟩ := Ev.ok h1
  refine (horologeref39_text.calls k A c b (p : Int) _ _ W hr hc hk).mono ?_
  rintro e w' ⟨rfl, hd⟩
  exact ⟨q, rfl, ⟨h2, h3⟩, hd⟩
/-- A row of the document's acts of one's own, beside a box for the next one. -/
structure BX (w0 : World) (gb : Nat) (cs : Array Value) (v : Value) (pre : List S43) (w : World) : Prop where
  e : w.heap[gb]? = some (.cells cs 43 (0, 0))
  R : Kd.R k43 43 w w0.heap.size (fun k => k ≠ gb) v pre
  B : Below w0.heap.size w0 w
  o : w0.heap.size ≤ gb
section
variable {w0 w w' : World} {gb : Nat} {cs : Array Value} {v : Value} {pre : List S43}
theorem BX.set (M : BX w0 gb cs v pre w) (j : Nat) (u : Value) : BX w0 gb (cs.setIfInBounds j u) v pre (w.setCell ⟨gb, j, none⟩ u) :=
  ⟨blk_set M.e j u, Kd.R_far (p := ⟨gb, j, none⟩) M.R (fun _ hk => hk) u, below_set M.B M.o, M.o⟩
theorem BX.drawn (M : BX w0 gb cs v pre w) (hd : Drawn0 w w') : BX w0 gb cs v pre w' := by
  obtain ⟨m, rfl⟩ := hd
  exact ⟨M.e, Kd.R_drewN M.R m, pw_below_drewN M.B m, M.o⟩
theorem BX.start (R : Kd.R k43 43 w w0.heap.size (fun _ => True) v pre) (B : Below w0.heap.size w0 w) (cs : Array Value) : BX w0 w.heap.size cs v pre (w.alloc (.cells cs 43 (0, 0))) :=
  ⟨blk_new w _, Kd.R_alloc (Kd.R_mono (Kd.R_bound R) (fun k hk => by have := hk.2.2.1; omega)) _, below_alloc B _, B.size⟩
end
set_option maxHeartbeats 8000000 in
set_option maxRecDepth 100000 in
theorem refdec_c (w : World) (A : Option Addr) (c : Nat) (b : List Int) (hb : Bytes b) (hl : b.length ≤ 1000000000) (hr : Kd.C (Kd.int .u8) w A b.length b) (hc : b.length ≤ c) :
    Calls Try.prog 10 #[.slice A b.length c] w fun e w' => ∃ v, e = .returned v ∧ Kd.R k43 43 w' w.heap.size (fun _ => True) v ((dec b).map doc) ∧ Below w.heap.size w w' := by
  have HB := Aside0.mk hb
  have HL := Aside0.mk hl
  have HR := Aside0.mk hr
  have HC := Aside0.mk hc
  clear hb hl hr hc
  go_enter Try.func10, Try.ntmps10
  go_wp2_with (first | ((with_reducible refine gate_dst (N := 6) rfl ?_); refine Kd.R_lit k43 w.heap.size 43 ?hg (N := 6) ?hd (xs := ([] : List (S43))) (inner := []) (ok := fun _ => True) (okp := fun _ => True) ?hr ?hp (fun _ hk => hk) trivial (Below.refl _ _) (Nat.le_refl _) (by simp) ?_; (case hd => rfl); (case hg => rfl); (case hr => first | (go_simp; done) | (go_simp; rfl)); (case hp => exact (Reps.none _ _)); intro v1 w1 ho1 hb1 hg_ hnew_; clear hg_ hnew_; have R1 := Aside0.mk ho1; have B1 := Aside0.mk hb1; clear ho1 hb1) | fail)
  go_loopg [3, 4] (b.length + 1) (fun n v3 v4 wr => ∃ (pre : List S43) (p : Nat), v4 = .int .i64 p ∧ Aside0 (Kd.R k43 43 wr w.heap.size (fun _ => True) v3 pre) ∧ Aside0 ((dec b).map doc = pre ++ (dec (b.drop p)).map doc ∧ (b.drop p).length < n ∧ pre.length + (b.drop p).length ≤ b.length ∧ p ≤ 2000000000) ∧ Aside0 (Below w.heap.size w wr))
  case atStart => exact ⟨[], 0, rfl, R1, ⟨by simp⟩, B1⟩
  case round =>
    clear R1 B1
    obtain ⟨pre, p, rfl, R, HP, B⟩ := hrel
    by_cases hlt : p < b.length
    · obtain ⟨k1, rfl⟩ : ∃ k1, gk = k1 + 1 := ⟨gk - 1, by have := HP.out.2.1; omega⟩
      have hne : b.drop p ≠ [] := fun e => by have := List.drop_eq_nil_iff.1 e; omega
      have HS := Aside0.mk (dec_step hne)
      have HD := Aside0.mk (decA_len hne)
      have M4 := mod4 (HB.out.drop p)
      have h1 := NV_lt (HB.out.drop p) 1
      rw [show (256 : Int) ^ 1 = 256 by decide] at h1
      have q1 : (p : Int) < (b.length : Int) := by omega
      obtain ⟨ad, hA, hcell⟩ := Kd.at_int (Kd.C_below HR.out B.out) (p : Int) (by omega) q1
      have HR := Aside0.mk HR.out
      subst hA
      simp only [Int.toNat_natCast] at hcell
      have hr : rd b (p : Int) = NV (b.drop p) 1 := by
        have h := rd_drop b p 0
        simp only [NV]
        rw [show (p : Int) + ((0 : Nat) : Int) = (p : Int) by omega] at h
        rw [h]
        omega
      rw [hr] at hcell
      have HN : Aside0 (∀ (x : S33) (q : Nat), (x, b.drop q) = decA (b.drop p) → (dec b).map doc = (pre ++ [doc x]) ++ (dec (b.drop q)).map doc ∧ (b.drop q).length < k1 ∧ (pre ++ [doc x]).length + (b.drop q).length ≤ b.length) := ⟨fun x q he => by
        have e := HS.out
        have hd := HD.out
        rw [← he] at e hd
        have h := HP.out
        rw [e] at h
        refine ⟨by rw [h.1]; simp, by simp only at hd; omega, by simp only [List.length_append, List.length_cons, List.length_nil]; simp only at hd; omega⟩⟩
      have HPB : Aside0 (p < 1000000000) := ⟨by have := HL.out; omega⟩
      have LP : Aside0 ((pre.length + 1) * 64 ≤ 140737488355328) := ⟨by have := HP.out.2.2.1; have := HL.out; omega⟩
      obtain ⟨p1, hp1⟩ : ∃ p1, p1 = p + 1 := ⟨_, rfl⟩
      have s1 : wrap64 ((p : Int) + 1) = (p1 : Int) := by rw [hp1, wr_ (by have := HPB.out; omega)]; omega
      have P1 := Aside0.mk hp1
      obtain ⟨x0, hx0⟩ : ∃ x, x = NV (b.drop p) 1 := ⟨_, rfl⟩
      rw [← hx0] at hcell h1 M4
      have e1 : wrap64 x0 = x0 := by unfold wrap64; omega
      have e2 : IntKind.i64.wrap x0 = x0 := by rw [wrap_i64]; exact e1
      have X0 := Aside0.mk hx0
      have ZB := Aside0.mk (BX.start R.out B.out)
      clear hne h1 hr hp1 hx0 hlt R
      rcases M4 with h4 | h4 | h4 | h4
      · obtain ⟨p2, hp2⟩ : ∃ q, q = p + 2 := ⟨_, rfl⟩
        have s2 : wrap64 ((p1 : Int) + 1) = (p2 : Int) := by rw [hp2, P1.out, wr_ (by have := HPB.out; omega)]; omega
        have P2 := Aside0.mk hp2
        clear hp2
        go_wp2_with (fail)
        have M := Aside0.mk (ZB.out #[.int .i64 1, .int .i64 0, .int .u64 0, .int .u32 0, .int .i64 0, .int .i64 0, .string ⟨#[]⟩])
        clear ZB
        generalize hW : wr.alloc (.cells #[.int .i64 1, .int .i64 0, .int .u64 0, .int .u32 0, .int .i64 0, .int .i64 0, .string ⟨#[]⟩] 43 (0, 0)) = W at M ⊢
        generalize hgb : wr.heap.size = gb at M ⊢
        clear hW hgb
        with_reducible refine (rnum_c _ _ c b HB.out (Kd.C_below HR.out M.out.B) HC.out p1 1 (by decide) (by have := HPB.out; have := P1.out; omega) 1 rfl).mono ?_
        rintro e w2 ⟨rfl, hd⟩
        have M := Aside0.mk (M.out.drawn hd)
        clear hd
        obtain ⟨y1, hy1⟩ : ∃ q, q = NV (b.drop p1) 1 := ⟨_, rfl⟩
        rw [← hy1]
        have Qy1 := Aside0.mk hy1
        have uy1 : wrap64 y1 = y1 := by rw [hy1]; exact (N1 (HB.out.drop p1)).1
        have vy1 : IntKind.i64.wrap y1 = y1 := by rw [hy1]; exact (N1 (HB.out.drop p1)).2
        clear hy1
        have z0_ := (blk_cell M.out.e 0).trans rfl
        have f0_ := blk_frozen M.out.e 0
        have z1_ := (blk_cell M.out.e 1).trans rfl
        have f1_ := blk_frozen M.out.e 1
        have z2_ := (blk_cell M.out.e 2).trans rfl
        have f2_ := blk_frozen M.out.e 2
        have z3_ := (blk_cell M.out.e 3).trans rfl
        have f3_ := blk_frozen M.out.e 3
        have z4_ := (blk_cell M.out.e 4).trans rfl
        have f4_ := blk_frozen M.out.e 4
        have z5_ := (blk_cell M.out.e 5).trans rfl
        have f5_ := blk_frozen M.out.e 5
        have z6_ := (blk_cell M.out.e 6).trans rfl
        have f6_ := blk_frozen M.out.e 6
        go_wp2_with (fail)
        clear z0_ f0_ z1_ f1_ z2_ f2_ z3_ f3_ z4_ f4_ z5_ f5_ z6_ f6_
        have M := Aside0.mk (M.out.set 1 (.int .i64 y1))
        have M : Aside0 (BX w gb #[.int .i64 1, .int .i64 y1, .int .u64 0, .int .u32 0, .int .i64 0, .int .i64 0, .string ⟨#[]⟩] _ pre _) := M
        with_reducible refine (rtext_c _ _ c b HB.out HL.out (Kd.C_below HR.out M.out.B) HC.out p2 (by have := HPB.out; have := P2.out; omega)).mono ?_
        rintro e w3 ⟨q, rfl, hq, hd⟩
        have M := Aside0.mk (M.out.drawn hd)
        have HQ := Aside0.mk hq
        clear hd hq
        obtain ⟨s, hs⟩ : ∃ s, s = strOfNums (tx (b.drop p2)).1 := ⟨_, rfl⟩
        rw [← hs]
        have HSS := Aside0.mk hs
        clear hs
        have z0_ := (blk_cell M.out.e 0).trans rfl
        have f0_ := blk_frozen M.out.e 0
        have z1_ := (blk_cell M.out.e 1).trans rfl
        have f1_ := blk_frozen M.out.e 1
        have z2_ := (blk_cell M.out.e 2).trans rfl
        have f2_ := blk_frozen M.out.e 2
        have z3_ := (blk_cell M.out.e 3).trans rfl
        have f3_ := blk_frozen M.out.e 3
        have z4_ := (blk_cell M.out.e 4).trans rfl
        have f4_ := blk_frozen M.out.e 4
        have z5_ := (blk_cell M.out.e 5).trans rfl
        have f5_ := blk_frozen M.out.e 5
        have z6_ := (blk_cell M.out.e 6).trans rfl
        have f6_ := blk_frozen M.out.e 6
        have M2 := Aside0.mk (M.out.set 6 (.string s))
        have M := (show Aside0 (BX w gb #[.int .i64 1, .int .i64 y1, .int .u64 0, .int .u32 0, .int .i64 0, .int .i64 0, .string s] _ pre _) from M2)
        clear M2
        go_wp2_with (first | ((with_reducible refine gate_builtin (b := .append) (xs := #[.tmp 73, .tmp 75]) rfl ?_); at_builtin; refine Kd.R_append k43 (w0 := w) w.heap.size rfl (.tmp 73) (.tmp 75) 27 43 (.agg #[(.int .i64 0), (.int .i64 0), (.int .u64 0), (.int .u32 0), (.int .i64 0), (.int .i64 0), (.string ⟨#[]⟩)]) 64 rfl Try.underlying27 info43 rfl (by decide) (by omega) u3 pre (⟨1, y1, 0, 0, 0, 0, s⟩ : S43) [.int .i64 1, .int .i64 y1, .int .u64 0, .int .u32 0, .int .i64 0, .int .i64 0, .string s] (fun k_ => k_ ≠ gb) (fun _ => False) rfl (by first | (go_simp; done) | (go_simp; rfl)) (k43_mkM _ _ _ (⟨1, y1, 0, 0, 0, 0, s⟩ : S43)) (fun _ hk => hk.elim) ?aF ?aO ?aB ?aS ?aL ?_; (case aF => exact fun k_ hk => (by have := blk_lt M.out.e; omega)); (case aO => exact M.out.R); (case aB => exact M.out.B); (case aS => exact M.out.B.size); (case aL => exact LP.out); intro v9 w9 ho9 hb9 hg9 hat9; have R9 := Aside0.mk (Kd.R_mono ho9 (fun _ _ => trivial)); have B9 := Aside0.mk hb9; clear ho9 hb9 hg9 hat9) | fail)
        go_roundg k1
        case measure => omega
        case rel =>
          have hn := HN.out (⟨1, NV (b.drop p1) 1, 0, 0, 0, 0, (tx (b.drop p2)).1⟩ : S33) q (by rw [HQ.out.1]; unfold decA; rw [← X0.out, if_pos h4]; simp only [List.drop_drop, P1.out, P2.out])
          refine ⟨pre ++ [doc ⟨1, NV (b.drop p1) 1, 0, 0, 0, 0, (tx (b.drop p2)).1⟩], q, by rfl, ⟨?_⟩, ⟨hn.1, hn.2.1, hn.2.2, by have := HQ.out.2; have := HL.out; omega⟩, B9⟩
          have h := R9.out
          first | exact h | (simp only [doc]; exact h) | (simp only [doc]; rw [← HSS.out, ← Qy1.out]; exact h)
      · obtain ⟨p9, hp9⟩ : ∃ q, q = p + 9 := ⟨_, rfl⟩
        have s9 : wrap64 ((p1 : Int) + 8) = (p9 : Int) := by rw [hp9, P1.out, wr_ (by have := HPB.out; omega)]; omega
        have P9 := Aside0.mk hp9
        clear hp9
        go_wp2_with (fail)
        have M := Aside0.mk (ZB.out #[.int .i64 2, .int .i64 0, .int .u64 0, .int .u32 0, .int .i64 0, .int .i64 0, .string ⟨#[]⟩])
        clear ZB
        generalize hW : wr.alloc (.cells #[.int .i64 2, .int .i64 0, .int .u64 0, .int .u32 0, .int .i64 0, .int .i64 0, .string ⟨#[]⟩] 43 (0, 0)) = W at M ⊢
        generalize hgb : wr.heap.size = gb at M ⊢
        clear hW hgb
        with_reducible refine (rnum_c _ _ c b HB.out (Kd.C_below HR.out M.out.B) HC.out p1 8 (by decide) (by have := HPB.out; have := P1.out; omega) 8 rfl).mono ?_
        rintro e w2 ⟨rfl, hd⟩
        have M := Aside0.mk (M.out.drawn hd)
        clear hd
        obtain ⟨y1, hy1⟩ : ∃ q, q = NV (b.drop p1) 8 := ⟨_, rfl⟩
        rw [← hy1]
        have Qy1 := Aside0.mk hy1
        clear hy1
        have z0_ := (blk_cell M.out.e 0).trans rfl
        have f0_ := blk_frozen M.out.e 0
        have z1_ := (blk_cell M.out.e 1).trans rfl
        have f1_ := blk_frozen M.out.e 1
        have z2_ := (blk_cell M.out.e 2).trans rfl
        have f2_ := blk_frozen M.out.e 2
        have z3_ := (blk_cell M.out.e 3).trans rfl
        have f3_ := blk_frozen M.out.e 3
        have z4_ := (blk_cell M.out.e 4).trans rfl
        have f4_ := blk_frozen M.out.e 4
        have z5_ := (blk_cell M.out.e 5).trans rfl
        have f5_ := blk_frozen M.out.e 5
        have z6_ := (blk_cell M.out.e 6).trans rfl
        have f6_ := blk_frozen M.out.e 6
        have M2 := Aside0.mk (M.out.set 2 (.int .u64 y1))
        have M := (show Aside0 (BX w gb #[.int .i64 2, .int .i64 0, .int .u64 y1, .int .u32 0, .int .i64 0, .int .i64 0, .string ⟨#[]⟩] _ pre _) from M2)
        clear M2
        go_wp2_with (first | ((with_reducible refine gate_builtin (b := .append) (xs := #[.tmp 73, .tmp 75]) rfl ?_); at_builtin; refine Kd.R_append k43 (w0 := w) w.heap.size rfl (.tmp 73) (.tmp 75) 27 43 (.agg #[(.int .i64 0), (.int .i64 0), (.int .u64 0), (.int .u32 0), (.int .i64 0), (.int .i64 0), (.string ⟨#[]⟩)]) 64 rfl Try.underlying27 info43 rfl (by decide) (by omega) u3 pre (⟨2, 0, y1, 0, 0, 0, ⟨#[]⟩⟩ : S43) [.int .i64 2, .int .i64 0, .int .u64 y1, .int .u32 0, .int .i64 0, .int .i64 0, .string ⟨#[]⟩] (fun k_ => k_ ≠ gb) (fun _ => False) rfl (by first | (go_simp; done) | (go_simp; rfl)) (k43_mkM _ _ _ (⟨2, 0, y1, 0, 0, 0, ⟨#[]⟩⟩ : S43)) (fun _ hk => hk.elim) ?aF ?aO ?aB ?aS ?aL ?_; (case aF => exact fun k_ hk => (by have := blk_lt M.out.e; omega)); (case aO => exact M.out.R); (case aB => exact M.out.B); (case aS => exact M.out.B.size); (case aL => exact LP.out); intro v9 w9 ho9 hb9 hg9 hat9; have R9 := Aside0.mk (Kd.R_mono ho9 (fun _ _ => trivial)); have B9 := Aside0.mk hb9; clear ho9 hb9 hg9 hat9) | fail)
        go_roundg k1
        case measure => omega
        case rel =>
          have hn := HN.out (⟨2, 0, NV (b.drop p1) 8, 0, 0, 0, []⟩ : S33) p9 (by unfold decA; rw [← X0.out, if_neg (by rw [h4]; decide), if_pos h4]; simp only [List.drop_drop, P1.out, P9.out])
          refine ⟨pre ++ [doc ⟨2, 0, NV (b.drop p1) 8, 0, 0, 0, []⟩], p9, by rfl, ⟨?_⟩, ⟨hn.1, hn.2.1, hn.2.2, by have := P9.out; have := HPB.out; omega⟩, B9⟩
          have h := R9.out
          first | exact h | (simp only [doc]; exact h) | (simp only [doc]; rw [← Qy1.out]; exact h)
      · obtain ⟨p5, hp5⟩ : ∃ q, q = p + 5 := ⟨_, rfl⟩
        have s5 : wrap64 ((p1 : Int) + 4) = (p5 : Int) := by rw [hp5, P1.out, wr_ (by have := HPB.out; omega)]; omega
        have P5 := Aside0.mk hp5
        clear hp5
        obtain ⟨p7, hp7⟩ : ∃ q, q = p + 7 := ⟨_, rfl⟩
        have s7 : wrap64 ((p1 : Int) + 6) = (p7 : Int) := by rw [hp7, P1.out, wr_ (by have := HPB.out; omega)]; omega
        have P7 := Aside0.mk hp7
        clear hp7
        obtain ⟨p9, hp9⟩ : ∃ q, q = p + 9 := ⟨_, rfl⟩
        have s9 : wrap64 ((p1 : Int) + 8) = (p9 : Int) := by rw [hp9, P1.out, wr_ (by have := HPB.out; omega)]; omega
        have P9 := Aside0.mk hp9
        clear hp9
        go_wp2_with (fail)
        have M := Aside0.mk (ZB.out #[.int .i64 3, .int .i64 0, .int .u64 0, .int .u32 0, .int .i64 0, .int .i64 0, .string ⟨#[]⟩])
        clear ZB
        generalize hW : wr.alloc (.cells #[.int .i64 3, .int .i64 0, .int .u64 0, .int .u32 0, .int .i64 0, .int .i64 0, .string ⟨#[]⟩] 43 (0, 0)) = W at M ⊢
        generalize hgb : wr.heap.size = gb at M ⊢
        clear hW hgb
        with_reducible refine (rnum_c _ _ c b HB.out (Kd.C_below HR.out M.out.B) HC.out p1 4 (by decide) (by have := HPB.out; have := P1.out; omega) 4 rfl).mono ?_
        rintro e w2 ⟨rfl, hd⟩
        have M := Aside0.mk (M.out.drawn hd)
        clear hd
        obtain ⟨y1, hy1⟩ : ∃ q, q = NV (b.drop p1) 4 := ⟨_, rfl⟩
        rw [← hy1]
        have Qy1 := Aside0.mk hy1
        have uy1 : IntKind.u32.wrap y1 = y1 := by rw [hy1]; exact N4 (HB.out.drop p1)
        clear hy1
        have z0_ := (blk_cell M.out.e 0).trans rfl
        have f0_ := blk_frozen M.out.e 0
        have z1_ := (blk_cell M.out.e 1).trans rfl
        have f1_ := blk_frozen M.out.e 1
        have z2_ := (blk_cell M.out.e 2).trans rfl
        have f2_ := blk_frozen M.out.e 2
        have z3_ := (blk_cell M.out.e 3).trans rfl
        have f3_ := blk_frozen M.out.e 3
        have z4_ := (blk_cell M.out.e 4).trans rfl
        have f4_ := blk_frozen M.out.e 4
        have z5_ := (blk_cell M.out.e 5).trans rfl
        have f5_ := blk_frozen M.out.e 5
        have z6_ := (blk_cell M.out.e 6).trans rfl
        have f6_ := blk_frozen M.out.e 6
        go_wp2_with (fail)
        clear z0_ f0_ z1_ f1_ z2_ f2_ z3_ f3_ z4_ f4_ z5_ f5_ z6_ f6_
        have M := Aside0.mk (M.out.set 3 (.int .u32 y1))
        have M : Aside0 (BX w gb #[.int .i64 3, .int .i64 0, .int .u64 0, .int .u32 y1, .int .i64 0, .int .i64 0, .string ⟨#[]⟩] _ pre _) := M
        with_reducible refine (rnum_c _ _ c b HB.out (Kd.C_below HR.out M.out.B) HC.out p5 2 (by decide) (by have := HPB.out; have := P5.out; omega) 2 rfl).mono ?_
        rintro e w2 ⟨rfl, hd⟩
        have M := Aside0.mk (M.out.drawn hd)
        clear hd
        obtain ⟨y2, hy2⟩ : ∃ q, q = NV (b.drop p5) 2 := ⟨_, rfl⟩
        rw [← hy2]
        have Qy2 := Aside0.mk hy2
        have uy2 : wrap64 y2 = y2 := by rw [hy2]; exact (N2 (HB.out.drop p5)).1
        have vy2 : IntKind.i64.wrap y2 = y2 := by rw [hy2]; exact (N2 (HB.out.drop p5)).2
        clear hy2
        have z0_ := (blk_cell M.out.e 0).trans rfl
        have f0_ := blk_frozen M.out.e 0
        have z1_ := (blk_cell M.out.e 1).trans rfl
        have f1_ := blk_frozen M.out.e 1
        have z2_ := (blk_cell M.out.e 2).trans rfl
        have f2_ := blk_frozen M.out.e 2
        have z3_ := (blk_cell M.out.e 3).trans rfl
        have f3_ := blk_frozen M.out.e 3
        have z4_ := (blk_cell M.out.e 4).trans rfl
        have f4_ := blk_frozen M.out.e 4
        have z5_ := (blk_cell M.out.e 5).trans rfl
        have f5_ := blk_frozen M.out.e 5
        have z6_ := (blk_cell M.out.e 6).trans rfl
        have f6_ := blk_frozen M.out.e 6
        go_wp2_with (fail)
        clear z0_ f0_ z1_ f1_ z2_ f2_ z3_ f3_ z4_ f4_ z5_ f5_ z6_ f6_
        have M := Aside0.mk (M.out.set 4 (.int .i64 y2))
        have M : Aside0 (BX w gb #[.int .i64 3, .int .i64 0, .int .u64 0, .int .u32 y1, .int .i64 y2, .int .i64 0, .string ⟨#[]⟩] _ pre _) := M
        with_reducible refine (rnum_c _ _ c b HB.out (Kd.C_below HR.out M.out.B) HC.out p7 2 (by decide) (by have := HPB.out; have := P7.out; omega) 2 rfl).mono ?_
        rintro e w2 ⟨rfl, hd⟩
        have M := Aside0.mk (M.out.drawn hd)
        clear hd
        obtain ⟨y3, hy3⟩ : ∃ q, q = NV (b.drop p7) 2 := ⟨_, rfl⟩
        rw [← hy3]
        have Qy3 := Aside0.mk hy3
        have uy3 : wrap64 y3 = y3 := by rw [hy3]; exact (N2 (HB.out.drop p7)).1
        have vy3 : IntKind.i64.wrap y3 = y3 := by rw [hy3]; exact (N2 (HB.out.drop p7)).2
        clear hy3
        have z0_ := (blk_cell M.out.e 0).trans rfl
        have f0_ := blk_frozen M.out.e 0
        have z1_ := (blk_cell M.out.e 1).trans rfl
        have f1_ := blk_frozen M.out.e 1
        have z2_ := (blk_cell M.out.e 2).trans rfl
        have f2_ := blk_frozen M.out.e 2
        have z3_ := (blk_cell M.out.e 3).trans rfl
        have f3_ := blk_frozen M.out.e 3
        have z4_ := (blk_cell M.out.e 4).trans rfl
        have f4_ := blk_frozen M.out.e 4
        have z5_ := (blk_cell M.out.e 5).trans rfl
        have f5_ := blk_frozen M.out.e 5
        have z6_ := (blk_cell M.out.e 6).trans rfl
        have f6_ := blk_frozen M.out.e 6
        go_wp2_with (fail)
        clear z0_ f0_ z1_ f1_ z2_ f2_ z3_ f3_ z4_ f4_ z5_ f5_ z6_ f6_
        have M := Aside0.mk (M.out.set 5 (.int .i64 y3))
        have M : Aside0 (BX w gb #[.int .i64 3, .int .i64 0, .int .u64 0, .int .u32 y1, .int .i64 y2, .int .i64 y3, .string ⟨#[]⟩] _ pre _) := M
        with_reducible refine (rtext_c _ _ c b HB.out HL.out (Kd.C_below HR.out M.out.B) HC.out p9 (by have := HPB.out; have := P9.out; omega)).mono ?_
        rintro e w3 ⟨q, rfl, hq, hd⟩
        have M := Aside0.mk (M.out.drawn hd)
        have HQ := Aside0.mk hq
        clear hd hq
        obtain ⟨s, hs⟩ : ∃ s, s = strOfNums (tx (b.drop p9)).1 := ⟨_, rfl⟩
        rw [← hs]
        have HSS := Aside0.mk hs
        clear hs
        have z0_ := (blk_cell M.out.e 0).trans rfl
        have f0_ := blk_frozen M.out.e 0
        have z1_ := (blk_cell M.out.e 1).trans rfl
        have f1_ := blk_frozen M.out.e 1
        have z2_ := (blk_cell M.out.e 2).trans rfl
        have f2_ := blk_frozen M.out.e 2
        have z3_ := (blk_cell M.out.e 3).trans rfl
        have f3_ := blk_frozen M.out.e 3
        have z4_ := (blk_cell M.out.e 4).trans rfl
        have f4_ := blk_frozen M.out.e 4
        have z5_ := (blk_cell M.out.e 5).trans rfl
        have f5_ := blk_frozen M.out.e 5
        have z6_ := (blk_cell M.out.e 6).trans rfl
        have f6_ := blk_frozen M.out.e 6
        have M2 := Aside0.mk (M.out.set 6 (.string s))
        have M := (show Aside0 (BX w gb #[.int .i64 3, .int .i64 0, .int .u64 0, .int .u32 y1, .int .i64 y2, .int .i64 y3, .string s] _ pre _) from M2)
        clear M2
        go_wp2_with (first | ((with_reducible refine gate_builtin (b := .append) (xs := #[.tmp 73, .tmp 75]) rfl ?_); at_builtin; refine Kd.R_append k43 (w0 := w) w.heap.size rfl (.tmp 73) (.tmp 75) 27 43 (.agg #[(.int .i64 0), (.int .i64 0), (.int .u64 0), (.int .u32 0), (.int .i64 0), (.int .i64 0), (.string ⟨#[]⟩)]) 64 rfl Try.underlying27 info43 rfl (by decide) (by omega) u3 pre (⟨3, 0, 0, y1, y2, y3, s⟩ : S43) [.int .i64 3, .int .i64 0, .int .u64 0, .int .u32 y1, .int .i64 y2, .int .i64 y3, .string s] (fun k_ => k_ ≠ gb) (fun _ => False) rfl (by first | (go_simp; done) | (go_simp; rfl)) (k43_mkM _ _ _ (⟨3, 0, 0, y1, y2, y3, s⟩ : S43)) (fun _ hk => hk.elim) ?aF ?aO ?aB ?aS ?aL ?_; (case aF => exact fun k_ hk => (by have := blk_lt M.out.e; omega)); (case aO => exact M.out.R); (case aB => exact M.out.B); (case aS => exact M.out.B.size); (case aL => exact LP.out); intro v9 w9 ho9 hb9 hg9 hat9; have R9 := Aside0.mk (Kd.R_mono ho9 (fun _ _ => trivial)); have B9 := Aside0.mk hb9; clear ho9 hb9 hg9 hat9) | fail)
        go_roundg k1
        case measure => omega
        case rel =>
          have hn := HN.out (⟨3, 0, 0, NV (b.drop p1) 4, NV (b.drop p5) 2, NV (b.drop p7) 2, (tx (b.drop p9)).1⟩ : S33) q (by rw [HQ.out.1]; unfold decA; rw [← X0.out, if_neg (by rw [h4]; decide), if_neg (by rw [h4]; decide), if_pos h4]; simp only [List.drop_drop, P1.out, P5.out, P7.out, P9.out])
          refine ⟨pre ++ [doc ⟨3, 0, 0, NV (b.drop p1) 4, NV (b.drop p5) 2, NV (b.drop p7) 2, (tx (b.drop p9)).1⟩], q, by rfl, ⟨?_⟩, ⟨hn.1, hn.2.1, hn.2.2, by have := HQ.out.2; have := HL.out; omega⟩, B9⟩
          have h := R9.out
          first | exact h | (simp only [doc]; exact h) | (simp only [doc]; rw [← HSS.out, ← Qy1.out, ← Qy2.out, ← Qy3.out]; exact h)
      · have M := Aside0.mk (ZB.out #[.int .i64 4, .int .i64 0, .int .u64 0, .int .u32 0, .int .i64 0, .int .i64 0, .string ⟨#[]⟩])
        clear ZB
        obtain ⟨gb, hgb⟩ : ∃ g, g = wr.heap.size := ⟨_, rfl⟩
        rw [← hgb] at M
        go_wp2_with (first | ((with_reducible refine gate_builtin (b := .append) (xs := #[.tmp 73, .tmp 75]) rfl ?_); at_builtin; refine Kd.R_append k43 (w0 := w) w.heap.size rfl (.tmp 73) (.tmp 75) 27 43 (.agg #[(.int .i64 0), (.int .i64 0), (.int .u64 0), (.int .u32 0), (.int .i64 0), (.int .i64 0), (.string ⟨#[]⟩)]) 64 rfl Try.underlying27 info43 rfl (by decide) (by omega) u3 pre (⟨4, 0, 0, 0, 0, 0, ⟨#[]⟩⟩ : S43) [.int .i64 4, .int .i64 0, .int .u64 0, .int .u32 0, .int .i64 0, .int .i64 0, .string ⟨#[]⟩] (fun k_ => k_ ≠ gb) (fun _ => False) rfl (by first | (go_simp; done) | (go_simp; rfl)) (k43_mkM _ _ _ (⟨4, 0, 0, 0, 0, 0, ⟨#[]⟩⟩ : S43)) (fun _ hk => hk.elim) ?aF ?aO ?aB ?aS ?aL ?_; (case aF => exact fun k_ hk => (by have := blk_lt M.out.e; omega)); (case aO => exact M.out.R); (case aB => exact M.out.B); (case aS => exact M.out.B.size); (case aL => exact LP.out); intro v9 w9 ho9 hb9 hg9 hat9; have R9 := Aside0.mk (Kd.R_mono ho9 (fun _ _ => trivial)); have B9 := Aside0.mk hb9; clear ho9 hb9 hg9 hat9) | fail)
        go_roundg k1
        case measure => omega
        case rel =>
          have hn := HN.out (⟨4, 0, 0, 0, 0, 0, []⟩ : S33) p1 (by unfold decA; rw [← X0.out, if_neg (by rw [h4]; decide), if_neg (by rw [h4]; decide), if_neg (by rw [h4]; decide)]; simp only [List.drop_drop, P1.out])
          refine ⟨pre ++ [doc ⟨4, 0, 0, 0, 0, 0, []⟩], p1, by rfl, ⟨?_⟩, ⟨hn.1, hn.2.1, hn.2.2, by have := P1.out; have := HPB.out; omega⟩, B9⟩
          have h := R9.out
          first | exact h | (simp only [doc]; exact h) | (simp only [doc]; rw [← X0.out]; exact h)
    · have e : b.drop p = [] := List.drop_eq_nil_of_le (by omega)
      have hz : Aside0 (pre = (dec b).map doc) := ⟨by have h := HP.out.1; rw [e, dec_nil] at h; simpa using h.symm⟩
      have d1 : ¬ (p : Int) < (b.length : Int) := by omega
      clear hlt e
      go_wp2
      go_ret
      exact ⟨_, rfl, by rw [← hz.out]; exact R.out, B.out⟩
end Go.Proofs.Ytecbahciplnhfaa
