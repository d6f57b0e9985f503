/-
  Decoding: an act, and all acts of bytes.
-/
import Derived.Test.YtecbahciplnhfaaScriptRead
namespace Go.Proofs.Ytecbahciplnhfaa
set_option linter.unusedVariables false
set_option linter.unusedSimpArgs false
open Go.RowKit Go.Proofs.YtecbahciplnhfaaW.PrintWords Go.Proofs.YtecbahciplnhfaaW.PrintLast Go.Proofs.YtecbahciplnhfaaW.PrintMore Go.Proofs.Ytecbahciplnhfaa.MScriptBytes Go.Proofs.Ytecbahciplnhfaa.Base
/-- An act of bytes, and what is behind it. -/
def decA (l : List Int) : S33 × List Int :=
  if (NV l 1).tmod 4 = 0 then (⟨1, NV (l.drop 1) 1, 0, 0, 0, 0, (tx ((l.drop 1).drop 1)).1⟩, (tx ((l.drop 1).drop 1)).2)
  else if (NV l 1).tmod 4 = 1 then (⟨2, 0, NV (l.drop 1) 8, 0, 0, 0, []⟩, (l.drop 1).drop 8)
  else if (NV l 1).tmod 4 = 2 then (⟨3, 0, 0, NV (l.drop 1) 4, NV ((l.drop 1).drop 4) 2, NV (((l.drop 1).drop 4).drop 2) 2, (tx ((((l.drop 1).drop 4).drop 2).drop 2)).1⟩, (tx ((((l.drop 1).drop 4).drop 2).drop 2)).2)
  else (⟨4, 0, 0, 0, 0, 0, []⟩, l.drop 1)
theorem mod4 {l : List Int} (h : Bytes l) : (NV l 1).tmod 4 = 0 ∨ (NV l 1).tmod 4 = 1 ∨ (NV l 1).tmod 4 = 2 ∨ (NV l 1).tmod 4 = 3 := by
  obtain ⟨h0, h1⟩ := NV_lt h 1
  rw [Int.tmod_eq_emod_of_nonneg h0]
  omega
def A33 (x : S33) (A6 : Option Addr) (c6 : Nat) : Value := .agg #[.int .i64 x.f0, .int .i64 x.f1, .int .u64 x.f2, .int .u32 x.f3, .int .i64 x.f4, .int .i64 x.f5, .slice A6 x.f6.length c6]
theorem N1 {l : List Int} (h : Bytes l) : wrap64 (NV l 1) = NV l 1 ∧ IntKind.i64.wrap (NV l 1) = NV l 1 := by
  obtain ⟨h0, h1⟩ := NV_lt h 1
  have e : (256 : Int) ^ 1 = 256 := by decide
  have : wrap64 (NV l 1) = NV l 1 := by unfold wrap64; omega
  exact ⟨this, by rw [wrap_i64]; exact this⟩
theorem N2 {l : List Int} (h : Bytes l) : wrap64 (NV l 2) = NV l 2 ∧ IntKind.i64.wrap (NV l 2) = NV l 2 := by
  obtain ⟨h0, h1⟩ := NV_lt h 2
  have e : (256 : Int) ^ 2 = 65536 := by decide
  have : wrap64 (NV l 2) = NV l 2 := by unfold wrap64; omega
  exact ⟨this, by rw [wrap_i64]; exact this⟩
theorem N4 {l : List Int} (h : Bytes l) : IntKind.u32.wrap (NV l 4) = NV l 4 := by
  obtain ⟨h0, h1⟩ := NV_lt h 4
  have e : (256 : Int) ^ 4 = 4294967296 := by decide
  rw [wrap_u32]
  omega
/-- No byte among them. -/
def NoB (cs : Array Value) : Prop := ∀ u, u ∈ cs.toList → ∀ x, u ≠ .int .u8 x
theorem nob7 (a b c d e f : Int) (A : Option Addr) (n m : Nat) : NoB #[.int .i64 a, .int .i64 b, .int .u64 c, .int .u32 d, .int .i64 e, .int .i64 f, .slice A n m] := by simp [NoB]
structure AC (w0 : World) (g b2 b3 : Nat) (cs2 cs3 : Array Value) (A : Option Addr) (c : Nat) (l : List Int) (w : World) : Prop where
  R : RB w g A c l
  e2 : w.heap[b2]? = some (.cells cs2 33 (0, 0))
  e3 : w.heap[b3]? = some (.cells cs3 33 (0, 0))
  K : Kept w0 w (fun k => k = g)
  o2 : w0.heap.size ≤ b2
  o3 : w0.heap.size ≤ b3
  n : b2 ≠ b3
theorem blk_ne {w : World} {g h : Nat} {o p : Obj} (hg : w.heap[g]? = some o) (hh : w.heap[h]? = some p) (ho : o ≠ p) : g ≠ h := by
  intro e
  subst e
  exact ho (Option.some.inj (hg.symm.trans hh))
section
variable {w0 w w' : World} {g b2 b3 : Nat} {cs2 cs3 : Array Value} {A A' : Option Addr} {c c' : Nat} {l l' : List Int}
theorem RB.set {b j : Nat} {cs : Array Value} {u : Value} (H : RB w g A c l) (hb : w.heap[b]? = some (.cells cs 33 (0, 0))) (hn : NoB cs) : RB (w.setCell ⟨b, j, none⟩ u) g A c l := by
  have hne : g ≠ b := blk_ne H.box hb (by simp)
  exact ⟨(Below.heap_setCell _ _ _ _ hne).trans H.box, C_setInt H.row hb hn, H.le, H.lt⟩
theorem AC.call (M : AC w0 g b2 b3 cs2 cs3 A c l w) (hr : RB w' g A' c' l') (hk : Kept w w' (fun k => k = g)) : AC w0 g b2 b3 cs2 cs3 A' c' l' w' :=
  ⟨hr, blk_kept M.e2 hk (fun e => blk_ne M.R.box M.e2 (by simp) e.symm), blk_kept M.e3 hk (fun e => blk_ne M.R.box M.e3 (by simp) e.symm), M.K.then_ hk (fun k hk => .inl hk), M.o2, M.o3, M.n⟩
theorem AC.set3 (M : AC w0 g b2 b3 cs2 cs3 A c l w) (hn : NoB cs3) (j : Nat) (u : Value) : AC w0 g b2 b3 cs2 (cs3.setIfInBounds j u) A c l (w.setCell ⟨b3, j, none⟩ u) :=
  ⟨M.R.set M.e3 hn, (Below.heap_setCell _ _ _ _ M.n).trans M.e2, blk_set M.e3 j u, M.K.setCell (.inr M.o3) u, M.o2, M.o3, M.n⟩
theorem AC.set2 (M : AC w0 g b2 b3 cs2 cs3 A c l w) (hn : NoB cs2) (j : Nat) (u : Value) : AC w0 g b2 b3 (cs2.setIfInBounds j u) cs3 A c l (w.setCell ⟨b2, j, none⟩ u) :=
  ⟨M.R.set M.e2 hn, blk_set M.e2 j u, (Below.heap_setCell _ _ _ _ (fun e => M.n e.symm)).trans M.e3, M.K.setCell (.inr M.o2) u, M.o2, M.o3, M.n⟩
/-- A row of bytes of one's own, where a box is written. -/
theorem own_set {base b j : Nat} {cs : Array Value} {u v : Value} {xs : List Int} (h : Kd.R (Kd.int .u8) 5 w base (fun k => base ≤ k) v xs) (hb : w.heap[b]? = some (.cells cs 33 (0, 0))) : Kd.R (Kd.int .u8) 5 (w.setCell ⟨b, j, none⟩ u) base (fun k => base ≤ k) v xs := by
  have h2 : Kd.R (Kd.int .u8) 5 w base (fun k => base ≤ k ∧ k ≠ b) v xs := Kd.R_mono (Kd.R_bound h) (fun k hk => ⟨hk.1, fun e => by
    obtain ⟨q, hq, cells, hc⟩ := hk.2.2.2
    have hE : q = 5 := by simpa [Kd.int, Kd.scalar] using hq
    rw [e, hb, hE] at hc
    simp at hc⟩)
  exact Kd.R_mono (Kd.R_far h2 (p := ⟨b, j, none⟩) (fun k hk => hk.2) u) (fun k hk => hk.1)
/-- Behind the seven stores into the result. -/
def put7 (w : World) (b : Nat) (u0 u1 u2 u3 u4 u5 u6 : Value) : World := ((((((w.setCell ⟨b, 0, none⟩ u0).setCell ⟨b, 1, none⟩ u1).setCell ⟨b, 2, none⟩ u2).setCell ⟨b, 3, none⟩ u3).setCell ⟨b, 4, none⟩ u4).setCell ⟨b, 5, none⟩ u5).setCell ⟨b, 6, none⟩ u6
theorem AC.put7 (M : AC w0 g b2 b3 #[.int .i64 0, .int .i64 0, .int .u64 0, .int .u32 0, .int .i64 0, .int .i64 0, .slice none 0 0] cs3 A c l w) (a b c1 d e f : Int) (B : Option Addr) (n m : Nat) : AC w0 g b2 b3 #[.int .i64 a, .int .i64 b, .int .u64 c1, .int .u32 d, .int .i64 e, .int .i64 f, .slice B n m] cs3 A c l (put7 w b2 (.int .i64 a) (.int .i64 b) (.int .u64 c1) (.int .u32 d) (.int .i64 e) (.int .i64 f) (.slice B n m)) :=
  ((((((M.set2 (nob7 0 0 0 0 0 0 none 0 0) 0 (.int .i64 a)).set2 (nob7 a 0 0 0 0 0 none 0 0) 1 (.int .i64 b)).set2 (nob7 a b 0 0 0 0 none 0 0) 2 (.int .u64 c1)).set2 (nob7 a b c1 0 0 0 none 0 0) 3 (.int .u32 d)).set2 (nob7 a b c1 d 0 0 none 0 0) 4 (.int .i64 e)).set2 (nob7 a b c1 d e 0 none 0 0) 5 (.int .i64 f)).set2 (nob7 a b c1 d e f none 0 0) 6 (.slice B n m)
theorem own_put7 {base b : Nat} {cs : Array Value} {v : Value} {xs : List Int} (h : Kd.R (Kd.int .u8) 5 w base (fun k => base ≤ k) v xs) (hb : w.heap[b]? = some (.cells cs 33 (0, 0))) (u0 u1 u2 u3 u4 u5 u6 : Value) : Kd.R (Kd.int .u8) 5 (put7 w b u0 u1 u2 u3 u4 u5 u6) base (fun k => base ≤ k) v xs := by
  have s0 := blk_set hb 0 u0
  have s1 := blk_set s0 1 u1
  have s2 := blk_set s1 2 u2
  have s3 := blk_set s2 3 u3
  have s4 := blk_set s3 4 u4
  have s5 := blk_set s4 5 u5
  exact own_set (own_set (own_set (own_set (own_set (own_set (own_set h hb) s0) s1) s2) s3) s4) s5
end
set_option maxHeartbeats 8000000 in
set_option maxRecDepth 100000 in
theorem act_c1 (w : World) (g : Nat) (A : Option Addr) (c : Nat) (l : List Int) (hb : Bytes l) (hl : l.length ≤ 1000000000) (H : RB w g A c l) (h : (NV l 1).tmod 4 = 0) :
    Calls Try.prog 19 #[.pointer (some ⟨g, 0, none⟩)] w fun e w' => ∃ A6 c6 A2 c2, e = .returned (A33 ⟨1, NV (l.drop 1) 1, 0, 0, 0, 0, (tx ((l.drop 1).drop 1)).1⟩ A6 c6) ∧ Kd.R (Kd.int .u8) 5 w' w.heap.size (fun k => w.heap.size ≤ k) (.slice A6 ((tx ((l.drop 1).drop 1)).1 : List Int).length c6) (tx ((l.drop 1).drop 1)).1 ∧ RB w' g A2 c2 ((tx ((l.drop 1).drop 1)).2) ∧ Kept w w' (fun k => k = g) := by
  have HB := Aside0.mk hb
  have HG := Aside0.mk (blk_lt H.box)
  have HH := Aside0.mk (H.below (below_alloc (Below.refl _ _) (.cells #[.int .i64 0, .int .i64 0, .int .u64 0, .int .u32 0, .int .i64 0, .int .i64 0, .slice none 0 0] 33 (0, 0))))
  have HL := Aside0.mk hl
  clear hb H hl
  go_enter Try.func19, Try.ntmps19
  go_wp2_with (fail)
  refine (number_i _ g A c l 1 1 rfl (by decide) HB.out HH.out).mono ?_
  rintro e w1 ⟨A1, c1, rfl, hr, hk⟩
  have R1 := Aside0.mk hr
  have K1 := Aside0.mk ((Kept.of_below (below_alloc (Below.refl w.heap.size w) (.cells #[.int .i64 0, .int .i64 0, .int .u64 0, .int .u32 0, .int .i64 0, .int .i64 0, .slice none 0 0] 33 (0, 0))) (fun k => k = g)).then_ hk (fun k hk => .inl hk))
  have E1 := Aside0.mk (blk_kept (blk_new w (.cells #[.int .i64 0, .int .i64 0, .int .u64 0, .int .u32 0, .int .i64 0, .int .i64 0, .slice none 0 0] 33 (0, 0))) hk (by have := HG.out; omega))
  clear hr hk HH
  have M0 := Aside0.mk (show AC w g w.heap.size w1.heap.size #[.int .i64 0, .int .i64 0, .int .u64 0, .int .u32 0, .int .i64 0, .int .i64 0, .slice none 0 0] #[.int .i64 1, .int .i64 0, .int .u64 0, .int .u32 0, .int .i64 0, .int .i64 0, .slice none 0 0] A1 c1 (l.drop 1) (w1.alloc (.cells #[.int .i64 1, .int .i64 0, .int .u64 0, .int .u32 0, .int .i64 0, .int .i64 0, .slice none 0 0] 33 (0, 0))) from
    ⟨R1.out.below (below_alloc (Below.refl _ _) _), blk_below E1.out (below_alloc (Below.refl _ _) _), blk_new w1 _, K1.out.below (below_alloc (Below.refl _ _) _), Nat.le_refl _, K1.out.size, by have := blk_lt E1.out; omega⟩)
  have y0 := fun o => pw_cell_below (below_alloc (Below.refl _ _) o) ((blk_cell E1.out 0).trans rfl)
  go_wp2_with (fail)
  have M := M0
  clear M0 E1 y0 K1 R1
  generalize w1.alloc (.cells #[.int .i64 1, .int .i64 0, .int .u64 0, .int .u32 0, .int .i64 0, .int .i64 0, .slice none 0 0] 33 (0, 0)) = W2 at M ⊢
  generalize w1.heap.size = b3 at M ⊢
  generalize w.heap.size = b2 at M ⊢
  refine (number_i _ g _ _ (l.drop 1) 1 1 rfl (by decide) (by exact (HB.out.drop 1)) M.out.R).mono ?_
  rintro e w2 ⟨A2, c2, rfl, hr, hk⟩
  have M := Aside0.mk (M.out.call hr hk)
  obtain ⟨q2, hq⟩ : ∃ q, q = NV (l.drop 1) 1 := ⟨_, rfl⟩
  rw [← hq]
  have Q2 := Aside0.mk hq
  clear hr hk hq
  have z0_ := (blk_cell M.out.e3 0).trans rfl
  have z1_ := (blk_cell M.out.e3 1).trans rfl
  have z2_ := (blk_cell M.out.e3 2).trans rfl
  have z3_ := (blk_cell M.out.e3 3).trans rfl
  have z4_ := (blk_cell M.out.e3 4).trans rfl
  have z5_ := (blk_cell M.out.e3 5).trans rfl
  have z6_ := (blk_cell M.out.e3 6).trans rfl
  have f0_ := blk_frozen M.out.e3 0
  have f1_ := blk_frozen M.out.e3 1
  have f2_ := blk_frozen M.out.e3 2
  have f3_ := blk_frozen M.out.e3 3
  have f4_ := blk_frozen M.out.e3 4
  have f5_ := blk_frozen M.out.e3 5
  have f6_ := blk_frozen M.out.e3 6
  have y0_ := (blk_cell M.out.e2 0).trans rfl
  have y1_ := (blk_cell M.out.e2 1).trans rfl
  have y2_ := (blk_cell M.out.e2 2).trans rfl
  have y3_ := (blk_cell M.out.e2 3).trans rfl
  have y4_ := (blk_cell M.out.e2 4).trans rfl
  have y5_ := (blk_cell M.out.e2 5).trans rfl
  have y6_ := (blk_cell M.out.e2 6).trans rfl
  have g0_ := blk_frozen M.out.e2 0
  have g1_ := blk_frozen M.out.e2 1
  have g2_ := blk_frozen M.out.e2 2
  have g3_ := blk_frozen M.out.e2 3
  have g4_ := blk_frozen M.out.e2 4
  have g5_ := blk_frozen M.out.e2 5
  have g6_ := blk_frozen M.out.e2 6
  have n1_ := M.out.n
  have n2_ : b3 ≠ b2 := fun e_ => M.out.n e_.symm
  have hx : wrap64 q2 = q2 ∧ IntKind.i64.wrap q2 = q2 := by rw [Q2.out]; exact N1 (HB.out.drop 1)
  have hx1 := hx.1
  have hx2 := hx.2
  go_wp2_with (fail)
  clear hx hx1 hx2
  clear z0_ f0_ y0_ g0_ z1_ f1_ y1_ g1_ z2_ f2_ y2_ g2_ z3_ f3_ y3_ g3_ z4_ f4_ y4_ g4_ z5_ f5_ y5_ g5_ z6_ f6_ y6_ g6_ n1_ n2_
  have M := Aside0.mk (M.out.set3 (nob7 1 0 0 0 0 0 none 0 0) 1 (.int .i64 q2))
  refine (text_c _ g _ _ ((l.drop 1).drop 1) (by exact ((HB.out.drop 1).drop 1)) (by have := HL.out; simp only [List.length_drop]; omega) M.out.R).mono ?_
  rintro e w3 ⟨v, A3, c3, rfl, hv, hr, hk⟩
  obtain ⟨Av, cv, ev⟩ := Kd.R_slice hv
  subst ev
  have V := Aside0.mk (show Kd.R (Kd.int .u8) 5 w3 w.heap.size (fun k => w.heap.size ≤ k) (.slice Av (tx ((l.drop 1).drop 1)).1.length cv) (tx ((l.drop 1).drop 1)).1 from Kd.R_lower (Kd.R_mono hv (fun k hk => Nat.le_trans M.out.K.size hk)) M.out.K.size)
  have M := Aside0.mk (M.out.call hr hk)
  obtain ⟨yy, hy⟩ : ∃ y, y = (tx ((l.drop 1).drop 1)).1 := ⟨_, rfl⟩
  rw [← hy] at V ⊢
  have Y := Aside0.mk hy
  clear hr hk hv hy
  have z0_ := (blk_cell M.out.e3 0).trans rfl
  have z1_ := (blk_cell M.out.e3 1).trans rfl
  have z2_ := (blk_cell M.out.e3 2).trans rfl
  have z3_ := (blk_cell M.out.e3 3).trans rfl
  have z4_ := (blk_cell M.out.e3 4).trans rfl
  have z5_ := (blk_cell M.out.e3 5).trans rfl
  have z6_ := (blk_cell M.out.e3 6).trans rfl
  have f0_ := blk_frozen M.out.e3 0
  have f1_ := blk_frozen M.out.e3 1
  have f2_ := blk_frozen M.out.e3 2
  have f3_ := blk_frozen M.out.e3 3
  have f4_ := blk_frozen M.out.e3 4
  have f5_ := blk_frozen M.out.e3 5
  have f6_ := blk_frozen M.out.e3 6
  have y0_ := (blk_cell M.out.e2 0).trans rfl
  have y1_ := (blk_cell M.out.e2 1).trans rfl
  have y2_ := (blk_cell M.out.e2 2).trans rfl
  have y3_ := (blk_cell M.out.e2 3).trans rfl
  have y4_ := (blk_cell M.out.e2 4).trans rfl
  have y5_ := (blk_cell M.out.e2 5).trans rfl
  have y6_ := (blk_cell M.out.e2 6).trans rfl
  have g0_ := blk_frozen M.out.e2 0
  have g1_ := blk_frozen M.out.e2 1
  have g2_ := blk_frozen M.out.e2 2
  have g3_ := blk_frozen M.out.e2 3
  have g4_ := blk_frozen M.out.e2 4
  have g5_ := blk_frozen M.out.e2 5
  have g6_ := blk_frozen M.out.e2 6
  have n1_ := M.out.n
  have n2_ : b3 ≠ b2 := fun e_ => M.out.n e_.symm
  have V := Aside0.mk (own_put7 (own_set (j := 6) (u := .slice Av yy.length cv) V.out M.out.e3) (M.out.set3 (nob7 1 q2 0 0 0 0 none 0 0) 6 (.slice Av yy.length cv)).e2 (.int .i64 1) (.int .i64 q2) (.int .u64 0) (.int .u32 0) (.int .i64 0) (.int .i64 0) (.slice Av yy.length cv))
  have MM := Aside0.mk ((M.out.set3 (nob7 1 q2 0 0 0 0 none 0 0) 6 (.slice Av yy.length cv)).put7 1 q2 0 0 0 0 Av yy.length cv)
  go_wp2
  refine bodyPost_ret (results_single (r := .cell 2 33) rfl (.cell b2 33 #[.int .i64 1, .int .i64 q2, .int .u64 0, .int .u32 0, .int .i64 0, .int .i64 0, .slice Av yy.length cv] (0, 0) _ rfl MM.out.e2 Try.underlying33 rfl (by kernel_rfl) .nil)) rfl ?_
  exact ⟨Av, cv, _, _, by rw [← Q2.out, ← Y.out]; rfl, by rw [← Y.out]; exact V.out, MM.out.R, MM.out.K⟩
set_option maxHeartbeats 8000000 in
set_option maxRecDepth 100000 in
theorem act_c2 (w : World) (g : Nat) (A : Option Addr) (c : Nat) (l : List Int) (hb : Bytes l) (hl : l.length ≤ 1000000000) (H : RB w g A c l) (h : (NV l 1).tmod 4 = 1) :
    Calls Try.prog 19 #[.pointer (some ⟨g, 0, none⟩)] w fun e w' => ∃ A6 c6 A2 c2, e = .returned (A33 ⟨2, 0, NV (l.drop 1) 8, 0, 0, 0, []⟩ A6 c6) ∧ Kd.R (Kd.int .u8) 5 w' w.heap.size (fun k => w.heap.size ≤ k) (.slice A6 ([] : List Int).length c6) [] ∧ RB w' g A2 c2 ((l.drop 1).drop 8) ∧ Kept w w' (fun k => k = g) := by
  have HB := Aside0.mk hb
  have HG := Aside0.mk (blk_lt H.box)
  have HH := Aside0.mk (H.below (below_alloc (Below.refl _ _) (.cells #[.int .i64 0, .int .i64 0, .int .u64 0, .int .u32 0, .int .i64 0, .int .i64 0, .slice none 0 0] 33 (0, 0))))
  have HL := Aside0.mk hl
  clear hb H hl
  go_enter Try.func19, Try.ntmps19
  go_wp2_with (fail)
  refine (number_i _ g A c l 1 1 rfl (by decide) HB.out HH.out).mono ?_
  rintro e w1 ⟨A1, c1, rfl, hr, hk⟩
  have R1 := Aside0.mk hr
  have K1 := Aside0.mk ((Kept.of_below (below_alloc (Below.refl w.heap.size w) (.cells #[.int .i64 0, .int .i64 0, .int .u64 0, .int .u32 0, .int .i64 0, .int .i64 0, .slice none 0 0] 33 (0, 0))) (fun k => k = g)).then_ hk (fun k hk => .inl hk))
  have E1 := Aside0.mk (blk_kept (blk_new w (.cells #[.int .i64 0, .int .i64 0, .int .u64 0, .int .u32 0, .int .i64 0, .int .i64 0, .slice none 0 0] 33 (0, 0))) hk (by have := HG.out; omega))
  clear hr hk HH
  have M0 := Aside0.mk (show AC w g w.heap.size w1.heap.size #[.int .i64 0, .int .i64 0, .int .u64 0, .int .u32 0, .int .i64 0, .int .i64 0, .slice none 0 0] #[.int .i64 2, .int .i64 0, .int .u64 0, .int .u32 0, .int .i64 0, .int .i64 0, .slice none 0 0] A1 c1 (l.drop 1) (w1.alloc (.cells #[.int .i64 2, .int .i64 0, .int .u64 0, .int .u32 0, .int .i64 0, .int .i64 0, .slice none 0 0] 33 (0, 0))) from
    ⟨R1.out.below (below_alloc (Below.refl _ _) _), blk_below E1.out (below_alloc (Below.refl _ _) _), blk_new w1 _, K1.out.below (below_alloc (Below.refl _ _) _), Nat.le_refl _, K1.out.size, by have := blk_lt E1.out; omega⟩)
  have y0 := fun o => pw_cell_below (below_alloc (Below.refl _ _) o) ((blk_cell E1.out 0).trans rfl)
  go_wp2_with (fail)
  have M := M0
  clear M0 E1 y0 K1 R1
  generalize w1.alloc (.cells #[.int .i64 2, .int .i64 0, .int .u64 0, .int .u32 0, .int .i64 0, .int .i64 0, .slice none 0 0] 33 (0, 0)) = W2 at M ⊢
  generalize w1.heap.size = b3 at M ⊢
  generalize w.heap.size = b2 at M ⊢
  refine (number_i _ g _ _ (l.drop 1) 8 8 rfl (by decide) (by exact (HB.out.drop 1)) M.out.R).mono ?_
  rintro e w2 ⟨A2, c2, rfl, hr, hk⟩
  have M := Aside0.mk (M.out.call hr hk)
  obtain ⟨q2, hq⟩ : ∃ q, q = NV (l.drop 1) 8 := ⟨_, rfl⟩
  rw [← hq]
  have Q2 := Aside0.mk hq
  clear hr hk hq
  have z0_ := (blk_cell M.out.e3 0).trans rfl
  have z1_ := (blk_cell M.out.e3 1).trans rfl
  have z2_ := (blk_cell M.out.e3 2).trans rfl
  have z3_ := (blk_cell M.out.e3 3).trans rfl
  have z4_ := (blk_cell M.out.e3 4).trans rfl
  have z5_ := (blk_cell M.out.e3 5).trans rfl
  have z6_ := (blk_cell M.out.e3 6).trans rfl
  have f0_ := blk_frozen M.out.e3 0
  have f1_ := blk_frozen M.out.e3 1
  have f2_ := blk_frozen M.out.e3 2
  have f3_ := blk_frozen M.out.e3 3
  have f4_ := blk_frozen M.out.e3 4
  have f5_ := blk_frozen M.out.e3 5
  have f6_ := blk_frozen M.out.e3 6
  have y0_ := (blk_cell M.out.e2 0).trans rfl
  have y1_ := (blk_cell M.out.e2 1).trans rfl
  have y2_ := (blk_cell M.out.e2 2).trans rfl
  have y3_ := (blk_cell M.out.e2 3).trans rfl
  have y4_ := (blk_cell M.out.e2 4).trans rfl
  have y5_ := (blk_cell M.out.e2 5).trans rfl
  have y6_ := (blk_cell M.out.e2 6).trans rfl
  have g0_ := blk_frozen M.out.e2 0
  have g1_ := blk_frozen M.out.e2 1
  have g2_ := blk_frozen M.out.e2 2
  have g3_ := blk_frozen M.out.e2 3
  have g4_ := blk_frozen M.out.e2 4
  have g5_ := blk_frozen M.out.e2 5
  have g6_ := blk_frozen M.out.e2 6
  have n1_ := M.out.n
  have n2_ : b3 ≠ b2 := fun e_ => M.out.n e_.symm
  have MM := Aside0.mk ((M.out.set3 (nob7 2 0 0 0 0 0 none 0 0) 2 (.int .u64 q2)).put7 2 0 q2 0 0 0 none 0 0)
  go_wp2
  refine bodyPost_ret (results_single (r := .cell 2 33) rfl (.cell b2 33 #[.int .i64 2, .int .i64 0, .int .u64 q2, .int .u32 0, .int .i64 0, .int .i64 0, .slice none 0 0] (0, 0) _ rfl MM.out.e2 Try.underlying33 rfl (by kernel_rfl) .nil)) rfl ?_
  exact ⟨none, 0, _, _, by rw [← Q2.out]; rfl, Kd.R_nil _ _ _ _ _, MM.out.R, MM.out.K⟩
set_option maxHeartbeats 8000000 in
set_option maxRecDepth 100000 in
theorem act_c3 (w : World) (g : Nat) (A : Option Addr) (c : Nat) (l : List Int) (hb : Bytes l) (hl : l.length ≤ 1000000000) (H : RB w g A c l) (h : (NV l 1).tmod 4 = 2) :
    Calls Try.prog 19 #[.pointer (some ⟨g, 0, none⟩)] w fun e w' => ∃ A6 c6 A2 c2, e = .returned (A33 ⟨3, 0, 0, NV (l.drop 1) 4, NV ((l.drop 1).drop 4) 2, NV (((l.drop 1).drop 4).drop 2) 2, (tx ((((l.drop 1).drop 4).drop 2).drop 2)).1⟩ A6 c6) ∧ Kd.R (Kd.int .u8) 5 w' w.heap.size (fun k => w.heap.size ≤ k) (.slice A6 ((tx ((((l.drop 1).drop 4).drop 2).drop 2)).1 : List Int).length c6) (tx ((((l.drop 1).drop 4).drop 2).drop 2)).1 ∧ RB w' g A2 c2 ((tx ((((l.drop 1).drop 4).drop 2).drop 2)).2) ∧ Kept w w' (fun k => k = g) := by
  have HB := Aside0.mk hb
  have HG := Aside0.mk (blk_lt H.box)
  have HH := Aside0.mk (H.below (below_alloc (Below.refl _ _) (.cells #[.int .i64 0, .int .i64 0, .int .u64 0, .int .u32 0, .int .i64 0, .int .i64 0, .slice none 0 0] 33 (0, 0))))
  have HL := Aside0.mk hl
  clear hb H hl
  go_enter Try.func19, Try.ntmps19
  go_wp2_with (fail)
  refine (number_i _ g A c l 1 1 rfl (by decide) HB.out HH.out).mono ?_
  rintro e w1 ⟨A1, c1, rfl, hr, hk⟩
  have R1 := Aside0.mk hr
  have K1 := Aside0.mk ((Kept.of_below (below_alloc (Below.refl w.heap.size w) (.cells #[.int .i64 0, .int .i64 0, .int .u64 0, .int .u32 0, .int .i64 0, .int .i64 0, .slice none 0 0] 33 (0, 0))) (fun k => k = g)).then_ hk (fun k hk => .inl hk))
  have E1 := Aside0.mk (blk_kept (blk_new w (.cells #[.int .i64 0, .int .i64 0, .int .u64 0, .int .u32 0, .int .i64 0, .int .i64 0, .slice none 0 0] 33 (0, 0))) hk (by have := HG.out; omega))
  clear hr hk HH
  have M0 := Aside0.mk (show AC w g w.heap.size w1.heap.size #[.int .i64 0, .int .i64 0, .int .u64 0, .int .u32 0, .int .i64 0, .int .i64 0, .slice none 0 0] #[.int .i64 3, .int .i64 0, .int .u64 0, .int .u32 0, .int .i64 0, .int .i64 0, .slice none 0 0] A1 c1 (l.drop 1) (w1.alloc (.cells #[.int .i64 3, .int .i64 0, .int .u64 0, .int .u32 0, .int .i64 0, .int .i64 0, .slice none 0 0] 33 (0, 0))) from
    ⟨R1.out.below (below_alloc (Below.refl _ _) _), blk_below E1.out (below_alloc (Below.refl _ _) _), blk_new w1 _, K1.out.below (below_alloc (Below.refl _ _) _), Nat.le_refl _, K1.out.size, by have := blk_lt E1.out; omega⟩)
  have y0 := fun o => pw_cell_below (below_alloc (Below.refl _ _) o) ((blk_cell E1.out 0).trans rfl)
  go_wp2_with (fail)
  have M := M0
  clear M0 E1 y0 K1 R1
  generalize w1.alloc (.cells #[.int .i64 3, .int .i64 0, .int .u64 0, .int .u32 0, .int .i64 0, .int .i64 0, .slice none 0 0] 33 (0, 0)) = W2 at M ⊢
  generalize w1.heap.size = b3 at M ⊢
  generalize w.heap.size = b2 at M ⊢
  refine (number_i _ g _ _ (l.drop 1) 4 4 rfl (by decide) (by exact (HB.out.drop 1)) M.out.R).mono ?_
  rintro e w2 ⟨A2, c2, rfl, hr, hk⟩
  have M := Aside0.mk (M.out.call hr hk)
  obtain ⟨q2, hq⟩ : ∃ q, q = NV (l.drop 1) 4 := ⟨_, rfl⟩
  rw [← hq]
  have Q2 := Aside0.mk hq
  clear hr hk hq
  have z0_ := (blk_cell M.out.e3 0).trans rfl
  have z1_ := (blk_cell M.out.e3 1).trans rfl
  have z2_ := (blk_cell M.out.e3 2).trans rfl
  have z3_ := (blk_cell M.out.e3 3).trans rfl
  have z4_ := (blk_cell M.out.e3 4).trans rfl
  have z5_ := (blk_cell M.out.e3 5).trans rfl
  have z6_ := (blk_cell M.out.e3 6).trans rfl
  have f0_ := blk_frozen M.out.e3 0
  have f1_ := blk_frozen M.out.e3 1
  have f2_ := blk_frozen M.out.e3 2
  have f3_ := blk_frozen M.out.e3 3
  have f4_ := blk_frozen M.out.e3 4
  have f5_ := blk_frozen M.out.e3 5
  have f6_ := blk_frozen M.out.e3 6
  have y0_ := (blk_cell M.out.e2 0).trans rfl
  have y1_ := (blk_cell M.out.e2 1).trans rfl
  have y2_ := (blk_cell M.out.e2 2).trans rfl
  have y3_ := (blk_cell M.out.e2 3).trans rfl
  have y4_ := (blk_cell M.out.e2 4).trans rfl
  have y5_ := (blk_cell M.out.e2 5).trans rfl
  have y6_ := (blk_cell M.out.e2 6).trans rfl
  have g0_ := blk_frozen M.out.e2 0
  have g1_ := blk_frozen M.out.e2 1
  have g2_ := blk_frozen M.out.e2 2
  have g3_ := blk_frozen M.out.e2 3
  have g4_ := blk_frozen M.out.e2 4
  have g5_ := blk_frozen M.out.e2 5
  have g6_ := blk_frozen M.out.e2 6
  have n1_ := M.out.n
  have n2_ : b3 ≠ b2 := fun e_ => M.out.n e_.symm
  have hx1 : IntKind.u32.wrap q2 = q2 := by rw [Q2.out]; exact N4 (HB.out.drop 1)
  go_wp2_with (fail)
  clear hx1
  clear z0_ f0_ y0_ g0_ z1_ f1_ y1_ g1_ z2_ f2_ y2_ g2_ z3_ f3_ y3_ g3_ z4_ f4_ y4_ g4_ z5_ f5_ y5_ g5_ z6_ f6_ y6_ g6_ n1_ n2_
  have M := Aside0.mk (M.out.set3 (nob7 3 0 0 0 0 0 none 0 0) 3 (.int .u32 q2))
  refine (number_i _ g _ _ ((l.drop 1).drop 4) 2 2 rfl (by decide) (by exact ((HB.out.drop 1).drop 4)) M.out.R).mono ?_
  rintro e w3 ⟨A3, c3, rfl, hr, hk⟩
  have M := Aside0.mk (M.out.call hr hk)
  obtain ⟨q3, hq⟩ : ∃ q, q = NV ((l.drop 1).drop 4) 2 := ⟨_, rfl⟩
  rw [← hq]
  have Q3 := Aside0.mk hq
  clear hr hk hq
  have hx : wrap64 q3 = q3 ∧ IntKind.i64.wrap q3 = q3 := by rw [Q3.out]; exact N2 ((HB.out.drop 1).drop 4)
  have hx1 := hx.1
  have hx2 := hx.2
  go_wp2_with (fail)
  refine (number_i _ g _ _ (((l.drop 1).drop 4).drop 2) 2 2 rfl (by decide) (by exact (((HB.out.drop 1).drop 4).drop 2)) M.out.R).mono ?_
  rintro e w4 ⟨A4, c4, rfl, hr, hk⟩
  have M := Aside0.mk (M.out.call hr hk)
  obtain ⟨q4, hq⟩ : ∃ q, q = NV (((l.drop 1).drop 4).drop 2) 2 := ⟨_, rfl⟩
  rw [← hq]
  have Q4 := Aside0.mk hq
  clear hr hk hq
  have z0_ := (blk_cell M.out.e3 0).trans rfl
  have z1_ := (blk_cell M.out.e3 1).trans rfl
  have z2_ := (blk_cell M.out.e3 2).trans rfl
  have z3_ := (blk_cell M.out.e3 3).trans rfl
  have z4_ := (blk_cell M.out.e3 4).trans rfl
  have z5_ := (blk_cell M.out.e3 5).trans rfl
  have z6_ := (blk_cell M.out.e3 6).trans rfl
  have f0_ := blk_frozen M.out.e3 0
  have f1_ := blk_frozen M.out.e3 1
  have f2_ := blk_frozen M.out.e3 2
  have f3_ := blk_frozen M.out.e3 3
  have f4_ := blk_frozen M.out.e3 4
  have f5_ := blk_frozen M.out.e3 5
  have f6_ := blk_frozen M.out.e3 6
  have y0_ := (blk_cell M.out.e2 0).trans rfl
  have y1_ := (blk_cell M.out.e2 1).trans rfl
  have y2_ := (blk_cell M.out.e2 2).trans rfl
  have y3_ := (blk_cell M.out.e2 3).trans rfl
  have y4_ := (blk_cell M.out.e2 4).trans rfl
  have y5_ := (blk_cell M.out.e2 5).trans rfl
  have y6_ := (blk_cell M.out.e2 6).trans rfl
  have g0_ := blk_frozen M.out.e2 0
  have g1_ := blk_frozen M.out.e2 1
  have g2_ := blk_frozen M.out.e2 2
  have g3_ := blk_frozen M.out.e2 3
  have g4_ := blk_frozen M.out.e2 4
  have g5_ := blk_frozen M.out.e2 5
  have g6_ := blk_frozen M.out.e2 6
  have n1_ := M.out.n
  have n2_ : b3 ≠ b2 := fun e_ => M.out.n e_.symm
  have hy : wrap64 q4 = q4 ∧ IntKind.i64.wrap q4 = q4 := by rw [Q4.out]; exact N2 (((HB.out.drop 1).drop 4).drop 2)
  have hy1 := hy.1
  have hy2 := hy.2
  go_wp2_with (fail)
  clear hx hx1 hx2 hy hy1 hy2
  clear z0_ f0_ y0_ g0_ z1_ f1_ y1_ g1_ z2_ f2_ y2_ g2_ z3_ f3_ y3_ g3_ z4_ f4_ y4_ g4_ z5_ f5_ y5_ g5_ z6_ f6_ y6_ g6_ n1_ n2_
  have M := Aside0.mk ((M.out.set3 (nob7 3 0 0 q2 0 0 none 0 0) 4 (.int .i64 q3)).set3 (nob7 3 0 0 q2 q3 0 none 0 0) 5 (.int .i64 q4))
  refine (text_c _ g _ _ ((((l.drop 1).drop 4).drop 2).drop 2) (by exact ((((HB.out.drop 1).drop 4).drop 2).drop 2)) (by have := HL.out; simp only [List.length_drop]; omega) M.out.R).mono ?_
  rintro e w5 ⟨v, A5, c5, rfl, hv, hr, hk⟩
  obtain ⟨Av, cv, ev⟩ := Kd.R_slice hv
  subst ev
  have V := Aside0.mk (show Kd.R (Kd.int .u8) 5 w5 w.heap.size (fun k => w.heap.size ≤ k) (.slice Av (tx ((((l.drop 1).drop 4).drop 2).drop 2)).1.length cv) (tx ((((l.drop 1).drop 4).drop 2).drop 2)).1 from Kd.R_lower (Kd.R_mono hv (fun k hk => Nat.le_trans M.out.K.size hk)) M.out.K.size)
  have M := Aside0.mk (M.out.call hr hk)
  obtain ⟨yy, hy⟩ : ∃ y, y = (tx ((((l.drop 1).drop 4).drop 2).drop 2)).1 := ⟨_, rfl⟩
  rw [← hy] at V ⊢
  have Y := Aside0.mk hy
  clear hr hk hv hy
  have z0_ := (blk_cell M.out.e3 0).trans rfl
  have z1_ := (blk_cell M.out.e3 1).trans rfl
  have z2_ := (blk_cell M.out.e3 2).trans rfl
  have z3_ := (blk_cell M.out.e3 3).trans rfl
  have z4_ := (blk_cell M.out.e3 4).trans rfl
  have z5_ := (blk_cell M.out.e3 5).trans rfl
  have z6_ := (blk_cell M.out.e3 6).trans rfl
  have f0_ := blk_frozen M.out.e3 0
  have f1_ := blk_frozen M.out.e3 1
  have f2_ := blk_frozen M.out.e3 2
  have f3_ := blk_frozen M.out.e3 3
  have f4_ := blk_frozen M.out.e3 4
  have f5_ := blk_frozen M.out.e3 5
  have f6_ := blk_frozen M.out.e3 6
  have y0_ := (blk_cell M.out.e2 0).trans rfl
  have y1_ := (blk_cell M.out.e2 1).trans rfl
  have y2_ := (blk_cell M.out.e2 2).trans rfl
  have y3_ := (blk_cell M.out.e2 3).trans rfl
  have y4_ := (blk_cell M.out.e2 4).trans rfl
  have y5_ := (blk_cell M.out.e2 5).trans rfl
  have y6_ := (blk_cell M.out.e2 6).trans rfl
  have g0_ := blk_frozen M.out.e2 0
  have g1_ := blk_frozen M.out.e2 1
  have g2_ := blk_frozen M.out.e2 2
  have g3_ := blk_frozen M.out.e2 3
  have g4_ := blk_frozen M.out.e2 4
  have g5_ := blk_frozen M.out.e2 5
  have g6_ := blk_frozen M.out.e2 6
  have n1_ := M.out.n
  have n2_ : b3 ≠ b2 := fun e_ => M.out.n e_.symm
  have V := Aside0.mk (own_put7 (own_set (j := 6) (u := .slice Av yy.length cv) V.out M.out.e3) (M.out.set3 (nob7 3 0 0 q2 q3 q4 none 0 0) 6 (.slice Av yy.length cv)).e2 (.int .i64 3) (.int .i64 0) (.int .u64 0) (.int .u32 q2) (.int .i64 q3) (.int .i64 q4) (.slice Av yy.length cv))
  have MM := Aside0.mk ((M.out.set3 (nob7 3 0 0 q2 q3 q4 none 0 0) 6 (.slice Av yy.length cv)).put7 3 0 0 q2 q3 q4 Av yy.length cv)
  go_wp2
  refine bodyPost_ret (results_single (r := .cell 2 33) rfl (.cell b2 33 #[.int .i64 3, .int .i64 0, .int .u64 0, .int .u32 q2, .int .i64 q3, .int .i64 q4, .slice Av yy.length cv] (0, 0) _ rfl MM.out.e2 Try.underlying33 rfl (by kernel_rfl) .nil)) rfl ?_
  exact ⟨Av, cv, _, _, by rw [← Q2.out, ← Q3.out, ← Q4.out, ← Y.out]; rfl, by rw [← Y.out]; exact V.out, MM.out.R, MM.out.K⟩
set_option maxHeartbeats 8000000 in
set_option maxRecDepth 100000 in
theorem act_c4 (w : World) (g : Nat) (A : Option Addr) (c : Nat) (l : List Int) (hb : Bytes l) (hl : l.length ≤ 1000000000) (H : RB w g A c l) (h : (NV l 1).tmod 4 = 3) :
    Calls Try.prog 19 #[.pointer (some ⟨g, 0, none⟩)] w fun e w' => ∃ A6 c6 A2 c2, e = .returned (A33 ⟨4, 0, 0, 0, 0, 0, []⟩ A6 c6) ∧ Kd.R (Kd.int .u8) 5 w' w.heap.size (fun k => w.heap.size ≤ k) (.slice A6 ([] : List Int).length c6) [] ∧ RB w' g A2 c2 (l.drop 1) ∧ Kept w w' (fun k => k = g) := by
  have HB := Aside0.mk hb
  have HG := Aside0.mk (blk_lt H.box)
  have HH := Aside0.mk (H.below (below_alloc (Below.refl _ _) (.cells #[.int .i64 0, .int .i64 0, .int .u64 0, .int .u32 0, .int .i64 0, .int .i64 0, .slice none 0 0] 33 (0, 0))))
  have HL := Aside0.mk hl
  clear hb H hl
  go_enter Try.func19, Try.ntmps19
  go_wp2_with (fail)
  refine (number_i _ g A c l 1 1 rfl (by decide) HB.out HH.out).mono ?_
  rintro e w1 ⟨A1, c1, rfl, hr, hk⟩
  have R1 := Aside0.mk hr
  have K1 := Aside0.mk ((Kept.of_below (below_alloc (Below.refl w.heap.size w) (.cells #[.int .i64 0, .int .i64 0, .int .u64 0, .int .u32 0, .int .i64 0, .int .i64 0, .slice none 0 0] 33 (0, 0))) (fun k => k = g)).then_ hk (fun k hk => .inl hk))
  have E1 := Aside0.mk (blk_kept (blk_new w (.cells #[.int .i64 0, .int .i64 0, .int .u64 0, .int .u32 0, .int .i64 0, .int .i64 0, .slice none 0 0] 33 (0, 0))) hk (by have := HG.out; omega))
  clear hr hk HH
  have M0 := Aside0.mk (show AC w g w.heap.size w1.heap.size #[.int .i64 0, .int .i64 0, .int .u64 0, .int .u32 0, .int .i64 0, .int .i64 0, .slice none 0 0] #[.int .i64 4, .int .i64 0, .int .u64 0, .int .u32 0, .int .i64 0, .int .i64 0, .slice none 0 0] A1 c1 (l.drop 1) (w1.alloc (.cells #[.int .i64 4, .int .i64 0, .int .u64 0, .int .u32 0, .int .i64 0, .int .i64 0, .slice none 0 0] 33 (0, 0))) from
    ⟨R1.out.below (below_alloc (Below.refl _ _) _), blk_below E1.out (below_alloc (Below.refl _ _) _), blk_new w1 _, K1.out.below (below_alloc (Below.refl _ _) _), Nat.le_refl _, K1.out.size, by have := blk_lt E1.out; omega⟩)
  have y0 := fun o => pw_cell_below (below_alloc (Below.refl _ _) o) ((blk_cell E1.out 0).trans rfl)
  have v0 := (blk_cell M0.out.e3 0).trans rfl
  have v1 := (blk_cell M0.out.e3 1).trans rfl
  have v2 := (blk_cell M0.out.e3 2).trans rfl
  have v3 := (blk_cell M0.out.e3 3).trans rfl
  have v4 := (blk_cell M0.out.e3 4).trans rfl
  have v5 := (blk_cell M0.out.e3 5).trans rfl
  have v6 := (blk_cell M0.out.e3 6).trans rfl
  have u0 := (blk_cell M0.out.e2 0).trans rfl
  have t0 := blk_frozen M0.out.e2 0
  have u1 := (blk_cell M0.out.e2 1).trans rfl
  have t1 := blk_frozen M0.out.e2 1
  have u2 := (blk_cell M0.out.e2 2).trans rfl
  have t2 := blk_frozen M0.out.e2 2
  have u3 := (blk_cell M0.out.e2 3).trans rfl
  have t3 := blk_frozen M0.out.e2 3
  have u4 := (blk_cell M0.out.e2 4).trans rfl
  have t4 := blk_frozen M0.out.e2 4
  have u5 := (blk_cell M0.out.e2 5).trans rfl
  have t5 := blk_frozen M0.out.e2 5
  have u6 := (blk_cell M0.out.e2 6).trans rfl
  have t6 := blk_frozen M0.out.e2 6
  have MM := Aside0.mk (M0.out.put7 4 0 0 0 0 0 none 0 0)
  go_wp2
  refine bodyPost_ret (results_single (r := .cell 2 33) rfl (.cell w.heap.size 33 #[.int .i64 4, .int .i64 0, .int .u64 0, .int .u32 0, .int .i64 0, .int .i64 0, .slice none 0 0] (0, 0) _ rfl MM.out.e2 Try.underlying33 rfl (by kernel_rfl) .nil)) rfl ?_
  exact ⟨none, 0, _, _, rfl, Kd.R_nil _ _ _ _ _, MM.out.R, MM.out.K⟩
theorem act_c (w : World) (g : Nat) (A : Option Addr) (c : Nat) (l : List Int) (hb : Bytes l) (hl : l.length ≤ 1000000000) (H : RB w g A c l) :
    Calls Try.prog 19 #[.pointer (some ⟨g, 0, none⟩)] w fun e w' => ∃ A6 c6 A2 c2, e = .returned (A33 (decA l).1 A6 c6) ∧ Kd.R (Kd.int .u8) 5 w' w.heap.size (fun k => w.heap.size ≤ k) (.slice A6 (decA l).1.f6.length c6) (decA l).1.f6 ∧ RB w' g A2 c2 (decA l).2 ∧ Kept w w' (fun k => k = g) := by
  unfold decA
  by_cases h0 : (NV l 1).tmod 4 = 0
  · rw [if_pos h0]; exact act_c1 w g A c l hb hl H h0
  · rw [if_neg h0]
    by_cases h1 : (NV l 1).tmod 4 = 1
    · rw [if_pos h1]; exact act_c2 w g A c l hb hl H h1
    · rw [if_neg h1]
      by_cases h2 : (NV l 1).tmod 4 = 2
      · rw [if_pos h2]; exact act_c3 w g A c l hb hl H h2
      · rw [if_neg h2]
        exact act_c4 w g A c l hb hl H (by have := mod4 hb; omega)
end Go.Proofs.Ytecbahciplnhfaa
