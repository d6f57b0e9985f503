/- The law RateStays: without the document's answer: as long as moments rise, a key that was accepted is remembered until as many other keys as there is room for were accepted behind it. No condition. -/
import Derived.Test.YtbifanoiailjoaaRateStPure
import Derived.Test.YtbifanoiailjoaaRateMU
import Derived.Test.YtbifanoiailjoaaRateAct
import Derived.Test.YtbifanoiailjoaaMRatePlaysx8
import Derived.Deep.DeepCutAuto
namespace Go.Proofs.Ytbifanoiailjoaa.MRatePlays
open Go.RowKit Go.Proofs.YtbifanoiailjoaaW.PrintWords Go.Proofs.YtbifanoiailjoaaW.PrintLast Go.Proofs.YtbifanoiailjoaaW.PrintMore Go.Proofs.Ytbifanoiailjoaa.Base
set_option linter.unusedVariables false
set_option linter.unusedSimpArgs false

theorem without_l0 (key : Int) : ∀ (ys pre acc : List Int), (pre ++ ys).length ≤ 1000000 → acc.length ≤ pre.length → Ev (fun k => horologelaw31_without.l0 k key acc (pre ++ ys) ((pre ++ ys).length : Int) (pre.length : Int)) (acc ++ wo ys key)
  | [], pre, acc, hl, ha => by
    refine Ev.up ?_
    simp only [horologelaw31_without.l0]
    refine Ev.neg (by simp) ?_
    rw [show wo [] key = [] from rfl, List.append_nil]
    exact Ev.now _
  | y :: ys, pre, acc, hl, ha => by
    have hlen : (pre ++ y :: ys).length = pre.length + (ys.length + 1) := by simp
    refine Ev.up ?_
    simp only [horologelaw31_without.l0]
    refine Ev.pos (by rw [hlen]; omega) (Ev.pos (by omega) (Ev.pos (by rw [hlen]; omega) ?_))
    have hrd : rd (pre ++ y :: ys) (pre.length : Int) = y := by simp [rd]
    have hw : wrap64 ((pre.length : Int) + 1) = ((pre ++ [y]).length : Int) := by rw [wrap64_id (by unfold I64; omega)]; simp
    rw [hrd, hw]
    have e : pre ++ y :: ys = (pre ++ [y]) ++ ys := by simp
    rw [e]
    by_cases q : y = key
    · refine Ev.pos q ?_
      have := without_l0 key ys (pre ++ [y]) acc (by rw [← e]; exact hl) (by simp; omega)
      rwa [show wo (y :: ys) key = wo ys key from by simp [wo, q]]
    · refine Ev.neg q (Ev.pos (by omega) ?_)
      have := without_l0 key ys (pre ++ [y]) (acc ++ [y]) (by rw [← e]; exact hl) (by simp; omega)
      rw [List.append_assoc acc] at this
      rwa [show wo (y :: ys) key = [y] ++ wo ys key from by simp [wo, q]]
theorem without_c (w : World) (A : Option Addr) (c : Nat) (l : List Int) (key : Int) (hr : Kd.C (Kd.int .u32) w A l.length l) (hc : l.length ≤ c) (hl : l.length ≤ 1000000) :
    Calls Try.prog 10 #[.slice A l.length c, .int .u32 key] w fun e w' => ∃ v : Value, e = .returned v ∧ Kd.R (Kd.int .u32) 29 w' w.heap.size (fun _ => True) v (wo l key) ∧ Below w.heap.size w w' := by
  obtain ⟨k, hk⟩ := Ev.ok (without_l0 key l [] [] (by simpa using hl) (Nat.le_refl _))
  refine horologelaw31_without.calls k A c l key (wo l key) w hr hc ?_
  unfold horologelaw31_without.f
  simpa using hk
section
variable {ops : Array Oper} {rest : List Oper} {o : Oper} {a : Act} {Q : Exit → Act → World → Prop} {Kc : Act → World → Prop} {w0 W : World}
theorem app29_step (base : Nat) (hw : Region.wanted o (yielded ops a.tmps) = true) (s x : Operand) (ho : o.op = .call { callee := .builtin .append, args := #[s, x], argTypes := #[30, 30] }) (v : Value) (xs ys : List Int) (A : Option Addr) (c : Nat)
    (hs : a.eval s = v) (hx : a.eval x = .slice A ys.length c) (HO : Kd.R (Kd.int .u32) 29 W base (fun _ => True) v xs) (HC : Kd.C (Kd.int .u32) W A ys.length ys) (HB : Below base w0 W) (hbase : base ≤ W.heap.size) (hl : xs.length + ys.length ≤ 1000000)
    (h : ∀ v1 w1, Kd.R (Kd.int .u32) 29 w1 base (fun _ => True) v1 (xs ++ ys) → Below base w0 w1 → Kc (a.put o.dst v1) w1) :
    if Region.wanted o (yielded ops a.tmps) = true then Oper.wp Try.prog o a W Kc Q else Kc (a.put o.dst undef) W :=
  Kd.R_append_rows_step (Kd.int .u32) (w0 := w0) base hw s x 30 29 (.int .u32 0) 4 ho Try.underlying30 (by kernel_rfl) rfl (by decide) (by omega) v xs ys A _ c (fun _ => True) (fun _ => False) hs hx HO HC (fun _ _ h => h) (fun _ h => h.elim) (fun _ _ => trivial) HB hbase (by omega) (fun v1 w1 h1 h2 _ _ => h v1 w1 h1 h2)
end
theorem lit29 (w : World) (key : Int) : Kd.R (Kd.int .u32) 29 (w.alloc (.cells #[.int .u32 key] 29)) w.heap.size (fun _ => True) (.slice (some ⟨w.heap.size, 0, none⟩) 1 1) [key] := by
  have h2 := World.ownsRow_lit (base := w.heap.size) (e := 29) (size := 1) w #[.int .u32 key] 1 (Nat.le_refl _) (by decide) rfl
  exact Kd.R_of_own (enc := Value.int .u32) (h1 := fun _ => rfl) (xs := [key]) h2 (fun _ _ => trivial)
theorem ord_keep {w w1 : World} {base g b : Nat} {v : Value} {xs : List Int} {es : List S37} {room span : Int} (h : Kd.R (Kd.int .u32) 29 w base (fun _ => True) v xs) (T : Tabu w g b es room span) (F : Fr (fun k => k = g ∨ k = b) w w1) : Kd.R (Kd.int .u32) 29 w1 base (fun _ => True) v xs := by
  obtain ⟨sl, hg, hs⟩ := T
  have h1 := Kd.R_types h hg (by decide)
  rcases hs with ⟨_, _, rfl⟩ | ⟨_, c, rest, _, hr, _, _⟩
  · exact Kd.R_mono (Kd.R_step h1 (fun k hk hlt => F.block k hlt (fun q => by rcases q with q | q <;> exact hk.2 q))) (fun _ _ => trivial)
  · have h2 := Kd.R_types h1 hr (by decide)
    exact Kd.R_mono (Kd.R_step h2 (fun k hk hlt => F.block k hlt (fun q => by rcases q with q | q; exact hk.1.2 q; exact hk.2 q))) (fun _ _ => trivial)
theorem Tabu.lt {W : World} {g b : Nat} {es : List S37} {room span : Int} (h : Tabu W g b es room span) : g < W.heap.size ∧ b < W.heap.size := by
  obtain ⟨sl, hg, hs⟩ := h
  refine ⟨blk_lt hg, ?_⟩
  rcases hs with ⟨_, _, rfl⟩ | ⟨_, c, rest, _, hr, _, _⟩
  · exact blk_lt hg
  · exact blk_lt hr
theorem wr_succ (j n : Nat) (h : j < n) (hn : n ≤ 1000) : wrap64 ((j : Int) + 1) = ((j + 1 : Nat) : Int) := by
  rw [wrap64_id (by unfold I64; omega)]
  rfl
theorem wr_sub (j n : Nat) (h : j < n) (hn : n ≤ 1000) : wrap64 ((n : Int) - (j : Int)) = (n : Int) - (j : Int) := wrap64_id (by unfold I64; omega)
def A4 (x : S32) : Array Value := #[.int .i64 x.f0, .int .u32 x.f1, .int .i64 x.f2, .int .i64 x.f3]
theorem a4_one (x : S32) : (A4 x).all (·.oneCell') = true := by simp [A4, Value.oneCell']
/-- What the operations of the region leave. -/
def F18 (sz gx : Nat) (vo : Value) (xs : List Int) (key : Int) : Nat → Value → World → Prop
  | 0, v, _ => v = vo
  | 1, v, _ => v = .pointer (some ⟨gx, 1, none⟩)
  | 2, v, _ => v = .int .u32 key
  | 3, v, w => Kd.R (Kd.int .u32) 29 w sz (fun _ => True) v (wo xs key)
  | 4, v, _ => v = .pointer (some ⟨gx, 1, none⟩)
  | 5, v, _ => v = .int .u32 key
  | 6, v, w => Kd.R (Kd.int .u32) 29 w sz (fun _ => True) v [key]
  | _, _, _ => True
theorem F18_keep (sz gx : Nat) (vo : Value) (xs : List Int) (key : Int) (i : Nat) (v : Value) (w w' : World) (h : F18 sz gx vo xs key i v w) (hb : Below w.heap.size w w') : F18 sz gx vo xs key i v w' := by
  match i, h with
  | 0, h => exact h
  | 1, h => exact h
  | 2, h => exact h
  | 3, h => exact Kd.R_below h hb
  | 4, h => exact h
  | 5, h => exact h
  | 6, h => exact Kd.R_below h hb
  | _ + 7, _ => trivial
set_option maxHeartbeats 8000000 in
set_option maxRecDepth 100000 in
theorem stays_walk (room span : Int) (A : Option Addr) (c : Nat) (l : List S32) (w : World) (hl : Kd.C k32 w A l.length l) (hc : l.length ≤ c) :
    Calls Try.prog 3 #[.int .i64 room, .int .i64 span, .slice A l.length c] w fun e w' => e = .returned (.bool true) ∧ Below w.heap.size w w' := by
  have HL := Aside0.mk hl
  have HAL := Aside0.mk alive_c
  clear hl
  by_cases h80 : 80 < l.length
  · have hd : decide (80 < (l.length : Int)) = true := decide_eq_true (by omega)
    clear h80
    go_enter Try.func3, Try.ntmps3
    go_wp2_with (first | (go_at_call 7; refine (HAL.out _).mono ?_; rintro e_ w1 ⟨rfl, hb_⟩; have HB := Aside0.mk hb_; clear hb_) | fail)
    go_ret
    exact ⟨rfl, HB.out⟩
  have hd : decide (80 < (l.length : Int)) = false := decide_eq_false (by omega)
  have H80 := Aside0.mk (Nat.not_lt.1 h80)
  clear h80
  by_cases hfit : 1 ≤ room ∧ room ≤ 1024 ∧ 0 ≤ span ∧ span ≤ 4611686018427387904
  · have HNEW := Aside0.mk (fun W => newu_ok W room span hfit)
    have HFIT := Aside0.mk hfit
    clear hfit
    go_enter Try.func3, Try.ntmps3
    go_upto_region 10 with (first | (go_at_call 7; refine (HAL.out _).mono ?_; rintro e_ w1 ⟨rfl, hb_⟩; have HB := Aside0.mk hb_; clear hb_) | (go_at_call 8; refine (HNEW.out _).mono ?_; rintro e_ w2 ⟨g, rfl, ht_, hg_, hb_⟩; have HB2 := Aside0.mk (below_step HB.out hb_); have HT := Aside0.mk ht_; have HG := Aside0.mk (show w.heap.size ≤ g from Nat.le_trans HB.out.size hg_); clear ht_ hg_ hb_) | fail)
    have NB := Aside0.mk (show Nb w.heap.size g g from ⟨HG.out, HG.out⟩)
    clear HAL HNEW HB HG
    go_wp2
    go_loopg [9, 10, 36] l.length (fun kx s9 s10 s36 wr => ∃ (i : Nat) (mom : Int) (xs : List Int) (es : List S37) (b : Nat), s9 = .int .i64 mom ∧ s36 = .int .i64 i ∧ i ≤ l.length ∧ l.length - i ≤ kx ∧ Aside0 (Kd.R (Kd.int .u32) 29 wr w.heap.size (fun _ => True) s10 xs) ∧ Aside0 (Tabu wr g b es room span) ∧ Aside0 (Nb w.heap.size g b) ∧ Aside0 (Below w.heap.size w wr) ∧ Aside0 (Invu es room) ∧ Aside0 (Rec es xs room mom) ∧ Aside0 (xs.length ≤ i) ∧ Aside0 (-1 ≤ mom))
    case atStart => exact ⟨0, -1, [], [], g, rfl, rfl, Nat.zero_le _, by omega, ⟨Kd.R_nil _ _ _ _ _⟩, HT, NB, HB2, ⟨Invu.nil room HFIT.out.1⟩, ⟨Rec.nil room _⟩, ⟨Nat.le_refl _⟩, ⟨Int.le_refl _⟩⟩
    case round =>
      clear HT NB HB2
      obtain ⟨i, mom, xs, es, b, rfl, rfl, hi, hk, HR, HT, NB, HB, HI, HREC, HXL, HMOM⟩ := hrel
      by_cases hlt : i < l.length
      · obtain ⟨ad, eA, hx0, hx1, hx2, hx3⟩ := at_T32 HL.out (i : Int) (by omega) (by omega)
        subst eA
        obtain ⟨x, hx⟩ : ∃ x, rd_T32 l (i : Int) = x := ⟨_, rfl⟩
        rw [hx, Int.toNat_natCast] at hx0 hx1 hx2 hx3
        clear hx
        replace hx0 := (HB.out.cell (World.block_lt_of_cell? w _ hx0)).trans hx0
        replace hx1 := (HB.out.cell (World.block_lt_of_cell? w _ hx1)).trans hx1
        replace hx2 := (HB.out.cell (World.block_lt_of_cell? w _ hx2)).trans hx2
        replace hx3 := (HB.out.cell (World.block_lt_of_cell? w _ hx3)).trans hx3
        have hlti : (i : Int) < (l.length : Int) := by omega
        have HB0 := Aside0.mk (Below.refl wr.heap.size wr)
        have HTlt := Aside0.mk (show g < wr.heap.size ∧ b < wr.heap.size from HT.out.lt)
        go_upto_region 13 with (first | ((with_reducible refine gate_dst (N := 12) rfl ?_); refine box_event ?hg (N := 12) ?hd (cs := #[.int .i64 0, .int .u32 0, .int .i64 0, .int .i64 0]) (t := 32) ?hr ?_; (case hd => rfl); (case hg => rfl); (case hr => go_simp; try rfl); intro gx hg_ w1 hx_ hb_; have Gx := Aside0.mk hg_; have Hx := Aside0.mk hb_; have Bx := Aside0.mk hx_; clear hg_ hx_ hb_; skip) | ((with_reducible refine gate_store (t := 32) (p := 12) rfl ?_); refine wpList_store_row rfl 32 _ _ rfl gx #[.int .i64 x.f0, .int .u32 x.f1, .int .i64 x.f2, .int .i64 x.f3] rfl rfl 32 _ Bx.out (by kernel_rfl) (by rfl) (a4_one x) ?_) | fail)
        have X0 := Aside0.mk ((PH.start HB0.out Hx.out Gx.out Bx.out).set #[.int .i64 x.f0, .int .u32 x.f1, .int .i64 x.f2, .int .i64 x.f3])
        clear Gx Hx Bx HB0 hx0 hx1 hx2 hx3
        generalize w1.setRow gx #[.int .i64 x.f0, .int .u32 x.f1, .int .i64 x.f2, .int .i64 x.f3] = w2 at X0 ⊢
        have HR := Aside0.mk (Kd.R_below HR.out X0.out.bel)
        have HT := Aside0.mk (HT.out.below X0.out.bel)
        have HB := Aside0.mk (below_step HB.out X0.out.bel)
        have y1 : w2.cell? ⟨gx, 1, none⟩ = some (.int .u32 x.f1) := (blk_cell X0.out.row 1).trans rfl
        have y2 : w2.cell? ⟨gx, 2, none⟩ = some (.int .i64 x.f2) := (blk_cell X0.out.row 2).trans rfl
        have hwi : wrap64 ((i : Int) + 1) = ((i + 1 : Nat) : Int) := by have := H80.out; rw [wrap64_id (by unfold I64; omega)]; rfl
        by_cases hm : x.f2 ≤ mom
        · have hmd : decide (x.f2 ≤ mom) = true := decide_eq_true hm
          clear hm
          go_wp2
          go_roundg (l.length - (i + 1))
          case measure => omega
          case rel => exact ⟨i + 1, mom, xs, es, b, rfl, by first | rfl | go_num, by omega, Nat.le_refl _, HR, HT, NB, HB, HI, HREC, ⟨Nat.le_succ_of_le HXL.out⟩, HMOM⟩
        have hmd : decide (x.f2 ≤ mom) = false := decide_eq_false hm
        have HM := Aside0.mk (Int.not_le.1 hm)
        clear hm
        by_cases hmx : x.f2 ≤ 4611686018427387904
        · have hm0 : 0 ≤ x.f2 := by have := HM.out; have := HMOM.out; omega
          have HASK := Aside0.mk (fun W (hW : Tabu W g b es room span) => asku_c W g b es room span x.f1 x.f2 hW HI.out.rise HI.out.ats (by have := HI.out.len; have := HFIT.out; omega) HFIT.out.1 HFIT.out.2.1 hm0 hmx)
          have HREC2 := Aside0.mk (rec_ask es xs room span mom x.f2 x.f1 HREC.out HI.out HFIT.out.1 HM.out)
          have HI2 := Aside0.mk (invu_ask es x.f1 x.f2 room span HI.out HFIT.out.1 hm0 hmx)
          obtain ⟨es2, hes2⟩ : ∃ es2, askLu es x.f1 x.f2 room span = es2 := ⟨_, rfl⟩
          obtain ⟨an, han⟩ : ∃ an, ansu es x.f1 x.f2 span = an := ⟨_, rfl⟩
          rw [hes2, han] at HASK HREC2
          rw [hes2] at HI2
          have HNX := Aside0.mk (show gx ≠ g ∧ gx ≠ b from by
            have h1 := X0.out.new
            have h3 := HTlt.out
            omega)
          have HM0 := Aside0.mk hm0
          clear hes2 han hmx hm0 HI HREC
          go_upto_region 16 with (first | (go_at_call 9; refine (HASK.out _ HT.out).mono ?_; rintro e_ w3 ⟨rfl, b2, ht_, hb_, hf_⟩; have HR := Aside0.mk (ord_keep HR.out HT.out hf_); have NB2 := Aside0.mk (NB.out.step HB.out.size hb_); have XR := Aside0.mk ((hf_.block gx (blk_lt X0.out.row) (fun q => q.elim HNX.out.1 HNX.out.2)).trans X0.out.row); have HB := Aside0.mk (NB.out.below HB.out hf_); have HT := Aside0.mk ht_; clear ht_ hb_ hf_) | fail)
          clear y1 y2 X0 NB HASK HNX
          have y1 : w3.cell? ⟨gx, 1, none⟩ = some (.int .u32 x.f1) := (blk_cell XR.out 1).trans rfl
          have y2 : w3.cell? ⟨gx, 2, none⟩ = some (.int .i64 x.f2) := (blk_cell XR.out 2).trans rfl
          have HXN := Aside0.mk (show xs.length ≤ 80 from by have := H80.out; have := HXL.out; omega)
          go_upto_if 58 with (fail)
          go_cut [10] (fun v10 wc => ∃ xs2 : List Int, Aside0 (xs2 = if an = 1 then wo xs x.f1 ++ [x.f1] else xs) ∧ Aside0 (Kd.R (Kd.int .u32) 29 wc w.heap.size (fun _ => True) v10 xs2) ∧ Aside0 (Below w3.heap.size w3 wc))
          case first =>
            by_cases ha : an = 1
            · have had : (an == 1) = true := by simpa using ha
              have HA := Aside0.mk ha
              clear ha
              obtain ⟨Ao, co, hvo, hoc, hCo⟩ := Kd.R_reads HR.out
              subst hvo
              have HCO := Aside0.mk hCo
              have HOC := Aside0.mk hoc
              have HSZ := Aside0.mk HB.out.size
              clear hCo hoc
              go_upto_region 18 with (fail)
              refine region_below (T := ?T) (n := 2) [some 59, some 60, some 61, some 62, some 63, some 64, some 65] ?hT (F18 w3.heap.size gx (.slice Ao xs.length co) xs x.f1) (by kernel_rfl) (by kernel_rfl) (fun i_ v_ w_ w1_ _ h_ k_ => F18_keep _ _ _ _ _ i_ v_ w_ w1_ h_ k_) [0, 1, 2, 3, 4, 5, 6] rfl (.cons (some 59) rfl rfl (fun X wx hG hX K hK => ?_) (.cons (some 60) rfl rfl (fun X wx hG hX K hK => ?_) (.cons (some 61) rfl rfl (fun X wx hG hX K hK => ?_) (.cons (some 62) rfl rfl (fun X wx hG hX K hK => ?_) (.cons (some 63) rfl rfl (fun X wx hG hX K hK => ?_) (.cons (some 64) rfl rfl (fun X wx hG hX K hK => ?_) (.cons (some 65) rfl rfl (fun X wx hG hX K hK => ?_) .nil))))))) (by kernel_rfl) #[true, true, true, true, true, true, true, false, false] (by kernel_rfl) ?_
              case hT =>
                intro X
                simp only [fill, Act.put, List.setIfInBounds_toArray, List.set_cons_zero, List.set_cons_succ, Nat.zero_add, Nat.reduceAdd]
                rfl
              · refine val_ (w1 := wx) (v := .slice Ao xs.length co) (by rfl) rfl ?_ (hK.out _ _ _ rfl (Below.refl _ _) rfl)
                go_simp
              · refine val_ (w1 := wx) (v := .pointer (some ⟨gx, 1, none⟩)) (by rfl) rfl ?_ (hK.out _ _ _ rfl (Below.refl _ _) rfl)
                go_simp
              · have e1 : X 1 = .pointer (some ⟨gx, 1, none⟩) := hX 1 1 (by kernel_rfl)
                have z1 : wx.cell? ⟨gx, 1, none⟩ = some (.int .u32 x.f1) := cell_later hG (show w3.drew.cell? ⟨gx, 1, none⟩ = _ from y1)
                refine val_ (w1 := wx) (v := .int .u32 x.f1) (by rfl) rfl ?_ (hK.out _ _ _ rfl (Below.refl _ _) rfl)
                go_simp
              · have e0 : X 0 = .slice Ao xs.length co := hX 1 0 (by kernel_rfl)
                have e2 : X 2 = .int .u32 x.f1 := hX 1 2 (by kernel_rfl)
                refine goes_ Try.func10 (by kernel_rfl) rfl #[X 0, X 2] (by rfl) rfl rfl (by simp only [List.map_toArray, List.map_cons, List.map_nil]; rfl) ?_
                refine calls_args (args2 e0 e2) ?_
                refine (without_c wx Ao co xs x.f1 (Kd.C_below HCO.out (below_step (below_drew (Below.refl _ _)) hG)) HOC.out (by have := HXN.out; omega)).mono ?_
                rintro e w' ⟨v_, rfl, hr, hb⟩
                exact ⟨_, rfl, hK.out _ _ _ rfl hb (Kd.R_lower hr hG.size)⟩
              · refine val_ (w1 := wx) (v := .pointer (some ⟨gx, 1, none⟩)) (by rfl) rfl ?_ (hK.out _ _ _ rfl (Below.refl _ _) rfl)
                go_simp
              · have e4 : X 4 = .pointer (some ⟨gx, 1, none⟩) := hX 1 4 (by kernel_rfl)
                have z1 : wx.cell? ⟨gx, 1, none⟩ = some (.int .u32 x.f1) := cell_later hG (show w3.drew.cell? ⟨gx, 1, none⟩ = _ from y1)
                refine val_ (w1 := wx) (v := .int .u32 x.f1) (by rfl) rfl ?_ (hK.out _ _ _ rfl (Below.refl _ _) rfl)
                go_simp
              · have e5 : X 5 = .int .u32 x.f1 := hX 1 5 (by kernel_rfl)
                refine val_ (w1 := wx.alloc (.cells #[.int .u32 x.f1] 29)) (v := .slice (some ⟨wx.heap.size, 0, none⟩) 1 1) (by rfl) rfl ?_ (hK.out _ _ _ rfl (below_alloc (Below.refl _ _) _) (Kd.R_lower (lit29 wx x.f1) hG.size))
                go_simp
              intro X wx hG hX
              have h3 : Kd.R (Kd.int .u32) 29 wx w3.heap.size (fun _ => True) (X 3) (wo xs x.f1) := hX 3 (by decide)
              have h6 : Kd.R (Kd.int .u32) 29 wx w3.heap.size (fun _ => True) (X 6) [x.f1] := hX 6 (by decide)
              obtain ⟨A6, c6, hv6, _, hC6⟩ := Kd.R_reads h6
              have hwl := wo_len xs x.f1
              have hxn := HXN.out
              refine tail_ (i := 7) (N := some 66) #[true, true, true, true, true, true, true, true, false] rfl rfl (by kernel_rfl) (fun K hK => ?_)
              refine app29_step (w0 := w3) w3.heap.size (by rfl) (.tmp 62) (.tmp 65) rfl (X 3) (wo xs x.f1) [x.f1] A6 c6 rfl hv6 h3 hC6 hG hG.size (by simp; omega) (fun v1 w4 hr1 hb1 => hK.out _ _ ?_)
              clear hK K h3 h6 hC6 hv6 hwl hxn
              refine tail_ (i := 8) (N := some 10) #[true, true, true, true, true, true, true, true, true] rfl rfl (by kernel_rfl) (fun K hK => ?_)
              refine val_ (w1 := w4) (v := v1) (by rfl) rfl ?_ (hK.out _ _ (tail_done (by kernel_rfl) ?_))
              · go_simp
              try go_wp2_with (fail)
              go_meet
              exact ⟨_, ⟨by rw [if_pos HA.out]⟩, ⟨Kd.R_lower hr1 HSZ.out⟩, ⟨hb1⟩⟩
            · have had : (an == 1) = false := by simpa using ha
              go_wp2_with (fail)
              go_meet
              exact ⟨xs, ⟨by rw [if_neg ha]⟩, HR, ⟨Below.refl _ _⟩⟩
          case rest =>
            obtain ⟨xs2, HX2, HR2, HB2⟩ := hcut
            rw [← HX2.out] at HREC2
            have HXL2 := Aside0.mk (show xs2.length ≤ i + 1 from by
              have h1 := HX2.out
              have h2 := wo_len xs x.f1
              have h3 := HXL.out
              split at h1
              · rw [h1, List.length_append, List.length_singleton]; omega
              · rw [h1]; omega)
            have HT := Aside0.mk (HT.out.below HB2.out)
            have HB := Aside0.mk (below_step HB.out HB2.out)
            have HEN := Aside0.mk (fun (k : Int) (hk : hasu es2 k = false) W (hW : Tabu W g b2 es2 room span) => entryu_none W g b2 es2 room span k hW HI2.out.rise (by have := HI2.out.len; have := HFIT.out; omega) hk)
            have HEH := Aside0.mk (fun (k : Int) (hk : hasu es2 k = true) W (hW : Tabu W g b2 es2 room span) => entryu_has W g b2 es2 room span k hW HI2.out.rise (by have := HI2.out.len; have := HFIT.out; omega) hk)
            have HOUT := Aside0.mk (fun (j : Nat) (hj : j < xs2.length) => rec_out es2 xs2 room x.f2 HREC2.out HI2.out.rise j hj)
            obtain ⟨Ao, co, hvo, hoc, hCo⟩ := Kd.R_reads HR2.out
            subst hvo
            clear HX2 HB2 HR XR y1 y2 hCo hoc
            go_wp2
            go_loopg [69] xs2.length (fun kx s69 wi => ∃ j : Nat, s69 = .int .i64 j ∧ j ≤ xs2.length ∧ xs2.length - j ≤ kx ∧ Aside0 (Below wc.heap.size wc wi))
            case atStart => exact ⟨0, rfl, Nat.zero_le _, by omega, ⟨Below.refl _ _⟩⟩
            case round =>
              obtain ⟨j, rfl, hj, hkj, HB3⟩ := hrel
              by_cases hlj : j < xs2.length
              · have hR3 := Kd.R_below HR2.out HB3.out
                obtain ⟨Ao2, co2, hvo2, _, hCo2⟩ := Kd.R_reads hR3
                obtain ⟨rfl, rfl⟩ : Ao = Ao2 ∧ co = co2 := by
                  simp only [Value.slice.injEq] at hvo2
                  exact ⟨hvo2.1, hvo2.2.2⟩
                obtain ⟨ado, eAo, hz0⟩ := Kd.at_int hCo2 (j : Int) (by omega) (by omega)
                subst eAo
                obtain ⟨key, hkey⟩ : ∃ key, rd xs2 (j : Int) = key := ⟨_, rfl⟩
                rw [hkey, Int.toNat_natCast] at hz0
                have hke : xs2[j] = key := by rw [← hkey]; simp [rd, List.getElem?_eq_getElem hlj]
                have hltj : (j : Int) < (xs2.length : Int) := by omega
                have hi' : i + 1 ≤ l.length := hlt
                have hl1000 : xs2.length ≤ 1000 := Nat.le_trans HXL2.out (Nat.le_trans hi' (Nat.le_trans H80.out (by decide)))
                have hwj := wr_succ j xs2.length hlj hl1000
                have hwl := wr_sub j xs2.length hlj hl1000
                clear hl1000
                have HO := Aside0.mk (fun h => HOUT.out j hlj (hke ▸ h))
                clear hvo2 hCo2 hR3 hkey hke
                cases hh : hasu es2 key with
                | false =>
                  have hdl : decide ((xs2.length : Int) - (j : Int) ≤ room) = false := decide_eq_false (Int.not_le.2 (HO.out hh))
                  go_upto_region 23 with (first | (go_at_call 11; refine (HEN.out key hh _ (HT.out.below HB3.out)).mono ?_; rintro e_ w4 ⟨rfl, hb_⟩; have HB4 := Aside0.mk (below_step HB3.out hb_); clear hb_) | ((with_reducible refine gate_dst (N := 17) rfl ?_); refine box_event ?hg (N := 17) ?hd (cs := #[.int .u32 0, .int .i64 0, .bool false]) (t := 37) ?hr ?_; (case hd => rfl); (case hg => rfl); (case hr => go_simp; try rfl); intro ge hg_ w5 hx_ hb_; have Ge := Aside0.mk hg_; have He := Aside0.mk hb_; have Be := Aside0.mk hx_; clear hg_ hx_ hb_; skip) | ((with_reducible refine gate_store (t := 37) (p := 17) rfl ?_); refine wpList_store_row rfl 37 _ _ rfl ge #[.int .u32 0, .int .i64 0, .bool false] rfl rfl 37 _ Be.out (by kernel_rfl) (by rfl) (by simp [Value.oneCell']) ?_) | fail)
                  have HB5 := Aside0.mk (below_step HB4.out ((PH.start (Below.refl _ _) He.out Ge.out Be.out).set #[.int .u32 0, .int .i64 0, .bool false]).bel)
                  generalize w5.setRow ge #[.int .u32 0, .int .i64 0, .bool false] = w6 at HB5 ⊢
                  clear Ge He Be HB4
                  go_wp2
                  go_roundg (xs2.length - (j + 1))
                  case measure => exact Nat.lt_of_lt_of_le (Nat.sub_lt_sub_left hlj (Nat.lt_succ_self j)) hkj
                  case rel => exact ⟨j + 1, by first | rfl | go_num, hlj, Nat.le_refl _, HB5⟩
                | true =>
                  obtain ⟨y, hy⟩ : ∃ y, rd_T37 es2 (lowu es2 key) = y := ⟨_, rfl⟩
                  have HEH2 := Aside0.mk (HEH.out key hh)
                  rw [hy] at HEH2
                  go_upto_region 23 with (first | (go_at_call 11; refine (HEH2.out _ (HT.out.below HB3.out)).mono ?_; rintro e_ w4 ⟨rfl, hb_⟩; have HB4 := Aside0.mk (below_step HB3.out hb_); clear hb_) | ((with_reducible refine gate_dst (N := 17) rfl ?_); refine box_event ?hg (N := 17) ?hd (cs := #[.int .u32 0, .int .i64 0, .bool false]) (t := 37) ?hr ?_; (case hd => rfl); (case hg => rfl); (case hr => go_simp; try rfl); intro ge hg_ w5 hx_ hb_; have Ge := Aside0.mk hg_; have He := Aside0.mk hb_; have Be := Aside0.mk hx_; clear hg_ hx_ hb_; skip) | ((with_reducible refine gate_store (t := 37) (p := 17) rfl ?_); refine wpList_store_row rfl 37 _ _ rfl ge #[.int .u32 y.f0, .int .i64 y.f1, .bool y.f2] rfl rfl 37 _ Be.out (by kernel_rfl) (by rfl) (by simp [Value.oneCell']) ?_) | fail)
                  have HB5 := Aside0.mk (below_step HB4.out ((PH.start (Below.refl _ _) He.out Ge.out Be.out).set #[.int .u32 y.f0, .int .i64 y.f1, .bool y.f2]).bel)
                  generalize w5.setRow ge #[.int .u32 y.f0, .int .i64 y.f1, .bool y.f2] = w6 at HB5 ⊢
                  clear Ge He Be HB4
                  go_wp2
                  go_roundg (xs2.length - (j + 1))
                  case measure => exact Nat.lt_of_lt_of_le (Nat.sub_lt_sub_left hlj (Nat.lt_succ_self j)) hkj
                  case rel => exact ⟨j + 1, by first | rfl | go_num, hlj, Nat.le_refl _, HB5⟩
              · have hltj : ¬ (j : Int) < (xs2.length : Int) := by omega
                have HR := Aside0.mk (Kd.R_below HR2.out HB3.out)
                have HT := Aside0.mk (HT.out.below HB3.out)
                have HB := Aside0.mk (below_step HB.out HB3.out)
                clear HR2 HEN HEH HOUT HB3
                go_wp2
                go_roundg (l.length - (i + 1))
                case measure => exact Nat.lt_of_lt_of_le (Nat.sub_lt_sub_left hlt (Nat.lt_succ_self i)) hk
                case rel =>
                  refine ⟨i + 1, x.f2, xs2, es2, b2, rfl, ?_, hlt, Nat.le_refl _, HR, HT, NB2, HB, HI2, HREC2, HXL2, ?_⟩
                  · rfl
                  · exact ⟨Int.le_trans (by decide) HM0.out⟩
        · have HASK := Aside0.mk (fun W => asku_bad W g x.f1 x.f2 (fun h => hmx h.2))
          go_wp2_with (first | (go_at_call 9; refine (HASK.out _).mono ?_; rintro e_ w3 ⟨rfl, hb_⟩; have HR := Aside0.mk (Kd.R_below HR.out hb_); have HT := Aside0.mk (HT.out.below hb_); have HB := Aside0.mk (below_step HB.out hb_); clear hb_) | fail)
          go_roundg (l.length - (i + 1))
          case measure => omega
          case rel => exact ⟨i + 1, mom, xs, es, b, rfl, by first | rfl | go_num, by omega, Nat.le_refl _, HR, HT, NB, HB, HI, HREC, ⟨Nat.le_succ_of_le HXL.out⟩, HMOM⟩
      · have hlti : ¬ (i : Int) < (l.length : Int) := by omega
        go_wp2
        go_ret
        exact ⟨rfl, HB.out⟩
  · have HNEW := Aside0.mk (fun W => newu_bad W room span hfit)
    clear hfit
    go_enter Try.func3, Try.ntmps3
    go_wp2_with (first | (go_at_call 7; refine (HAL.out _).mono ?_; rintro e_ w1 ⟨rfl, hb_⟩; have HB := Aside0.mk hb_; clear hb_) | (go_at_call 8; refine (HNEW.out _).mono ?_; rintro e_ w2 ⟨rfl, hb_⟩; have HB := Aside0.mk (below_step HB.out hb_); clear hb_) | fail)
    go_ret
    exact ⟨rfl, HB.out⟩
theorem stays_row (room span : Int) (A : Option Addr) (n c : Nat) (l : List S32) (w : World) (e : l.length = n) (hl : Kd.C k32 w A n l) (hc : n ≤ c) :
    Calls Try.prog 3 #[.int .i64 room, .int .i64 span, .slice A n c] w fun e w' => e = .returned (.bool true) ∧ Below w.heap.size w w' := by
  subst e
  exact stays_walk room span A c l w hl hc
end Go.Proofs.Ytbifanoiailjoaa.MRatePlays
