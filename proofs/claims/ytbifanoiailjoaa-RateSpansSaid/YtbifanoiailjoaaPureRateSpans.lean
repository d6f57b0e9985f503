/- The law RateSpans: without the document's answer: between two moments at which a key is accepted, and isn't put out between them, lies at least the span. No condition. -/
import Derived.Test.YtbifanoiailjoaaRateActBox
import Derived.Test.YtbifanoiailjoaaRateMap
import Derived.Test.YtbifanoiailjoaaRateMU
import Derived.Deep.DeepCutAuto
namespace Go.Proofs.Ytbifanoiailjoaa.MRatePlays
open Go.RowKit Go.Proofs.YtbifanoiailjoaaW.PrintWords Go.Proofs.YtbifanoiailjoaaW.PrintLast Go.Proofs.YtbifanoiailjoaaW.PrintMore Go.Proofs.Ytbifanoiailjoaa.Base
set_option linter.unusedVariables false
set_option linter.unusedSimpArgs false

theorem Below.grownMap {w W W' : World} {B : Nat} (h : Below w.heap.size w W) (g : W.grownBy W' (some B)) (hB : w.heap.size ≤ B) : Below w.heap.size w W' :=
  ⟨g.os.trans h.os, g.tape.trans h.tape, g.output.trans h.output, Nat.le_trans h.size g.size, fun k hk => (g.block k (Nat.lt_of_lt_of_le hk h.size) (fun e => by injection e with e; omega)).trans (h.block k hk)⟩
theorem Tabu.grown {W W' : World} {B n g b : Nat} {f : Int → Option Int} {es : List S37} {room span : Int} (T : Tabu W g b es room span) (hM : MapIs W B n f) (hg : W.grownBy W' (some B)) : Tabu W' g b es room span := by
  obtain ⟨sl, h1, hs⟩ := T
  have n1 : some g ≠ some B := fun e => hM.ne h1 (by injection e with e; exact e.symm)
  refine ⟨sl, (hg.block g (blk_lt h1) n1).trans h1, ?_⟩
  rcases hs with h | ⟨hn, c, rest, e, hr, hl, hc⟩
  · exact .inl h
  · have n2 : some b ≠ some B := fun e => hM.ne hr (by injection e with e; exact e.symm)
    exact .inr ⟨hn, c, rest, e, (hg.block b (blk_lt hr) n2).trans hr, hl, hc⟩
theorem MapIs.grown {W W' : World} {B B' n n' : Nat} {f f' : Int → Option Int} (h : MapIs W B n f) (hM : MapIs W B' n' f') (hne : B ≠ B') (hg : W.grownBy W' (some B')) : MapIs W' B n f :=
  h.move (hg.block B h.lt (fun e => hne (by injection e)))
def KeysWf (es : List S37) : Prop := ∀ x ∈ es, (Lit.int .u32 x.f0).wf = true
theorem keysWf_ask (es : List S37) (key m room span : Int) (h : KeysWf es) (hk : (Lit.int .u32 key).wf = true) : KeysWf (askLu es key m room span) := by
  intro x hx
  unfold askLu at hx
  split at hx
  · unfold accu at hx
    split at hx
    · rcases memu_setAt hx with rfl | hx
      · exact hk
      · exact h x hx
    · rcases memu_putIn hx with rfl | hx
      · exact hk
      · exact h x ((cutu_sub _ es).subset hx)
  · rename_i q
    split at hx
    · have hh := ansu_two es key m span q
      unfold tellu at hx
      rcases List.mem_append.1 hx with hx | hx
      · exact h x (List.mem_of_mem_take hx)
      · rcases List.mem_cons.1 hx with rfl | hx
        · exact h (rd_T37 es (lowu es key)) (rd_mem es key hh)
        · exact h x (List.mem_of_mem_drop hx)
    · exact h x hx
theorem slu_val {W : World} {g nb : Nat} {v : Value} {es : List S37} (h : Slu W g nb v es) : ∃ A c, v = .slice A es.length c := by
  rcases h with ⟨rfl, rfl, _⟩ | ⟨_, c, rest, rfl, _⟩
  · exact ⟨none, 0, rfl⟩
  · exact ⟨_, _, rfl⟩
theorem slu_at {W : World} {g nb : Nat} {A : Option Addr} {n c : Nat} {es : List S37} (h : Slu W g nb (.slice A n c) es) (j : Nat) (hj : j < es.length) :
    A = some ⟨nb, 0, none⟩ ∧ W.cell? ⟨nb, j * 3, none⟩ = some (.int .u32 es[j].f0) ∧ W.cell? ⟨nb, j * 3 + 1, none⟩ = some (.int .i64 es[j].f1) ∧ W.cell? ⟨nb, j * 3 + 2, none⟩ = some (.bool es[j].f2) := by
  rcases h with ⟨_, rfl, _⟩ | ⟨_, c', rest, e, hr, _⟩
  · simp at hj
  · injection e with e1 e2 e3
    have h0 := rowu_cell hr j 0 hj _ rfl (by omega)
    have h1 := rowu_cell hr j 1 hj _ rfl (by omega)
    have h2 := rowu_cell hr j 2 hj _ rfl (by omega)
    rw [rdu_get es j hj] at h0 h1 h2
    exact ⟨e1, h0, h1, h2⟩
theorem slu_grown {W W' : World} {B n g nb : Nat} {v : Value} {f : Int → Option Int} {es : List S37} (T : Slu W g nb v es) (hM : MapIs W B n f) (hg : W.grownBy W' (some B)) : Slu W' g nb v es := by
  rcases T with h | ⟨hn, c, rest, e, hr, hl, hc⟩
  · exact .inl h
  · have n2 : some nb ≠ some B := fun e => hM.ne hr (by injection e with e; exact e.symm)
    exact .inr ⟨hn, c, rest, e, (hg.block nb (blk_lt hr) n2).trans hr, hl, hc⟩
theorem wr_succL (j n : Nat) (h : j < n) (hn : n ≤ 1000000) : wrap64 ((j : Int) + 1) = ((j + 1 : Nat) : Int) := by
  rw [wrap64_id (by unfold I64; omega)]
  rfl
theorem len2000 {n : Nat} {room : Int} (h : (n : Int) ≤ room) (k : room ≤ 1024) : n ≤ 2000 := by omega
theorem sub_was {m was : Int} (h : 0 ≤ m ∧ m ≤ 4611686018427387904) (k : 0 ≤ (some was).getD 0 ∧ (some was).getD 0 ≤ 4611686018427387904) : wrap64 (m - was) = m - was := by
  simp only [Option.getD_some] at k
  exact wrap64_id (by unfold I64; omega)
theorem e3_one (x : S37) : (#[.int .u32 x.f0, .int .i64 x.f1, .bool x.f2] : Array Value).all (·.oneCell') = true := by simp [Value.oneCell']
set_option maxHeartbeats 8000000 in
set_option maxRecDepth 100000 in
theorem spans_walk (room span : Int) (A : Option Addr) (c : Nat) (l : List S32) (w : World) (hl : Kd.C k32 w A l.length l) (hc : l.length ≤ c) (hok : ∀ y ∈ l, ok32 y) :
    Calls Try.prog 4 #[.int .i64 room, .int .i64 span, .slice A l.length c] w fun e w' => e = .returned (.bool true) ∧ Below w.heap.size w w' := by
  have HL := Aside0.mk hl
  have HOK := Aside0.mk hok
  have HAL := Aside0.mk alive_c
  have hmm := @run_makeMap Try.prog
  clear hl hok
  by_cases h80 : 80 < l.length
  · have hd : decide (80 < (l.length : Int)) = true := decide_eq_true (by omega)
    clear h80
    go_enter Try.func4, Try.ntmps4
    go_wp2_with (first | (go_at_call 7; refine (HAL.out _).mono ?_; rintro e_ w1 ⟨rfl, hb_⟩; have HB := Aside0.mk hb_; clear hb_) | fail)
    go_ret
    exact ⟨rfl, HB.out⟩
  have hd : decide (80 < (l.length : Int)) = false := decide_eq_false (by omega)
  have H80 := Aside0.mk (Nat.not_lt.1 h80)
  clear h80
  by_cases hfit : 1 ≤ room ∧ room ≤ 1024 ∧ 0 ≤ span ∧ span ≤ 4611686018427387904
  · have HNEW := Aside0.mk (fun W => newu_ok W room span hfit)
    have HFIT := Aside0.mk hfit
    clear hfit
    go_enter Try.func4, Try.ntmps4
    go_upto_region 8 with (first | (go_at_call 7; refine (HAL.out _).mono ?_; rintro e_ w1 ⟨rfl, hb_⟩; have HB := Aside0.mk hb_; clear hb_) | (go_at_call 8; refine (HNEW.out _).mono ?_; rintro e_ w2 ⟨g, rfl, ht_, hg_, hb_⟩; have HB2 := Aside0.mk (below_step HB.out hb_); have HT := Aside0.mk ht_; have HG := Aside0.mk (show w.heap.size ≤ g from Nat.le_trans HB.out.size hg_); clear ht_ hg_ hb_) | fail)
    have NB := Aside0.mk (show Nb w.heap.size g g from ⟨HG.out, HG.out⟩)
    have HM := Aside0.mk ((MapIs.made w2).cast (f' := lookF []) (fun k => rfl))
    have HT := Aside0.mk (HT.out.below (below_alloc (Below.refl _ _) (.map #[] 0)))
    have HB3 := Aside0.mk (below_alloc HB2.out (.map #[] 0))
    have HBM := Aside0.mk (show w.heap.size ≤ w2.heap.size from HB2.out.size)
    clear HAL HNEW HB HG HB2
    go_wp2
    go_loopg [9, 37] l.length (fun kx s9 s37 wr => ∃ (i : Nat) (es : List S37) (b B : Nat), s9 = .map (some B) ∧ s37 = .int .i64 i ∧ i ≤ l.length ∧ l.length - i ≤ kx ∧ Aside0 (Tabu wr g b es room span) ∧ Aside0 (Nb w.heap.size g b) ∧ Aside0 (Below w.heap.size w wr) ∧ Aside0 (Invu es room) ∧ Aside0 (KeysWf es) ∧ Aside0 (MapIs wr B 2000 (lookF es)) ∧ Aside0 (w.heap.size ≤ B))
    case atStart => exact ⟨0, [], g, _, rfl, rfl, Nat.zero_le _, by omega, HT, NB, HB3, ⟨Invu.nil room HFIT.out.1⟩, ⟨fun x h => by cases h⟩, ⟨HM.out.mono (by omega)⟩, HBM⟩
    case round =>
      clear HT NB HB3 HM HBM
      obtain ⟨i, es, b, B, rfl, rfl, hi, hk, HT, NB, HB, HI, HKW, HM, HBM⟩ := hrel
      by_cases hlt : i < l.length
      · obtain ⟨ad, eA, hx0, hx1, hx2, hx3⟩ := at_T32 HL.out (i : Int) (by omega) (by omega)
        subst eA
        obtain ⟨x, hx⟩ : ∃ x, rd_T32 l (i : Int) = x := ⟨_, rfl⟩
        rw [hx, Int.toNat_natCast] at hx0 hx1 hx2 hx3
        have hxo : ok32 x := by
          rw [← hx]
          refine HOK.out _ ?_
          unfold rd_T32
          rw [Int.toNat_natCast, List.getD_eq_getElem?_getD, List.getElem?_eq_getElem hlt]
          exact List.getElem_mem _
        have HXO := Aside0.mk hxo
        clear hx hxo
        replace hx0 := (HB.out.cell (World.block_lt_of_cell? w _ hx0)).trans hx0
        replace hx1 := (HB.out.cell (World.block_lt_of_cell? w _ hx1)).trans hx1
        replace hx2 := (HB.out.cell (World.block_lt_of_cell? w _ hx2)).trans hx2
        replace hx3 := (HB.out.cell (World.block_lt_of_cell? w _ hx3)).trans hx3
        have hlti : (i : Int) < (l.length : Int) := by omega
        have HB0 := Aside0.mk (Below.refl wr.heap.size wr)
        have HTlt := Aside0.mk (show g < wr.heap.size ∧ b < wr.heap.size from HT.out.lt)
        go_upto_region 12 with (first | ((with_reducible refine gate_dst (N := 11) rfl ?_); refine box_event ?hg (N := 11) ?hd (cs := #[.int .i64 0, .int .u32 0, .int .i64 0, .int .i64 0]) (t := 32) ?hr ?_; (case hd => rfl); (case hg => rfl); (case hr => go_simp; try rfl); intro gx hg_ w1 hx_ hb_; have Gx := Aside0.mk hg_; have Hx := Aside0.mk hb_; have Bx := Aside0.mk hx_; clear hg_ hx_ hb_; skip) | ((with_reducible refine gate_store (t := 32) (p := 11) rfl ?_); refine wpList_store_row rfl 32 _ _ rfl gx #[.int .i64 x.f0, .int .u32 x.f1, .int .i64 x.f2, .int .i64 x.f3] rfl rfl 32 _ Bx.out (by kernel_rfl) (by rfl) (a4_one x) ?_) | fail)
        have X0 := Aside0.mk ((PH.start HB0.out Hx.out Gx.out Bx.out).set #[.int .i64 x.f0, .int .u32 x.f1, .int .i64 x.f2, .int .i64 x.f3])
        clear Gx Hx Bx HB0 hx0 hx1 hx2 hx3
        generalize w1.setRow gx #[.int .i64 x.f0, .int .u32 x.f1, .int .i64 x.f2, .int .i64 x.f3] = w2 at X0 ⊢
        have HM := Aside0.mk (HM.out.below X0.out.bel)
        have HT := Aside0.mk (HT.out.below X0.out.bel)
        have HB := Aside0.mk (below_step HB.out X0.out.bel)
        have y1 : w2.cell? ⟨gx, 1, none⟩ = some (.int .u32 x.f1) := (blk_cell X0.out.row 1).trans rfl
        have y2 : w2.cell? ⟨gx, 2, none⟩ = some (.int .i64 x.f2) := (blk_cell X0.out.row 2).trans rfl
        have hwi := wr_succ i l.length hlt (Nat.le_trans H80.out (by decide))
        by_cases hmx : 0 ≤ x.f2 ∧ x.f2 ≤ 4611686018427387904
        · have hm0 := hmx.1
          have hm1 := hmx.2
          have HASK := Aside0.mk (fun W (hW : Tabu W g b es room span) => asku_c W g b es room span x.f1 x.f2 hW HI.out.rise HI.out.ats (Nat.le_trans (len2000 HI.out.len HFIT.out.2.1) (by decide)) HFIT.out.1 HFIT.out.2.1 hm0 hm1)
          have HNO := Aside0.mk (noted es room span x.f2 x.f1 HI.out HFIT.out.1 hm0 hm1)
          have HSP := Aside0.mk (fun was => spans es span x.f2 x.f1 was HI.out.rise)
          have HWR := Aside0.mk (was_range es HI.out.ats x.f1)
          have HI2 := Aside0.mk (invu_ask es x.f1 x.f2 room span HI.out HFIT.out.1 hm0 hm1)
          have HKW2 := Aside0.mk (keysWf_ask es x.f1 x.f2 room span HKW.out HXO.out.2.1)
          obtain ⟨es2, hes2⟩ : ∃ es2, askLu es x.f1 x.f2 room span = es2 := ⟨_, rfl⟩
          obtain ⟨an, han⟩ : ∃ an, ansu es x.f1 x.f2 span = an := ⟨_, rfl⟩
          rw [hes2, han] at HASK HNO
          rw [han] at HSP
          rw [hes2] at HI2 HKW2
          have HNX := Aside0.mk (show gx ≠ g ∧ gx ≠ b from by
            have h1 := X0.out.new
            have h3 := HTlt.out
            omega)
          have HMX := Aside0.mk hmx
          clear hes2 han hmx hm0 hm1 HI HKW
          go_upto_region 14 with (first | (go_at_call 9; refine (HASK.out _ HT.out).mono ?_; rintro e_ w3 ⟨rfl, b2, ht_, hb_, hf_⟩; have HM := Aside0.mk (HM.out.keep HT.out hf_); have NB2 := Aside0.mk (NB.out.step HB.out.size hb_); have XR := Aside0.mk ((hf_.block gx (blk_lt X0.out.row) (fun q => q.elim HNX.out.1 HNX.out.2)).trans X0.out.row); have HB := Aside0.mk (NB.out.below HB.out hf_); have HT := Aside0.mk ht_; clear ht_ hb_ hf_) | fail)
          clear y1 y2 X0 NB HASK HNX
          have y1 : w3.cell? ⟨gx, 1, none⟩ = some (.int .u32 x.f1) := (blk_cell XR.out 1).trans rfl
          have y2 : w3.cell? ⟨gx, 2, none⟩ = some (.int .i64 x.f2) := (blk_cell XR.out 2).trans rfl
          go_upto_region 15 with (first | ((with_reducible refine gate_dst (N := 56) rfl ?_); refine map_look_ok rfl _ _ rfl B 2000 (lookF es) rfl HM.out x.f1 rfl HXO.out.2.1 ?_) | fail)
          go_cut [14, 15, 71] (fun v14 v15 v71 wc => v71 = .bool false ∧ Aside0 (wc = w3))
          case first =>
            by_cases ha : an = 1
            · have had : (an == 1) = true := by simpa using ha
              cases q : lookF es x.f1 with
              | none =>
                clear ha
                go_wp2_with (fail)
                go_meet
                exact ⟨rfl, ⟨rfl⟩⟩
              | some was =>
                have h1 := HSP.out was ha q
                have h2 := HWR.out
                rw [q] at h2
                have h3 := HMX.out
                have hws : wrap64 (x.f2 - was) = x.f2 - was := sub_was h3 h2
                have hlt0 : decide (x.f2 - was < span) = false := decide_eq_false (Int.not_lt.2 h1)
                clear ha h1 h2 h3
                go_wp2_with (fail)
                go_meet
                exact ⟨rfl, ⟨rfl⟩⟩
            · have had : (an == 1) = false := by simpa using ha
              clear ha
              go_wp2_with (fail)
              go_meet
              exact ⟨rfl, ⟨rfl⟩⟩
          case rest =>
            obtain ⟨rfl, hwc⟩ := hcut
            obtain rfl := hwc.out
            go_upto_if 73 with (fail)
            go_cut [] (fun wc => Aside0 (MapIs wc B 2001 (if an = 1 then updF (lookF es) x.f1 x.f2 else lookF es)) ∧ Aside0 (Tabu wc g b2 es2 room span) ∧ Aside0 (Below w.heap.size w wc))
            case first =>
              by_cases ha : an = 1
              · have had : (an == 1) = true := by simpa using ha
                have HA := Aside0.mk ha
                clear ha
                go_wp2_with (first | (at_mapUpdate; refine map_put rfl _ _ _ rfl B 2000 (lookF es) rfl HM.out (by decide) x.f1 rfl HXO.out.2.1 x.f2 rfl HXO.out.2.2.1 ?_; intro w4 hm4 hg4; have HM4 := Aside0.mk hm4; have HT4 := Aside0.mk (HT.out.grown HM.out hg4); have HB4 := Aside0.mk (Below.grownMap HB.out hg4 HBM.out); clear hm4 hg4) | fail)
                go_meet
                exact ⟨⟨by rw [if_pos HA.out]; exact HM4.out⟩, HT4, HB4⟩
              · have had : (an == 1) = false := by simpa using ha
                go_wp2_with (fail)
                go_meet
                exact ⟨⟨by rw [if_neg ha]; exact HM.out.mono (Nat.le_succ 2000)⟩, HT, HB⟩
            case rest =>
              have HGB := Aside0.mk (show B ≠ wc.heap.size ∧ w.heap.size ≤ wc.heap.size from ⟨Nat.ne_of_lt hcut.1.out.lt, hcut.2.2.out.size⟩)
              obtain ⟨HM2, HT, HB⟩ := hcut
              obtain ⟨f2, hf2⟩ : ∃ f2, (if an = 1 then updF (lookF es) x.f1 x.f2 else lookF es) = f2 := ⟨_, rfl⟩
              rw [hf2] at HM2 HNO
              have HG0 := Aside0.mk ((MapIs.made wc).cast (f' := lookF (es2.take 0)) (fun k => rfl))
              have HM2 := Aside0.mk (HM2.out.below (below_alloc (Below.refl _ _) (.map #[] 0)))
              have HT := Aside0.mk (HT.out.below (below_alloc (Below.refl _ _) (.map #[] 0)))
              have HB := Aside0.mk (below_alloc HB.out (.map #[] 0))
              have HEL := Aside0.mk (show es2.length ≤ 1000000 from Nat.le_trans (len2000 HI2.out.len HFIT.out.2.1) (by decide))
              have HEM := Aside0.mk (show es2.length ≤ 2000 from len2000 HI2.out.len HFIT.out.2.1)
              have HENT := Aside0.mk (fun W (hW : Tabu W g b2 es2 room span) => entriesu_c W g b2 es2 room span hW HEL.out)
              clear hf2 XR y1 y2 HSP HWR HM
              obtain ⟨Bg, hBg⟩ : ∃ Bg, wc.heap.size = Bg := ⟨_, rfl⟩
              rw [hBg] at HG0 HGB
              go_upto_region 21 with (first | (go_at_call 12; refine (HENT.out _ HT.out).mono ?_; rintro e_ w5 ⟨v, nb, rfl, hs_, hn_, hb_⟩; have HG := Aside0.mk (HG0.out.below hb_); have HM2 := Aside0.mk (HM2.out.below hb_); have HT := Aside0.mk (HT.out.below hb_); have HB := Aside0.mk (below_step HB.out hb_); have HSV := Aside0.mk hs_; clear hs_ hn_ hb_ HG0; obtain ⟨Av, cv, rfl⟩ := slu_val HSV.out) | fail)
              go_loopg [83] es2.length (fun kx s83 wi => ∃ j : Nat, s83 = .int .i64 j ∧ j ≤ es2.length ∧ es2.length - j ≤ kx ∧ Aside0 (MapIs wi Bg j (lookF (es2.take j))) ∧ Aside0 (MapIs wi B 2001 f2) ∧ Aside0 (Tabu wi g b2 es2 room span) ∧ Aside0 (Below w.heap.size w wi) ∧ Aside0 (Slu wi g nb (.slice Av es2.length cv) es2))
              case atStart => exact ⟨0, rfl, Nat.zero_le _, Nat.sub_le _ _, HG, HM2, HT, HB, HSV⟩
              case round =>
                clear HG HM2 HT HB HSV
                obtain ⟨j, rfl, hj, hkj, HG, HM2, HT, HB, HSV⟩ := hrel
                by_cases hlj : j < es2.length
                · obtain ⟨eAv, z0, z1, z2⟩ := slu_at HSV.out j hlj
                  subst eAv
                  have hsn := lookF_snoc es2 HI2.out.rise j hlj
                  have hyn := HNO.out _ (List.getElem_mem hlj)
                  have hyw := HKW2.out _ (List.getElem_mem hlj)
                  have hya := HI2.out.ats _ (List.getElem_mem hlj)
                  obtain ⟨y, hy⟩ : ∃ y, es2[j] = y := ⟨_, rfl⟩
                  rw [hy] at z0 z1 z2 hsn hyn hyw hya
                  have HSN := Aside0.mk hsn
                  have HYN := Aside0.mk (show (f2 y.f0).getD 0 = y.f1 from by rw [hyn]; rfl)
                  have HYW := Aside0.mk hyw
                  have HYV := Aside0.mk (show (Lit.int .i64 ((f2 y.f0).getD 0)).wf = true from by rw [HYN.out]; exact atWf hya.1 hya.2)
                  have hltj : (j : Int) < (es2.length : Int) := Int.ofNat_lt.2 hlj
                  have hwj := wr_succL j es2.length hlj HEL.out
                  have hjn : j ≤ 1000000 := Nat.le_trans hj HEL.out
                  have HB0 := Aside0.mk (Below.refl wr.heap.size wr)
                  clear hsn hyn hyw hya hy
                  go_upto_region 23 with (first | ((with_reducible refine gate_dst (N := 18) rfl ?_); refine box_event ?hg (N := 18) ?hd (cs := #[.int .u32 0, .int .i64 0, .bool false]) (t := 37) ?hr ?_; (case hd => rfl); (case hg => rfl); (case hr => go_simp; try rfl); intro ge hg_ w6 hx_ hb_; have Ge := Aside0.mk hg_; have He := Aside0.mk hb_; have Be := Aside0.mk hx_; clear hg_ hx_ hb_; skip) | ((with_reducible refine gate_store (t := 37) (p := 18) rfl ?_); refine wpList_store_row rfl 37 _ _ rfl ge #[.int .u32 y.f0, .int .i64 y.f1, .bool y.f2] rfl rfl 37 _ Be.out (by kernel_rfl) (by rfl) (e3_one y) ?_) | fail)
                  have E0 := Aside0.mk ((PH.start HB0.out He.out Ge.out Be.out).set #[.int .u32 y.f0, .int .i64 y.f1, .bool y.f2])
                  generalize w6.setRow ge #[.int .u32 y.f0, .int .i64 y.f1, .bool y.f2] = w7 at E0 ⊢
                  clear Ge He Be HB0 z0 z1 z2
                  have HG := Aside0.mk (HG.out.below E0.out.bel)
                  have HM2 := Aside0.mk (HM2.out.below E0.out.bel)
                  have HT := Aside0.mk (HT.out.below E0.out.bel)
                  have HB := Aside0.mk (below_step HB.out E0.out.bel)
                  have HSV := Aside0.mk (HSV.out.below E0.out.bel)
                  have z0 : w7.cell? ⟨ge, 0, none⟩ = some (.int .u32 y.f0) := (blk_cell E0.out.row 0).trans rfl
                  go_wp2_with (first | ((with_reducible refine gate_dst (N := 93) rfl ?_); refine map_look rfl _ _ rfl B 2001 f2 rfl HM2.out y.f0 rfl HYW.out ?_) | (at_mapUpdate; refine map_put rfl _ _ _ rfl Bg j (lookF (es2.take j)) rfl HG.out hjn y.f0 rfl HYW.out _ rfl HYV.out ?_; intro w8 hm8 hg8; rw [HYN.out, ← HSN.out] at hm8; have HM2 := Aside0.mk (HM2.out.grown HG.out HGB.out.1 hg8); have HT := Aside0.mk (HT.out.grown HG.out hg8); have HB := Aside0.mk (Below.grownMap HB.out hg8 HGB.out.2); have HSV := Aside0.mk (slu_grown HSV.out HG.out hg8); have HG := Aside0.mk hm8; clear hm8 hg8 z0) | fail)
                  go_roundg (es2.length - (j + 1))
                  case measure => exact Nat.lt_of_lt_of_le (Nat.sub_lt_sub_left hlj (Nat.lt_succ_self j)) hkj
                  case rel => exact ⟨j + 1, by first | rfl | go_num, hlj, Nat.le_refl _, HG, HM2, HT, HB, HSV⟩
                · have hltj : ¬ (j : Int) < (es2.length : Int) := fun q => hlj (Int.ofNat_lt.1 q)
                  obtain rfl : j = es2.length := Nat.le_antisymm hj (Nat.not_lt.1 hlj)
                  have HG := Aside0.mk (show MapIs wr Bg 2000 (lookF es2) from by
                    have h1 := HG.out
                    rw [List.take_length] at h1
                    exact h1.mono HEM.out)
                  have HGW := Aside0.mk HGB.out.2
                  clear HM2 HSV hj hkj
                  go_wp2
                  go_roundg (l.length - (i + 1))
                  case measure => exact Nat.lt_of_lt_of_le (Nat.sub_lt_sub_left hlt (Nat.lt_succ_self i)) hk
                  case rel => exact ⟨i + 1, es2, b2, Bg, rfl, by first | rfl | go_num, hlt, Nat.le_refl _, HT, NB2, HB, HI2, HKW2, HG, HGW⟩
        · have HASK := Aside0.mk (fun W => asku_bad W g x.f1 x.f2 hmx)
          go_wp2_with (first | (go_at_call 9; refine (HASK.out _).mono ?_; rintro e_ w3 ⟨rfl, hb_⟩; have HM := Aside0.mk (HM.out.below hb_); have HT := Aside0.mk (HT.out.below hb_); have HB := Aside0.mk (below_step HB.out hb_); clear hb_) | fail)
          go_roundg (l.length - (i + 1))
          case measure => exact Nat.lt_of_lt_of_le (Nat.sub_lt_sub_left hlt (Nat.lt_succ_self i)) hk
          case rel => exact ⟨i + 1, es, b, B, rfl, by first | rfl | go_num, hlt, Nat.le_refl _, HT, NB, HB, HI, HKW, HM, HBM⟩
      · have hlti : ¬ (i : Int) < (l.length : Int) := by omega
        have HLEN := Aside0.mk (lenu_c wr g b es room span HT.out)
        have hle : decide ((es.length : Int) ≤ room) = true := decide_eq_true HI.out.len
        go_wp2_with (first | (go_at_call 13; refine HLEN.out.mono ?_; rintro e_ w3 ⟨rfl, hb_⟩; have HB := Aside0.mk (below_step HB.out hb_); clear hb_) | fail)
        go_ret
        exact ⟨rfl, HB.out⟩
  · have HNEW := Aside0.mk (fun W => newu_bad W room span hfit)
    clear hfit
    go_enter Try.func4, Try.ntmps4
    go_wp2_with (first | (go_at_call 7; refine (HAL.out _).mono ?_; rintro e_ w1 ⟨rfl, hb_⟩; have HB := Aside0.mk hb_; clear hb_) | (go_at_call 8; refine (HNEW.out _).mono ?_; rintro e_ w2 ⟨rfl, hb_⟩; have HB := Aside0.mk (below_step HB.out hb_); clear hb_) | fail)
    go_ret
    exact ⟨rfl, HB.out⟩
theorem spans_row (room span : Int) (A : Option Addr) (n c : Nat) (l : List S32) (w : World) (e : l.length = n) (hl : Kd.C k32 w A n l) (hc : n ≤ c) (hok : ∀ y ∈ l, ok32 y) :
    Calls Try.prog 4 #[.int .i64 room, .int .i64 span, .slice A n c] w fun e w' => e = .returned (.bool true) ∧ Below w.heap.size w w' := by
  subst e
  exact spans_walk room span A c l w hl hc hok
end Go.Proofs.Ytbifanoiailjoaa.MRatePlays
