/- The law RatePlays: what any table answers, and remembers, behind any acts, is what the document says. No condition. -/
import Derived.Test.YtbifanoiailjoaaRateLsame
import Derived.Test.YtbifanoiailjoaaRatePlaysA
import Derived.Test.YtbifanoiailjoaaRateLask
import Derived.Test.YtbifanoiailjoaaRateMU
import Derived.Test.YtbifanoiailjoaaRateAlive
import Derived.Test.YtbifanoiailjoaaRateAct
namespace Go.Proofs.Ytbifanoiailjoaa.MRatePlays
open Go.RowKit Go.Proofs.YtbifanoiailjoaaW.PrintWords Go.Proofs.YtbifanoiailjoaaW.PrintLast Go.Proofs.YtbifanoiailjoaaW.PrintMore Go.Proofs.Ytbifanoiailjoaa.Base
set_option linter.unusedVariables false
set_option linter.unusedSimpArgs false

theorem word_c (room : Int) (wd : ByteArray) (h : rate_Word.f room = some wd) (w : World) : Calls Try.prog 25 #[.int .i64 room] w fun e w' => e = .returned (.string wd) ∧ Below w.heap.size w w' := by
  refine (rate_Word.calls room wd w h).mono ?_
  rintro e w' ⟨rfl, n, rfl⟩
  exact ⟨rfl, pw_below_drewN (Below.refl _ _) n⟩
theorem word_any (room : Int) : ∃ wd, rate_Word.f room = some wd := by
  unfold rate_Word.f
  repeat (first | exact ⟨_, rfl⟩ | split)
theorem word_out (room : Int) (h : ¬ (1 ≤ room ∧ room ≤ 3)) : rate_Word.f room = some ⟨#[]⟩ := by
  unfold rate_Word.f
  rw [if_neg (by omega), if_neg (by omega), if_neg (by omega)]
set_option maxHeartbeats 8000000 in
set_option maxRecDepth 100000 in
theorem plays_walk (room span : Int) (A : Option Addr) (c : Nat) (l : List S32) (w : World) (hl : Kd.C k32 w A l.length l) (hc : l.length ≤ c) (hok : ∀ y ∈ l, ok32 y) :
    Calls Try.prog 6 #[.int .i64 room, .int .i64 span, .slice A l.length c] w fun e w' => e = .returned (.bool true) ∧ Below w.heap.size w w' := by
  have HL := Aside0.mk hl
  have HOK := Aside0.mk hok
  have HAL := Aside0.mk alive_c
  clear hl hok
  by_cases h80 : 80 < l.length
  · have hd : decide (80 < (l.length : Int)) = true := decide_eq_true (by omega)
    clear h80
    go_enter Try.func6, Try.ntmps6
    go_wp2_with (first | (go_at_call 7; refine (HAL.out _).mono ?_; rintro e_ w1 ⟨rfl, hb_⟩; have HB := Aside0.mk hb_; clear hb_) | fail)
    go_ret
    exact ⟨rfl, HB.out⟩
  have hd : decide (80 < (l.length : Int)) = false := decide_eq_false (by omega)
  have H80 := Aside0.mk (Nat.not_lt.1 h80)
  clear h80
  obtain ⟨wd, hwd⟩ := word_any room
  have HWD := Aside0.mk hwd
  have HWORD := Aside0.mk (word_c room wd hwd)
  clear hwd
  obtain ⟨bq, hbq⟩ : ∃ bq, decide (1 ≤ room ∧ room ≤ 3) = bq := ⟨_, rfl⟩
  have HBQ := Aside0.mk hbq
  clear hbq
  go_enter Try.func6, Try.ntmps6
  go_upto_region 6 with (first | (go_at_call 7; refine (HAL.out _).mono ?_; rintro e_ w1 ⟨rfl, hb_⟩; have HB := Aside0.mk hb_; clear hb_) | fail)
  go_cut [28] (fun v28 wc => v28 = .bool bq ∧ Aside0 (wc = w1))
  case first =>
    by_cases h1 : 1 ≤ room
    · have hd1 : decide (1 ≤ room) = true := decide_eq_true h1
      have H1 := Aside0.mk h1
      clear h1
      go_wp2_with (fail)
      go_meet
      have h1 := H1.out
      exact ⟨by rw [← HBQ.out]; simp [h1], ⟨rfl⟩⟩
    · have hd1 : decide (1 ≤ room) = false := decide_eq_false h1
      have H1 := Aside0.mk h1
      clear h1
      go_wp2_with (fail)
      go_meet
      have h1 := H1.out
      exact ⟨by rw [← HBQ.out, decide_eq_false (by omega)], ⟨rfl⟩⟩
  case rest =>
    obtain ⟨rfl, hwc⟩ := hcut
    obtain rfl := hwc.out
    clear hwc
    go_upto_if 28 with (fail)
    go_cut [0, 7, 28] (fun v0 v7 v28 wc2 => v0 = .int .i64 room ∧ v7 = .string wd ∧ Aside0 (Below w.heap.size w wc2))
    case first =>
      cases bq with
      | true =>
        have h0 : room = 1 ∨ room = 2 ∨ room = 3 := by have := of_decide_eq_true HBQ.out; omega
        rcases h0 with rfl | rfl | rfl
        · have hw : wd = ⟨#[97, 99, 99, 101, 112, 116, 101, 100]⟩ := by
            have := HWD.out
            unfold rate_Word.f at this
            rw [if_pos rfl] at this
            exact (Option.some.inj this).symm
          subst hw
          clear HBQ
          go_wp2_with (fail)
          go_meet
          exact ⟨rfl, rfl, ⟨below_step HB.out (below_alloc (Below.refl _ _) _)⟩⟩
        · have hw : wd = ⟨#[116, 111, 108, 100]⟩ := by
            have := HWD.out
            unfold rate_Word.f at this
            rw [if_neg (by decide), if_pos rfl] at this
            exact (Option.some.inj this).symm
          subst hw
          clear HBQ
          go_wp2_with (fail)
          go_meet
          exact ⟨rfl, rfl, ⟨below_step HB.out (below_alloc (Below.refl _ _) _)⟩⟩
        · have hw : wd = ⟨#[112, 97, 115, 115, 101, 100]⟩ := by
            have := HWD.out
            unfold rate_Word.f at this
            rw [if_neg (by decide), if_neg (by decide), if_pos rfl] at this
            exact (Option.some.inj this).symm
          subst hw
          clear HBQ
          go_wp2_with (fail)
          go_meet
          exact ⟨rfl, rfl, ⟨below_step HB.out (below_alloc (Below.refl _ _) _)⟩⟩
      | false =>
        have hw := (word_out room (of_decide_eq_false HBQ.out)).symm.trans HWD.out
        have HW := Aside0.mk (Option.some.inj hw)
        clear hw HBQ
        go_wp2_with (fail)
        go_meet
        exact ⟨rfl, by rw [← HW.out], HB⟩
    case rest =>
      obtain ⟨rfl, rfl, hwc⟩ := hcut
      have HB := Aside0.mk hwc.out
      clear hwc HWD
      go_upto_region 10 with (first | (go_at_call 25; refine (HWORD.out _).mono ?_; rintro e_ w3 ⟨rfl, hb_⟩; have HB := Aside0.mk (below_step HB.out hb_); clear hb_) | fail)
      by_cases hfit : Fit room span
      · have HNEW := Aside0.mk (fun W => newu_ok W room span hfit)
        have HNR := Aside0.mk (fun W => newr_c W room span hfit)
        have HFIT := Aside0.mk hfit
        clear hfit HWORD
        go_upto_region 12 with (first | (go_at_call 8; refine (HNEW.out _).mono ?_; rintro e_ w4 ⟨g, rfl, ht_, hg_, hb_⟩; have HG := Aside0.mk (show w.heap.size ≤ g from Nat.le_trans HB.out.size hg_); have HB := Aside0.mk (below_step HB.out hb_); have HT := Aside0.mk ht_; clear ht_ hg_ hb_) | (go_at_call 26; refine (HNR.out _).mono ?_; rintro e_ w5 ⟨v, rfl, hv_, hb_⟩; obtain ⟨Av, cv, rfl⟩ := Kd.V_slice hv_; have HGL := Aside0.mk HT.out.lt; have HV := Aside0.mk (Kd.V_bound hv_); have HT := Aside0.mk (HT.out.below hb_); have HB := Aside0.mk (below_step HB.out hb_); have HB0 := Aside0.mk (Below.refl w5.heap.size w5); clear hv_ hb_) | ((with_reducible refine gate_dst (N := 10) rfl ?_); refine box_event ?hg10 (N := 10) ?hd10 (cs := #[.slice none 0 0, .int .i64 0, .int .i64 0]) (t := 65) ?hr10 ?_; (case hd10 => rfl); (case hg10 => rfl); (case hr10 => go_simp; try rfl); intro gm hg_ w6 hx_ hb_; have Gx := Aside0.mk hg_; have Hx := Aside0.mk hb_; have Bx := Aside0.mk hx_; clear hg_ hx_ hb_; skip) | ((with_reducible refine gate_store (t := 65) (p := 10) rfl ?_); refine wpList_store_row rfl 65 _ _ rfl gm #[.slice Av 0 cv, .int .i64 room, .int .i64 span] rfl rfl 65 _ Bx.out (by kernel_rfl) (by rfl) (sl_one _ _ _ _ _) ?_) | fail)
        have X0 := Aside0.mk ((PH.start HB0.out Hx.out Gx.out Bx.out).set #[.slice Av 0 cv, .int .i64 room, .int .i64 span])
        have HGM := Aside0.mk (show w.heap.size ≤ gm ∧ w5.heap.size ≤ gm from ⟨Nat.le_trans HB.out.size (Nat.le_of_eq Gx.out.symm), Nat.le_of_eq Gx.out.symm⟩)
        clear Gx Hx Bx HB0 HNEW HNR
        refine named ?_
        intro W0 hW0
        rw [← hW0] at X0
        have HT := Aside0.mk (HT.out.below X0.out.bel)
        have HV := Aside0.mk (Kd.V_below HV.out X0.out.bel)
        have HB := Aside0.mk (below_step HB.out X0.out.bel)
        have RM := Aside0.mk X0.out.row
        clear X0 hW0 HAL
        have HI0 := Aside0.mk (show Inv6 w W0 g gm [] g room span Av cv [] from ⟨HT.out, ⟨HG.out, HG.out⟩, HB.out, Invu.nil room HFIT.out.1, HFIT.out, RM.out, Kd.V_mono (show Kd.V k94 94 W0 0 _ _ _ from HV.out) (fun k hk => by have h1 := HGL.out; have h2 := HGM.out; have h3 := hk.1; have h4 := hk.2; omega), Ref.nil⟩)
        go_upto_region 16 with (fail)
        clear HT HV RM HGL HFIT
        go_wp2
        go_loopg [68] l.length (fun kx s68 wr => ∃ i : Nat, s68 = .int .i64 i ∧ i ≤ l.length ∧ l.length - i ≤ kx ∧ ∃ (es : List S37) (b : Nat) (rm sp : Int) (Am : Option Addr) (cm : Nat) (ml : List S94), Aside0 (Inv6 w wr g gm es b rm sp Am cm ml))
        case atStart => exact ⟨0, rfl, Nat.zero_le _, Nat.sub_le _ _, [], g, room, span, Av, cv, [], HI0⟩
        case round =>
          clear HI0 HB
          obtain ⟨i, rfl, hi, hk, es, b, rm, sp, Am, cm, ml, HI⟩ := hrel
          by_cases hlt : i < l.length
          · obtain ⟨ad, eA, hx0, hx1, hx2, hx3⟩ := at_T32 HL.out (i : Int) (Int.natCast_nonneg i) (Int.ofNat_lt.2 hlt)
            subst eA
            obtain ⟨x, hx⟩ : ∃ x, rd_T32 l (i : Int) = x := ⟨_, rfl⟩
            rw [hx, Int.toNat_natCast] at hx0 hx1 hx2 hx3
            clear hx
            have HB := Aside0.mk HI.out.bel
            replace hx0 := (HB.out.cell (World.block_lt_of_cell? w _ hx0)).trans hx0
            replace hx1 := (HB.out.cell (World.block_lt_of_cell? w _ hx1)).trans hx1
            replace hx2 := (HB.out.cell (World.block_lt_of_cell? w _ hx2)).trans hx2
            replace hx3 := (HB.out.cell (World.block_lt_of_cell? w _ hx3)).trans hx3
            have hlti : (i : Int) < (l.length : Int) := Int.ofNat_lt.2 hlt
            have HB0 := Aside0.mk (Below.refl wr.heap.size wr)
            go_upto_region 19 with (first | ((with_reducible refine gate_dst (N := 13) rfl ?_); refine box_event ?hg13 (N := 13) ?hd13 (cs := #[.int .i64 0, .int .u32 0, .int .i64 0, .int .i64 0]) (t := 32) ?hr13 ?_; (case hd13 => rfl); (case hg13 => rfl); (case hr13 => go_simp; try rfl); intro gx hg_ w7 hx_ hb_; have Gx := Aside0.mk hg_; have Hx := Aside0.mk hb_; have Bx := Aside0.mk hx_; clear hg_ hx_ hb_; skip) | ((with_reducible refine gate_store (t := 32) (p := 13) rfl ?_); refine wpList_store_row rfl 32 _ _ rfl gx #[.int .i64 x.f0, .int .u32 x.f1, .int .i64 x.f2, .int .i64 x.f3] rfl rfl 32 _ Bx.out (by kernel_rfl) (by rfl) (a4_one x) ?_) | fail)
            have X0 := Aside0.mk ((PH.start HB0.out Hx.out Gx.out Bx.out).set #[.int .i64 x.f0, .int .u32 x.f1, .int .i64 x.f2, .int .i64 x.f3])
            have HGX := Aside0.mk (show gx ≠ g ∧ gx ≠ b ∧ gx ≠ gm from by
              have h1 := HI.out.tab.lt
              have h2 := Gx.out
              have h3 := blk_lt HI.out.box
              omega)
            clear Gx Hx Bx HB0 hx0 hx1 hx2 hx3
            refine named ?_
            intro W8 hW8
            rw [← hW8] at X0
            have HI := Aside0.mk (HI.out.below X0.out.bel)
            have RX := Aside0.mk X0.out.row
            clear X0 hW8 HB
            have y0 : W8.cell? ⟨gx, 0, none⟩ = some (.int .i64 x.f0) := (blk_cell RX.out 0).trans rfl
            have y1 : W8.cell? ⟨gx, 1, none⟩ = some (.int .u32 x.f1) := (blk_cell RX.out 1).trans rfl
            have y2 : W8.cell? ⟨gx, 2, none⟩ = some (.int .i64 x.f2) := (blk_cell RX.out 2).trans rfl
            have y3 : W8.cell? ⟨gx, 3, none⟩ = some (.int .i64 x.f3) := (blk_cell RX.out 3).trans rfl
            go_upto_region 20 with (fail)
            go_cut [75] (fun v75 wc => (∃ kd : Int, v75 = .int .u64 kd) ∧ Aside0 (wc = W8))
            case first =>
              clear y1 y2 y3 RX HI
              obtain ⟨xk, hxk⟩ : ∃ xk, x.f0 = xk := ⟨_, rfl⟩
              rw [hxk] at y0
              clear hxk
              go_wp2_with (fail)
              go_meet
              exact ⟨⟨_, rfl⟩, ⟨rfl⟩⟩
            case rest =>
              obtain ⟨⟨kd, rfl⟩, hwc⟩ := hcut
              obtain rfl := hwc.out
              clear hwc y0
              clear y1 y2 y3
              go_upto_if 83 with (fail)
              have y1 : wc.cell? ⟨gx, 1, none⟩ = some (.int .u32 x.f1) := (blk_cell RX.out 1).trans rfl
              have y2 : wc.cell? ⟨gx, 2, none⟩ = some (.int .i64 x.f2) := (blk_cell RX.out 2).trans rfl
              have y3 : wc.cell? ⟨gx, 3, none⟩ = some (.int .i64 x.f3) := (blk_cell RX.out 3).trans rfl
              have y0 : wc.cell? ⟨gx, 0, none⟩ = some (.int .i64 x.f0) := (blk_cell RX.out 0).trans rfl
              have z0 : wc.cell? ⟨gm, 0, none⟩ = some (.slice Am ml.length cm) := (blk_cell HI.out.box 0).trans rfl
              have z1 : wc.cell? ⟨gm, 1, none⟩ = some (.int .i64 rm) := (blk_cell HI.out.box 1).trans rfl
              have z2 : wc.cell? ⟨gm, 2, none⟩ = some (.int .i64 sp) := (blk_cell HI.out.box 2).trans rfl
              by_cases h6 : kd = 6
              · have hd6 : decide (kd = 6) = true := decide_eq_true h6
                have hb6 : (kd == 6) = true := by simpa using h6
                clear h6
                obtain ⟨_, hc1, hC1⟩ := Kd.V_reads' HI.out.lst
                have hml : ml.length ≤ 1000000 := by have h1 := HI.out.ref.len; have h2 := HI.out.inv.len; have h3 := HI.out.fit.2.1; omega
                have hels : es.length ≤ 1000000 := by have h2 := HI.out.inv.len; have h3 := HI.out.fit.2.1; omega
                have HML := Aside0.mk hml
                have HFD := Aside0.mk (findr_c wc Am cm ml rm sp x.f1 hC1 hc1 hml)
                have HFG := Aside0.mk (fun W (hW : Tabu W g b es rm sp) => forgetu_c W g b es rm sp x.f1 hW HI.out.inv.rise hels)
                clear hml hels hC1 hc1
                rcases find_rel es ml x.f1 HI.out.inv.rise HI.out.ref with ⟨hfv, hh⟩ | ⟨j, hj, hfv, hh, hxx⟩
                · rw [hfv] at HFD
                  have hfg : fgtu es x.f1 = es := by unfold fgtu; rw [hh]; rfl
                  rw [hh, hfg] at HFG
                  clear hfv hh hfg
                  go_upto_region 24 with (first | (go_at_call 27; refine HFD.out.mono ?_; rintro e_ w9 ⟨rfl, hb_⟩; have HIN := Aside0.mk (HI.out.below hb_); have RX := Aside0.mk (blk_below RX.out hb_); clear hb_) | fail)
                  have q1 := (blk_cell RX.out 1).trans (show (#[.int .i64 x.f0, .int .u32 x.f1, .int .i64 x.f2, .int .i64 x.f3] : Array Value)[1]? = some (.int .u32 x.f1) from rfl)
                  go_upto_region 31 with (first | (go_at_call 28; refine (HFG.out _ HIN.out.tab).mono ?_; rintro e_ w10 ⟨rfl, ht_, hf_⟩; have RX := Aside0.mk (blk_fr hf_ RX.out HGX.out.1 HGX.out.2.1); have HIN := Aside0.mk (Inv6.kept HIN.out ht_ hf_ HIN.out.ref HIN.out.inv); clear ht_ hf_) | fail)
                  have HSM := Aside0.mk (lsame_c _ g b _ rm sp x.f1 _ Am cm ml HIN.out.tab HIN.out.inv HIN.out.fit.2.1 HIN.out.lst HIN.out.ref)
                  have q1 := (blk_cell RX.out 1).trans (show (#[.int .i64 x.f0, .int .u32 x.f1, .int .i64 x.f2, .int .i64 x.f3] : Array Value)[1]? = some (.int .u32 x.f1) from rfl)
                  have p0 := (blk_cell HIN.out.box 0).trans (show (#[.slice Am ml.length cm, .int .i64 rm, .int .i64 sp] : Array Value)[0]? = some (.slice Am ml.length cm) from rfl)
                  have p1 := (blk_cell HIN.out.box 1).trans (show (#[.slice Am ml.length cm, .int .i64 rm, .int .i64 sp] : Array Value)[1]? = some (.int .i64 rm) from rfl)
                  have p2 := (blk_cell HIN.out.box 2).trans (show (#[.slice Am ml.length cm, .int .i64 rm, .int .i64 sp] : Array Value)[2]? = some (.int .i64 sp) from rfl)
                  have hwi := wr_succM i l.length hlt (Nat.le_trans H80.out (by decide))
                  go_wp2_with (first | (go_at_call 33; refine HSM.out.mono ?_; rintro e_ w11 ⟨rfl, hb_⟩; have HIN := Aside0.mk (HIN.out.below hb_); clear hb_) | fail)
                  go_roundg (l.length - (i + 1))
                  case measure => exact Nat.lt_of_lt_of_le (Nat.sub_lt_sub_left hlt (Nat.lt_succ_self i)) hk
                  case rel => exact ⟨i + 1, by first | rfl | go_num, hlt, Nat.le_refl _, _, _, _, _, _, _, _, HIN⟩
                · rw [hfv] at HFD
                  rw [hh] at HFG
                  have HREF := Aside0.mk (drop_rel es ml x.f1 HI.out.ref hh j hj hxx)
                  have HIF := Aside0.mk (fgt_inv es x.f1 rm HI.out.inv)
                  have HJ := Aside0.mk hj
                  clear hfv hh hxx hj
                  go_upto_region 24 with (first | (go_at_call 27; refine HFD.out.mono ?_; rintro e_ w9 ⟨rfl, hb_⟩; have HIN := Aside0.mk (HI.out.below hb_); have RX := Aside0.mk (blk_below RX.out hb_); clear hb_) | fail)
                  have q1 := (blk_cell RX.out 1).trans (show (#[.int .i64 x.f0, .int .u32 x.f1, .int .i64 x.f2, .int .i64 x.f3] : Array Value)[1]? = some (.int .u32 x.f1) from rfl)
                  have hj0 : (0 : Int) ≤ (j : Int) := Int.natCast_nonneg j
                  have hj1 : decide ((0 : Int) ≤ (j : Int)) = true := decide_eq_true hj0
                  go_upto_region 26 with (first | (go_at_call 28; refine (HFG.out _ HIN.out.tab).mono ?_; rintro e_ w10 ⟨rfl, ht_, hf_⟩; have RX := Aside0.mk (blk_fr hf_ RX.out HGX.out.1 HGX.out.2.1); have HT1 := Aside0.mk ht_; have HF1 := Aside0.mk hf_; clear ht_ hf_) | fail)
                  obtain ⟨f1_, f2_⟩ := far65 HIN.out.tab HIN.out.box
                  have BX := Aside0.mk (blk_fr HF1.out HIN.out.box f1_ f2_)
                  clear f1_ f2_
                  have hV1 := Kd.V_step (Kd.V_bound HIN.out.lst) (fun k hk hl => HF1.out.block k hk.2 (fun q => by rcases q with q | q; exact hk.1.1 q; exact hk.1.2.1 q))
                  obtain ⟨_, hc1, hC1⟩ := Kd.V_reads' hV1
                  have HWO := Aside0.mk (withr_c w10 Am cm ml rm sp j HJ.out hC1 hc1 HML.out)
                  obtain ⟨l2, hl2⟩ : ∃ l2, ml.take j ++ ml.drop (j + 1) = l2 := ⟨_, rfl⟩
                  obtain ⟨es2, hes2⟩ : ∃ es2, fgtu es x.f1 = es2 := ⟨_, rfl⟩
                  rw [hl2] at HWO HREF
                  rw [hes2] at HREF HIF HT1
                  clear hV1 hc1 hC1 hl2 hes2 hj1 hj0 q1
                  have z0 := (blk_cell BX.out 0).trans (show (#[.slice Am ml.length cm, .int .i64 rm, .int .i64 sp] : Array Value)[0]? = some (.slice Am ml.length cm) from rfl)
                  have z1 := (blk_cell BX.out 1).trans (show (#[.slice Am ml.length cm, .int .i64 rm, .int .i64 sp] : Array Value)[1]? = some (.int .i64 rm) from rfl)
                  have z2 := (blk_cell BX.out 2).trans (show (#[.slice Am ml.length cm, .int .i64 rm, .int .i64 sp] : Array Value)[2]? = some (.int .i64 sp) from rfl)
                  go_upto_region 31 with (first | (go_at_call 29; refine HWO.out.mono ?_; rintro e_ w11 ⟨v, rfl, hv_, hb_⟩; obtain ⟨A2, c2, rfl⟩ := Kd.V_slice hv_; obtain ⟨bx_, N_⟩ := Inv6.wout HIN.out HGM.out.1 HT1.out HF1.out hb_ hv_ HREF.out HIF.out; have BX := Aside0.mk bx_; have HIN := Aside0.mk N_; have RX := Aside0.mk (blk_below RX.out hb_); clear hv_ hb_ bx_ N_) | ((with_reducible refine gate_store (t := 65) (p := 10) rfl ?_); refine wpList_store_row rfl 65 _ _ rfl gm #[.slice A2 l2.length c2, .int .i64 rm, .int .i64 sp] rfl rfl 65 _ BX.out (by kernel_rfl) (by rfl) (sl_one _ _ _ _ _) ?_) | fail)
                  have RX := Aside0.mk ((setRow_ne _ _ _ #[.slice A2 l2.length c2, .int .i64 rm, .int .i64 sp] HGX.out.2.2).trans RX.out)
                  have HSM := Aside0.mk (lsame_c _ g b _ rm sp x.f1 _ A2 c2 l2 HIN.out.tab HIN.out.inv HIN.out.fit.2.1 HIN.out.lst HIN.out.ref)
                  have q1 := (blk_cell RX.out 1).trans (show (#[.int .i64 x.f0, .int .u32 x.f1, .int .i64 x.f2, .int .i64 x.f3] : Array Value)[1]? = some (.int .u32 x.f1) from rfl)
                  have p0 := (blk_cell HIN.out.box 0).trans (show (#[.slice A2 l2.length c2, .int .i64 rm, .int .i64 sp] : Array Value)[0]? = some (.slice A2 l2.length c2) from rfl)
                  have p1 := (blk_cell HIN.out.box 1).trans (show (#[.slice A2 l2.length c2, .int .i64 rm, .int .i64 sp] : Array Value)[1]? = some (.int .i64 rm) from rfl)
                  have p2 := (blk_cell HIN.out.box 2).trans (show (#[.slice A2 l2.length c2, .int .i64 rm, .int .i64 sp] : Array Value)[2]? = some (.int .i64 sp) from rfl)
                  have hwi := wr_succM i l.length hlt (Nat.le_trans H80.out (by decide))
                  go_wp2_with (first | (go_at_call 33; refine HSM.out.mono ?_; rintro e_ w12 ⟨rfl, hb_⟩; have HIN := Aside0.mk (HIN.out.below hb_); clear hb_) | fail)
                  go_roundg (l.length - (i + 1))
                  case measure => exact Nat.lt_of_lt_of_le (Nat.sub_lt_sub_left hlt (Nat.lt_succ_self i)) hk
                  case rel => exact ⟨i + 1, by first | rfl | go_num, hlt, Nat.le_refl _, _, _, _, _, _, _, _, HIN⟩
              · by_cases h7 : kd = 7
                · have hd6 : decide (kd = 6) = false := decide_eq_false h6
                  have hd7 : decide (kd = 7) = true := decide_eq_true h7
                  have hb6 : (kd == 6) = false := by simpa using h6
                  have hb7 : (kd == 7) = true := by simpa using h7
                  clear h6 h7
                  have hml : ml.length ≤ 1000000 := by have h1 := HI.out.ref.len; have h2 := HI.out.inv.len; have h3 := HI.out.fit.2.1; omega
                  have HLT := Aside0.mk HI.out.tab.lt
                  have HSZ := Aside0.mk HI.out.bel.size
                  by_cases hf : Fit x.f3 x.f2
                  · obtain ⟨n, hn⟩ : ∃ n : Nat, x.f3 = (n : Int) := ⟨x.f3.toNat, by have := hf.1; omega⟩
                    rw [hn] at hf y3
                    have HRS := Aside0.mk (refset_ok wc (fun k => (k ≠ g ∧ k ≠ b ∧ k ≠ gm) ∧ k < wc.heap.size) Am cm ml rm sp n x.f2 es (show Kd.V k94 94 wc wc.heap.size _ _ _ from show Kd.V k94 94 wc 0 _ _ _ from Kd.V_bound HI.out.lst) HI.out.ref HI.out.inv.rise hml hf)
                    have HST := Aside0.mk (fun W (hW : Tabu W g b es rm sp) => setu_ok W g b es rm sp (n : Int) x.f2 hW HI.out.inv HI.out.fit.2.1 hf)
                    rw [Int.toNat_natCast] at HST
                    have HNUM := Aside0.mk (fun W => num_c W none)
                    have HIC := Aside0.mk (cut_inv es rm n HI.out.inv)
                    have HFT := Aside0.mk hf
                    have HN := Aside0.mk hn
                    obtain ⟨es2, hes2⟩ : ∃ es2, cutu (es.length - n) es = es2 := ⟨_, rfl⟩
                    rw [hes2] at HRS HST HIC
                    clear hml hf hes2 hn
                    go_upto_region 29 with (first | (go_at_call 30; refine HRS.out.mono ?_; rintro e_ w9 ⟨v, l2, rfl, hv_, hr_, hb_⟩; obtain ⟨A2, c2, rfl⟩ := Kd.V_slice hv_; have HV2 := Aside0.mk hv_; have HRF := Aside0.mk hr_; have HB9 := Aside0.mk hb_; have HB0 := Aside0.mk (Below.refl w9.heap.size w9); clear hv_ hr_ hb_) | ((with_reducible refine gate_dst (N := 16) rfl ?_); refine box_event ?hg16 (N := 16) ?hd16 (cs := #[.slice none 0 0, .int .i64 0, .int .i64 0]) (t := 65) ?hr16 ?_; (case hd16 => rfl); (case hg16 => rfl); (case hr16 => go_simp; try rfl); intro gn hg_ w10 hx_ hb_; have Gx := Aside0.mk hg_; have Hx := Aside0.mk hb_; have Bx := Aside0.mk hx_; clear hg_ hx_ hb_; skip) | ((with_reducible refine gate_store (t := 65) (p := 16) rfl ?_); refine wpList_store_row rfl 65 _ _ rfl gn #[.slice A2 l2.length c2, .int .i64 (n : Int), .int .i64 x.f2] rfl rfl 65 _ Bx.out (by kernel_rfl) (by rfl) (sl_one _ _ _ _ _) ?_) | fail)
                    have X0 := Aside0.mk ((PH.start HB0.out Hx.out Gx.out Bx.out).set #[.slice A2 l2.length c2, .int .i64 (n : Int), .int .i64 x.f2])
                    have HGN := Aside0.mk (show gn ≠ g ∧ gn ≠ b from by
                      have h1 := HLT.out
                      have h2 := Gx.out
                      have h3 := HB9.out.size
                      omega)
                    clear Gx Hx Bx HB0
                    refine named ?_
                    intro W3 hW3
                    rw [← hW3] at X0
                    have HB3 := Aside0.mk (below_step HB9.out X0.out.bel)
                    have HT3 := Aside0.mk (HI.out.tab.below HB3.out)
                    have HV3 := Aside0.mk (Kd.V_below HV2.out X0.out.bel)
                    have RX := Aside0.mk (blk_below RX.out HB3.out)
                    have RN := Aside0.mk X0.out.row
                    clear X0 hW3 HV2 HB9
                    have y2 := (blk_cell RX.out 2).trans (show (#[.int .i64 x.f0, .int .u32 x.f1, .int .i64 x.f2, .int .i64 x.f3] : Array Value)[2]? = some (.int .i64 x.f2) from rfl)
                    have y3 := (blk_cell RX.out 3).trans (show (#[.int .i64 x.f0, .int .u32 x.f1, .int .i64 x.f2, .int .i64 x.f3] : Array Value)[3]? = some (.int .i64 (n : Int)) from by rw [← HN.out]; rfl)
                    go_upto_region 30 with (first | (go_at_call 31; refine (HST.out _ HT3.out).mono ?_; rintro e_ w12 ⟨rfl, ht_, hf_⟩; have HT4 := Aside0.mk ht_; have HF4 := Aside0.mk ((Fr.ofBelow HB3.out).trans hf_ (fun j hj => .inl hj)); have RX := Aside0.mk (blk_fr hf_ RX.out HGX.out.1 HGX.out.2.1); have RN := Aside0.mk (blk_fr hf_ RN.out HGN.out.1 HGN.out.2); have HV4 := Aside0.mk (Kd.V_step (Kd.V_bound HV3.out) (fun k hk hl => hf_.block k hk.2 (fun q => by have h1 := HLT.out; have h2 := hk.1; omega))); clear ht_ hf_) | (go_at_call 23; refine (HNUM.out _).mono ?_; rintro e_ w13 ⟨rfl, hb_⟩; have HT4 := Aside0.mk (HT4.out.below hb_); have RX := Aside0.mk (blk_below RX.out hb_); have RN := Aside0.mk (blk_below RN.out hb_); obtain ⟨bx_, N_⟩ := Inv6.put HI.out HGM.out.1 HT4.out (.inl rfl) (show Kd.V k94 94 w13 0 (fun k => ((k ≠ g ∧ k ≠ b ∧ k ≠ gm) ∧ k < wc.heap.size) ∨ (wc.heap.size ≤ k ∧ k ≠ b)) _ _ from Kd.V_mono (show Kd.V k94 94 w13 0 _ _ _ from Kd.V_below HV4.out hb_) (fun k hk => by have h1 := HLT.out; have h2 := hk.1; omega)) HRF.out (HF4.out.trans (Fr.ofBelow hb_) (fun j hj => .inl hj)) HIC.out HFT.out; have BX := Aside0.mk bx_; have HIN := Aside0.mk N_; clear hb_ bx_ N_) | fail)
                    have r0 := (blk_cell RN.out 0).trans (show (#[.slice A2 l2.length c2, .int .i64 (n : Int), .int .i64 x.f2] : Array Value)[0]? = some (.slice A2 l2.length c2) from rfl)
                    have r1 := (blk_cell RN.out 1).trans (show (#[.slice A2 l2.length c2, .int .i64 (n : Int), .int .i64 x.f2] : Array Value)[1]? = some (.int .i64 (n : Int)) from rfl)
                    have r2 := (blk_cell RN.out 2).trans (show (#[.slice A2 l2.length c2, .int .i64 (n : Int), .int .i64 x.f2] : Array Value)[2]? = some (.int .i64 x.f2) from rfl)
                    go_upto_region 31 with (first | ((with_reducible refine gate_store (t := 65) (p := 10) rfl ?_); refine wpList_store_row rfl 65 _ _ rfl gm #[.slice A2 l2.length c2, .int .i64 (n : Int), .int .i64 x.f2] rfl rfl 65 _ BX.out (by kernel_rfl) (by rfl) (sl_one _ _ _ _ _) ?_) | fail)
                    have RX := Aside0.mk ((setRow_ne _ _ _ #[.slice A2 l2.length c2, .int .i64 (n : Int), .int .i64 x.f2] HGX.out.2.2).trans RX.out)
                    have HSM := Aside0.mk (lsame_c _ g b _ (n : Int) x.f2 x.f1 _ A2 c2 l2 HIN.out.tab HIN.out.inv HIN.out.fit.2.1 HIN.out.lst HIN.out.ref)
                    have q1 := (blk_cell RX.out 1).trans (show (#[.int .i64 x.f0, .int .u32 x.f1, .int .i64 x.f2, .int .i64 x.f3] : Array Value)[1]? = some (.int .u32 x.f1) from rfl)
                    have p0 := (blk_cell HIN.out.box 0).trans (show (#[.slice A2 l2.length c2, .int .i64 (n : Int), .int .i64 x.f2] : Array Value)[0]? = some (.slice A2 l2.length c2) from rfl)
                    have p1 := (blk_cell HIN.out.box 1).trans (show (#[.slice A2 l2.length c2, .int .i64 (n : Int), .int .i64 x.f2] : Array Value)[1]? = some (.int .i64 (n : Int)) from rfl)
                    have p2 := (blk_cell HIN.out.box 2).trans (show (#[.slice A2 l2.length c2, .int .i64 (n : Int), .int .i64 x.f2] : Array Value)[2]? = some (.int .i64 x.f2) from rfl)
                    have hwi := wr_succM i l.length hlt (Nat.le_trans H80.out (by decide))
                    go_wp2_with (first | (go_at_call 33; refine HSM.out.mono ?_; rintro e_ w14 ⟨rfl, hb_⟩; have HIN := Aside0.mk (HIN.out.below hb_); clear hb_) | fail)
                    go_roundg (l.length - (i + 1))
                    case measure => exact Nat.lt_of_lt_of_le (Nat.sub_lt_sub_left hlt (Nat.lt_succ_self i)) hk
                    case rel => exact ⟨i + 1, by first | rfl | go_num, hlt, Nat.le_refl _, _, _, _, _, _, _, _, HIN⟩
                  · have HRS := Aside0.mk (refset_bad wc Am ml.length cm rm sp x.f3 x.f2 hf)
                    have HST := Aside0.mk (fun W => setu_bad W g x.f3 x.f2 hf)
                    have HNUM := Aside0.mk (fun W => num_c W (some 1))
                    clear hml hf
                    go_upto_region 29 with (first | (go_at_call 30; refine HRS.out.mono ?_; rintro e_ w9 ⟨rfl, hb_⟩; have HB9 := Aside0.mk hb_; have HB0 := Aside0.mk (Below.refl w9.heap.size w9); clear hb_) | ((with_reducible refine gate_dst (N := 16) rfl ?_); refine box_event ?hg16b (N := 16) ?hd16b (cs := #[.slice none 0 0, .int .i64 0, .int .i64 0]) (t := 65) ?hr16b ?_; (case hd16b => rfl); (case hg16b => rfl); (case hr16b => go_simp; try rfl); intro gn hg_ w10 hx_ hb_; have Gx := Aside0.mk hg_; have Hx := Aside0.mk hb_; have Bx := Aside0.mk hx_; clear hg_ hx_ hb_; skip) | ((with_reducible refine gate_store (t := 65) (p := 16) rfl ?_); refine wpList_store_row rfl 65 _ _ rfl gn #[.slice Am ml.length cm, .int .i64 rm, .int .i64 sp] rfl rfl 65 _ Bx.out (by kernel_rfl) (by rfl) (sl_one _ _ _ _ _) ?_) | fail)
                    have X0 := Aside0.mk ((PH.start HB0.out Hx.out Gx.out Bx.out).set #[.slice Am ml.length cm, .int .i64 rm, .int .i64 sp])
                    clear Gx Hx Bx HB0
                    refine named ?_
                    intro W3 hW3
                    rw [← hW3] at X0
                    have HB3 := Aside0.mk (below_step HB9.out X0.out.bel)
                    have HIN := Aside0.mk (HI.out.below HB3.out)
                    have RX := Aside0.mk (blk_below RX.out HB3.out)
                    have RN := Aside0.mk X0.out.row
                    clear X0 hW3 HB9 HB3
                    have y2 := (blk_cell RX.out 2).trans (show (#[.int .i64 x.f0, .int .u32 x.f1, .int .i64 x.f2, .int .i64 x.f3] : Array Value)[2]? = some (.int .i64 x.f2) from rfl)
                    have y3 := (blk_cell RX.out 3).trans (show (#[.int .i64 x.f0, .int .u32 x.f1, .int .i64 x.f2, .int .i64 x.f3] : Array Value)[3]? = some (.int .i64 x.f3) from rfl)
                    go_upto_region 30 with (first | (go_at_call 31; refine (HST.out _).mono ?_; rintro e_ w12 ⟨rfl, hb_⟩; have HIN := Aside0.mk (HIN.out.below hb_); have RX := Aside0.mk (blk_below RX.out hb_); have RN := Aside0.mk (blk_below RN.out hb_); clear hb_) | (go_at_call 23; refine (HNUM.out _).mono ?_; rintro e_ w13 ⟨rfl, hb_⟩; have HIN := Aside0.mk (HIN.out.below hb_); have RX := Aside0.mk (blk_below RX.out hb_); have RN := Aside0.mk (blk_below RN.out hb_); clear hb_) | fail)
                    have BX := Aside0.mk HIN.out.box
                    have r0 := (blk_cell RN.out 0).trans (show (#[.slice Am ml.length cm, .int .i64 rm, .int .i64 sp] : Array Value)[0]? = some (.slice Am ml.length cm) from rfl)
                    have r1 := (blk_cell RN.out 1).trans (show (#[.slice Am ml.length cm, .int .i64 rm, .int .i64 sp] : Array Value)[1]? = some (.int .i64 rm) from rfl)
                    have r2 := (blk_cell RN.out 2).trans (show (#[.slice Am ml.length cm, .int .i64 rm, .int .i64 sp] : Array Value)[2]? = some (.int .i64 sp) from rfl)
                    go_upto_region 31 with (first | ((with_reducible refine gate_store (t := 65) (p := 10) rfl ?_); refine wpList_store_row rfl 65 _ _ rfl gm #[.slice Am ml.length cm, .int .i64 rm, .int .i64 sp] rfl rfl 65 _ BX.out (by kernel_rfl) (by rfl) (sl_one _ _ _ _ _) ?_) | fail)
                    have RX := Aside0.mk ((setRow_ne _ _ _ #[.slice Am ml.length cm, .int .i64 rm, .int .i64 sp] HGX.out.2.2).trans RX.out)
                    have HIN := Aside0.mk (HIN.out.same HGM.out.1)
                    have HSM := Aside0.mk (lsame_c _ g b _ rm sp x.f1 _ Am cm ml HIN.out.tab HIN.out.inv HIN.out.fit.2.1 HIN.out.lst HIN.out.ref)
                    have q1 := (blk_cell RX.out 1).trans (show (#[.int .i64 x.f0, .int .u32 x.f1, .int .i64 x.f2, .int .i64 x.f3] : Array Value)[1]? = some (.int .u32 x.f1) from rfl)
                    have p0 := (blk_cell HIN.out.box 0).trans (show (#[.slice Am ml.length cm, .int .i64 rm, .int .i64 sp] : Array Value)[0]? = some (.slice Am ml.length cm) from rfl)
                    have p1 := (blk_cell HIN.out.box 1).trans (show (#[.slice Am ml.length cm, .int .i64 rm, .int .i64 sp] : Array Value)[1]? = some (.int .i64 rm) from rfl)
                    have p2 := (blk_cell HIN.out.box 2).trans (show (#[.slice Am ml.length cm, .int .i64 rm, .int .i64 sp] : Array Value)[2]? = some (.int .i64 sp) from rfl)
                    have hwi := wr_succM i l.length hlt (Nat.le_trans H80.out (by decide))
                    go_wp2_with (first | (go_at_call 33; refine HSM.out.mono ?_; rintro e_ w14 ⟨rfl, hb_⟩; have HIN := Aside0.mk (HIN.out.below hb_); clear hb_) | fail)
                    go_roundg (l.length - (i + 1))
                    case measure => exact Nat.lt_of_lt_of_le (Nat.sub_lt_sub_left hlt (Nat.lt_succ_self i)) hk
                    case rel => exact ⟨i + 1, by first | rfl | go_num, hlt, Nat.le_refl _, _, _, _, _, _, _, _, HIN⟩
                · have hd6 : decide (kd = 6) = false := decide_eq_false h6
                  have hd7 : decide (kd = 7) = false := decide_eq_false h7
                  have hb6 : (kd == 6) = false := by simpa using h6
                  have hb7 : (kd == 7) = false := by simpa using h7
                  have HASK := Aside0.mk (lask_c wc g b es rm sp x Am cm ml HI.out.tab HI.out.inv HI.out.fit.1 HI.out.fit.2.1 (fun k => k ≠ g ∧ k ≠ b ∧ k ≠ gm) (fun k hk => ⟨hk.1, hk.2.1⟩) HI.out.lst HI.out.ref)
                  have HI2 := Aside0.mk (askAu_inv es x.f1 x.f2 rm sp HI.out.inv HI.out.fit.1)
                  clear h6 h7
                  go_upto_region 31 with (first | (go_at_call 32; refine HASK.out.mono ?_; rintro e_ w9 ⟨v, l2, b2, rfl, ht_, hb_, hv_, hr_, hf_⟩; obtain ⟨A2, c2, rfl⟩ := Kd.V_slice hv_; obtain ⟨bx_, N_⟩ := Inv6.asked HI.out HGM.out.1 ht_ hb_ hv_ hr_ hf_ HI2.out; have BX := Aside0.mk bx_; have HIN := Aside0.mk N_; have RX := Aside0.mk (blk_fr hf_ RX.out HGX.out.1 HGX.out.2.1); clear ht_ hb_ hv_ hr_ hf_ bx_ N_) | ((with_reducible refine gate_store (t := 65) (p := 10) rfl ?_); refine wpList_store_row rfl 65 _ _ rfl gm #[.slice A2 l2.length c2, .int .i64 rm, .int .i64 sp] rfl rfl 65 _ BX.out (by kernel_rfl) (by rfl) (sl_one _ _ _ _ _) ?_) | fail)
                  have RX := Aside0.mk ((setRow_ne _ _ _ #[.slice A2 l2.length c2, .int .i64 rm, .int .i64 sp] HGX.out.2.2).trans RX.out)
                  have HSM := Aside0.mk (lsame_c _ g b2 _ rm sp x.f1 _ A2 c2 l2 HIN.out.tab HIN.out.inv HIN.out.fit.2.1 HIN.out.lst HIN.out.ref)
                  have q1 := (blk_cell RX.out 1).trans (show (#[.int .i64 x.f0, .int .u32 x.f1, .int .i64 x.f2, .int .i64 x.f3] : Array Value)[1]? = some (.int .u32 x.f1) from rfl)
                  have p0 := (blk_cell HIN.out.box 0).trans (show (#[.slice A2 l2.length c2, .int .i64 rm, .int .i64 sp] : Array Value)[0]? = some (.slice A2 l2.length c2) from rfl)
                  have p1 := (blk_cell HIN.out.box 1).trans (show (#[.slice A2 l2.length c2, .int .i64 rm, .int .i64 sp] : Array Value)[1]? = some (.int .i64 rm) from rfl)
                  have p2 := (blk_cell HIN.out.box 2).trans (show (#[.slice A2 l2.length c2, .int .i64 rm, .int .i64 sp] : Array Value)[2]? = some (.int .i64 sp) from rfl)
                  have hwi := wr_succM i l.length hlt (Nat.le_trans H80.out (by decide))
                  go_wp2_with (first | (go_at_call 33; refine HSM.out.mono ?_; rintro e_ w10 ⟨rfl, hb_⟩; have HIN := Aside0.mk (HIN.out.below hb_); clear hb_) | fail)
                  go_roundg (l.length - (i + 1))
                  case measure => exact Nat.lt_of_lt_of_le (Nat.sub_lt_sub_left hlt (Nat.lt_succ_self i)) hk
                  case rel => exact ⟨i + 1, by first | rfl | go_num, hlt, Nat.le_refl _, _, _, _, _, _, _, _, HIN⟩
          · have hlti : ¬ (i : Int) < (l.length : Int) := fun q => hlt (Int.ofNat_lt.1 q)
            have HB := Aside0.mk HI.out.bel
            go_wp2
            go_ret
            exact ⟨rfl, HB.out⟩
      · have HNEW := Aside0.mk (fun W => newu_bad W room span hfit)
        have HNR := Aside0.mk (fun W => newr_bad W room span hfit)
        have HNUM := Aside0.mk (fun W => num_c W (some 1))
        clear hfit HWORD
        go_upto_region 12 with (first | (go_at_call 8; refine (HNEW.out _).mono ?_; rintro e_ w4 ⟨rfl, hb_⟩; have HB := Aside0.mk (below_step HB.out hb_); clear hb_) | (go_at_call 26; refine (HNR.out _).mono ?_; rintro e_ w5 ⟨v, rfl, hv_, hb_⟩; obtain ⟨Av, cv, rfl⟩ := Kd.V_slice hv_; have HB := Aside0.mk (below_step HB.out hb_); have HB0 := Aside0.mk (Below.refl w5.heap.size w5); clear hv_ hb_) | ((with_reducible refine gate_dst (N := 10) rfl ?_); refine box_event ?hgb (N := 10) ?hdb (cs := #[.slice none 0 0, .int .i64 0, .int .i64 0]) (t := 65) ?hrb ?_; (case hdb => rfl); (case hgb => rfl); (case hrb => go_simp; try rfl); intro gm hg_ w6 hx_ hb_; have Gx := Aside0.mk hg_; have Hx := Aside0.mk hb_; have Bx := Aside0.mk hx_; clear hg_ hx_ hb_; skip) | ((with_reducible refine gate_store (t := 65) (p := 10) rfl ?_); refine wpList_store_row rfl 65 _ _ rfl gm #[.slice Av 0 cv, .int .i64 0, .int .i64 0] rfl rfl 65 _ Bx.out (by kernel_rfl) (by rfl) (sl_one _ _ _ _ _) ?_) | fail)
        have X0 := Aside0.mk ((PH.start HB0.out Hx.out Gx.out Bx.out).set #[.slice Av 0 cv, .int .i64 0, .int .i64 0])
        clear Gx Hx Bx HB0 HNEW HNR
        refine named ?_
        intro W0 hW0
        rw [← hW0] at X0
        have HB := Aside0.mk (below_step HB.out X0.out.bel)
        clear X0 hW0
        go_wp2_with (first | (go_at_call 23; refine (HNUM.out _).mono ?_; rintro e_ w7 ⟨rfl, hb_⟩; have HB := Aside0.mk (below_step HB.out hb_); clear hb_) | fail)
        go_ret
        exact ⟨rfl, HB.out⟩
theorem plays_row (room span : Int) (A : Option Addr) (n c : Nat) (l : List S32) (w : World) (e : l.length = n) (hl : Kd.C k32 w A n l) (hc : n ≤ c) (hok : ∀ y ∈ l, ok32 y) :
    Calls Try.prog 6 #[.int .i64 room, .int .i64 span, .slice A n c] w fun e w' => e = .returned (.bool true) ∧ Below w.heap.size w w' := by
  subst e
  exact plays_walk room span A c l w hl hc hok
end Go.Proofs.Ytbifanoiailjoaa.MRatePlays
