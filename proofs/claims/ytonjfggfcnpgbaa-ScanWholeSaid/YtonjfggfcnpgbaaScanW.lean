/- The law ScanWhole. -/
import Derived.Test.YtonjfggfcnpgbaaScanJoinString
import Derived.Test.YtonjfggfcnpgbaaScanCore
namespace Go.Proofs.Ytonjfggfcnpgbaa.MScanPlays
open Go.RowKit Go.Proofs.YtonjfggfcnpgbaaW.PrintWords Go.Proofs.YtonjfggfcnpgbaaW.PrintLast Go.Proofs.YtonjfggfcnpgbaaW.PrintMore Go.Proofs.Ytonjfggfcnpgbaa.Base
set_option linter.unusedVariables false
set_option linter.unusedSimpArgs false

def VW9 (g : Nat) (i : Int) (e : Option Int) (b : Bool) : Nat → Value
  | 0 => .pointer (some ⟨g, 0, none⟩)
  | 1 => .int .i64 i
  | 2 => .pointer (some ⟨g, 0, none⟩)
  | 3 => errW e
  | 4 => .bool b
  | 5 => .int .i64 i
  | _ => .bool b
theorem C_lt {w : World} {A : Option Addr} {ws : List ByteArray} (h : Kd.C Kd.string w A ws.length ws) {ad : Addr} (he : A = some ad) (hp : 0 < ws.length) : ad.block < w.heap.size := by
  obtain ⟨h1, h2, h3⟩ := h
  obtain ⟨ad', e', hcell⟩ := h3 hp
  obtain rfl := Option.some.inj (he.symm.trans e')
  obtain ⟨cc, q1, q2, q3⟩ := hcell 0 ws[0] (by simp [hp])
  have hq : cc = [.string ws[0]] := q2
  have h4 := q3 0 _ (by rw [hq]; rfl)
  have h5 := World.block_lt_of_cell? _ _ h4
  simpa [Addr.add] using h5
theorem set6w {w : World} {b : Nat} {a0 a1 a2 a3 a4 a5 u0 u1 u2 u3 u4 u5 : Value} {t : TypeId} {fr : Nat × Nat} (h : w.heap[b]? = some (.cells #[a0, a1, a2, a3, a4, a5] t fr)) :
    (((((w.setCell ⟨b, 0, none⟩ u0).setCell ⟨b, 1, none⟩ u1).setCell ⟨b, 2, none⟩ u2).setCell ⟨b, 3, none⟩ u3).setCell ⟨b, 4, none⟩ u4).setCell ⟨b, 5, none⟩ u5 = w.setRow b #[u0, u1, u2, u3, u4, u5] := by
  have st : ∀ (cs : Array Value) (i : Nat) (u : Value), (w.setRow b cs).setCell ⟨b, i, none⟩ u = w.setRow b (cs.setIfInBounds i u) := fun cs i u => by
    rw [setCell_eq_setRow _ b i _ _ _ _ (setRow_heap w b _ cs _ _ h), setRow_row]
  rw [setCell_eq_setRow w b 0 _ _ _ _ h, st, st, st, st, st]
  rfl
theorem box_set {w0 W W1 : World} {g : Nat} {l : List Int} {i : Int} {e : Option Int} (h : BoxS 60 w0 W g l i e) (hB : Below w0.heap.size w0 W) (hb1 : Below W.heap.size W W1) (b : Nat) (hb : b = W.heap.size) (cs : Array Value) : BoxS 60 w0 (W1.setRow b cs) g l i e ∧ Below w0.heap.size w0 (W1.setRow b cs) := by
  have h1 := blk_lt h.1
  have h2 := h.2
  have F := below_step hB hb1
  exact ⟨⟨(setRow_ne _ _ _ _ (by omega)).trans (blk_below h.1 hb1), h.2⟩, ⟨F.os, F.tape, F.output, by simpa using F.size, fun k hk => (setRow_ne _ _ _ _ (by omega)).trans (F.block k hk)⟩⟩
theorem took (l : List Int) (i : Nat) (e : Option Int) (p : Int → Bool) : strOfNums ((leftV l i e).takeWhile p) = (strOfNums l).extract i (i + ((leftV l i e).takeWhile p).length) := by
  rw [son_extract]
  congr 1
  rw [show i + ((leftV l i e).takeWhile p).length - i = ((leftV l i e).takeWhile p).length by omega]
  cases e with
  | none => exact (tw_take _).symm
  | some c => rfl
theorem u8_of {x : Int} (h : (Lit.int .u8 x).wf = true) : 0 ≤ x ∧ x ≤ 255 := by
  have q := bounds_u8 h
  omega
set_option maxHeartbeats 16000000 in
set_option maxRecDepth 100000 in
theorem scanWhole_walk (a0 : ByteArray) (A1 : Option Addr) (c1 : Nat) (l1 : List S35) (w : World) (w0 : a0.size ≤ 140737488351232) (hr1 : Kd.C k35 w A1 l1.length l1) (hc1 : l1.length ≤ c1) (w1 : (l1.length ≤ 9223372036854775807 ∧ ∀ y_ ∈ l1, ok35 y_)) :
    Calls Try.prog 4 #[.string a0, .slice A1 l1.length c1] w fun e w' => e = .returned (.bool true) ∧ Below w.heap.size w w' := by
  obtain ⟨ka, hal⟩ := alive_is
  obtain ⟨kl, hlg⟩ := Ev.ok (long_is a0 l1 w1.1 w1.2)
  have HAL := Aside0.mk hal
  have HLG := Aside0.mk hlg
  have HR := Aside0.mk hr1
  have HC := Aside0.mk hc1
  have hbl : Byt (bytesOf a0) := byt_of a0
  have ha0 : strOfNums (bytesOf a0) = a0 := son_of a0
  have HW1 := Aside0.mk w1
  cases hlong : longV a0 l1 with
  | true =>
    rw [hlong] at HLG
    clear hal hlg hr1 hc1 w1 hlong ha0 hbl
    go_enter Try.func4, Try.ntmps4
    go_wp2_with (first | (go_at_call 6; refine (horologelaw04_alive.calls ka true _ HAL.out).mono ?_; rintro e_ w2 ⟨rfl, hb2⟩; have B2 := Aside0.mk hb2; clear hb2) | (go_at_call 7; refine (horologelaw04_long.calls kl a0 _ _ l1 true _ (Kd.C_below HR.out B2.out) HC.out HLG.out).mono ?_; rintro e_ w3 ⟨rfl, hb3⟩; have B3 := Aside0.mk (below_step B2.out hb3); clear hb3) | fail)
    go_ret
    exact ⟨rfl, B3.out⟩
  | false =>
    rw [hlong] at HLG
    have HN := Aside0.mk (long_no hlong)
    generalize bytesOf a0 = l at hbl ha0
    subst ha0
    have hll : l.length ≤ 300 := by have := HN.out.1; rw [son_size] at this; exact this
    have hnl : l1.length ≤ 60 := HN.out.2.1
    have hsz : (strOfNums l).size = l.length := son_size l
    have HY := Aside0.mk hbl
    clear hal hlg hr1 hc1 w1 hlong hbl w0
    go_enter Try.func4, Try.ntmps4
    go_wp2_with (first | (go_at_call 6; refine (horologelaw04_alive.calls ka true _ HAL.out).mono ?_; rintro e_ w2 ⟨rfl, hb2⟩; have B2 := Aside0.mk hb2; clear hb2) | (go_at_call 7; refine (horologelaw04_long.calls kl _ _ _ l1 false _ (Kd.C_below HR.out B2.out) HC.out HLG.out).mono ?_; rintro e_ w3 ⟨rfl, hb3⟩; have B3 := Aside0.mk (below_step B2.out hb3); clear hb3) | (go_at_call 8; refine (scan_New_string.calls _ (strOfNums l) ((0 : Nat) : Int) none w3 w3 (Below.refl _ _) rfl).mono ?_; rintro e_ w4 ⟨g, rfl, hi, hB4, _⟩; have HI := Aside0.mk (show BoxS 60 w3 w4 g l ((0 : Nat) : Int) none from hi); have HB4 := Aside0.mk hB4; clear hi hB4) | fail)
    go_loopw [20] (fun v20 wr => ∃ (k i : Nat) (e : Option Int), v20 = .int .i64 k ∧ k ≤ l1.length ∧ Aside0 (BoxS 60 w3 wr g l i e) ∧ Aside0 (Below w3.heap.size w3 wr) ∧ Aside0 (i ≤ l.length ∧ EOK e)) (fun v20 _ => l1.length - (intOf v20).toNat)
    case atStart => exact ⟨0, 0, none, rfl, Nat.zero_le _, HI, HB4, ⟨Nat.zero_le _, by simp [EOK]⟩⟩
    case round =>
      clear HI HB4
      obtain ⟨k, i, e, rfl, hk, HI, HB4, HIE⟩ := hrel
      by_cases hlt : k < l1.length
      · have hBw := below_step B3.out HB4.out
        obtain ⟨ad, A3, c3, e185, hx0, hx1, hx2, hx3, hx4, hx5, hl3, hi3⟩ := at_T35 HR.out (k : Int) (by omega) (by omega)
        cases e185
        have hmem : rd_T35 l1 (k : Int) ∈ l1 := by unfold rd_T35; simp [List.getD, hlt]
        have HNa := Aside0.mk (HN.out.2.2 _ hmem)
        have HOK := Aside0.mk (HW1.out.2 _ hmem)
        generalize rd_T35 l1 (k : Int) = a at hx0 hx1 hx2 hx3 hx4 hx5 hl3 hi3 HNa HOK
        obtain ⟨kind, B, wd, ws, least, most⟩ := a
        dsimp only at hx0 hx1 hx2 hx3 hx4 hx5 hl3 hi3 HNa HOK
        simp only [Int.toNat_natCast] at hx0 hx1 hx2 hx3 hx4 hx5
        replace hx0 := (hBw.cell (World.block_lt_of_cell? w _ hx0)).trans hx0
        replace hx1 := (hBw.cell (World.block_lt_of_cell? w _ hx1)).trans hx1
        replace hx2 := (hBw.cell (World.block_lt_of_cell? w _ hx2)).trans hx2
        replace hx3 := (hBw.cell (World.block_lt_of_cell? w _ hx3)).trans hx3
        replace hx4 := (hBw.cell (World.block_lt_of_cell? w _ hx4)).trans hx4
        replace hx5 := (hBw.cell (World.block_lt_of_cell? w _ hx5)).trans hx5
        have HWS := Aside0.mk hi3
        have HWC := Aside0.mk hl3
        have HOFF : Aside0 (∀ ad, A3 = some ad → 0 < ws.length → ad.block ≠ g) := ⟨fun ad he hp => by have h1 := C_lt HWS.out he hp; have h2 := B3.out.size; have h3 := HI.out.2; omega⟩
        clear hi3 hl3 hmem
        have p185 : (0 ≤ (k : Int)) = True := eq_true (by omega)
        have q185 : ((k : Int) < (l1.length : Int)) = True := eq_true (by omega)
        clear hBw
        go_wp2_with (first | ((with_reducible refine gate_dst (N := 7) rfl ?_); refine box_event ?hg (N := 7) ?hd (cs := #[.int .i64 0, .int .u8 0, .string (⟨#[]⟩ : ByteArray), .slice none 0 0, .int .i64 0, .int .i64 0]) (t := 35) ?hr ?_; (case hd => rfl); (case hg => rfl); (case hr => go_simp; try rfl); intro gx hgx_ wx hx_ hb_; have GX := Aside0.mk hgx_; have HX := Aside0.mk hb_; have BX := Aside0.mk hx_; have y0_ := (blk_cell hx_ 0).trans rfl; have y1_ := (blk_cell hx_ 1).trans rfl; have y2_ := (blk_cell hx_ 2).trans rfl; have y3_ := (blk_cell hx_ 3).trans rfl; have y4_ := (blk_cell hx_ 4).trans rfl; have y5_ := (blk_cell hx_ 5).trans rfl; have f0_ := blk_frozen hx_ 0; have f1_ := blk_frozen hx_ 1; have f2_ := blk_frozen hx_ 2; have f3_ := blk_frozen hx_ 3; have f4_ := blk_frozen hx_ 4; have f5_ := blk_frozen hx_ 5; clear hgx_ hb_ hx_) | fail)
        rw [set6w BX.out]
        obtain ⟨hI_, hB_⟩ := box_set HI.out HB4.out HX.out gx GX.out #[.int .i64 kind, .int .u8 B, .string wd, .slice A3 ws.length c3, .int .i64 least, .int .i64 most]
        have HI := Aside0.mk hI_
        have HB4 := Aside0.mk hB_
        have BX := Aside0.mk (setRow_heap _ _ _ #[.int .i64 kind, .int .u8 B, .string wd, .slice A3 ws.length c3, .int .i64 least, .int .i64 most] _ _ BX.out)
        have hoffx := HOFF.out
        clear hI_ hB_ HX GX y0_ y1_ y2_ y3_ y4_ y5_ f0_ f1_ f2_ f3_ f4_ f5_ hx0 hx1 hx2 hx3 hx4 hx5 HOFF
        have HOFF := Aside0.mk hoffx
        clear hoffx
        generalize wx.setRow gx #[.int .i64 kind, .int .u8 B, .string wd, .slice A3 ws.length c3, .int .i64 least, .int .i64 most] = wy at HI HB4 BX ⊢
        obtain ⟨b, hb⟩ : ∃ b : Bool, (e = none ∧ b = false) ∨ (∃ c, e = some c ∧ b = true) := by
          cases e with
          | none => exact ⟨false, .inl ⟨rfl, rfl⟩⟩
          | some c => exact ⟨true, .inr ⟨c, rfl, rfl⟩⟩
        have HEB := Aside0.mk hb
        clear hb
        have HS := Aside0.mk (fun (wx : World) (h_ : Below wy.drew.heap.size wy.drew wx) => (⟨⟨blk_below HI.out.1 ((Below.refl wy.heap.size wy).drew.trans h_), HI.out.2⟩, below_step HB4.out ((Below.refl wy.heap.size wy).drew.trans h_)⟩ : BoxS 60 w3 wx g l i e ∧ Below w3.heap.size w3 wx))
        refine region_below (T := ?T9) (n := 0) [some 24, some 25, some 26, some 27, some 28, some 8, some 9] ?hT9 (fun i_ v_ _ => v_ = VW9 g i e b i_) (by kernel_rfl) (by kernel_rfl) (fun i_ v_ w_ w1_ _ h_ _ => h_) [0, 1, 2, 3, 4, 5, 6] rfl (.cons (some 24) rfl rfl (fun X wx hG hX K hK => ?_) (.cons (some 25) rfl rfl (fun X wx hG hX K hK => ?_) (.cons (some 26) rfl rfl (fun X wx hG hX K hK => ?_) (.cons (some 27) rfl rfl (fun X wx hG hX K hK => ?_) (.cons (some 28) rfl rfl (fun X wx hG hX K hK => ?_) (.cons (some 8) rfl rfl (fun X wx hG hX K hK => ?_) (.cons (some 9) rfl rfl (fun X wx hG hX K hK => ?_) .nil))))))) (by kernel_rfl) #[true, true, true, true, true, true, true] (by kernel_rfl) ?_
        case hT9 =>
          intro X
          simp only [fill, Act.put, List.setIfInBounds_toArray, List.set_cons_zero, List.set_cons_succ, Nat.zero_add, Nat.reduceAdd]
          rfl
        · refine val_ (w1 := wx) (v := .pointer (some ⟨g, 0, none⟩)) (by rfl) rfl ?_ (hK.out _ _ _ rfl (Below.refl _ _) rfl)
          go_simp
        · have e0 : X 0 = .pointer (some ⟨g, 0, none⟩) := hX 3 0 (by kernel_rfl)
          refine goes_ Try.func14 (by kernel_rfl) rfl #[X 0] (by rfl) rfl rfl (by simp only [List.map_toArray, List.map_cons, List.map_nil]; rfl) ?_
          refine calls_args (as' := #[.pointer (some ⟨g, 0, none⟩)]) (by rw [e0]) ?_
          refine (string_At_c (HS.out wx hG).1 (HS.out wx hG).2).mono ?_
          rintro e_ w' ⟨he_, hb_⟩
          obtain rfl := he_
          exact ⟨_, rfl, hK.out _ _ _ rfl hb_ rfl⟩
        · refine val_ (w1 := wx) (v := .pointer (some ⟨g, 0, none⟩)) (by rfl) rfl ?_ (hK.out _ _ _ rfl (Below.refl _ _) rfl)
          go_simp
        · have e2 : X 2 = .pointer (some ⟨g, 0, none⟩) := hX 3 2 (by kernel_rfl)
          refine goes_ Try.func15 (by kernel_rfl) rfl #[X 2] (by rfl) rfl rfl (by simp only [List.map_toArray, List.map_cons, List.map_nil]; rfl) ?_
          refine calls_args (as' := #[.pointer (some ⟨g, 0, none⟩)]) (by rw [e2]) ?_
          refine (string_Err_c (HS.out wx hG).1 (HS.out wx hG).2).mono ?_
          rintro e_ w' ⟨he_, hb_⟩
          obtain rfl := he_
          exact ⟨_, rfl, hK.out _ _ _ rfl hb_ rfl⟩
        · have e3 : X 3 = errW e := hX 3 3 (by kernel_rfl)
          refine val_ (w1 := wx) (v := .bool b) (by rfl) rfl ?_ (hK.out _ _ _ rfl (Below.refl _ _) rfl)
          rcases HEB.out with ⟨h1_, h2_⟩ | ⟨c_, h1_, h2_⟩
          · have e3' : X 3 = .nilIface := by rw [e3, h1_]; rfl
            clear e3; rw [h2_]; go_simp
          · have e3' : X 3 = .iface 50 (.int .i64 c_) := by rw [e3, h1_]; rfl
            clear e3; rw [h2_]; go_simp
        · have e1 : X 1 = .int .i64 i := hX 3 1 (by kernel_rfl)
          refine val_ (w1 := wx) (v := .int .i64 i) (by rfl) rfl ?_ (hK.out _ _ _ rfl (Below.refl _ _) rfl)
          go_simp
        · have e4 : X 4 = .bool b := hX 3 4 (by kernel_rfl)
          refine val_ (w1 := wx) (v := .bool b) (by rfl) rfl ?_ (hK.out _ _ _ rfl (Below.refl _ _) rfl)
          go_simp
        intro X wx hG hX
        refine tail_done (by kernel_rfl) ?_
        have r5 : X 5 = .int .i64 i := hX 5 (by decide)
        have r6 : X 6 = .bool b := hX 6 (by decide)
        rw [r5, r6]
        have BX := Aside0.mk (blk_below BX.out hG)
        have HB4 := Aside0.mk (below_step HB4.out hG)
        have HI := Aside0.mk (show BoxS 60 w3 wx g l i e from ⟨blk_below HI.out.1 hG, HI.out.2⟩)
        clear hG hX r5 r6 HS
        have z70 := (blk_cell BX.out 0).trans rfl
        have z71 := (blk_cell BX.out 1).trans rfl
        have z72 := (blk_cell BX.out 2).trans rfl
        have z73 := (blk_cell BX.out 3).trans rfl
        have z74 := (blk_cell BX.out 4).trans rfl
        have z75 := (blk_cell BX.out 5).trans rfl
        go_upto_block 2 with (fail)
        have hst := step_bd (B := B) (wd := bytesOf wd) (ws := ws) (least := least) (most := most) (e := e) ((IntKind.u64.wrap kind).tmod 9) HIE.out.1
        have hso := step_ok (B := B) (wd := bytesOf wd) (ws := ws) (least := least) (most := most) (l := l) (i := i) ((IntKind.u64.wrap kind).tmod 9) HIE.out.2
        obtain ⟨kk, hkk⟩ : ∃ kk, (IntKind.u64.wrap kind).tmod 9 = kk := ⟨_, rfl⟩
        obtain ⟨⟨i', e'⟩, hs⟩ : ∃ x, stepV ((IntKind.u64.wrap kind).tmod 9) B (bytesOf wd) ws least most l i e = x := ⟨_, rfl⟩
        rw [hs] at hst hso
        dsimp only at hst hso
        have HKK := Aside0.mk hkk
        rw [hkk] at hs ⊢
        clear hkk
        go_cut [10] (fun v10 wc => ∃ (i' : Nat) (e' : Option Int), v10 = .string ((strOfNums l).extract i i') ∧ Aside0 (BoxS 60 w3 wc g l i' e') ∧ Aside0 (Below w3.heap.size w3 wc) ∧ Aside0 (i ≤ i' ∧ i' ≤ l.length ∧ (e ≠ none → i' = i) ∧ EOK e'))
        case first =>
          by_cases k2 : kk = 2
          · subst k2
            rw [step_2] at hs
            obtain ⟨rfl, rfl⟩ := Prod.mk.inj hs
            have HST := Aside0.mk hst
            have HSO := Aside0.mk hso
            clear hst hso hs
            go_wp2_with (first | (go_at_call 16; refine (string_Run_c HI.out HB4.out HY.out HIE.out.1 (by omega) wd).mono ?_; rintro e_ w5 ⟨rfl, hi_, hB_, _⟩; have HI := Aside0.mk hi_; have HB4 := Aside0.mk hB_; clear hi_ hB_) | fail)
            go_meet
            case rel => exact ⟨_, e, congrArg Value.string (took _ _ _ _), HI, HB4, ⟨⟨HST.out.1, HST.out.2.1, HST.out.2.2, HSO.out⟩⟩⟩
          have k2b : (kk == 2) = false := beq_eq_false_iff_ne.2 k2
          have k2d : decide (kk = 2) = false := decide_eq_false k2
          by_cases k3 : kk = 3
          · subst k3
            rw [step_3] at hs
            obtain ⟨rfl, rfl⟩ := Prod.mk.inj hs
            have HST := Aside0.mk hst
            have HSO := Aside0.mk hso
            clear hst hso hs
            go_wp2_with (first | (go_at_call 17; refine (string_Until_c HI.out HB4.out HY.out HIE.out.1 (by omega) B (u8_of HOK.out.2.1)).mono ?_; rintro e_ w5 ⟨rfl, hi_, hB_, _⟩; have HI := Aside0.mk hi_; have HB4 := Aside0.mk hB_; clear hi_ hB_) | fail)
            go_meet
            case rel => exact ⟨_, e, congrArg Value.string (took _ _ _ _), HI, HB4, ⟨⟨HST.out.1, HST.out.2.1, HST.out.2.2, HSO.out⟩⟩⟩
          have k3b : (kk == 3) = false := beq_eq_false_iff_ne.2 k3
          have k3d : decide (kk = 3) = false := decide_eq_false k3
          have q1 : decide ((i' : Int) < (i : Int)) = false := decide_eq_false (by omega)
          have q2 : decide (i' < i) = false := decide_eq_false (by omega)
          have q3 : decide ((l.length : Int) < (i' : Int)) = false := decide_eq_false (by omega)
          have q4 : decide (l.length < i') = false := decide_eq_false (by omega)
          have q5 : decide ((i : Int) ≤ (i' : Int)) = true := decide_eq_true (by omega)
          have q6 : decide (i ≤ i') = true := decide_eq_true (by omega)
          have q7 : decide ((i' : Int) ≤ (l.length : Int)) = true := decide_eq_true (by omega)
          have q8 : decide (i' ≤ l.length) = true := decide_eq_true (by omega)
          have q9 : (i ≤ i') = True := eq_true (by omega)
          have qa : (i' ≤ l.length) = True := eq_true (by omega)
          have qb : ((i : Int) ≤ (i' : Int)) = True := eq_true (by omega)
          have qc : ((i' : Int) ≤ (l.length : Int)) = True := eq_true (by omega)
          have HST := Aside0.mk hst
          have HSO := Aside0.mk hso
          have HSS := Aside0.mk hs
          have HK23 : Aside0 ((IntKind.u64.wrap kind).tmod 9 ≠ 2 ∧ (IntKind.u64.wrap kind).tmod 9 ≠ 3) := ⟨by rw [HKK.out]; exact ⟨k2, k3⟩⟩
          clear hst hso hs k2 k3
          go_wp2_with (first | ((with_reducible refine gate_dst (N := 37) rfl ?_); refine wpList_load_row rfl 35 _ rfl gx rfl 35 _ (0, 0) _ BX.out Try.underlying35 rfl (by kernel_rfl) ?_) | (go_at_call 11; refine (string_act_c w3 _ g l i e l 0 none kind B wd A3 c3 ws least most HI.out HB4.out HY.out HY.out HIE.out.1 (Nat.zero_le _) (by omega) (by omega) HIE.out.2 (by simp [EOK]) (Kd.C_below HWS.out (below_step B3.out HB4.out)) HWC.out HOFF.out (by have q_ := HNa.out.2.1; omega) (fun x_ h_ => by have q_ := HNa.out.2.2 x_ h_; omega) (by have q_ := HNa.out.1; omega) HK23.out).mono ?_; rintro e_ w5 ⟨b_, rfl, _, hi_, hB_, _⟩; rw [HKK.out, HSS.out] at hi_; have HI := Aside0.mk (show BoxS 60 w3 w5 g l i' e' from hi_); have HB4 := Aside0.mk hB_; clear hi_ hB_) | (go_at_call 14; refine (string_At_c HI.out HB4.out).mono ?_; rintro e_ w5 ⟨rfl, hb_⟩; have HB4 := Aside0.mk (below_step HB4.out hb_); have HI := Aside0.mk (show BoxS 60 w3 w5 g l i' e' from ⟨blk_below HI.out.1 hb_, HI.out.2⟩); clear hb_) | fail)
          go_meet
          case rel => exact ⟨i', e', rfl, HI, HB4, ⟨⟨HST.out.1, HST.out.2.1, HST.out.2.2, HSO.out⟩⟩⟩
        case rest =>
          clear hst hso hs HKK HI HB4 BX z70 z71 z72 z73 z74 z75
          obtain ⟨i', e', rfl, HI, HB4, HST⟩ := hcut
          have hst := HST.out
          have q1 : decide ((i' : Int) < (i : Int)) = false := decide_eq_false (by omega)
          have q2 : decide (i' < i) = false := decide_eq_false (by omega)
          have q3 : decide ((l.length : Int) < (i' : Int)) = false := decide_eq_false (by omega)
          have q4 : decide (l.length < i') = false := decide_eq_false (by omega)
          have q5 : decide ((i : Int) ≤ (i' : Int)) = true := decide_eq_true (by omega)
          have q6 : decide (i ≤ i') = true := decide_eq_true (by omega)
          have q7 : decide ((i' : Int) ≤ (l.length : Int)) = true := decide_eq_true (by omega)
          have q8 : decide (i' ≤ l.length) = true := decide_eq_true (by omega)
          have q9 : (i ≤ i') = True := eq_true (by omega)
          have qa : (i' ≤ l.length) = True := eq_true (by omega)
          have qb : ((i : Int) ≤ (i' : Int)) = True := eq_true (by omega)
          have qc : ((i' : Int) ≤ (l.length : Int)) = True := eq_true (by omega)
          clear hst
          have hbb : b = true → i' = i := fun h => HST.out.2.2.1 (fun q => by
            rcases HEB.out with ⟨h1, h2⟩ | ⟨c, h1, h2⟩
            · rw [h] at h2; cases h2
            · rw [q] at h1; cases h1)
          cases b with
          | true =>
            have hii : (i' : Int) = (i : Int) := by have q_ := hbb rfl; omega
            have qd : ((i' : Int) != (i : Int)) = false := by simp [hii]
            have qe : ((i' : Int) == (i : Int)) = true := by simp [hii]
            have qf : ((i' : Int) = (i : Int)) = True := eq_true hii
            clear hbb hii
            go_wp2_with (first | (go_at_call 14; refine (string_At_c HI.out HB4.out).mono ?_; rintro e_ w5 ⟨rfl, hb_⟩; have HB4 := Aside0.mk (below_step HB4.out hb_); have HI := Aside0.mk (show BoxS 60 w3 w5 g l i' e' from ⟨blk_below HI.out.1 hb_, HI.out.2⟩); clear hb_) | fail)
            go_roundw
            case rel => exact ⟨k + 1, i', e', by go_num, hlt, HI, HB4, ⟨⟨HST.out.2.1, HST.out.2.2.2⟩⟩⟩
            case measure => simp [intOf]; omega
          | false =>
            clear hbb
            go_wp2_with (first | (go_at_call 14; refine (string_At_c HI.out HB4.out).mono ?_; rintro e_ w5 ⟨rfl, hb_⟩; have HB4 := Aside0.mk (below_step HB4.out hb_); have HI := Aside0.mk (show BoxS 60 w3 w5 g l i' e' from ⟨blk_below HI.out.1 hb_, HI.out.2⟩); clear hb_) | fail)
            go_roundw
            case rel => exact ⟨k + 1, i', e', by go_num, hlt, HI, HB4, ⟨⟨HST.out.2.1, HST.out.2.2.2⟩⟩⟩
            case measure => simp [intOf]; omega
      · obtain rfl : k = l1.length := by omega
        cases e with
        | none =>
          have hsum : (i : Int) + ((leftV l i none).length : Int) = (l.length : Int) := by rw [leftV_none, List.length_drop]; have := HIE.out.1; omega
          go_wp2_with (first | (go_at_call 15; refine (string_Err_c HI.out HB4.out).mono ?_; rintro e_ w5 ⟨he_, hb_⟩; have he2_ : e_ = .returned (.nilIface) := he_; subst he2_; have HB4 := Aside0.mk (below_step HB4.out hb_); have HI := Aside0.mk (show BoxS 60 w3 w5 g l i none from ⟨blk_below HI.out.1 hb_, HI.out.2⟩); clear hb_ he_) | (go_at_call 14; refine (string_At_c HI.out HB4.out).mono ?_; rintro e_ w5 ⟨rfl, hb_⟩; have HB4 := Aside0.mk (below_step HB4.out hb_); have HI := Aside0.mk (show BoxS 60 w3 w5 g l i none from ⟨blk_below HI.out.1 hb_, HI.out.2⟩); clear hb_) | (go_at_call 18; refine (string_Left_c HI.out HB4.out HIE.out.1).mono ?_; rintro e_ w5 ⟨rfl, hb_⟩; have HB4 := Aside0.mk (below_step HB4.out hb_); have HI := Aside0.mk (show BoxS 60 w3 w5 g l i none from ⟨blk_below HI.out.1 hb_, HI.out.2⟩); clear hb_) | fail)
          go_ret
          exact ⟨rfl, below_step B3.out HB4.out⟩
        | some c =>
          go_wp2_with (first | (go_at_call 15; refine (string_Err_c HI.out HB4.out).mono ?_; rintro e_ w5 ⟨he_, hb_⟩; have he2_ : e_ = .returned (.iface 50 (.int .i64 c)) := he_; subst he2_; have HB4 := Aside0.mk (below_step HB4.out hb_); have HI := Aside0.mk (show BoxS 60 w3 w5 g l i (some c) from ⟨blk_below HI.out.1 hb_, HI.out.2⟩); clear hb_ he_) | fail)
          go_ret
          exact ⟨rfl, below_step B3.out HB4.out⟩
end Go.Proofs.Ytonjfggfcnpgbaa.MScanPlays
