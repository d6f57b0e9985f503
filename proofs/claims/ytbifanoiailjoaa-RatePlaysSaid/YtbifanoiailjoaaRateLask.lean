/- A key asks both. -/
import Derived.Test.YtbifanoiailjoaaRateRefSet
import Derived.Test.YtbifanoiailjoaaRateActBox
namespace Go.Proofs.Ytbifanoiailjoaa.MRatePlays
open Go.RowKit Go.Proofs.YtbifanoiailjoaaW.PrintWords Go.Proofs.YtbifanoiailjoaaW.PrintLast Go.Proofs.YtbifanoiailjoaaW.PrintMore Go.Proofs.Ytbifanoiailjoaa.Base
set_option linter.unusedVariables false
set_option linter.unusedSimpArgs false

def numE (er : Option Int) : Int := if er.isNone = true then 0 else if er.getD 0 = 0 then -1 else er.getD 0
theorem num_c (w : World) (er : Option Int) : Calls Try.prog 23 #[errW er] w fun e w' => e = .returned (.int .i64 (numE er)) ∧ Below w.heap.size w w' := by
  refine (horologenum_Num.calls er (numE er) w ?_).mono ?_
  · unfold horologenum_Num.f numE
    split
    · rfl
    · split <;> rfl
  · rintro e w' ⟨rfl, n, rfl⟩
    exact ⟨rfl, pw_below_drewN (Below.refl _ _) n⟩
theorem refask_c (w : World) (P : Nat → Prop) (A : Option Addr) (c : Nat) (l : List S94) (es : List S37) (room span key m : Int) (hV : Kd.V k94 94 w 0 P (.slice A l.length c) l) (hRef : Ref es l) (hI : Invu es room) (h1 : 1 ≤ room) (h2 : room ≤ 1024) :
    Calls Try.prog 51 #[.agg #[.slice A l.length c, .int .i64 room, .int .i64 span], .int .u32 key, .int .i64 m] w fun e w' => ∃ v l2, e = .returned (.tuple #[.int .i64 (ansAu es key m span), .agg #[v, .int .i64 room, .int .i64 span], .int .i64 (numE (errAu m))]) ∧ Kd.V k94 94 w' 0 (fun k => P k ∨ w.heap.size ≤ k) v l2 ∧ Ref (askAu es key m room span) l2 ∧ Below w.heap.size w w' := by
  unfold ansAu errAu askAu
  by_cases h : 0 ≤ m ∧ m ≤ 4611686018427387904
  · rw [if_pos h, if_pos h, if_pos h]
    obtain ⟨l2, hev, hr⟩ := ask_rel es l room span key m hRef hI h1 h2 h.1 h.2
    obtain ⟨k, hk⟩ := Ev.ok hev
    refine (horologeref31_Ask.calls k P A c l room span key m _ l2 room span 0 w (show Kd.V k94 94 w w.heap.size P _ _ from hV) hk).mono ?_
    rintro e w' ⟨v, rfl, hv, hb⟩
    exact ⟨v, l2, rfl, Kd.V_lower hv (Nat.zero_le _), hr, hb⟩
  · rw [if_neg h, if_neg h, if_neg h]
    obtain ⟨k, hk⟩ := Ev.ok (ask_bad_is l room span key m h)
    refine (horologeref31_Ask.calls k P A c l room span key m 0 l room span 1 w (show Kd.V k94 94 w w.heap.size P _ _ from hV) hk).mono ?_
    rintro e w' ⟨v, rfl, hv, hb⟩
    exact ⟨v, l, rfl, Kd.V_lower hv (Nat.zero_le _), hRef, hb⟩
theorem ne_types {W : World} {a b t t' : Nat} {cs cs' : Array Value} {fr fr' : Nat × Nat} (ha : W.heap[a]? = some (.cells cs t fr)) (hb : W.heap[b]? = some (.cells cs' t' fr')) (ht : t ≠ t') : a ≠ b := by
  rintro rfl
  rw [ha] at hb
  injection hb with hb
  injection hb with _ h2 _
  exact ht h2
theorem tab_set65 {W : World} {g b k : Nat} {es : List S37} {room span : Int} {cs : Array Value} (T : Tabu W g b es room span) (hk : W.heap[k]? = some (.cells cs 65 (0, 0))) (cs' : Array Value) : Tabu (W.setRow k cs') g b es room span := by
  obtain ⟨sl, hg, hs⟩ := T
  refine ⟨sl, (setRow_ne _ _ _ _ (ne_types hg hk (by decide))).trans hg, ?_⟩
  rcases hs with h | ⟨hn, c, rest, e, hr, hl, hc⟩
  · exact .inl h
  · exact .inr ⟨hn, c, rest, e, (setRow_ne _ _ _ _ (ne_types hr hk (by decide))).trans hr, hl, hc⟩
theorem blk_fr {W W' : World} {g b k : Nat} {o : Obj} (F : Fr (fun k => k = g ∨ k = b) W W') (h : W.heap[k]? = some o) (h1 : k ≠ g) (h2 : k ≠ b) : W'.heap[k]? = some o := (F.block k (blk_lt h) (fun q => q.elim h1 h2)).trans h
set_option maxHeartbeats 8000000 in
set_option maxRecDepth 100000 in
theorem lask_c (w : World) (g b : Nat) (es : List S37) (room span : Int) (x : S32) (A : Option Addr) (c : Nat) (l : List S94) (H : Tabu w g b es room span) (hI : Invu es room) (hr1 : 1 ≤ room) (hr2 : room ≤ 1024) (P : Nat → Prop) (hP : ∀ k, P k → k ≠ g ∧ k ≠ b) (hV : Kd.V k94 94 w 0 P (.slice A l.length c) l) (hRef : Ref es l) :
    Calls Try.prog 32 #[.pointer (some ⟨g, 0, none⟩), .agg #[.slice A l.length c, .int .i64 room, .int .i64 span], .agg #[.int .i64 x.f0, .int .u32 x.f1, .int .i64 x.f2, .int .i64 x.f3]] w fun e w' =>
      ∃ v l2 b2, e = .returned (.tuple #[.agg #[v, .int .i64 room, .int .i64 span], .bool true]) ∧ Tabu w' g b2 (askAu es x.f1 x.f2 room span) room span ∧ (b2 = b ∨ w.heap.size ≤ b2) ∧ Kd.V k94 94 w' 0 (fun k => (P k ∧ k < w.heap.size) ∨ (w.heap.size ≤ k ∧ k ≠ b2)) v l2 ∧ Ref (askAu es x.f1 x.f2 room span) l2 ∧ Fr (fun k => k = g ∨ k = b) w w' := by
  have HWO := Aside0.mk (fun W (hW : Tabu W g b es room span) => wouldu_c W g b es room span x.f1 x.f2 hW hI hr2)
  have HAS := Aside0.mk (fun W (hW : Tabu W g b es room span) => askallu_c W g b es room span x.f1 x.f2 hW hI hr1 hr2)
  have HRA := Aside0.mk (fun W P (h : Kd.V k94 94 W 0 P (.slice A l.length c) l) => refask_c W P A c l es room span x.f1 x.f2 h hRef hI hr1 hr2)
  obtain ⟨es2, hes2⟩ : ∃ es2, askAu es x.f1 x.f2 room span = es2 := ⟨_, rfl⟩
  obtain ⟨an, han⟩ : ∃ an, ansAu es x.f1 x.f2 span = an := ⟨_, rfl⟩
  obtain ⟨er, her⟩ : ∃ er, errAu x.f2 = er := ⟨_, rfl⟩
  obtain ⟨rn, hrn⟩ : ∃ rn, numE er = rn := ⟨_, rfl⟩
  have HNUM := Aside0.mk (fun W => num_c W er)
  rw [hes2, han, her] at HAS HRA
  rw [han, her] at HWO
  rw [hrn] at HRA HNUM
  rw [hes2]
  have HT := Aside0.mk H
  have HV := Aside0.mk (Kd.V_bound hV)
  have HP := Aside0.mk hP
  have HGB := Aside0.mk H.lt
  have HB := Aside0.mk (Below.refl w.heap.size w)
  clear H hI hr1 hr2 hV hRef hP hes2 han her hrn
  go_enter Try.func32, Try.ntmps32
  go_upto_region 1 with (first | ((with_reducible refine gate_dst (N := 4) rfl ?_); refine box_event ?hg (N := 4) ?hd (cs := #[.slice A l.length c, .int .i64 room, .int .i64 span]) (t := 65) ?hr ?_; (case hd => rfl); (case hg => rfl); (case hr => go_simp; try rfl); intro g4 hg_ w1 hx_ hb_; have G4 := Aside0.mk hg_; have H4 := Aside0.mk hb_; have B4 := Aside0.mk hx_; clear hg_ hx_ hb_; skip) | ((with_reducible refine gate_dst (N := 5) rfl ?_); refine box_event ?hg5 (N := 5) ?hd5 (cs := #[.int .i64 x.f0, .int .u32 x.f1, .int .i64 x.f2, .int .i64 x.f3]) (t := 32) ?hr5 ?_; (case hd5 => rfl); (case hg5 => rfl); (case hr5 => go_simp; try rfl); intro g5 hg_ w2 hx_ hb_; have G5 := Aside0.mk hg_; have H5 := Aside0.mk hb_; have B5 := Aside0.mk hx_; clear hg_ hx_ hb_; skip) | ((with_reducible refine gate_dst (N := 6) rfl ?_); refine box_event ?hg6 (N := 6) ?hd6 (cs := #[.slice none 0 0, .int .i64 0, .int .i64 0]) (t := 65) ?hr6 ?_; (case hd6 => rfl); (case hg6 => rfl); (case hr6 => go_simp; try rfl); intro g6 hg_ w3 hx_ hb_; have G6 := Aside0.mk hg_; have H6 := Aside0.mk hb_; have B6 := Aside0.mk hx_; clear hg_ hx_ hb_; skip) | fail)
  have R4 := Aside0.mk (blk_below (blk_below B4.out H5.out) H6.out)
  have R5 := Aside0.mk (blk_below B5.out H6.out)
  have R6 := B6
  have HNN := Aside0.mk (show g4 ≠ g6 ∧ w.heap.size ≤ g4 ∧ w.heap.size ≤ g5 ∧ w.heap.size ≤ g6 from by
    have h4 := G4.out
    have h5 := G5.out
    have h6 := G6.out
    have s4 := H4.out.size
    have s5 := H5.out.size
    have l4 := blk_lt B4.out
    omega)
  have HBW := Aside0.mk (below_step (below_step H4.out H5.out) H6.out)
  have FR := Aside0.mk (Fr.ofBelow (S := fun k => k = g ∨ k = b) HBW.out)
  have HT := Aside0.mk (HT.out.below HBW.out)
  have HV := Aside0.mk (Kd.V_below HV.out HBW.out)
  clear G4 H4 B4 G5 H5 B5 G6 H6 B6 HBW HB
  have y1 : w3.cell? ⟨g5, 1, none⟩ = some (.int .u32 x.f1) := (blk_cell R5.out 1).trans rfl
  have y2 : w3.cell? ⟨g5, 2, none⟩ = some (.int .i64 x.f2) := (blk_cell R5.out 2).trans rfl
  go_upto_region 2 with (first | (go_at_call 50; refine (HWO.out _ HT.out).mono ?_; rintro e_ w4 ⟨rfl, hb_⟩; have R4 := Aside0.mk (blk_below R4.out hb_); have R5 := Aside0.mk (blk_below R5.out hb_); have R6 := Aside0.mk (blk_below R6.out hb_); have FR := Aside0.mk (FR.out.below hb_); have HT := Aside0.mk (HT.out.below hb_); have HV := Aside0.mk (Kd.V_below HV.out hb_); clear hb_) | fail)
  clear y1 y2
  have y1 : w4.cell? ⟨g5, 1, none⟩ = some (.int .u32 x.f1) := (blk_cell R5.out 1).trans rfl
  have y2 : w4.cell? ⟨g5, 2, none⟩ = some (.int .i64 x.f2) := (blk_cell R5.out 2).trans rfl
  go_upto_region 3 with (first | (go_at_call 9; refine (HAS.out _ HT.out).mono ?_; rintro e_ w5 ⟨rfl, b2, ht_, hb_, hf_⟩; have HB2 := Aside0.mk (show b2 = b ∨ w.heap.size ≤ b2 from hb_.elim .inl (fun q => .inr (Nat.le_trans FR.out.size q))); have R4 := Aside0.mk (blk_fr hf_ R4.out (by have h1 := HNN.out; have h2 := HGB.out; omega) (by have h1 := HNN.out; have h2 := HGB.out; omega)); have R5 := Aside0.mk (blk_fr hf_ R5.out (by have h1 := HNN.out; have h2 := HGB.out; omega) (by have h1 := HNN.out; have h2 := HGB.out; omega)); have R6 := Aside0.mk (blk_fr hf_ R6.out (by have h1 := HNN.out; have h2 := HGB.out; omega) (by have h1 := HNN.out; have h2 := HGB.out; omega)); have FR := Aside0.mk (FR.out.trans hf_ (fun j hj => .inl hj)); have HV := Aside0.mk (Kd.V_step HV.out (fun k hk hl => hf_.block k hl (fun q => q.elim (HP.out k hk.1).1 (HP.out k hk.1).2))); have HT := Aside0.mk ht_; clear ht_ hb_ hf_) | fail)
  clear y1 y2
  have y1 : w5.cell? ⟨g5, 1, none⟩ = some (.int .u32 x.f1) := (blk_cell R5.out 1).trans rfl
  have y2 : w5.cell? ⟨g5, 2, none⟩ = some (.int .i64 x.f2) := (blk_cell R5.out 2).trans rfl
  have z0 : w5.cell? ⟨g4, 0, none⟩ = some (.slice A l.length c) := (blk_cell R4.out 0).trans rfl
  have z1 : w5.cell? ⟨g4, 1, none⟩ = some (.int .i64 room) := (blk_cell R4.out 1).trans rfl
  have z2 : w5.cell? ⟨g4, 2, none⟩ = some (.int .i64 span) := (blk_cell R4.out 2).trans rfl
  go_upto_region 4 with (first | (go_at_call 51; refine (HRA.out _ _ HV.out).mono ?_; rintro e_ w6 ⟨v, l2, rfl, hv_, hr_, hb_⟩; obtain ⟨A2, c2, rfl⟩ := Kd.V_slice hv_; have G45 := Aside0.mk (blk_lt R4.out); have G65 := Aside0.mk (blk_lt R6.out); have T5 := Aside0.mk HT.out.lt; have W5 := Aside0.mk FR.out.size; have R4 := Aside0.mk (blk_below R4.out hb_); have R6 := Aside0.mk (blk_below R6.out hb_); have FR := Aside0.mk (FR.out.below hb_); have HT := Aside0.mk (HT.out.below hb_); have HRF := Aside0.mk hr_; have HV := Aside0.mk hv_; clear hv_ hr_ hb_ y1 y2 z0 z1 z2) | ((with_reducible refine gate_store (t := 65) (p := 4) rfl ?_); refine wpList_store_row rfl 65 _ _ rfl g4 #[.slice A2 l2.length c2, .int .i64 room, .int .i64 span] rfl rfl 65 _ R4.out (by kernel_rfl) (by rfl) (sl_one _ _ _ _ _) ?_) | fail)
  have HT := Aside0.mk (tab_set65 HT.out R4.out #[.slice A2 l2.length c2, .int .i64 room, .int .i64 span])
  have R6 := Aside0.mk ((setRow_ne _ _ _ #[.slice A2 l2.length c2, .int .i64 room, .int .i64 span] (Ne.symm HNN.out.1)).trans R6.out)
  have FR := Aside0.mk (FR.out.set g4 #[.slice A2 l2.length c2, .int .i64 room, .int .i64 span] (.inr HNN.out.2.1))
  have HV := Aside0.mk (Kd.V_step (w1 := w6.setRow g4 #[.slice A2 l2.length c2, .int .i64 room, .int .i64 span]) HV.out (fun k hk hl => setRow_ne _ _ _ _ (by have h1 := HNN.out; have h2 := G45.out; omega)))
  have R4 := Aside0.mk (show (w6.setRow g4 #[.slice A2 l2.length c2, .int .i64 room, .int .i64 span]).heap[g4]? = some (.cells #[.slice A2 l2.length c2, .int .i64 room, .int .i64 span] 65 (0, 0)) from setRow_heap _ g4 _ _ _ _ R4.out)
  have HD : Aside0 (g4 ≠ g6 ∧ w.heap.size ≤ g6 ∧ ∀ k, ((P k ∧ k < w.heap.size) ∨ w5.heap.size ≤ k) → k ≠ g6) := ⟨⟨HNN.out.1, HNN.out.2.2.2, fun k hk => by have h1 := HNN.out; have h2 := G65.out; omega⟩⟩
  have HOK : Aside0 (∀ k, ((P k ∧ k < w.heap.size) ∨ w5.heap.size ≤ k) → (P k ∧ k < w.heap.size) ∨ (w.heap.size ≤ k ∧ k ≠ b2)) := ⟨fun k hk => hk.elim .inl (fun q => .inr (by have h1 := W5.out; have h2 := T5.out; omega))⟩
  obtain ⟨ok, hok⟩ : ∃ ok : Nat → Prop, (fun k => (P k ∧ k < w.heap.size) ∨ w5.heap.size ≤ k) = ok := ⟨_, rfl⟩
  have HV : Aside0 (Kd.V k94 94 (w6.setRow g4 #[.slice A2 l2.length c2, .int .i64 room, .int .i64 span]) 0 ok (.slice A2 l2.length c2) l2) := ⟨hok ▸ HV.out⟩
  have HD : Aside0 (g4 ≠ g6 ∧ w.heap.size ≤ g6 ∧ ∀ k, ok k → k ≠ g6) := ⟨hok ▸ HD.out⟩
  have HOK : Aside0 (∀ k, ok k → (P k ∧ k < w.heap.size) ∨ (w.heap.size ≤ k ∧ k ≠ b2)) := ⟨hok ▸ HOK.out⟩
  clear hok
  refine region_inv (T := ?T4) [some 42, some 43, some 44, some 45, some 46, some 47, some 48, some 49, some 50, some 51, some 52, some 53, some 54, some 55, some 56, some 57, some 58, some 59, some 60, some 61, some 62, none, some 7] ?hT4 (fun dn_ X w_ => w_.heap[g4]? = some (.cells #[.slice A2 l2.length c2, .int .i64 room, .int .i64 span] 65 (0, 0)) ∧ w_.heap[g6]? = some (.cells (bif dn_ 21 then #[.slice A2 l2.length c2, .int .i64 room, .int .i64 span] else #[.slice none 0 0, .int .i64 0, .int .i64 0]) 65 (0, 0)) ∧ Fr (fun k => k = g ∨ k = b) w w_ ∧ Tabu w_ g b2 es2 room span ∧ Kd.V k94 94 w_ 0 ok (.slice A2 l2.length c2) l2 ∧ (dn_ 0 = true → X 0 = .agg #[.slice A2 l2.length c2, .int .i64 room, .int .i64 span]) ∧ (dn_ 1 = true → X 1 = .int .i64 an) ∧ (dn_ 2 = true → X 2 = .int .i64 an) ∧ (dn_ 3 = true → X 3 = .bool true) ∧ (dn_ 4 = true → X 4 = .bool true) ∧ (dn_ 5 = true → X 5 = .int .i64 an) ∧ (dn_ 6 = true → X 6 = .int .i64 an) ∧ (dn_ 7 = true → X 7 = .bool true) ∧ (dn_ 8 = true → X 8 = .bool true) ∧ (dn_ 9 = true → X 9 = .bool true) ∧ (dn_ 10 = true → X 10 = errW er) ∧ (dn_ 11 = true → X 11 = .int .i64 rn) ∧ (dn_ 12 = true → X 12 = .int .i64 rn) ∧ (dn_ 13 = true → X 13 = .bool true) ∧ (dn_ 14 = true → X 14 = .bool true) ∧ (dn_ 15 = true → X 15 = .bool true) ∧ (dn_ 16 = true → X 16 = errW er) ∧ (dn_ 17 = true → X 17 = .int .i64 rn) ∧ (dn_ 18 = true → X 18 = .int .i64 rn) ∧ (dn_ 19 = true → X 19 = .bool true) ∧ (dn_ 20 = true → X 20 = .bool true) ∧ (dn_ 21 = true → True) ∧ (dn_ 22 = true → X 22 = .bool true)) (by kernel_rfl) (by kernel_rfl) (by rfl) [0, 1, 2, 3, 4, 5, 6, 7, 8, 9, 10, 11, 12, 13, 14, 15, 16, 17, 18, 19, 20, 21, 22] rfl (.cons (some 42) rfl rfl (fun dn_ X w_ hd0_ hd_ hI_ K hK => ?_) (.cons (some 43) rfl rfl (fun dn_ X w_ hd0_ hd_ hI_ K hK => ?_) (.cons (some 44) rfl rfl (fun dn_ X w_ hd0_ hd_ hI_ K hK => ?_) (.cons (some 45) rfl rfl (fun dn_ X w_ hd0_ hd_ hI_ K hK => ?_) (.cons (some 46) rfl rfl (fun dn_ X w_ hd0_ hd_ hI_ K hK => ?_) (.cons (some 47) rfl rfl (fun dn_ X w_ hd0_ hd_ hI_ K hK => ?_) (.cons (some 48) rfl rfl (fun dn_ X w_ hd0_ hd_ hI_ K hK => ?_) (.cons (some 49) rfl rfl (fun dn_ X w_ hd0_ hd_ hI_ K hK => ?_) (.cons (some 50) rfl rfl (fun dn_ X w_ hd0_ hd_ hI_ K hK => ?_) (.cons (some 51) rfl rfl (fun dn_ X w_ hd0_ hd_ hI_ K hK => ?_) (.cons (some 52) rfl rfl (fun dn_ X w_ hd0_ hd_ hI_ K hK => ?_) (.cons (some 53) rfl rfl (fun dn_ X w_ hd0_ hd_ hI_ K hK => ?_) (.cons (some 54) rfl rfl (fun dn_ X w_ hd0_ hd_ hI_ K hK => ?_) (.cons (some 55) rfl rfl (fun dn_ X w_ hd0_ hd_ hI_ K hK => ?_) (.cons (some 56) rfl rfl (fun dn_ X w_ hd0_ hd_ hI_ K hK => ?_) (.cons (some 57) rfl rfl (fun dn_ X w_ hd0_ hd_ hI_ K hK => ?_) (.cons (some 58) rfl rfl (fun dn_ X w_ hd0_ hd_ hI_ K hK => ?_) (.cons (some 59) rfl rfl (fun dn_ X w_ hd0_ hd_ hI_ K hK => ?_) (.cons (some 60) rfl rfl (fun dn_ X w_ hd0_ hd_ hI_ K hK => ?_) (.cons (some 61) rfl rfl (fun dn_ X w_ hd0_ hd_ hI_ K hK => ?_) (.cons (some 62) rfl rfl (fun dn_ X w_ hd0_ hd_ hI_ K hK => ?_) (.cons none rfl rfl (fun dn_ X w_ hd0_ hd_ hI_ K hK => ?_) (.cons (some 7) rfl rfl (fun dn_ X w_ hd0_ hd_ hI_ K hK => ?_) .nil))))))))))))))))))))))) ?h04 ?hend4
  case hT4 =>
    intro X
    simp only [fill, Act.put, List.setIfInBounds_toArray, List.set_cons_zero, List.set_cons_succ, Nat.zero_add, Nat.reduceAdd]
    rfl
  case h04 =>
    exact ⟨R4.out, R6.out, FR.out.drew, HT.out.below (below_drew (Below.refl _ _)), Kd.V_drew HV.out, (fun h_ => by cases h_), (fun h_ => by cases h_), (fun h_ => by cases h_), (fun h_ => by cases h_), (fun h_ => by cases h_), (fun h_ => by cases h_), (fun h_ => by cases h_), (fun h_ => by cases h_), (fun h_ => by cases h_), (fun h_ => by cases h_), (fun h_ => by cases h_), (fun h_ => by cases h_), (fun h_ => by cases h_), (fun h_ => by cases h_), (fun h_ => by cases h_), (fun h_ => by cases h_), (fun h_ => by cases h_), (fun h_ => by cases h_), (fun h_ => by cases h_), (fun h_ => by cases h_), (fun h_ => by cases h_), (fun h_ => by cases h_), (fun h_ => by cases h_)⟩
  · -- 0
    have wM := hI_.1
    have z0_ := (blk_cell wM 0).trans (show (#[.slice A2 l2.length c2, .int .i64 room, .int .i64 span] : Array Value)[0]? = some (.slice A2 l2.length c2) from rfl)
    have z1_ := (blk_cell wM 1).trans (show (#[.slice A2 l2.length c2, .int .i64 room, .int .i64 span] : Array Value)[1]? = some (.int .i64 room) from rfl)
    have z2_ := (blk_cell wM 2).trans (show (#[.slice A2 l2.length c2, .int .i64 room, .int .i64 span] : Array Value)[2]? = some (.int .i64 span) from rfl)
    refine val_ (w1 := w_) (v := .agg #[.slice A2 l2.length c2, .int .i64 room, .int .i64 span]) (by rfl) rfl ?_ (hK.out _ _ _ rfl ⟨hI_.1, hI_.2.1, hI_.2.2.1, hI_.2.2.2.1, hI_.2.2.2.2.1, (fun _ => rfl), hI_.2.2.2.2.2.2.1, hI_.2.2.2.2.2.2.2.1, hI_.2.2.2.2.2.2.2.2.1, hI_.2.2.2.2.2.2.2.2.2.1, hI_.2.2.2.2.2.2.2.2.2.2.1, hI_.2.2.2.2.2.2.2.2.2.2.2.1, hI_.2.2.2.2.2.2.2.2.2.2.2.2.1, hI_.2.2.2.2.2.2.2.2.2.2.2.2.2.1, hI_.2.2.2.2.2.2.2.2.2.2.2.2.2.2.1, hI_.2.2.2.2.2.2.2.2.2.2.2.2.2.2.2.1, hI_.2.2.2.2.2.2.2.2.2.2.2.2.2.2.2.2.1, hI_.2.2.2.2.2.2.2.2.2.2.2.2.2.2.2.2.2.1, hI_.2.2.2.2.2.2.2.2.2.2.2.2.2.2.2.2.2.2.1, hI_.2.2.2.2.2.2.2.2.2.2.2.2.2.2.2.2.2.2.2.1, hI_.2.2.2.2.2.2.2.2.2.2.2.2.2.2.2.2.2.2.2.2.1, hI_.2.2.2.2.2.2.2.2.2.2.2.2.2.2.2.2.2.2.2.2.2.1, hI_.2.2.2.2.2.2.2.2.2.2.2.2.2.2.2.2.2.2.2.2.2.2.1, hI_.2.2.2.2.2.2.2.2.2.2.2.2.2.2.2.2.2.2.2.2.2.2.2.1, hI_.2.2.2.2.2.2.2.2.2.2.2.2.2.2.2.2.2.2.2.2.2.2.2.2.1, hI_.2.2.2.2.2.2.2.2.2.2.2.2.2.2.2.2.2.2.2.2.2.2.2.2.2.1, hI_.2.2.2.2.2.2.2.2.2.2.2.2.2.2.2.2.2.2.2.2.2.2.2.2.2.2.1, hI_.2.2.2.2.2.2.2.2.2.2.2.2.2.2.2.2.2.2.2.2.2.2.2.2.2.2.2⟩)
    go_simp
    all_goals (first | decide | rfl)
  · -- 1
    refine val_ (w1 := w_) (v := .int .i64 an) (by rfl) rfl ?_ (hK.out _ _ _ rfl ⟨hI_.1, hI_.2.1, hI_.2.2.1, hI_.2.2.2.1, hI_.2.2.2.2.1, hI_.2.2.2.2.2.1, (fun _ => rfl), hI_.2.2.2.2.2.2.2.1, hI_.2.2.2.2.2.2.2.2.1, hI_.2.2.2.2.2.2.2.2.2.1, hI_.2.2.2.2.2.2.2.2.2.2.1, hI_.2.2.2.2.2.2.2.2.2.2.2.1, hI_.2.2.2.2.2.2.2.2.2.2.2.2.1, hI_.2.2.2.2.2.2.2.2.2.2.2.2.2.1, hI_.2.2.2.2.2.2.2.2.2.2.2.2.2.2.1, hI_.2.2.2.2.2.2.2.2.2.2.2.2.2.2.2.1, hI_.2.2.2.2.2.2.2.2.2.2.2.2.2.2.2.2.1, hI_.2.2.2.2.2.2.2.2.2.2.2.2.2.2.2.2.2.1, hI_.2.2.2.2.2.2.2.2.2.2.2.2.2.2.2.2.2.2.1, hI_.2.2.2.2.2.2.2.2.2.2.2.2.2.2.2.2.2.2.2.1, hI_.2.2.2.2.2.2.2.2.2.2.2.2.2.2.2.2.2.2.2.2.1, hI_.2.2.2.2.2.2.2.2.2.2.2.2.2.2.2.2.2.2.2.2.2.1, hI_.2.2.2.2.2.2.2.2.2.2.2.2.2.2.2.2.2.2.2.2.2.2.1, hI_.2.2.2.2.2.2.2.2.2.2.2.2.2.2.2.2.2.2.2.2.2.2.2.1, hI_.2.2.2.2.2.2.2.2.2.2.2.2.2.2.2.2.2.2.2.2.2.2.2.2.1, hI_.2.2.2.2.2.2.2.2.2.2.2.2.2.2.2.2.2.2.2.2.2.2.2.2.2.1, hI_.2.2.2.2.2.2.2.2.2.2.2.2.2.2.2.2.2.2.2.2.2.2.2.2.2.2.1, hI_.2.2.2.2.2.2.2.2.2.2.2.2.2.2.2.2.2.2.2.2.2.2.2.2.2.2.2⟩)
    go_simp
    all_goals (first | decide | rfl)
  · -- 2
    refine val_ (w1 := w_) (v := .int .i64 an) (by rfl) rfl ?_ (hK.out _ _ _ rfl ⟨hI_.1, hI_.2.1, hI_.2.2.1, hI_.2.2.2.1, hI_.2.2.2.2.1, hI_.2.2.2.2.2.1, hI_.2.2.2.2.2.2.1, (fun _ => rfl), hI_.2.2.2.2.2.2.2.2.1, hI_.2.2.2.2.2.2.2.2.2.1, hI_.2.2.2.2.2.2.2.2.2.2.1, hI_.2.2.2.2.2.2.2.2.2.2.2.1, hI_.2.2.2.2.2.2.2.2.2.2.2.2.1, hI_.2.2.2.2.2.2.2.2.2.2.2.2.2.1, hI_.2.2.2.2.2.2.2.2.2.2.2.2.2.2.1, hI_.2.2.2.2.2.2.2.2.2.2.2.2.2.2.2.1, hI_.2.2.2.2.2.2.2.2.2.2.2.2.2.2.2.2.1, hI_.2.2.2.2.2.2.2.2.2.2.2.2.2.2.2.2.2.1, hI_.2.2.2.2.2.2.2.2.2.2.2.2.2.2.2.2.2.2.1, hI_.2.2.2.2.2.2.2.2.2.2.2.2.2.2.2.2.2.2.2.1, hI_.2.2.2.2.2.2.2.2.2.2.2.2.2.2.2.2.2.2.2.2.1, hI_.2.2.2.2.2.2.2.2.2.2.2.2.2.2.2.2.2.2.2.2.2.1, hI_.2.2.2.2.2.2.2.2.2.2.2.2.2.2.2.2.2.2.2.2.2.2.1, hI_.2.2.2.2.2.2.2.2.2.2.2.2.2.2.2.2.2.2.2.2.2.2.2.1, hI_.2.2.2.2.2.2.2.2.2.2.2.2.2.2.2.2.2.2.2.2.2.2.2.2.1, hI_.2.2.2.2.2.2.2.2.2.2.2.2.2.2.2.2.2.2.2.2.2.2.2.2.2.1, hI_.2.2.2.2.2.2.2.2.2.2.2.2.2.2.2.2.2.2.2.2.2.2.2.2.2.2.1, hI_.2.2.2.2.2.2.2.2.2.2.2.2.2.2.2.2.2.2.2.2.2.2.2.2.2.2.2⟩)
    go_simp
    all_goals (first | decide | rfl)
  · -- 3
    have e1 := hI_.2.2.2.2.2.2.1 (hd_ 1 1 (by kernel_rfl))
    have e2 := hI_.2.2.2.2.2.2.2.1 (hd_ 1 2 (by kernel_rfl))
    refine val_ (w1 := w_) (v := .bool true) (by rfl) rfl ?_ (hK.out _ _ _ rfl ⟨hI_.1, hI_.2.1, hI_.2.2.1, hI_.2.2.2.1, hI_.2.2.2.2.1, hI_.2.2.2.2.2.1, hI_.2.2.2.2.2.2.1, hI_.2.2.2.2.2.2.2.1, (fun _ => rfl), hI_.2.2.2.2.2.2.2.2.2.1, hI_.2.2.2.2.2.2.2.2.2.2.1, hI_.2.2.2.2.2.2.2.2.2.2.2.1, hI_.2.2.2.2.2.2.2.2.2.2.2.2.1, hI_.2.2.2.2.2.2.2.2.2.2.2.2.2.1, hI_.2.2.2.2.2.2.2.2.2.2.2.2.2.2.1, hI_.2.2.2.2.2.2.2.2.2.2.2.2.2.2.2.1, hI_.2.2.2.2.2.2.2.2.2.2.2.2.2.2.2.2.1, hI_.2.2.2.2.2.2.2.2.2.2.2.2.2.2.2.2.2.1, hI_.2.2.2.2.2.2.2.2.2.2.2.2.2.2.2.2.2.2.1, hI_.2.2.2.2.2.2.2.2.2.2.2.2.2.2.2.2.2.2.2.1, hI_.2.2.2.2.2.2.2.2.2.2.2.2.2.2.2.2.2.2.2.2.1, hI_.2.2.2.2.2.2.2.2.2.2.2.2.2.2.2.2.2.2.2.2.2.1, hI_.2.2.2.2.2.2.2.2.2.2.2.2.2.2.2.2.2.2.2.2.2.2.1, hI_.2.2.2.2.2.2.2.2.2.2.2.2.2.2.2.2.2.2.2.2.2.2.2.1, hI_.2.2.2.2.2.2.2.2.2.2.2.2.2.2.2.2.2.2.2.2.2.2.2.2.1, hI_.2.2.2.2.2.2.2.2.2.2.2.2.2.2.2.2.2.2.2.2.2.2.2.2.2.1, hI_.2.2.2.2.2.2.2.2.2.2.2.2.2.2.2.2.2.2.2.2.2.2.2.2.2.2.1, hI_.2.2.2.2.2.2.2.2.2.2.2.2.2.2.2.2.2.2.2.2.2.2.2.2.2.2.2⟩)
    go_simp
    all_goals (first | decide | rfl)
  · -- 4
    have e3 := hI_.2.2.2.2.2.2.2.2.1 (hd_ 1 3 (by kernel_rfl))
    refine val_ (w1 := w_) (v := .bool true) (by rfl) rfl ?_ (hK.out _ _ _ rfl ⟨hI_.1, hI_.2.1, hI_.2.2.1, hI_.2.2.2.1, hI_.2.2.2.2.1, hI_.2.2.2.2.2.1, hI_.2.2.2.2.2.2.1, hI_.2.2.2.2.2.2.2.1, hI_.2.2.2.2.2.2.2.2.1, (fun _ => rfl), hI_.2.2.2.2.2.2.2.2.2.2.1, hI_.2.2.2.2.2.2.2.2.2.2.2.1, hI_.2.2.2.2.2.2.2.2.2.2.2.2.1, hI_.2.2.2.2.2.2.2.2.2.2.2.2.2.1, hI_.2.2.2.2.2.2.2.2.2.2.2.2.2.2.1, hI_.2.2.2.2.2.2.2.2.2.2.2.2.2.2.2.1, hI_.2.2.2.2.2.2.2.2.2.2.2.2.2.2.2.2.1, hI_.2.2.2.2.2.2.2.2.2.2.2.2.2.2.2.2.2.1, hI_.2.2.2.2.2.2.2.2.2.2.2.2.2.2.2.2.2.2.1, hI_.2.2.2.2.2.2.2.2.2.2.2.2.2.2.2.2.2.2.2.1, hI_.2.2.2.2.2.2.2.2.2.2.2.2.2.2.2.2.2.2.2.2.1, hI_.2.2.2.2.2.2.2.2.2.2.2.2.2.2.2.2.2.2.2.2.2.1, hI_.2.2.2.2.2.2.2.2.2.2.2.2.2.2.2.2.2.2.2.2.2.2.1, hI_.2.2.2.2.2.2.2.2.2.2.2.2.2.2.2.2.2.2.2.2.2.2.2.1, hI_.2.2.2.2.2.2.2.2.2.2.2.2.2.2.2.2.2.2.2.2.2.2.2.2.1, hI_.2.2.2.2.2.2.2.2.2.2.2.2.2.2.2.2.2.2.2.2.2.2.2.2.2.1, hI_.2.2.2.2.2.2.2.2.2.2.2.2.2.2.2.2.2.2.2.2.2.2.2.2.2.2.1, hI_.2.2.2.2.2.2.2.2.2.2.2.2.2.2.2.2.2.2.2.2.2.2.2.2.2.2.2⟩)
    go_simp
    all_goals (first | decide | rfl)
  · -- 5
    have e4 := hI_.2.2.2.2.2.2.2.2.2.1 (hd_ 1 4 (by kernel_rfl))
    refine val_ (w1 := w_) (v := .int .i64 an) (wanted_of rfl rfl (congrArg some e4)) rfl ?_ (hK.out _ _ _ rfl ⟨hI_.1, hI_.2.1, hI_.2.2.1, hI_.2.2.2.1, hI_.2.2.2.2.1, hI_.2.2.2.2.2.1, hI_.2.2.2.2.2.2.1, hI_.2.2.2.2.2.2.2.1, hI_.2.2.2.2.2.2.2.2.1, hI_.2.2.2.2.2.2.2.2.2.1, (fun _ => rfl), hI_.2.2.2.2.2.2.2.2.2.2.2.1, hI_.2.2.2.2.2.2.2.2.2.2.2.2.1, hI_.2.2.2.2.2.2.2.2.2.2.2.2.2.1, hI_.2.2.2.2.2.2.2.2.2.2.2.2.2.2.1, hI_.2.2.2.2.2.2.2.2.2.2.2.2.2.2.2.1, hI_.2.2.2.2.2.2.2.2.2.2.2.2.2.2.2.2.1, hI_.2.2.2.2.2.2.2.2.2.2.2.2.2.2.2.2.2.1, hI_.2.2.2.2.2.2.2.2.2.2.2.2.2.2.2.2.2.2.1, hI_.2.2.2.2.2.2.2.2.2.2.2.2.2.2.2.2.2.2.2.1, hI_.2.2.2.2.2.2.2.2.2.2.2.2.2.2.2.2.2.2.2.2.1, hI_.2.2.2.2.2.2.2.2.2.2.2.2.2.2.2.2.2.2.2.2.2.1, hI_.2.2.2.2.2.2.2.2.2.2.2.2.2.2.2.2.2.2.2.2.2.2.1, hI_.2.2.2.2.2.2.2.2.2.2.2.2.2.2.2.2.2.2.2.2.2.2.2.1, hI_.2.2.2.2.2.2.2.2.2.2.2.2.2.2.2.2.2.2.2.2.2.2.2.2.1, hI_.2.2.2.2.2.2.2.2.2.2.2.2.2.2.2.2.2.2.2.2.2.2.2.2.2.1, hI_.2.2.2.2.2.2.2.2.2.2.2.2.2.2.2.2.2.2.2.2.2.2.2.2.2.2.1, hI_.2.2.2.2.2.2.2.2.2.2.2.2.2.2.2.2.2.2.2.2.2.2.2.2.2.2.2⟩)
    go_simp
    all_goals (first | decide | rfl)
  · -- 6
    have e4 := hI_.2.2.2.2.2.2.2.2.2.1 (hd_ 1 4 (by kernel_rfl))
    refine val_ (w1 := w_) (v := .int .i64 an) (wanted_of rfl rfl (congrArg some e4)) rfl ?_ (hK.out _ _ _ rfl ⟨hI_.1, hI_.2.1, hI_.2.2.1, hI_.2.2.2.1, hI_.2.2.2.2.1, hI_.2.2.2.2.2.1, hI_.2.2.2.2.2.2.1, hI_.2.2.2.2.2.2.2.1, hI_.2.2.2.2.2.2.2.2.1, hI_.2.2.2.2.2.2.2.2.2.1, hI_.2.2.2.2.2.2.2.2.2.2.1, (fun _ => rfl), hI_.2.2.2.2.2.2.2.2.2.2.2.2.1, hI_.2.2.2.2.2.2.2.2.2.2.2.2.2.1, hI_.2.2.2.2.2.2.2.2.2.2.2.2.2.2.1, hI_.2.2.2.2.2.2.2.2.2.2.2.2.2.2.2.1, hI_.2.2.2.2.2.2.2.2.2.2.2.2.2.2.2.2.1, hI_.2.2.2.2.2.2.2.2.2.2.2.2.2.2.2.2.2.1, hI_.2.2.2.2.2.2.2.2.2.2.2.2.2.2.2.2.2.2.1, hI_.2.2.2.2.2.2.2.2.2.2.2.2.2.2.2.2.2.2.2.1, hI_.2.2.2.2.2.2.2.2.2.2.2.2.2.2.2.2.2.2.2.2.1, hI_.2.2.2.2.2.2.2.2.2.2.2.2.2.2.2.2.2.2.2.2.2.1, hI_.2.2.2.2.2.2.2.2.2.2.2.2.2.2.2.2.2.2.2.2.2.2.1, hI_.2.2.2.2.2.2.2.2.2.2.2.2.2.2.2.2.2.2.2.2.2.2.2.1, hI_.2.2.2.2.2.2.2.2.2.2.2.2.2.2.2.2.2.2.2.2.2.2.2.2.1, hI_.2.2.2.2.2.2.2.2.2.2.2.2.2.2.2.2.2.2.2.2.2.2.2.2.2.1, hI_.2.2.2.2.2.2.2.2.2.2.2.2.2.2.2.2.2.2.2.2.2.2.2.2.2.2.1, hI_.2.2.2.2.2.2.2.2.2.2.2.2.2.2.2.2.2.2.2.2.2.2.2.2.2.2.2⟩)
    go_simp
    all_goals (first | decide | rfl)
  · -- 7
    have e4 := hI_.2.2.2.2.2.2.2.2.2.1 (hd_ 1 4 (by kernel_rfl))
    have e5 := hI_.2.2.2.2.2.2.2.2.2.2.1 (hd_ 1 5 (by kernel_rfl))
    have e6 := hI_.2.2.2.2.2.2.2.2.2.2.2.1 (hd_ 1 6 (by kernel_rfl))
    refine val_ (w1 := w_) (v := .bool true) (wanted_of rfl rfl (congrArg some e4)) rfl ?_ (hK.out _ _ _ rfl ⟨hI_.1, hI_.2.1, hI_.2.2.1, hI_.2.2.2.1, hI_.2.2.2.2.1, hI_.2.2.2.2.2.1, hI_.2.2.2.2.2.2.1, hI_.2.2.2.2.2.2.2.1, hI_.2.2.2.2.2.2.2.2.1, hI_.2.2.2.2.2.2.2.2.2.1, hI_.2.2.2.2.2.2.2.2.2.2.1, hI_.2.2.2.2.2.2.2.2.2.2.2.1, (fun _ => rfl), hI_.2.2.2.2.2.2.2.2.2.2.2.2.2.1, hI_.2.2.2.2.2.2.2.2.2.2.2.2.2.2.1, hI_.2.2.2.2.2.2.2.2.2.2.2.2.2.2.2.1, hI_.2.2.2.2.2.2.2.2.2.2.2.2.2.2.2.2.1, hI_.2.2.2.2.2.2.2.2.2.2.2.2.2.2.2.2.2.1, hI_.2.2.2.2.2.2.2.2.2.2.2.2.2.2.2.2.2.2.1, hI_.2.2.2.2.2.2.2.2.2.2.2.2.2.2.2.2.2.2.2.1, hI_.2.2.2.2.2.2.2.2.2.2.2.2.2.2.2.2.2.2.2.2.1, hI_.2.2.2.2.2.2.2.2.2.2.2.2.2.2.2.2.2.2.2.2.2.1, hI_.2.2.2.2.2.2.2.2.2.2.2.2.2.2.2.2.2.2.2.2.2.2.1, hI_.2.2.2.2.2.2.2.2.2.2.2.2.2.2.2.2.2.2.2.2.2.2.2.1, hI_.2.2.2.2.2.2.2.2.2.2.2.2.2.2.2.2.2.2.2.2.2.2.2.2.1, hI_.2.2.2.2.2.2.2.2.2.2.2.2.2.2.2.2.2.2.2.2.2.2.2.2.2.1, hI_.2.2.2.2.2.2.2.2.2.2.2.2.2.2.2.2.2.2.2.2.2.2.2.2.2.2.1, hI_.2.2.2.2.2.2.2.2.2.2.2.2.2.2.2.2.2.2.2.2.2.2.2.2.2.2.2⟩)
    go_simp
    all_goals (first | decide | rfl)
  · -- 8
    have e4 := hI_.2.2.2.2.2.2.2.2.2.1 (hd_ 1 4 (by kernel_rfl))
    have e7 := hI_.2.2.2.2.2.2.2.2.2.2.2.2.1 (hd_ 1 7 (by kernel_rfl))
    refine val_ (w1 := w_) (v := .bool true) (by rfl) rfl ?_ (hK.out _ _ _ rfl ⟨hI_.1, hI_.2.1, hI_.2.2.1, hI_.2.2.2.1, hI_.2.2.2.2.1, hI_.2.2.2.2.2.1, hI_.2.2.2.2.2.2.1, hI_.2.2.2.2.2.2.2.1, hI_.2.2.2.2.2.2.2.2.1, hI_.2.2.2.2.2.2.2.2.2.1, hI_.2.2.2.2.2.2.2.2.2.2.1, hI_.2.2.2.2.2.2.2.2.2.2.2.1, hI_.2.2.2.2.2.2.2.2.2.2.2.2.1, (fun _ => rfl), hI_.2.2.2.2.2.2.2.2.2.2.2.2.2.2.1, hI_.2.2.2.2.2.2.2.2.2.2.2.2.2.2.2.1, hI_.2.2.2.2.2.2.2.2.2.2.2.2.2.2.2.2.1, hI_.2.2.2.2.2.2.2.2.2.2.2.2.2.2.2.2.2.1, hI_.2.2.2.2.2.2.2.2.2.2.2.2.2.2.2.2.2.2.1, hI_.2.2.2.2.2.2.2.2.2.2.2.2.2.2.2.2.2.2.2.1, hI_.2.2.2.2.2.2.2.2.2.2.2.2.2.2.2.2.2.2.2.2.1, hI_.2.2.2.2.2.2.2.2.2.2.2.2.2.2.2.2.2.2.2.2.2.1, hI_.2.2.2.2.2.2.2.2.2.2.2.2.2.2.2.2.2.2.2.2.2.2.1, hI_.2.2.2.2.2.2.2.2.2.2.2.2.2.2.2.2.2.2.2.2.2.2.2.1, hI_.2.2.2.2.2.2.2.2.2.2.2.2.2.2.2.2.2.2.2.2.2.2.2.2.1, hI_.2.2.2.2.2.2.2.2.2.2.2.2.2.2.2.2.2.2.2.2.2.2.2.2.2.1, hI_.2.2.2.2.2.2.2.2.2.2.2.2.2.2.2.2.2.2.2.2.2.2.2.2.2.2.1, hI_.2.2.2.2.2.2.2.2.2.2.2.2.2.2.2.2.2.2.2.2.2.2.2.2.2.2.2⟩)
    go_simp
    all_goals (first | decide | rfl)
  · -- 9
    have e8 := hI_.2.2.2.2.2.2.2.2.2.2.2.2.2.1 (hd_ 1 8 (by kernel_rfl))
    refine val_ (w1 := w_) (v := .bool true) (by rfl) rfl ?_ (hK.out _ _ _ rfl ⟨hI_.1, hI_.2.1, hI_.2.2.1, hI_.2.2.2.1, hI_.2.2.2.2.1, hI_.2.2.2.2.2.1, hI_.2.2.2.2.2.2.1, hI_.2.2.2.2.2.2.2.1, hI_.2.2.2.2.2.2.2.2.1, hI_.2.2.2.2.2.2.2.2.2.1, hI_.2.2.2.2.2.2.2.2.2.2.1, hI_.2.2.2.2.2.2.2.2.2.2.2.1, hI_.2.2.2.2.2.2.2.2.2.2.2.2.1, hI_.2.2.2.2.2.2.2.2.2.2.2.2.2.1, (fun _ => rfl), hI_.2.2.2.2.2.2.2.2.2.2.2.2.2.2.2.1, hI_.2.2.2.2.2.2.2.2.2.2.2.2.2.2.2.2.1, hI_.2.2.2.2.2.2.2.2.2.2.2.2.2.2.2.2.2.1, hI_.2.2.2.2.2.2.2.2.2.2.2.2.2.2.2.2.2.2.1, hI_.2.2.2.2.2.2.2.2.2.2.2.2.2.2.2.2.2.2.2.1, hI_.2.2.2.2.2.2.2.2.2.2.2.2.2.2.2.2.2.2.2.2.1, hI_.2.2.2.2.2.2.2.2.2.2.2.2.2.2.2.2.2.2.2.2.2.1, hI_.2.2.2.2.2.2.2.2.2.2.2.2.2.2.2.2.2.2.2.2.2.2.1, hI_.2.2.2.2.2.2.2.2.2.2.2.2.2.2.2.2.2.2.2.2.2.2.2.1, hI_.2.2.2.2.2.2.2.2.2.2.2.2.2.2.2.2.2.2.2.2.2.2.2.2.1, hI_.2.2.2.2.2.2.2.2.2.2.2.2.2.2.2.2.2.2.2.2.2.2.2.2.2.1, hI_.2.2.2.2.2.2.2.2.2.2.2.2.2.2.2.2.2.2.2.2.2.2.2.2.2.2.1, hI_.2.2.2.2.2.2.2.2.2.2.2.2.2.2.2.2.2.2.2.2.2.2.2.2.2.2.2⟩)
    go_simp
    all_goals (first | decide | rfl)
  · -- 10
    have e9 := hI_.2.2.2.2.2.2.2.2.2.2.2.2.2.2.1 (hd_ 1 9 (by kernel_rfl))
    refine val_ (w1 := w_) (v := errW er) (wanted_of rfl rfl (congrArg some e9)) rfl ?_ (hK.out _ _ _ rfl ⟨hI_.1, hI_.2.1, hI_.2.2.1, hI_.2.2.2.1, hI_.2.2.2.2.1, hI_.2.2.2.2.2.1, hI_.2.2.2.2.2.2.1, hI_.2.2.2.2.2.2.2.1, hI_.2.2.2.2.2.2.2.2.1, hI_.2.2.2.2.2.2.2.2.2.1, hI_.2.2.2.2.2.2.2.2.2.2.1, hI_.2.2.2.2.2.2.2.2.2.2.2.1, hI_.2.2.2.2.2.2.2.2.2.2.2.2.1, hI_.2.2.2.2.2.2.2.2.2.2.2.2.2.1, hI_.2.2.2.2.2.2.2.2.2.2.2.2.2.2.1, (fun _ => rfl), hI_.2.2.2.2.2.2.2.2.2.2.2.2.2.2.2.2.1, hI_.2.2.2.2.2.2.2.2.2.2.2.2.2.2.2.2.2.1, hI_.2.2.2.2.2.2.2.2.2.2.2.2.2.2.2.2.2.2.1, hI_.2.2.2.2.2.2.2.2.2.2.2.2.2.2.2.2.2.2.2.1, hI_.2.2.2.2.2.2.2.2.2.2.2.2.2.2.2.2.2.2.2.2.1, hI_.2.2.2.2.2.2.2.2.2.2.2.2.2.2.2.2.2.2.2.2.2.1, hI_.2.2.2.2.2.2.2.2.2.2.2.2.2.2.2.2.2.2.2.2.2.2.1, hI_.2.2.2.2.2.2.2.2.2.2.2.2.2.2.2.2.2.2.2.2.2.2.2.1, hI_.2.2.2.2.2.2.2.2.2.2.2.2.2.2.2.2.2.2.2.2.2.2.2.2.1, hI_.2.2.2.2.2.2.2.2.2.2.2.2.2.2.2.2.2.2.2.2.2.2.2.2.2.1, hI_.2.2.2.2.2.2.2.2.2.2.2.2.2.2.2.2.2.2.2.2.2.2.2.2.2.2.1, hI_.2.2.2.2.2.2.2.2.2.2.2.2.2.2.2.2.2.2.2.2.2.2.2.2.2.2.2⟩)
    go_simp
    all_goals (first | decide | rfl)
  · -- 11
    have wM := hI_.1
    have w6 := hI_.2.1
    have wF := hI_.2.2.1
    have wT := hI_.2.2.2.1
    have wV := hI_.2.2.2.2.1
    have h0 := hI_.2.2.2.2.2.1
    have h1 := hI_.2.2.2.2.2.2.1
    have h2 := hI_.2.2.2.2.2.2.2.1
    have h3 := hI_.2.2.2.2.2.2.2.2.1
    have h4 := hI_.2.2.2.2.2.2.2.2.2.1
    have h5 := hI_.2.2.2.2.2.2.2.2.2.2.1
    have h6 := hI_.2.2.2.2.2.2.2.2.2.2.2.1
    have h7 := hI_.2.2.2.2.2.2.2.2.2.2.2.2.1
    have h8 := hI_.2.2.2.2.2.2.2.2.2.2.2.2.2.1
    have h9 := hI_.2.2.2.2.2.2.2.2.2.2.2.2.2.2.1
    have h10 := hI_.2.2.2.2.2.2.2.2.2.2.2.2.2.2.2.1
    have h11 := hI_.2.2.2.2.2.2.2.2.2.2.2.2.2.2.2.2.1
    have h12 := hI_.2.2.2.2.2.2.2.2.2.2.2.2.2.2.2.2.2.1
    have h13 := hI_.2.2.2.2.2.2.2.2.2.2.2.2.2.2.2.2.2.2.1
    have h14 := hI_.2.2.2.2.2.2.2.2.2.2.2.2.2.2.2.2.2.2.2.1
    have h15 := hI_.2.2.2.2.2.2.2.2.2.2.2.2.2.2.2.2.2.2.2.2.1
    have h16 := hI_.2.2.2.2.2.2.2.2.2.2.2.2.2.2.2.2.2.2.2.2.2.1
    have h17 := hI_.2.2.2.2.2.2.2.2.2.2.2.2.2.2.2.2.2.2.2.2.2.2.1
    have h18 := hI_.2.2.2.2.2.2.2.2.2.2.2.2.2.2.2.2.2.2.2.2.2.2.2.1
    have h19 := hI_.2.2.2.2.2.2.2.2.2.2.2.2.2.2.2.2.2.2.2.2.2.2.2.2.1
    have h20 := hI_.2.2.2.2.2.2.2.2.2.2.2.2.2.2.2.2.2.2.2.2.2.2.2.2.2.1
    have h21 := hI_.2.2.2.2.2.2.2.2.2.2.2.2.2.2.2.2.2.2.2.2.2.2.2.2.2.2.1
    have h22 := hI_.2.2.2.2.2.2.2.2.2.2.2.2.2.2.2.2.2.2.2.2.2.2.2.2.2.2.2
    have e9 := h9 (hd_ 1 9 (by kernel_rfl))
    have e10 := h10 (hd_ 1 10 (by kernel_rfl))
    refine goes_ Try.func23 (by kernel_rfl) rfl #[X 10] (wanted_of rfl rfl (congrArg some e9)) rfl rfl (by simp only [List.map_toArray, List.map_cons, List.map_nil]; rfl) ?_
    refine calls_args (args1 e10) ?_
    refine (HNUM.out w_).mono ?_
    rintro e_ w' ⟨rfl, hb_⟩
    exact ⟨_, rfl, hK.out _ _ _ rfl ⟨(blk_below wM hb_), (blk_below w6 hb_), (wF.below hb_), (wT.below hb_), (Kd.V_below wV hb_), h0, h1, h2, h3, h4, h5, h6, h7, h8, h9, h10, (fun _ => rfl), h12, h13, h14, h15, h16, h17, h18, h19, h20, h21, h22⟩⟩
  · -- 12
    have e9 := hI_.2.2.2.2.2.2.2.2.2.2.2.2.2.2.1 (hd_ 1 9 (by kernel_rfl))
    refine val_ (w1 := w_) (v := .int .i64 rn) (wanted_of rfl rfl (congrArg some e9)) rfl ?_ (hK.out _ _ _ rfl ⟨hI_.1, hI_.2.1, hI_.2.2.1, hI_.2.2.2.1, hI_.2.2.2.2.1, hI_.2.2.2.2.2.1, hI_.2.2.2.2.2.2.1, hI_.2.2.2.2.2.2.2.1, hI_.2.2.2.2.2.2.2.2.1, hI_.2.2.2.2.2.2.2.2.2.1, hI_.2.2.2.2.2.2.2.2.2.2.1, hI_.2.2.2.2.2.2.2.2.2.2.2.1, hI_.2.2.2.2.2.2.2.2.2.2.2.2.1, hI_.2.2.2.2.2.2.2.2.2.2.2.2.2.1, hI_.2.2.2.2.2.2.2.2.2.2.2.2.2.2.1, hI_.2.2.2.2.2.2.2.2.2.2.2.2.2.2.2.1, hI_.2.2.2.2.2.2.2.2.2.2.2.2.2.2.2.2.1, (fun _ => rfl), hI_.2.2.2.2.2.2.2.2.2.2.2.2.2.2.2.2.2.2.1, hI_.2.2.2.2.2.2.2.2.2.2.2.2.2.2.2.2.2.2.2.1, hI_.2.2.2.2.2.2.2.2.2.2.2.2.2.2.2.2.2.2.2.2.1, hI_.2.2.2.2.2.2.2.2.2.2.2.2.2.2.2.2.2.2.2.2.2.1, hI_.2.2.2.2.2.2.2.2.2.2.2.2.2.2.2.2.2.2.2.2.2.2.1, hI_.2.2.2.2.2.2.2.2.2.2.2.2.2.2.2.2.2.2.2.2.2.2.2.1, hI_.2.2.2.2.2.2.2.2.2.2.2.2.2.2.2.2.2.2.2.2.2.2.2.2.1, hI_.2.2.2.2.2.2.2.2.2.2.2.2.2.2.2.2.2.2.2.2.2.2.2.2.2.1, hI_.2.2.2.2.2.2.2.2.2.2.2.2.2.2.2.2.2.2.2.2.2.2.2.2.2.2.1, hI_.2.2.2.2.2.2.2.2.2.2.2.2.2.2.2.2.2.2.2.2.2.2.2.2.2.2.2⟩)
    go_simp
    all_goals (first | decide | rfl)
  · -- 13
    have e9 := hI_.2.2.2.2.2.2.2.2.2.2.2.2.2.2.1 (hd_ 1 9 (by kernel_rfl))
    have e11 := hI_.2.2.2.2.2.2.2.2.2.2.2.2.2.2.2.2.1 (hd_ 1 11 (by kernel_rfl))
    have e12 := hI_.2.2.2.2.2.2.2.2.2.2.2.2.2.2.2.2.2.1 (hd_ 1 12 (by kernel_rfl))
    refine val_ (w1 := w_) (v := .bool true) (wanted_of rfl rfl (congrArg some e9)) rfl ?_ (hK.out _ _ _ rfl ⟨hI_.1, hI_.2.1, hI_.2.2.1, hI_.2.2.2.1, hI_.2.2.2.2.1, hI_.2.2.2.2.2.1, hI_.2.2.2.2.2.2.1, hI_.2.2.2.2.2.2.2.1, hI_.2.2.2.2.2.2.2.2.1, hI_.2.2.2.2.2.2.2.2.2.1, hI_.2.2.2.2.2.2.2.2.2.2.1, hI_.2.2.2.2.2.2.2.2.2.2.2.1, hI_.2.2.2.2.2.2.2.2.2.2.2.2.1, hI_.2.2.2.2.2.2.2.2.2.2.2.2.2.1, hI_.2.2.2.2.2.2.2.2.2.2.2.2.2.2.1, hI_.2.2.2.2.2.2.2.2.2.2.2.2.2.2.2.1, hI_.2.2.2.2.2.2.2.2.2.2.2.2.2.2.2.2.1, hI_.2.2.2.2.2.2.2.2.2.2.2.2.2.2.2.2.2.1, (fun _ => rfl), hI_.2.2.2.2.2.2.2.2.2.2.2.2.2.2.2.2.2.2.2.1, hI_.2.2.2.2.2.2.2.2.2.2.2.2.2.2.2.2.2.2.2.2.1, hI_.2.2.2.2.2.2.2.2.2.2.2.2.2.2.2.2.2.2.2.2.2.1, hI_.2.2.2.2.2.2.2.2.2.2.2.2.2.2.2.2.2.2.2.2.2.2.1, hI_.2.2.2.2.2.2.2.2.2.2.2.2.2.2.2.2.2.2.2.2.2.2.2.1, hI_.2.2.2.2.2.2.2.2.2.2.2.2.2.2.2.2.2.2.2.2.2.2.2.2.1, hI_.2.2.2.2.2.2.2.2.2.2.2.2.2.2.2.2.2.2.2.2.2.2.2.2.2.1, hI_.2.2.2.2.2.2.2.2.2.2.2.2.2.2.2.2.2.2.2.2.2.2.2.2.2.2.1, hI_.2.2.2.2.2.2.2.2.2.2.2.2.2.2.2.2.2.2.2.2.2.2.2.2.2.2.2⟩)
    go_simp
    all_goals (first | decide | rfl)
  · -- 14
    have e9 := hI_.2.2.2.2.2.2.2.2.2.2.2.2.2.2.1 (hd_ 1 9 (by kernel_rfl))
    have e13 := hI_.2.2.2.2.2.2.2.2.2.2.2.2.2.2.2.2.2.2.1 (hd_ 1 13 (by kernel_rfl))
    refine val_ (w1 := w_) (v := .bool true) (by rfl) rfl ?_ (hK.out _ _ _ rfl ⟨hI_.1, hI_.2.1, hI_.2.2.1, hI_.2.2.2.1, hI_.2.2.2.2.1, hI_.2.2.2.2.2.1, hI_.2.2.2.2.2.2.1, hI_.2.2.2.2.2.2.2.1, hI_.2.2.2.2.2.2.2.2.1, hI_.2.2.2.2.2.2.2.2.2.1, hI_.2.2.2.2.2.2.2.2.2.2.1, hI_.2.2.2.2.2.2.2.2.2.2.2.1, hI_.2.2.2.2.2.2.2.2.2.2.2.2.1, hI_.2.2.2.2.2.2.2.2.2.2.2.2.2.1, hI_.2.2.2.2.2.2.2.2.2.2.2.2.2.2.1, hI_.2.2.2.2.2.2.2.2.2.2.2.2.2.2.2.1, hI_.2.2.2.2.2.2.2.2.2.2.2.2.2.2.2.2.1, hI_.2.2.2.2.2.2.2.2.2.2.2.2.2.2.2.2.2.1, hI_.2.2.2.2.2.2.2.2.2.2.2.2.2.2.2.2.2.2.1, (fun _ => rfl), hI_.2.2.2.2.2.2.2.2.2.2.2.2.2.2.2.2.2.2.2.2.1, hI_.2.2.2.2.2.2.2.2.2.2.2.2.2.2.2.2.2.2.2.2.2.1, hI_.2.2.2.2.2.2.2.2.2.2.2.2.2.2.2.2.2.2.2.2.2.2.1, hI_.2.2.2.2.2.2.2.2.2.2.2.2.2.2.2.2.2.2.2.2.2.2.2.1, hI_.2.2.2.2.2.2.2.2.2.2.2.2.2.2.2.2.2.2.2.2.2.2.2.2.1, hI_.2.2.2.2.2.2.2.2.2.2.2.2.2.2.2.2.2.2.2.2.2.2.2.2.2.1, hI_.2.2.2.2.2.2.2.2.2.2.2.2.2.2.2.2.2.2.2.2.2.2.2.2.2.2.1, hI_.2.2.2.2.2.2.2.2.2.2.2.2.2.2.2.2.2.2.2.2.2.2.2.2.2.2.2⟩)
    go_simp
    all_goals (first | decide | rfl)
  · -- 15
    have e14 := hI_.2.2.2.2.2.2.2.2.2.2.2.2.2.2.2.2.2.2.2.1 (hd_ 1 14 (by kernel_rfl))
    refine val_ (w1 := w_) (v := .bool true) (by rfl) rfl ?_ (hK.out _ _ _ rfl ⟨hI_.1, hI_.2.1, hI_.2.2.1, hI_.2.2.2.1, hI_.2.2.2.2.1, hI_.2.2.2.2.2.1, hI_.2.2.2.2.2.2.1, hI_.2.2.2.2.2.2.2.1, hI_.2.2.2.2.2.2.2.2.1, hI_.2.2.2.2.2.2.2.2.2.1, hI_.2.2.2.2.2.2.2.2.2.2.1, hI_.2.2.2.2.2.2.2.2.2.2.2.1, hI_.2.2.2.2.2.2.2.2.2.2.2.2.1, hI_.2.2.2.2.2.2.2.2.2.2.2.2.2.1, hI_.2.2.2.2.2.2.2.2.2.2.2.2.2.2.1, hI_.2.2.2.2.2.2.2.2.2.2.2.2.2.2.2.1, hI_.2.2.2.2.2.2.2.2.2.2.2.2.2.2.2.2.1, hI_.2.2.2.2.2.2.2.2.2.2.2.2.2.2.2.2.2.1, hI_.2.2.2.2.2.2.2.2.2.2.2.2.2.2.2.2.2.2.1, hI_.2.2.2.2.2.2.2.2.2.2.2.2.2.2.2.2.2.2.2.1, (fun _ => rfl), hI_.2.2.2.2.2.2.2.2.2.2.2.2.2.2.2.2.2.2.2.2.2.1, hI_.2.2.2.2.2.2.2.2.2.2.2.2.2.2.2.2.2.2.2.2.2.2.1, hI_.2.2.2.2.2.2.2.2.2.2.2.2.2.2.2.2.2.2.2.2.2.2.2.1, hI_.2.2.2.2.2.2.2.2.2.2.2.2.2.2.2.2.2.2.2.2.2.2.2.2.1, hI_.2.2.2.2.2.2.2.2.2.2.2.2.2.2.2.2.2.2.2.2.2.2.2.2.2.1, hI_.2.2.2.2.2.2.2.2.2.2.2.2.2.2.2.2.2.2.2.2.2.2.2.2.2.2.1, hI_.2.2.2.2.2.2.2.2.2.2.2.2.2.2.2.2.2.2.2.2.2.2.2.2.2.2.2⟩)
    go_simp
    all_goals (first | decide | rfl)
  · -- 16
    have e15 := hI_.2.2.2.2.2.2.2.2.2.2.2.2.2.2.2.2.2.2.2.2.1 (hd_ 1 15 (by kernel_rfl))
    refine val_ (w1 := w_) (v := errW er) (wanted_of rfl rfl (congrArg some e15)) rfl ?_ (hK.out _ _ _ rfl ⟨hI_.1, hI_.2.1, hI_.2.2.1, hI_.2.2.2.1, hI_.2.2.2.2.1, hI_.2.2.2.2.2.1, hI_.2.2.2.2.2.2.1, hI_.2.2.2.2.2.2.2.1, hI_.2.2.2.2.2.2.2.2.1, hI_.2.2.2.2.2.2.2.2.2.1, hI_.2.2.2.2.2.2.2.2.2.2.1, hI_.2.2.2.2.2.2.2.2.2.2.2.1, hI_.2.2.2.2.2.2.2.2.2.2.2.2.1, hI_.2.2.2.2.2.2.2.2.2.2.2.2.2.1, hI_.2.2.2.2.2.2.2.2.2.2.2.2.2.2.1, hI_.2.2.2.2.2.2.2.2.2.2.2.2.2.2.2.1, hI_.2.2.2.2.2.2.2.2.2.2.2.2.2.2.2.2.1, hI_.2.2.2.2.2.2.2.2.2.2.2.2.2.2.2.2.2.1, hI_.2.2.2.2.2.2.2.2.2.2.2.2.2.2.2.2.2.2.1, hI_.2.2.2.2.2.2.2.2.2.2.2.2.2.2.2.2.2.2.2.1, hI_.2.2.2.2.2.2.2.2.2.2.2.2.2.2.2.2.2.2.2.2.1, (fun _ => rfl), hI_.2.2.2.2.2.2.2.2.2.2.2.2.2.2.2.2.2.2.2.2.2.2.1, hI_.2.2.2.2.2.2.2.2.2.2.2.2.2.2.2.2.2.2.2.2.2.2.2.1, hI_.2.2.2.2.2.2.2.2.2.2.2.2.2.2.2.2.2.2.2.2.2.2.2.2.1, hI_.2.2.2.2.2.2.2.2.2.2.2.2.2.2.2.2.2.2.2.2.2.2.2.2.2.1, hI_.2.2.2.2.2.2.2.2.2.2.2.2.2.2.2.2.2.2.2.2.2.2.2.2.2.2.1, hI_.2.2.2.2.2.2.2.2.2.2.2.2.2.2.2.2.2.2.2.2.2.2.2.2.2.2.2⟩)
    go_simp
    all_goals (first | decide | rfl)
  · -- 17
    have wM := hI_.1
    have w6 := hI_.2.1
    have wF := hI_.2.2.1
    have wT := hI_.2.2.2.1
    have wV := hI_.2.2.2.2.1
    have h0 := hI_.2.2.2.2.2.1
    have h1 := hI_.2.2.2.2.2.2.1
    have h2 := hI_.2.2.2.2.2.2.2.1
    have h3 := hI_.2.2.2.2.2.2.2.2.1
    have h4 := hI_.2.2.2.2.2.2.2.2.2.1
    have h5 := hI_.2.2.2.2.2.2.2.2.2.2.1
    have h6 := hI_.2.2.2.2.2.2.2.2.2.2.2.1
    have h7 := hI_.2.2.2.2.2.2.2.2.2.2.2.2.1
    have h8 := hI_.2.2.2.2.2.2.2.2.2.2.2.2.2.1
    have h9 := hI_.2.2.2.2.2.2.2.2.2.2.2.2.2.2.1
    have h10 := hI_.2.2.2.2.2.2.2.2.2.2.2.2.2.2.2.1
    have h11 := hI_.2.2.2.2.2.2.2.2.2.2.2.2.2.2.2.2.1
    have h12 := hI_.2.2.2.2.2.2.2.2.2.2.2.2.2.2.2.2.2.1
    have h13 := hI_.2.2.2.2.2.2.2.2.2.2.2.2.2.2.2.2.2.2.1
    have h14 := hI_.2.2.2.2.2.2.2.2.2.2.2.2.2.2.2.2.2.2.2.1
    have h15 := hI_.2.2.2.2.2.2.2.2.2.2.2.2.2.2.2.2.2.2.2.2.1
    have h16 := hI_.2.2.2.2.2.2.2.2.2.2.2.2.2.2.2.2.2.2.2.2.2.1
    have h17 := hI_.2.2.2.2.2.2.2.2.2.2.2.2.2.2.2.2.2.2.2.2.2.2.1
    have h18 := hI_.2.2.2.2.2.2.2.2.2.2.2.2.2.2.2.2.2.2.2.2.2.2.2.1
    have h19 := hI_.2.2.2.2.2.2.2.2.2.2.2.2.2.2.2.2.2.2.2.2.2.2.2.2.1
    have h20 := hI_.2.2.2.2.2.2.2.2.2.2.2.2.2.2.2.2.2.2.2.2.2.2.2.2.2.1
    have h21 := hI_.2.2.2.2.2.2.2.2.2.2.2.2.2.2.2.2.2.2.2.2.2.2.2.2.2.2.1
    have h22 := hI_.2.2.2.2.2.2.2.2.2.2.2.2.2.2.2.2.2.2.2.2.2.2.2.2.2.2.2
    have e15 := h15 (hd_ 1 15 (by kernel_rfl))
    have e16 := h16 (hd_ 1 16 (by kernel_rfl))
    refine goes_ Try.func23 (by kernel_rfl) rfl #[X 16] (wanted_of rfl rfl (congrArg some e15)) rfl rfl (by simp only [List.map_toArray, List.map_cons, List.map_nil]; rfl) ?_
    refine calls_args (args1 e16) ?_
    refine (HNUM.out w_).mono ?_
    rintro e_ w' ⟨rfl, hb_⟩
    exact ⟨_, rfl, hK.out _ _ _ rfl ⟨(blk_below wM hb_), (blk_below w6 hb_), (wF.below hb_), (wT.below hb_), (Kd.V_below wV hb_), h0, h1, h2, h3, h4, h5, h6, h7, h8, h9, h10, h11, h12, h13, h14, h15, h16, (fun _ => rfl), h18, h19, h20, h21, h22⟩⟩
  · -- 18
    have e15 := hI_.2.2.2.2.2.2.2.2.2.2.2.2.2.2.2.2.2.2.2.2.1 (hd_ 1 15 (by kernel_rfl))
    refine val_ (w1 := w_) (v := .int .i64 rn) (wanted_of rfl rfl (congrArg some e15)) rfl ?_ (hK.out _ _ _ rfl ⟨hI_.1, hI_.2.1, hI_.2.2.1, hI_.2.2.2.1, hI_.2.2.2.2.1, hI_.2.2.2.2.2.1, hI_.2.2.2.2.2.2.1, hI_.2.2.2.2.2.2.2.1, hI_.2.2.2.2.2.2.2.2.1, hI_.2.2.2.2.2.2.2.2.2.1, hI_.2.2.2.2.2.2.2.2.2.2.1, hI_.2.2.2.2.2.2.2.2.2.2.2.1, hI_.2.2.2.2.2.2.2.2.2.2.2.2.1, hI_.2.2.2.2.2.2.2.2.2.2.2.2.2.1, hI_.2.2.2.2.2.2.2.2.2.2.2.2.2.2.1, hI_.2.2.2.2.2.2.2.2.2.2.2.2.2.2.2.1, hI_.2.2.2.2.2.2.2.2.2.2.2.2.2.2.2.2.1, hI_.2.2.2.2.2.2.2.2.2.2.2.2.2.2.2.2.2.1, hI_.2.2.2.2.2.2.2.2.2.2.2.2.2.2.2.2.2.2.1, hI_.2.2.2.2.2.2.2.2.2.2.2.2.2.2.2.2.2.2.2.1, hI_.2.2.2.2.2.2.2.2.2.2.2.2.2.2.2.2.2.2.2.2.1, hI_.2.2.2.2.2.2.2.2.2.2.2.2.2.2.2.2.2.2.2.2.2.1, hI_.2.2.2.2.2.2.2.2.2.2.2.2.2.2.2.2.2.2.2.2.2.2.1, (fun _ => rfl), hI_.2.2.2.2.2.2.2.2.2.2.2.2.2.2.2.2.2.2.2.2.2.2.2.2.1, hI_.2.2.2.2.2.2.2.2.2.2.2.2.2.2.2.2.2.2.2.2.2.2.2.2.2.1, hI_.2.2.2.2.2.2.2.2.2.2.2.2.2.2.2.2.2.2.2.2.2.2.2.2.2.2.1, hI_.2.2.2.2.2.2.2.2.2.2.2.2.2.2.2.2.2.2.2.2.2.2.2.2.2.2.2⟩)
    go_simp
    all_goals (first | decide | rfl)
  · -- 19
    have e15 := hI_.2.2.2.2.2.2.2.2.2.2.2.2.2.2.2.2.2.2.2.2.1 (hd_ 1 15 (by kernel_rfl))
    have e17 := hI_.2.2.2.2.2.2.2.2.2.2.2.2.2.2.2.2.2.2.2.2.2.2.1 (hd_ 1 17 (by kernel_rfl))
    have e18 := hI_.2.2.2.2.2.2.2.2.2.2.2.2.2.2.2.2.2.2.2.2.2.2.2.1 (hd_ 1 18 (by kernel_rfl))
    refine val_ (w1 := w_) (v := .bool true) (wanted_of rfl rfl (congrArg some e15)) rfl ?_ (hK.out _ _ _ rfl ⟨hI_.1, hI_.2.1, hI_.2.2.1, hI_.2.2.2.1, hI_.2.2.2.2.1, hI_.2.2.2.2.2.1, hI_.2.2.2.2.2.2.1, hI_.2.2.2.2.2.2.2.1, hI_.2.2.2.2.2.2.2.2.1, hI_.2.2.2.2.2.2.2.2.2.1, hI_.2.2.2.2.2.2.2.2.2.2.1, hI_.2.2.2.2.2.2.2.2.2.2.2.1, hI_.2.2.2.2.2.2.2.2.2.2.2.2.1, hI_.2.2.2.2.2.2.2.2.2.2.2.2.2.1, hI_.2.2.2.2.2.2.2.2.2.2.2.2.2.2.1, hI_.2.2.2.2.2.2.2.2.2.2.2.2.2.2.2.1, hI_.2.2.2.2.2.2.2.2.2.2.2.2.2.2.2.2.1, hI_.2.2.2.2.2.2.2.2.2.2.2.2.2.2.2.2.2.1, hI_.2.2.2.2.2.2.2.2.2.2.2.2.2.2.2.2.2.2.1, hI_.2.2.2.2.2.2.2.2.2.2.2.2.2.2.2.2.2.2.2.1, hI_.2.2.2.2.2.2.2.2.2.2.2.2.2.2.2.2.2.2.2.2.1, hI_.2.2.2.2.2.2.2.2.2.2.2.2.2.2.2.2.2.2.2.2.2.1, hI_.2.2.2.2.2.2.2.2.2.2.2.2.2.2.2.2.2.2.2.2.2.2.1, hI_.2.2.2.2.2.2.2.2.2.2.2.2.2.2.2.2.2.2.2.2.2.2.2.1, (fun _ => rfl), hI_.2.2.2.2.2.2.2.2.2.2.2.2.2.2.2.2.2.2.2.2.2.2.2.2.2.1, hI_.2.2.2.2.2.2.2.2.2.2.2.2.2.2.2.2.2.2.2.2.2.2.2.2.2.2.1, hI_.2.2.2.2.2.2.2.2.2.2.2.2.2.2.2.2.2.2.2.2.2.2.2.2.2.2.2⟩)
    go_simp
    all_goals (first | decide | rfl)
  · -- 20
    have e15 := hI_.2.2.2.2.2.2.2.2.2.2.2.2.2.2.2.2.2.2.2.2.1 (hd_ 1 15 (by kernel_rfl))
    have e19 := hI_.2.2.2.2.2.2.2.2.2.2.2.2.2.2.2.2.2.2.2.2.2.2.2.2.1 (hd_ 1 19 (by kernel_rfl))
    refine val_ (w1 := w_) (v := .bool true) (by rfl) rfl ?_ (hK.out _ _ _ rfl ⟨hI_.1, hI_.2.1, hI_.2.2.1, hI_.2.2.2.1, hI_.2.2.2.2.1, hI_.2.2.2.2.2.1, hI_.2.2.2.2.2.2.1, hI_.2.2.2.2.2.2.2.1, hI_.2.2.2.2.2.2.2.2.1, hI_.2.2.2.2.2.2.2.2.2.1, hI_.2.2.2.2.2.2.2.2.2.2.1, hI_.2.2.2.2.2.2.2.2.2.2.2.1, hI_.2.2.2.2.2.2.2.2.2.2.2.2.1, hI_.2.2.2.2.2.2.2.2.2.2.2.2.2.1, hI_.2.2.2.2.2.2.2.2.2.2.2.2.2.2.1, hI_.2.2.2.2.2.2.2.2.2.2.2.2.2.2.2.1, hI_.2.2.2.2.2.2.2.2.2.2.2.2.2.2.2.2.1, hI_.2.2.2.2.2.2.2.2.2.2.2.2.2.2.2.2.2.1, hI_.2.2.2.2.2.2.2.2.2.2.2.2.2.2.2.2.2.2.1, hI_.2.2.2.2.2.2.2.2.2.2.2.2.2.2.2.2.2.2.2.1, hI_.2.2.2.2.2.2.2.2.2.2.2.2.2.2.2.2.2.2.2.2.1, hI_.2.2.2.2.2.2.2.2.2.2.2.2.2.2.2.2.2.2.2.2.2.1, hI_.2.2.2.2.2.2.2.2.2.2.2.2.2.2.2.2.2.2.2.2.2.2.1, hI_.2.2.2.2.2.2.2.2.2.2.2.2.2.2.2.2.2.2.2.2.2.2.2.1, hI_.2.2.2.2.2.2.2.2.2.2.2.2.2.2.2.2.2.2.2.2.2.2.2.2.1, (fun _ => rfl), hI_.2.2.2.2.2.2.2.2.2.2.2.2.2.2.2.2.2.2.2.2.2.2.2.2.2.2.1, hI_.2.2.2.2.2.2.2.2.2.2.2.2.2.2.2.2.2.2.2.2.2.2.2.2.2.2.2⟩)
    go_simp
    all_goals (first | decide | rfl)
  · -- 21
    have wM := hI_.1
    have w6 := hI_.2.1
    have wF := hI_.2.2.1
    have wT := hI_.2.2.2.1
    have wV := hI_.2.2.2.2.1
    have h0 := hI_.2.2.2.2.2.1
    have h1 := hI_.2.2.2.2.2.2.1
    have h2 := hI_.2.2.2.2.2.2.2.1
    have h3 := hI_.2.2.2.2.2.2.2.2.1
    have h4 := hI_.2.2.2.2.2.2.2.2.2.1
    have h5 := hI_.2.2.2.2.2.2.2.2.2.2.1
    have h6 := hI_.2.2.2.2.2.2.2.2.2.2.2.1
    have h7 := hI_.2.2.2.2.2.2.2.2.2.2.2.2.1
    have h8 := hI_.2.2.2.2.2.2.2.2.2.2.2.2.2.1
    have h9 := hI_.2.2.2.2.2.2.2.2.2.2.2.2.2.2.1
    have h10 := hI_.2.2.2.2.2.2.2.2.2.2.2.2.2.2.2.1
    have h11 := hI_.2.2.2.2.2.2.2.2.2.2.2.2.2.2.2.2.1
    have h12 := hI_.2.2.2.2.2.2.2.2.2.2.2.2.2.2.2.2.2.1
    have h13 := hI_.2.2.2.2.2.2.2.2.2.2.2.2.2.2.2.2.2.2.1
    have h14 := hI_.2.2.2.2.2.2.2.2.2.2.2.2.2.2.2.2.2.2.2.1
    have h15 := hI_.2.2.2.2.2.2.2.2.2.2.2.2.2.2.2.2.2.2.2.2.1
    have h16 := hI_.2.2.2.2.2.2.2.2.2.2.2.2.2.2.2.2.2.2.2.2.2.1
    have h17 := hI_.2.2.2.2.2.2.2.2.2.2.2.2.2.2.2.2.2.2.2.2.2.2.1
    have h18 := hI_.2.2.2.2.2.2.2.2.2.2.2.2.2.2.2.2.2.2.2.2.2.2.2.1
    have h19 := hI_.2.2.2.2.2.2.2.2.2.2.2.2.2.2.2.2.2.2.2.2.2.2.2.2.1
    have h20 := hI_.2.2.2.2.2.2.2.2.2.2.2.2.2.2.2.2.2.2.2.2.2.2.2.2.2.1
    have h21 := hI_.2.2.2.2.2.2.2.2.2.2.2.2.2.2.2.2.2.2.2.2.2.2.2.2.2.2.1
    have h22 := hI_.2.2.2.2.2.2.2.2.2.2.2.2.2.2.2.2.2.2.2.2.2.2.2.2.2.2.2
    have e0 := h0 (hd_ 1 0 (by kernel_rfl))
    have w60 : w_.heap[g6]? = some (.cells #[.slice none 0 0, .int .i64 0, .int .i64 0] 65 (0, 0)) := by rw [hd0_] at w6; exact w6
    rw [if_pos (by rfl)]
    refine wp_store_part 65 _ _ rfl g6 0 (.agg #[.slice A2 l2.length c2, .int .i64 room, .int .i64 span]) [.slice A2 l2.length c2, .int .i64 room, .int .i64 span] ?_ ?_ rfl (by simp [Value.oneCell']) 65 _ #[.slice A2 l2.length c2, .int .i64 room, .int .i64 span] w60 (by simp) (by kernel_rfl) (by rfl) ?_
    · rfl
    · exact e0
    · exact hK.out _ undef _ rfl ⟨((setRow_ne _ _ _ _ HD.out.1).trans wM), (setRow_heap _ g6 _ _ _ _ w60), (wF.set g6 _ (.inr HD.out.2.1)), (tab_set65 wT w60 _), (Kd.V_step wV (fun k_ hk_ _ => setRow_ne _ g6 k_ _ (HD.out.2.2 k_ hk_))), h0, h1, h2, h3, h4, h5, h6, h7, h8, h9, h10, h11, h12, h13, h14, h15, h16, h17, h18, h19, h20, (fun _ => trivial), h22⟩
  · -- 22
    have e20 := hI_.2.2.2.2.2.2.2.2.2.2.2.2.2.2.2.2.2.2.2.2.2.2.2.2.2.1 (hd_ 1 20 (by kernel_rfl))
    refine val_ (w1 := w_) (v := .bool true) (by rfl) rfl ?_ (hK.out _ _ _ rfl ⟨hI_.1, hI_.2.1, hI_.2.2.1, hI_.2.2.2.1, hI_.2.2.2.2.1, hI_.2.2.2.2.2.1, hI_.2.2.2.2.2.2.1, hI_.2.2.2.2.2.2.2.1, hI_.2.2.2.2.2.2.2.2.1, hI_.2.2.2.2.2.2.2.2.2.1, hI_.2.2.2.2.2.2.2.2.2.2.1, hI_.2.2.2.2.2.2.2.2.2.2.2.1, hI_.2.2.2.2.2.2.2.2.2.2.2.2.1, hI_.2.2.2.2.2.2.2.2.2.2.2.2.2.1, hI_.2.2.2.2.2.2.2.2.2.2.2.2.2.2.1, hI_.2.2.2.2.2.2.2.2.2.2.2.2.2.2.2.1, hI_.2.2.2.2.2.2.2.2.2.2.2.2.2.2.2.2.1, hI_.2.2.2.2.2.2.2.2.2.2.2.2.2.2.2.2.2.1, hI_.2.2.2.2.2.2.2.2.2.2.2.2.2.2.2.2.2.2.1, hI_.2.2.2.2.2.2.2.2.2.2.2.2.2.2.2.2.2.2.2.1, hI_.2.2.2.2.2.2.2.2.2.2.2.2.2.2.2.2.2.2.2.2.1, hI_.2.2.2.2.2.2.2.2.2.2.2.2.2.2.2.2.2.2.2.2.2.1, hI_.2.2.2.2.2.2.2.2.2.2.2.2.2.2.2.2.2.2.2.2.2.2.1, hI_.2.2.2.2.2.2.2.2.2.2.2.2.2.2.2.2.2.2.2.2.2.2.2.1, hI_.2.2.2.2.2.2.2.2.2.2.2.2.2.2.2.2.2.2.2.2.2.2.2.2.1, hI_.2.2.2.2.2.2.2.2.2.2.2.2.2.2.2.2.2.2.2.2.2.2.2.2.2.1, hI_.2.2.2.2.2.2.2.2.2.2.2.2.2.2.2.2.2.2.2.2.2.2.2.2.2.2.1, (fun _ => rfl)⟩)
    go_simp
    all_goals (first | decide | rfl)
  intro dn_ X w9 hdn_ hI_
  obtain ⟨wM, w6, wF, wT, wV, h0, h1, h2, h3, h4, h5, h6, h7, h8, h9, h10, h11, h12, h13, h14, h15, h16, h17, h18, h19, h20, h21, h22⟩ := hI_
  rw [hdn_ 21 (by decide)] at w6
  have e22_ := h22 (hdn_ 22 (by decide))
  rw [e22_]
  have R6 := Aside0.mk (show w9.heap[g6]? = some (.cells #[.slice A2 l2.length c2, .int .i64 room, .int .i64 span] 65 (0, 0)) from w6)
  have FR := Aside0.mk wF
  have HT := Aside0.mk wT
  have HV := Aside0.mk wV
  clear e22_ wM w6 wF wT wV h0 h1 h2 h3 h4 h5 h6 h7 h8 h9 h10 h11 h12 h13 h14 h15 h16 h17 h18 h19 h20 h21 h22 hdn_
  go_wp2
  refine bodyPost_ret (results_cell_row_tmp rfl _ _ g6 65 #[.slice A2 l2.length c2, .int .i64 room, .int .i64 span] (0, 0) _ _ rfl R6.out Try.underlying65 rfl (by kernel_rfl) rfl) rfl ?_
  exact ⟨.slice A2 l2.length c2, l2, b2, rfl, HT.out, HB2.out, Kd.V_mono HV.out HOK.out, HRF.out, FR.out⟩
end Go.Proofs.Ytbifanoiailjoaa.MRatePlays
