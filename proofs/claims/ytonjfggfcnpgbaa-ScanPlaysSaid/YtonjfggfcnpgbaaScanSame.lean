/- Whether a scanner stands as the document's: what it answers (any answer, where they do not). -/
import Derived.Test.YtonjfggfcnpgbaaScanCore
import Derived.Test.YtonjfggfcnpgbaaRegBase
namespace Go.Proofs.Ytonjfggfcnpgbaa.MScanPlays
open Go.RowKit Go.Proofs.YtonjfggfcnpgbaaW.PrintWords Go.Proofs.YtonjfggfcnpgbaaW.PrintLast Go.Proofs.YtonjfggfcnpgbaaW.PrintMore Go.Proofs.Ytonjfggfcnpgbaa.Base
set_option linter.unusedVariables false
set_option linter.unusedSimpArgs false

def VS0 (g3 g : Nat) (i im nl nr : Int) (r : ByteArray) (lm : List Int) (e em ee : Option Int) (b4 : Bool) (q : Int) : Nat → Value
  | 0 => .pointer (some ⟨g, 0, none⟩)
  | 1 => .int .i64 i
  | 2 => .pointer (some ⟨g3, 1, none⟩)
  | 3 => .int .i64 im
  | 4 => .bool false
  | 5 => .bool false
  | 6 => undef
  | 7 => undef
  | 8 => undef
  | 9 => undef
  | 10 => undef
  | 11 => .bool false
  | 12 => .bool false
  | 13 => undef
  | 14 => undef
  | 15 => undef
  | 16 => undef
  | 17 => undef
  | 18 => undef
  | 19 => .bool false
  | 20 => .bool false
  | 21 => undef
  | 22 => undef
  | 23 => undef
  | 24 => undef
  | 25 => undef
  | 26 => undef
  | 27 => .bool false
  | _ => .bool false
def VS1 (g3 g : Nat) (i im nl nr : Int) (r : ByteArray) (lm : List Int) (e em ee : Option Int) (b4 : Bool) (q : Int) : Nat → Value
  | 0 => .pointer (some ⟨g, 0, none⟩)
  | 1 => .int .i64 i
  | 2 => .pointer (some ⟨g3, 1, none⟩)
  | 3 => .int .i64 im
  | 4 => .bool true
  | 5 => .bool true
  | 6 => .pointer (some ⟨g, 0, none⟩)
  | 7 => .int .i64 nl
  | 8 => .string r
  | 9 => .int .i64 nr
  | 10 => .bool false
  | 11 => .bool false
  | 12 => .bool false
  | 13 => undef
  | 14 => undef
  | 15 => undef
  | 16 => undef
  | 17 => undef
  | 18 => undef
  | 19 => .bool false
  | 20 => .bool false
  | 21 => undef
  | 22 => undef
  | 23 => undef
  | 24 => undef
  | 25 => undef
  | 26 => undef
  | 27 => .bool false
  | _ => .bool false
def VS2 (g3 g : Nat) (i im nl nr : Int) (r : ByteArray) (lm : List Int) (e em ee : Option Int) (b4 : Bool) (q : Int) : Nat → Value
  | 0 => .pointer (some ⟨g, 0, none⟩)
  | 1 => .int .i64 i
  | 2 => .pointer (some ⟨g3, 1, none⟩)
  | 3 => .int .i64 im
  | 4 => .bool true
  | 5 => .bool true
  | 6 => .pointer (some ⟨g, 0, none⟩)
  | 7 => .int .i64 nl
  | 8 => .string r
  | 9 => .int .i64 nr
  | 10 => .bool true
  | 11 => .bool true
  | 12 => .bool true
  | 13 => .pointer (some ⟨g, 0, none⟩)
  | 14 => errW e
  | 15 => .int .i64 (en e)
  | 16 => .pointer (some ⟨g3, 2, none⟩)
  | 17 => .int .i64 (en em)
  | 18 => .bool false
  | 19 => .bool false
  | 20 => .bool false
  | 21 => undef
  | 22 => undef
  | 23 => undef
  | 24 => undef
  | 25 => undef
  | 26 => undef
  | 27 => .bool false
  | _ => .bool false
def VS4 (g3 g : Nat) (i im nl nr : Int) (r : ByteArray) (lm : List Int) (e em ee : Option Int) (b4 : Bool) (q : Int) : Nat → Value
  | 0 => .pointer (some ⟨g, 0, none⟩)
  | 1 => .int .i64 i
  | 2 => .pointer (some ⟨g3, 1, none⟩)
  | 3 => .int .i64 im
  | 4 => .bool true
  | 5 => .bool true
  | 6 => .pointer (some ⟨g, 0, none⟩)
  | 7 => .int .i64 nl
  | 8 => .string r
  | 9 => .int .i64 nr
  | 10 => .bool true
  | 11 => .bool true
  | 12 => .bool true
  | 13 => .pointer (some ⟨g, 0, none⟩)
  | 14 => errW e
  | 15 => .int .i64 (en e)
  | 16 => .pointer (some ⟨g3, 2, none⟩)
  | 17 => .int .i64 (en em)
  | 18 => .bool true
  | 19 => .bool true
  | 20 => .bool true
  | 21 => .pointer (some ⟨g, 0, none⟩)
  | 22 => errW ee
  | 23 => .int .i64 (en ee)
  | 24 => .agg #[.string (strOfNums lm), .int .i64 im, .int .i64 (en em)]
  | 25 => .int .i64 q
  | 26 => .bool b4
  | 27 => .bool b4
  | _ => .bool b4
theorem suff_ {P Q : Prop} (h : P → Q) (p : P) : Q := h p
set_option maxHeartbeats 8000000 in
set_option maxRecDepth 100000 in
theorem same_c (w0 w : World) (g : Nat) (l : List Int) (i : Nat) (e : Option Int) (lm : List Int) (im : Nat) (em : Option Int) (HI : IsS60 w0 w g (strOfNums l) i e) (hB : Below w0.heap.size w0 w) (hb : Byt l) (hbm : Byt lm) (hi : i ≤ l.length) (him : im ≤ lm.length) (hl : l.length ≤ 1000000) (hlm : lm.length ≤ 1000000) (he : EOK e) (hem : EOK em) :
    Calls Try.prog 10 #[.pointer (some ⟨g, 0, none⟩), .agg #[.string (strOfNums lm), .int .i64 im, .int .i64 (en em)]] w fun e' w' => ∃ b, e' = .returned (.bool b) ∧ (l = lm → i = im → e = em → b = true) ∧ Below w.heap.size w w' := by
  refine suff_ (P :=  ∀ Q_ : Ending → World → Prop, (∀ (b : Bool) w', (l = lm → i = im → e = em → b = true) → Below w.heap.size w w' → Q_ (.returned (.bool b)) w') → Calls Try.prog 10 #[.pointer (some ⟨g, 0, none⟩), .agg #[.string (strOfNums lm), .int .i64 im, .int .i64 (en em)]] w fun e_ w_ => True ∧ Q_ e_ w_) ?_ ?_
  · intro HQ0; exact (HQ0 (fun e_ w_ => ∃ b, e_ = .returned (.bool b) ∧ (l = lm → i = im → e = em → b = true) ∧ Below w.heap.size w w_) fun b w_ h1 h2 => ⟨b, rfl, h1, h2⟩).mono fun _ _ h => h.2
  intro Q_ HQ1
  have HQ := Aside0.mk HQ1
  clear HQ1
  have HS0 := Aside0.mk (show ∀ wx, Below w.heap.size w wx → IsS60 w0 wx g (strOfNums l) i e ∧ Below w0.heap.size w0 wx from fun wx h => ⟨⟨blk_below HI.1 h, HI.2⟩, below_step hB h⟩)
  have HE := Aside0.mk he
  have HEM := Aside0.mk hem
  have hee : EOK (endV l i e) := by
    unfold endV
    cases e with
    | some c => exact he
    | none =>
      unfold EOK
      by_cases hh : i < l.length
      · simp [hh]
      · simp [hh]
  have HEE := Aside0.mk hee
  have HI0 := Aside0.mk hi
  have HBY := Aside0.mk hb
  have HREND := Aside0.mk (rEnd_is lm im em hem him)
  have HREST := Aside0.mk (rRest_is lm im em hem him)
  have hbr := leftV_byt hbm im em
  obtain ⟨P, hP⟩ : ∃ P, leftV l i e = P := ⟨_, rfl⟩
  obtain ⟨R, hR⟩ : ∃ R, leftV lm im em = R := ⟨_, rfl⟩
  have hPl : P.length ≤ 1000000 := by rw [← hP]; have := leftV_len l i e; omega
  have hRl : R.length ≤ 1000000 := by rw [← hR]; have := leftV_len lm im em; omega
  rw [hR] at HREST hbr
  have HP := Aside0.mk hP
  have HRR := Aside0.mk hR
  clear hi hb he hem hee hbm HI
  go_enter Try.func10, Try.ntmps10
  rcases P with _ | ⟨x, P⟩ <;> rcases R with _ | ⟨y, R⟩
  rotate_left 1
  · have hsz : (strOfNums (y :: R)).size = R.length + 1 := by rw [son_size]; simp
    go_wp2_with (first | ((with_reducible refine gate_dst (N := 3) rfl ?_); refine box_event ?hg (N := 3) ?hd (cs := #[.string (strOfNums lm), .int .i64 im, .int .i64 (en em)]) (t := 31) ?hr ?_; (case hd => rfl); (case hg => rfl); (case hr => go_simp; try rfl); intro g3 hg3_ w3 hx3 hb3; clear hg3_; have B3 := Aside0.mk hb3; have BK30 := Aside0.mk hx3; clear hx3 hb3) | ((with_reducible refine gate_dst (N := 8) rfl ?_); refine wpList_load_row rfl 31 _ rfl g3 rfl 31 _ (0, 0) _ BK30.out Try.underlying31 rfl (by kernel_rfl) ?_) | (go_at_call 29; refine (r4_Rest.calls _ _ _ _ _ HREST.out).mono ?_; rintro e_ w4 ⟨rfl, hb4⟩; have B4 := Aside0.mk (below_step B3.out hb4); have BK4 := Aside0.mk (blk_below BK30.out hb4); clear hb4) | (go_at_call 22; refine (string_Peek_c (HS0.out _ B4.out).1 (HS0.out _ B4.out).2 HBY.out HI0.out).mono ?_; rw [HP.out]; rintro e_ w5 ⟨rfl, hb5⟩; have B5 := Aside0.mk (below_step B4.out hb5); have BK3 := Aside0.mk (blk_below BK4.out hb5); clear hb5 B3 BK30 B4 BK4))
    go_ret
    exact ⟨trivial, HQ.out _ _ (fun h1 h2 h3 => by (subst h1; subst h2; subst h3; have := HP.out.symm.trans HRR.out; cases this)) B5.out⟩
  · have hsz : (strOfNums []).size = 0 := by rw [son_size]; rfl
    go_wp2_with (first | ((with_reducible refine gate_dst (N := 3) rfl ?_); refine box_event ?hg (N := 3) ?hd (cs := #[.string (strOfNums lm), .int .i64 im, .int .i64 (en em)]) (t := 31) ?hr ?_; (case hd => rfl); (case hg => rfl); (case hr => go_simp; try rfl); intro g3 hg3_ w3 hx3 hb3; clear hg3_; have B3 := Aside0.mk hb3; have BK30 := Aside0.mk hx3; clear hx3 hb3) | ((with_reducible refine gate_dst (N := 8) rfl ?_); refine wpList_load_row rfl 31 _ rfl g3 rfl 31 _ (0, 0) _ BK30.out Try.underlying31 rfl (by kernel_rfl) ?_) | (go_at_call 29; refine (r4_Rest.calls _ _ _ _ _ HREST.out).mono ?_; rintro e_ w4 ⟨rfl, hb4⟩; have B4 := Aside0.mk (below_step B3.out hb4); have BK4 := Aside0.mk (blk_below BK30.out hb4); clear hb4) | (go_at_call 22; refine (string_Peek_c (HS0.out _ B4.out).1 (HS0.out _ B4.out).2 HBY.out HI0.out).mono ?_; rw [HP.out]; rintro e_ w5 ⟨rfl, hb5⟩; have B5 := Aside0.mk (below_step B4.out hb5); have BK3 := Aside0.mk (blk_below BK4.out hb5); clear hb5 B3 BK30 B4 BK4))
    go_ret
    exact ⟨trivial, HQ.out _ _ (fun h1 h2 h3 => by (subst h1; subst h2; subst h3; have := HP.out.symm.trans HRR.out; cases this)) B5.out⟩
  have hsz : (strOfNums (y :: R)).size = R.length + 1 := by rw [son_size]; simp
  have hix : ((strOfNums (y :: R))[0]'(by rw [hsz]; omega)).toNat = y := by
    have q := bt_at_son hbr (i := 0) (by simp)
    unfold bt at q
    simpa [hsz] using q
  rcases Classical.em (x = y) with hxy | hxy
  rotate_left 1
  · have hne : (x != y) = true := by simp [hxy]
    go_wp2_with (first | ((with_reducible refine gate_dst (N := 3) rfl ?_); refine box_event ?hg (N := 3) ?hd (cs := #[.string (strOfNums lm), .int .i64 im, .int .i64 (en em)]) (t := 31) ?hr ?_; (case hd => rfl); (case hg => rfl); (case hr => go_simp; try rfl); intro g3 hg3_ w3 hx3 hb3; clear hg3_; have B3 := Aside0.mk hb3; have BK30 := Aside0.mk hx3; clear hx3 hb3) | ((with_reducible refine gate_dst (N := 8) rfl ?_); refine wpList_load_row rfl 31 _ rfl g3 rfl 31 _ (0, 0) _ BK30.out Try.underlying31 rfl (by kernel_rfl) ?_) | (go_at_call 29; refine (r4_Rest.calls _ _ _ _ _ HREST.out).mono ?_; rintro e_ w4 ⟨rfl, hb4⟩; have B4 := Aside0.mk (below_step B3.out hb4); have BK4 := Aside0.mk (blk_below BK30.out hb4); clear hb4) | (go_at_call 22; refine (string_Peek_c (HS0.out _ B4.out).1 (HS0.out _ B4.out).2 HBY.out HI0.out).mono ?_; rw [HP.out]; rintro e_ w5 ⟨rfl, hb5⟩; have B5 := Aside0.mk (below_step B4.out hb5); have BK3 := Aside0.mk (blk_below BK4.out hb5); clear hb5 B3 BK30 B4 BK4))
    go_ret
    exact ⟨trivial, HQ.out _ _ (fun h1 h2 h3 => by (subst h1; subst h2; subst h3; have q_ := HP.out.symm.trans HRR.out; injection q_ with q1_; exact absurd q1_ hxy)) B5.out⟩
  rotate_left 1
  subst hxy
  go_wp2_with (first | ((with_reducible refine gate_dst (N := 3) rfl ?_); refine box_event ?hg (N := 3) ?hd (cs := #[.string (strOfNums lm), .int .i64 im, .int .i64 (en em)]) (t := 31) ?hr ?_; (case hd => rfl); (case hg => rfl); (case hr => go_simp; try rfl); intro g3 hg3_ w3 hx3 hb3; clear hg3_; have B3 := Aside0.mk hb3; have BK30 := Aside0.mk hx3; clear hx3 hb3) | ((with_reducible refine gate_dst (N := 8) rfl ?_); refine wpList_load_row rfl 31 _ rfl g3 rfl 31 _ (0, 0) _ BK30.out Try.underlying31 rfl (by kernel_rfl) ?_) | (go_at_call 29; refine (r4_Rest.calls _ _ _ _ _ HREST.out).mono ?_; rintro e_ w4 ⟨rfl, hb4⟩; have B4 := Aside0.mk (below_step B3.out hb4); have BK4 := Aside0.mk (blk_below BK30.out hb4); clear hb4) | (go_at_call 22; refine (string_Peek_c (HS0.out _ B4.out).1 (HS0.out _ B4.out).2 HBY.out HI0.out).mono ?_; rw [HP.out]; rintro e_ w5 ⟨rfl, hb5⟩; have B5 := Aside0.mk (below_step B4.out hb5); have BK3 := Aside0.mk (blk_below BK4.out hb5); clear hb5 B3 BK30 B4 BK4))
  have HNR := Aside0.mk (show ((strOfNums (x :: R)).size : Int) = (R.length : Int) + 1 by rw [hsz]; rfl)
  have HNL := Aside0.mk (show ((leftV lm im em).length : Int) = (R.length : Int) + 1 by rw [HRR.out]; rfl)
  clear hix hsz hbr HREST hR HRR
  generalize strOfNums (x :: R) = rs at HNR ⊢
  generalize (R.length : Int) + 1 = nr at HNR HNL ⊢
  rotate_left 1
  rw [show strOfNums [] = ByteArray.empty from rfl] at HREST
  have hsz : ByteArray.empty.size = 0 := rfl
  go_wp2_with (first | ((with_reducible refine gate_dst (N := 3) rfl ?_); refine box_event ?hg (N := 3) ?hd (cs := #[.string (strOfNums lm), .int .i64 im, .int .i64 (en em)]) (t := 31) ?hr ?_; (case hd => rfl); (case hg => rfl); (case hr => go_simp; try rfl); intro g3 hg3_ w3 hx3 hb3; clear hg3_; have B3 := Aside0.mk hb3; have BK30 := Aside0.mk hx3; clear hx3 hb3) | ((with_reducible refine gate_dst (N := 8) rfl ?_); refine wpList_load_row rfl 31 _ rfl g3 rfl 31 _ (0, 0) _ BK30.out Try.underlying31 rfl (by kernel_rfl) ?_) | (go_at_call 29; refine (r4_Rest.calls _ _ _ _ _ HREST.out).mono ?_; rintro e_ w4 ⟨rfl, hb4⟩; have B4 := Aside0.mk (below_step B3.out hb4); have BK4 := Aside0.mk (blk_below BK30.out hb4); clear hb4) | (go_at_call 22; refine (string_Peek_c (HS0.out _ B4.out).1 (HS0.out _ B4.out).2 HBY.out HI0.out).mono ?_; rw [HP.out]; rintro e_ w5 ⟨rfl, hb5⟩; have B5 := Aside0.mk (below_step B4.out hb5); have BK3 := Aside0.mk (blk_below BK4.out hb5); clear hb5 B3 BK30 B4 BK4))
  have HNR := Aside0.mk (show (ByteArray.empty.size : Int) = 0 from rfl)
  have HNL := Aside0.mk (show ((leftV lm im em).length : Int) = 0 by rw [HRR.out]; rfl)
  clear hsz hbr HREST hR HRR
  generalize ByteArray.empty = rs at HNR ⊢
  obtain ⟨nr, hnr⟩ : ∃ nr : Int, nr = 0 := ⟨_, rfl⟩
  rw [← hnr] at HNR HNL
  clear hnr
  all_goals
    clear hP hPl hRl
    have HS := Aside0.mk (fun (wx : World) (h_ : Below w5.drew.heap.size w5.drew wx) => HS0.out wx (below_step B5.out ((Below.refl w5.heap.size w5).drew.trans h_)))
    obtain ⟨nl, hnl⟩ : ∃ nl : Int, ((leftV l i e).length : Int) = nl := ⟨_, rfl⟩
    have HB4 := Aside0.mk (rfl : (en (endV l i e) == en (endV lm im em)) = (en (endV l i e) == en (endV lm im em)))
    by_cases c1 : i = im
    · have HB1 := Aside0.mk (show ((i : Int) == (im : Int)) = true ∧ ((i : Int) = (im : Int) ↔ True) by simp [c1])
      have C1 := Aside0.mk c1; clear c1
      by_cases c2 : nl = nr
      · have HB2 := Aside0.mk (show (nl == nr) = true ∧ (nl = nr ↔ True) by simp [c2])
        have C2 := Aside0.mk c2; clear c2
        by_cases c3 : en e = en em
        · have HB3 := Aside0.mk (show (en e == en em) = true ∧ (en e = en em ↔ True) by simp [c3])
          have C3 := Aside0.mk c3; clear c3
          refine region_below (T := ?_) (n := 0) [some 37, some 38, some 39, some 40, some 41, some 42, some 43, some 44, some 45, some 46, some 47, some 48, some 49, some 50, some 51, some 52, some 53, some 54, some 55, some 56, some 57, some 58, some 59, some 60, some 61, some 62, some 63, some 64, some 4] ?_ (fun i_ v_ _ => v_ = VS4 g3 g (i : Int) (im : Int) nl nr rs lm e em (endV l i e) (en (endV l i e) == en (endV lm im em)) (en (endV lm im em)) i_) (by kernel_rfl) (by kernel_rfl) (fun i_ v_ w_ w1_ _ h_ _ => h_) [0, 1, 2, 3, 4, 5, 6, 7, 8, 9, 10, 11, 12, 13, 14, 15, 16, 17, 18, 19, 20, 21, 22, 23, 24, 25, 26, 27, 28] rfl (.cons (some 37) rfl rfl (fun X wx hG hX K hK => ?_) (.cons (some 38) rfl rfl (fun X wx hG hX K hK => ?_) (.cons (some 39) rfl rfl (fun X wx hG hX K hK => ?_) (.cons (some 40) rfl rfl (fun X wx hG hX K hK => ?_) (.cons (some 41) rfl rfl (fun X wx hG hX K hK => ?_) (.cons (some 42) rfl rfl (fun X wx hG hX K hK => ?_) (.cons (some 43) rfl rfl (fun X wx hG hX K hK => ?_) (.cons (some 44) rfl rfl (fun X wx hG hX K hK => ?_) (.cons (some 45) rfl rfl (fun X wx hG hX K hK => ?_) (.cons (some 46) rfl rfl (fun X wx hG hX K hK => ?_) (.cons (some 47) rfl rfl (fun X wx hG hX K hK => ?_) (.cons (some 48) rfl rfl (fun X wx hG hX K hK => ?_) (.cons (some 49) rfl rfl (fun X wx hG hX K hK => ?_) (.cons (some 50) rfl rfl (fun X wx hG hX K hK => ?_) (.cons (some 51) rfl rfl (fun X wx hG hX K hK => ?_) (.cons (some 52) rfl rfl (fun X wx hG hX K hK => ?_) (.cons (some 53) rfl rfl (fun X wx hG hX K hK => ?_) (.cons (some 54) rfl rfl (fun X wx hG hX K hK => ?_) (.cons (some 55) rfl rfl (fun X wx hG hX K hK => ?_) (.cons (some 56) rfl rfl (fun X wx hG hX K hK => ?_) (.cons (some 57) rfl rfl (fun X wx hG hX K hK => ?_) (.cons (some 58) rfl rfl (fun X wx hG hX K hK => ?_) (.cons (some 59) rfl rfl (fun X wx hG hX K hK => ?_) (.cons (some 60) rfl rfl (fun X wx hG hX K hK => ?_) (.cons (some 61) rfl rfl (fun X wx hG hX K hK => ?_) (.cons (some 62) rfl rfl (fun X wx hG hX K hK => ?_) (.cons (some 63) rfl rfl (fun X wx hG hX K hK => ?_) (.cons (some 64) rfl rfl (fun X wx hG hX K hK => ?_) (.cons (some 4) rfl rfl (fun X wx hG hX K hK => ?_) .nil))))))))))))))))))))))))))))) (by kernel_rfl) #[true, true, true, true, true, true, true, true, true, true, true, true, true, true, true, true, true, true, true, true, true, true, true, true, true, true, true, true, true] (by kernel_rfl) ?_
          rotate_left 1
          · intro X
            simp only [fill, Act.put, sl_, Nat.zero_add, Nat.reduceAdd]
            rfl
          · refine val_ (w1 := wx) (v := .pointer (some ⟨g, 0, none⟩)) (by rfl) rfl ?_ (hK.out _ _ _ rfl (Below.refl _ _) rfl)
            go_simp
          · have e0 : X 0 = .pointer (some ⟨g, 0, none⟩) := hX 3 0 (by kernel_rfl)
            refine goes_ Try.func14 (by kernel_rfl) rfl #[X 0] (by rfl) rfl rfl zq23 ?_
            refine calls_args (as' := #[.pointer (some ⟨g, 0, none⟩)]) (by rw [e0]) ?_
            refine (string_At_c (HS.out wx hG).1 (HS.out wx hG).2).mono ?_
            rintro e_ w' ⟨he_, hb_⟩
            obtain rfl := he_
            exact ⟨_, rfl, hK.out _ _ _ rfl hb_ rfl⟩
          · refine val_ (w1 := wx) (v := .pointer (some ⟨g3, 1, none⟩)) (by rfl) rfl ?_ (hK.out _ _ _ rfl (Below.refl _ _) rfl)
            go_simp
          · have e2 : X 2 = .pointer (some ⟨g3, 1, none⟩) := hX 3 2 (by kernel_rfl)
            have z_ : wx.cell? ⟨g3, 1, none⟩ = some (.int .i64 im) := (blk_cell (blk_below (blk_drew BK3.out) hG) 1).trans rfl
            refine val_ (w1 := wx) (v := .int .i64 im) (by rfl) rfl ?_ (hK.out _ _ _ rfl (Below.refl _ _) rfl)
            go_simp
          · have e1 : X 1 = .int .i64 i := hX 3 1 (by kernel_rfl)
            have e3 : X 3 = .int .i64 im := hX 3 3 (by kernel_rfl)
            obtain ⟨c_, d_⟩ := HB1.out
            refine val_ (w1 := wx) (v := .bool true) (by rfl) rfl ?_ (hK.out _ _ _ rfl (Below.refl _ _) rfl)
            go_simp
          · have e4 : X 4 = .bool true := hX 3 4 (by kernel_rfl)
            refine val_ (w1 := wx) (v := .bool true) (by rfl) rfl ?_ (hK.out _ _ _ rfl (Below.refl _ _) rfl)
            go_simp
          · have e5 : X 5 = .bool true := hX 3 5 (by kernel_rfl)
            refine val_ (w1 := wx) (v := .pointer (some ⟨g, 0, none⟩)) (wanted_of rfl rfl (congrArg some e5)) rfl ?_ (hK.out _ _ _ rfl (Below.refl _ _) rfl)
            go_simp
          · have e5 : X 5 = .bool true := hX 3 5 (by kernel_rfl)
            have e6 : X 6 = .pointer (some ⟨g, 0, none⟩) := hX 3 6 (by kernel_rfl)
            refine goes_ Try.func18 (by kernel_rfl) rfl #[X 6] (wanted_of rfl rfl (congrArg some e5)) rfl rfl zq23 ?_
            refine calls_args (as' := #[.pointer (some ⟨g, 0, none⟩)]) (by rw [e6]) ?_
            refine (string_Left_c (HS.out wx hG).1 (HS.out wx hG).2 HI0.out).mono ?_
            rintro e_ w' ⟨he_, hb_⟩
            rw [hnl] at he_
            obtain rfl := he_
            exact ⟨_, rfl, hK.out _ _ _ rfl hb_ rfl⟩
          · have e5 : X 5 = .bool true := hX 3 5 (by kernel_rfl)
            refine val_ (w1 := wx) (v := .string rs) (wanted_of rfl rfl (congrArg some e5)) rfl ?_ (hK.out _ _ _ rfl (Below.refl _ _) rfl)
            go_simp
          · have e5 : X 5 = .bool true := hX 3 5 (by kernel_rfl)
            have e8 : X 8 = .string rs := hX 3 8 (by kernel_rfl)
            have c_ := HNR.out
            refine val_ (w1 := wx) (v := .int .i64 nr) (wanted_of rfl rfl (congrArg some e5)) rfl ?_ (hK.out _ _ _ rfl (Below.refl _ _) rfl)
            go_simp
          · have e5 : X 5 = .bool true := hX 3 5 (by kernel_rfl)
            have e7 : X 7 = .int .i64 nl := hX 3 7 (by kernel_rfl)
            have e9 : X 9 = .int .i64 nr := hX 3 9 (by kernel_rfl)
            obtain ⟨c_, d_⟩ := HB2.out
            refine val_ (w1 := wx) (v := .bool true) (wanted_of rfl rfl (congrArg some e5)) rfl ?_ (hK.out _ _ _ rfl (Below.refl _ _) rfl)
            go_simp
          · have e5 : X 5 = .bool true := hX 3 5 (by kernel_rfl)
            have e10 : X 10 = .bool true := hX 3 10 (by kernel_rfl)
            refine val_ (w1 := wx) (v := .bool true) (by rfl) rfl ?_ (hK.out _ _ _ rfl (Below.refl _ _) rfl)
            go_simp
          · have e11 : X 11 = .bool true := hX 3 11 (by kernel_rfl)
            refine val_ (w1 := wx) (v := .bool true) (by rfl) rfl ?_ (hK.out _ _ _ rfl (Below.refl _ _) rfl)
            go_simp
          · have e12 : X 12 = .bool true := hX 3 12 (by kernel_rfl)
            refine val_ (w1 := wx) (v := .pointer (some ⟨g, 0, none⟩)) (wanted_of rfl rfl (congrArg some e12)) rfl ?_ (hK.out _ _ _ rfl (Below.refl _ _) rfl)
            go_simp
          · have e12 : X 12 = .bool true := hX 3 12 (by kernel_rfl)
            have e13 : X 13 = .pointer (some ⟨g, 0, none⟩) := hX 3 13 (by kernel_rfl)
            refine goes_ Try.func15 (by kernel_rfl) rfl #[X 13] (wanted_of rfl rfl (congrArg some e12)) rfl rfl zq23 ?_
            refine calls_args (as' := #[.pointer (some ⟨g, 0, none⟩)]) (by rw [e13]) ?_
            refine (string_Err_c (HS.out wx hG).1 (HS.out wx hG).2).mono ?_
            rintro e_ w' ⟨he_, hb_⟩
            obtain rfl := he_
            exact ⟨_, rfl, hK.out _ _ _ rfl hb_ rfl⟩
          · have e12 : X 12 = .bool true := hX 3 12 (by kernel_rfl)
            have e14 : X 14 = errW e := hX 3 14 (by kernel_rfl)
            refine goes_ Try.func30 (by kernel_rfl) rfl #[X 14] (wanted_of rfl rfl (congrArg some e12)) rfl rfl zq23 ?_
            refine calls_args (as' := #[errW e]) (by rw [e14]) ?_
            refine (horologenum_Num.calls e _ wx (num_is e HE.out)).mono ?_
            rintro e_ w' ⟨he_, ⟨⟨m_, rfl⟩⟩⟩
            obtain rfl := he_
            exact ⟨_, rfl, hK.out _ _ _ rfl (pw_below_drewN (Below.refl _ _) m_) rfl⟩
          · have e12 : X 12 = .bool true := hX 3 12 (by kernel_rfl)
            refine val_ (w1 := wx) (v := .pointer (some ⟨g3, 2, none⟩)) (wanted_of rfl rfl (congrArg some e12)) rfl ?_ (hK.out _ _ _ rfl (Below.refl _ _) rfl)
            go_simp
          · have e12 : X 12 = .bool true := hX 3 12 (by kernel_rfl)
            have e16 : X 16 = .pointer (some ⟨g3, 2, none⟩) := hX 3 16 (by kernel_rfl)
            have z_ : wx.cell? ⟨g3, 2, none⟩ = some (.int .i64 (en em)) := (blk_cell (blk_below (blk_drew BK3.out) hG) 2).trans rfl
            refine val_ (w1 := wx) (v := .int .i64 (en em)) (wanted_of rfl rfl (congrArg some e12)) rfl ?_ (hK.out _ _ _ rfl (Below.refl _ _) rfl)
            go_simp
          · have e12 : X 12 = .bool true := hX 3 12 (by kernel_rfl)
            have e15 : X 15 = .int .i64 (en e) := hX 3 15 (by kernel_rfl)
            have e17 : X 17 = .int .i64 (en em) := hX 3 17 (by kernel_rfl)
            obtain ⟨c_, d_⟩ := HB3.out
            refine val_ (w1 := wx) (v := .bool true) (wanted_of rfl rfl (congrArg some e12)) rfl ?_ (hK.out _ _ _ rfl (Below.refl _ _) rfl)
            go_simp
          · have e12 : X 12 = .bool true := hX 3 12 (by kernel_rfl)
            have e18 : X 18 = .bool true := hX 3 18 (by kernel_rfl)
            refine val_ (w1 := wx) (v := .bool true) (by rfl) rfl ?_ (hK.out _ _ _ rfl (Below.refl _ _) rfl)
            go_simp
          · have e19 : X 19 = .bool true := hX 3 19 (by kernel_rfl)
            refine val_ (w1 := wx) (v := .bool true) (by rfl) rfl ?_ (hK.out _ _ _ rfl (Below.refl _ _) rfl)
            go_simp
          · have e20 : X 20 = .bool true := hX 3 20 (by kernel_rfl)
            refine val_ (w1 := wx) (v := .pointer (some ⟨g, 0, none⟩)) (wanted_of rfl rfl (congrArg some e20)) rfl ?_ (hK.out _ _ _ rfl (Below.refl _ _) rfl)
            go_simp
          · have e20 : X 20 = .bool true := hX 3 20 (by kernel_rfl)
            have e21 : X 21 = .pointer (some ⟨g, 0, none⟩) := hX 3 21 (by kernel_rfl)
            refine goes_ Try.func28 (by kernel_rfl) rfl #[X 21] (wanted_of rfl rfl (congrArg some e20)) rfl rfl zq23 ?_
            refine calls_args (as' := #[.pointer (some ⟨g, 0, none⟩)]) (by rw [e21]) ?_
            refine (string_End_c (HS.out wx hG).1 (HS.out wx hG).2 HI0.out).mono ?_
            rintro e_ w' ⟨he_, hb_⟩
            obtain rfl := he_
            exact ⟨_, rfl, hK.out _ _ _ rfl hb_ rfl⟩
          · have e20 : X 20 = .bool true := hX 3 20 (by kernel_rfl)
            have e22 : X 22 = errW (endV l i e) := hX 3 22 (by kernel_rfl)
            refine goes_ Try.func30 (by kernel_rfl) rfl #[X 22] (wanted_of rfl rfl (congrArg some e20)) rfl rfl zq23 ?_
            refine calls_args (as' := #[errW (endV l i e)]) (by rw [e22]) ?_
            refine (horologenum_Num.calls (endV l i e) _ wx (num_is (endV l i e) HEE.out)).mono ?_
            rintro e_ w' ⟨he_, ⟨⟨m_, rfl⟩⟩⟩
            obtain rfl := he_
            exact ⟨_, rfl, hK.out _ _ _ rfl (pw_below_drewN (Below.refl _ _) m_) rfl⟩
          · have e20 : X 20 = .bool true := hX 3 20 (by kernel_rfl)
            have z0_ : wx.cell? ⟨g3, 0, none⟩ = some (.string (strOfNums lm)) := (blk_cell (blk_below (blk_drew BK3.out) hG) 0).trans rfl
            have z1_ : wx.cell? ⟨g3, 1, none⟩ = some (.int .i64 im) := (blk_cell (blk_below (blk_drew BK3.out) hG) 1).trans rfl
            have z2_ : wx.cell? ⟨g3, 2, none⟩ = some (.int .i64 (en em)) := (blk_cell (blk_below (blk_drew BK3.out) hG) 2).trans rfl
            refine val_ (w1 := wx) (v := .agg #[.string (strOfNums lm), .int .i64 im, .int .i64 (en em)]) (wanted_of rfl rfl (congrArg some e20)) rfl ?_ (hK.out _ _ _ rfl (Below.refl _ _) rfl)
            go_simp
          · have e20 : X 20 = .bool true := hX 3 20 (by kernel_rfl)
            have e24 : X 24 = .agg #[.string (strOfNums lm), .int .i64 im, .int .i64 (en em)] := hX 3 24 (by kernel_rfl)
            refine goes_ Try.func31 (by kernel_rfl) rfl #[X 24] (wanted_of rfl rfl (congrArg some e20)) rfl rfl zq23 ?_
            refine calls_args (as' := #[.agg #[.string (strOfNums lm), .int .i64 im, .int .i64 (en em)]]) (by rw [e24]) ?_
            refine (r4_End.calls _ _ _ _ wx HREND.out).mono ?_
            rintro e_ w' ⟨he_, hb_⟩
            obtain rfl := he_
            exact ⟨_, rfl, hK.out _ _ _ rfl hb_ rfl⟩
          · have e20 : X 20 = .bool true := hX 3 20 (by kernel_rfl)
            have e23 : X 23 = .int .i64 (en (endV l i e)) := hX 3 23 (by kernel_rfl)
            have e25 : X 25 = .int .i64 (en (endV lm im em)) := hX 3 25 (by kernel_rfl)
            have c_ := HB4.out
            refine val_ (w1 := wx) (v := .bool (en (endV l i e) == en (endV lm im em))) (wanted_of rfl rfl (congrArg some e20)) rfl ?_ (hK.out _ _ _ rfl (Below.refl _ _) rfl)
            go_simp
          · have e20 : X 20 = .bool true := hX 3 20 (by kernel_rfl)
            have e26 : X 26 = .bool (en (endV l i e) == en (endV lm im em)) := hX 3 26 (by kernel_rfl)
            refine val_ (w1 := wx) (v := .bool (en (endV l i e) == en (endV lm im em))) (by rfl) rfl ?_ (hK.out _ _ _ rfl (Below.refl _ _) rfl)
            go_simp
          · have e27 : X 27 = .bool (en (endV l i e) == en (endV lm im em)) := hX 3 27 (by kernel_rfl)
            refine val_ (w1 := wx) (v := .bool (en (endV l i e) == en (endV lm im em))) (by rfl) rfl ?_ (hK.out _ _ _ rfl (Below.refl _ _) rfl)
            go_simp
          intro X wx hG hX
          refine tail_done (by kernel_rfl) ?_
          have r_ : X 28 = .bool (en (endV l i e) == en (endV lm im em)) := hX 28 (by decide)
          rw [r_]
          go_wp2
          exact HQ.out (en (endV l i e) == en (endV lm im em)) _ (fun h1 h2 h3 => by (subst h1; subst h2; subst h3; simp)) (below_step B5.out hG)
        · have HB3 := Aside0.mk (show (en e == en em) = false ∧ ¬ en e = en em by simp [c3])
          have C3 := Aside0.mk c3; clear c3
          refine region_below (T := ?_) (n := 0) [some 37, some 38, some 39, some 40, some 41, some 42, some 43, some 44, some 45, some 46, some 47, some 48, some 49, some 50, some 51, some 52, some 53, some 54, some 55, some 56, some 57, some 58, some 59, some 60, some 61, some 62, some 63, some 64, some 4] ?_ (fun i_ v_ _ => v_ = VS2 g3 g (i : Int) (im : Int) nl nr rs lm e em (endV l i e) (en (endV l i e) == en (endV lm im em)) (en (endV lm im em)) i_) (by kernel_rfl) (by kernel_rfl) (fun i_ v_ w_ w1_ _ h_ _ => h_) [0, 1, 2, 3, 4, 5, 6, 7, 8, 9, 10, 11, 12, 13, 14, 15, 16, 17, 18, 19, 20, 21, 22, 23, 24, 25, 26, 27, 28] rfl (.cons (some 37) rfl rfl (fun X wx hG hX K hK => ?_) (.cons (some 38) rfl rfl (fun X wx hG hX K hK => ?_) (.cons (some 39) rfl rfl (fun X wx hG hX K hK => ?_) (.cons (some 40) rfl rfl (fun X wx hG hX K hK => ?_) (.cons (some 41) rfl rfl (fun X wx hG hX K hK => ?_) (.cons (some 42) rfl rfl (fun X wx hG hX K hK => ?_) (.cons (some 43) rfl rfl (fun X wx hG hX K hK => ?_) (.cons (some 44) rfl rfl (fun X wx hG hX K hK => ?_) (.cons (some 45) rfl rfl (fun X wx hG hX K hK => ?_) (.cons (some 46) rfl rfl (fun X wx hG hX K hK => ?_) (.cons (some 47) rfl rfl (fun X wx hG hX K hK => ?_) (.cons (some 48) rfl rfl (fun X wx hG hX K hK => ?_) (.cons (some 49) rfl rfl (fun X wx hG hX K hK => ?_) (.cons (some 50) rfl rfl (fun X wx hG hX K hK => ?_) (.cons (some 51) rfl rfl (fun X wx hG hX K hK => ?_) (.cons (some 52) rfl rfl (fun X wx hG hX K hK => ?_) (.cons (some 53) rfl rfl (fun X wx hG hX K hK => ?_) (.cons (some 54) rfl rfl (fun X wx hG hX K hK => ?_) (.cons (some 55) rfl rfl (fun X wx hG hX K hK => ?_) (.cons (some 56) rfl rfl (fun X wx hG hX K hK => ?_) (.cons (some 57) rfl rfl (fun X wx hG hX K hK => ?_) (.cons (some 58) rfl rfl (fun X wx hG hX K hK => ?_) (.cons (some 59) rfl rfl (fun X wx hG hX K hK => ?_) (.cons (some 60) rfl rfl (fun X wx hG hX K hK => ?_) (.cons (some 61) rfl rfl (fun X wx hG hX K hK => ?_) (.cons (some 62) rfl rfl (fun X wx hG hX K hK => ?_) (.cons (some 63) rfl rfl (fun X wx hG hX K hK => ?_) (.cons (some 64) rfl rfl (fun X wx hG hX K hK => ?_) (.cons (some 4) rfl rfl (fun X wx hG hX K hK => ?_) .nil))))))))))))))))))))))))))))) (by kernel_rfl) #[true, true, true, true, true, true, true, true, true, true, true, true, true, true, true, true, true, true, true, true, true, true, true, true, true, true, true, true, true] (by kernel_rfl) ?_
          rotate_left 1
          · intro X
            simp only [fill, Act.put, sl_, Nat.zero_add, Nat.reduceAdd]
            rfl
          · refine val_ (w1 := wx) (v := .pointer (some ⟨g, 0, none⟩)) (by rfl) rfl ?_ (hK.out _ _ _ rfl (Below.refl _ _) rfl)
            go_simp
          · have e0 : X 0 = .pointer (some ⟨g, 0, none⟩) := hX 3 0 (by kernel_rfl)
            refine goes_ Try.func14 (by kernel_rfl) rfl #[X 0] (by rfl) rfl rfl zq23 ?_
            refine calls_args (as' := #[.pointer (some ⟨g, 0, none⟩)]) (by rw [e0]) ?_
            refine (string_At_c (HS.out wx hG).1 (HS.out wx hG).2).mono ?_
            rintro e_ w' ⟨he_, hb_⟩
            obtain rfl := he_
            exact ⟨_, rfl, hK.out _ _ _ rfl hb_ rfl⟩
          · refine val_ (w1 := wx) (v := .pointer (some ⟨g3, 1, none⟩)) (by rfl) rfl ?_ (hK.out _ _ _ rfl (Below.refl _ _) rfl)
            go_simp
          · have e2 : X 2 = .pointer (some ⟨g3, 1, none⟩) := hX 3 2 (by kernel_rfl)
            have z_ : wx.cell? ⟨g3, 1, none⟩ = some (.int .i64 im) := (blk_cell (blk_below (blk_drew BK3.out) hG) 1).trans rfl
            refine val_ (w1 := wx) (v := .int .i64 im) (by rfl) rfl ?_ (hK.out _ _ _ rfl (Below.refl _ _) rfl)
            go_simp
          · have e1 : X 1 = .int .i64 i := hX 3 1 (by kernel_rfl)
            have e3 : X 3 = .int .i64 im := hX 3 3 (by kernel_rfl)
            obtain ⟨c_, d_⟩ := HB1.out
            refine val_ (w1 := wx) (v := .bool true) (by rfl) rfl ?_ (hK.out _ _ _ rfl (Below.refl _ _) rfl)
            go_simp
          · have e4 : X 4 = .bool true := hX 3 4 (by kernel_rfl)
            refine val_ (w1 := wx) (v := .bool true) (by rfl) rfl ?_ (hK.out _ _ _ rfl (Below.refl _ _) rfl)
            go_simp
          · have e5 : X 5 = .bool true := hX 3 5 (by kernel_rfl)
            refine val_ (w1 := wx) (v := .pointer (some ⟨g, 0, none⟩)) (wanted_of rfl rfl (congrArg some e5)) rfl ?_ (hK.out _ _ _ rfl (Below.refl _ _) rfl)
            go_simp
          · have e5 : X 5 = .bool true := hX 3 5 (by kernel_rfl)
            have e6 : X 6 = .pointer (some ⟨g, 0, none⟩) := hX 3 6 (by kernel_rfl)
            refine goes_ Try.func18 (by kernel_rfl) rfl #[X 6] (wanted_of rfl rfl (congrArg some e5)) rfl rfl zq23 ?_
            refine calls_args (as' := #[.pointer (some ⟨g, 0, none⟩)]) (by rw [e6]) ?_
            refine (string_Left_c (HS.out wx hG).1 (HS.out wx hG).2 HI0.out).mono ?_
            rintro e_ w' ⟨he_, hb_⟩
            rw [hnl] at he_
            obtain rfl := he_
            exact ⟨_, rfl, hK.out _ _ _ rfl hb_ rfl⟩
          · have e5 : X 5 = .bool true := hX 3 5 (by kernel_rfl)
            refine val_ (w1 := wx) (v := .string rs) (wanted_of rfl rfl (congrArg some e5)) rfl ?_ (hK.out _ _ _ rfl (Below.refl _ _) rfl)
            go_simp
          · have e5 : X 5 = .bool true := hX 3 5 (by kernel_rfl)
            have e8 : X 8 = .string rs := hX 3 8 (by kernel_rfl)
            have c_ := HNR.out
            refine val_ (w1 := wx) (v := .int .i64 nr) (wanted_of rfl rfl (congrArg some e5)) rfl ?_ (hK.out _ _ _ rfl (Below.refl _ _) rfl)
            go_simp
          · have e5 : X 5 = .bool true := hX 3 5 (by kernel_rfl)
            have e7 : X 7 = .int .i64 nl := hX 3 7 (by kernel_rfl)
            have e9 : X 9 = .int .i64 nr := hX 3 9 (by kernel_rfl)
            obtain ⟨c_, d_⟩ := HB2.out
            refine val_ (w1 := wx) (v := .bool true) (wanted_of rfl rfl (congrArg some e5)) rfl ?_ (hK.out _ _ _ rfl (Below.refl _ _) rfl)
            go_simp
          · have e5 : X 5 = .bool true := hX 3 5 (by kernel_rfl)
            have e10 : X 10 = .bool true := hX 3 10 (by kernel_rfl)
            refine val_ (w1 := wx) (v := .bool true) (by rfl) rfl ?_ (hK.out _ _ _ rfl (Below.refl _ _) rfl)
            go_simp
          · have e11 : X 11 = .bool true := hX 3 11 (by kernel_rfl)
            refine val_ (w1 := wx) (v := .bool true) (by rfl) rfl ?_ (hK.out _ _ _ rfl (Below.refl _ _) rfl)
            go_simp
          · have e12 : X 12 = .bool true := hX 3 12 (by kernel_rfl)
            refine val_ (w1 := wx) (v := .pointer (some ⟨g, 0, none⟩)) (wanted_of rfl rfl (congrArg some e12)) rfl ?_ (hK.out _ _ _ rfl (Below.refl _ _) rfl)
            go_simp
          · have e12 : X 12 = .bool true := hX 3 12 (by kernel_rfl)
            have e13 : X 13 = .pointer (some ⟨g, 0, none⟩) := hX 3 13 (by kernel_rfl)
            refine goes_ Try.func15 (by kernel_rfl) rfl #[X 13] (wanted_of rfl rfl (congrArg some e12)) rfl rfl zq23 ?_
            refine calls_args (as' := #[.pointer (some ⟨g, 0, none⟩)]) (by rw [e13]) ?_
            refine (string_Err_c (HS.out wx hG).1 (HS.out wx hG).2).mono ?_
            rintro e_ w' ⟨he_, hb_⟩
            obtain rfl := he_
            exact ⟨_, rfl, hK.out _ _ _ rfl hb_ rfl⟩
          · have e12 : X 12 = .bool true := hX 3 12 (by kernel_rfl)
            have e14 : X 14 = errW e := hX 3 14 (by kernel_rfl)
            refine goes_ Try.func30 (by kernel_rfl) rfl #[X 14] (wanted_of rfl rfl (congrArg some e12)) rfl rfl zq23 ?_
            refine calls_args (as' := #[errW e]) (by rw [e14]) ?_
            refine (horologenum_Num.calls e _ wx (num_is e HE.out)).mono ?_
            rintro e_ w' ⟨he_, ⟨⟨m_, rfl⟩⟩⟩
            obtain rfl := he_
            exact ⟨_, rfl, hK.out _ _ _ rfl (pw_below_drewN (Below.refl _ _) m_) rfl⟩
          · have e12 : X 12 = .bool true := hX 3 12 (by kernel_rfl)
            refine val_ (w1 := wx) (v := .pointer (some ⟨g3, 2, none⟩)) (wanted_of rfl rfl (congrArg some e12)) rfl ?_ (hK.out _ _ _ rfl (Below.refl _ _) rfl)
            go_simp
          · have e12 : X 12 = .bool true := hX 3 12 (by kernel_rfl)
            have e16 : X 16 = .pointer (some ⟨g3, 2, none⟩) := hX 3 16 (by kernel_rfl)
            have z_ : wx.cell? ⟨g3, 2, none⟩ = some (.int .i64 (en em)) := (blk_cell (blk_below (blk_drew BK3.out) hG) 2).trans rfl
            refine val_ (w1 := wx) (v := .int .i64 (en em)) (wanted_of rfl rfl (congrArg some e12)) rfl ?_ (hK.out _ _ _ rfl (Below.refl _ _) rfl)
            go_simp
          · have e12 : X 12 = .bool true := hX 3 12 (by kernel_rfl)
            have e15 : X 15 = .int .i64 (en e) := hX 3 15 (by kernel_rfl)
            have e17 : X 17 = .int .i64 (en em) := hX 3 17 (by kernel_rfl)
            obtain ⟨c_, d_⟩ := HB3.out
            refine val_ (w1 := wx) (v := .bool false) (wanted_of rfl rfl (congrArg some e12)) rfl ?_ (hK.out _ _ _ rfl (Below.refl _ _) rfl)
            go_simp
          · have e12 : X 12 = .bool true := hX 3 12 (by kernel_rfl)
            have e18 : X 18 = .bool false := hX 3 18 (by kernel_rfl)
            refine val_ (w1 := wx) (v := .bool false) (by rfl) rfl ?_ (hK.out _ _ _ rfl (Below.refl _ _) rfl)
            go_simp
          · have e19 : X 19 = .bool false := hX 3 19 (by kernel_rfl)
            refine val_ (w1 := wx) (v := .bool false) (by rfl) rfl ?_ (hK.out _ _ _ rfl (Below.refl _ _) rfl)
            go_simp
          · have e20 : X 20 = .bool false := hX 3 20 (by kernel_rfl)
            rw [if_neg zq32]
            exact hK.out _ undef _ rfl (Below.refl _ _) rfl
          · have e20 : X 20 = .bool false := hX 3 20 (by kernel_rfl)
            rw [if_neg zq32]
            exact hK.out _ undef _ rfl (Below.refl _ _) rfl
          · have e20 : X 20 = .bool false := hX 3 20 (by kernel_rfl)
            rw [if_neg zq32]
            exact hK.out _ undef _ rfl (Below.refl _ _) rfl
          · have e20 : X 20 = .bool false := hX 3 20 (by kernel_rfl)
            rw [if_neg zq32]
            exact hK.out _ undef _ rfl (Below.refl _ _) rfl
          · have e20 : X 20 = .bool false := hX 3 20 (by kernel_rfl)
            rw [if_neg zq32]
            exact hK.out _ undef _ rfl (Below.refl _ _) rfl
          · have e20 : X 20 = .bool false := hX 3 20 (by kernel_rfl)
            rw [if_neg zq32]
            exact hK.out _ undef _ rfl (Below.refl _ _) rfl
          · have e20 : X 20 = .bool false := hX 3 20 (by kernel_rfl)
            have e26 : X 26 = undef := hX 3 26 (by kernel_rfl)
            refine val_ (w1 := wx) (v := .bool false) (by rfl) rfl ?_ (hK.out _ _ _ rfl (Below.refl _ _) rfl)
            go_simp
          · have e27 : X 27 = .bool false := hX 3 27 (by kernel_rfl)
            refine val_ (w1 := wx) (v := .bool false) (by rfl) rfl ?_ (hK.out _ _ _ rfl (Below.refl _ _) rfl)
            go_simp
          intro X wx hG hX
          refine tail_done (by kernel_rfl) ?_
          have r_ : X 28 = .bool false := hX 28 (by decide)
          rw [r_]
          go_wp2
          exact HQ.out false _ (fun h1 h2 h3 => absurd (by rw [h3]) C3.out) (below_step B5.out hG)
      · have HB2 := Aside0.mk (show (nl == nr) = false ∧ ¬ nl = nr by simp [c2])
        have C2 := Aside0.mk c2; clear c2
        refine region_below (T := ?_) (n := 0) [some 37, some 38, some 39, some 40, some 41, some 42, some 43, some 44, some 45, some 46, some 47, some 48, some 49, some 50, some 51, some 52, some 53, some 54, some 55, some 56, some 57, some 58, some 59, some 60, some 61, some 62, some 63, some 64, some 4] ?_ (fun i_ v_ _ => v_ = VS1 g3 g (i : Int) (im : Int) nl nr rs lm e em (endV l i e) (en (endV l i e) == en (endV lm im em)) (en (endV lm im em)) i_) (by kernel_rfl) (by kernel_rfl) (fun i_ v_ w_ w1_ _ h_ _ => h_) [0, 1, 2, 3, 4, 5, 6, 7, 8, 9, 10, 11, 12, 13, 14, 15, 16, 17, 18, 19, 20, 21, 22, 23, 24, 25, 26, 27, 28] rfl (.cons (some 37) rfl rfl (fun X wx hG hX K hK => ?_) (.cons (some 38) rfl rfl (fun X wx hG hX K hK => ?_) (.cons (some 39) rfl rfl (fun X wx hG hX K hK => ?_) (.cons (some 40) rfl rfl (fun X wx hG hX K hK => ?_) (.cons (some 41) rfl rfl (fun X wx hG hX K hK => ?_) (.cons (some 42) rfl rfl (fun X wx hG hX K hK => ?_) (.cons (some 43) rfl rfl (fun X wx hG hX K hK => ?_) (.cons (some 44) rfl rfl (fun X wx hG hX K hK => ?_) (.cons (some 45) rfl rfl (fun X wx hG hX K hK => ?_) (.cons (some 46) rfl rfl (fun X wx hG hX K hK => ?_) (.cons (some 47) rfl rfl (fun X wx hG hX K hK => ?_) (.cons (some 48) rfl rfl (fun X wx hG hX K hK => ?_) (.cons (some 49) rfl rfl (fun X wx hG hX K hK => ?_) (.cons (some 50) rfl rfl (fun X wx hG hX K hK => ?_) (.cons (some 51) rfl rfl (fun X wx hG hX K hK => ?_) (.cons (some 52) rfl rfl (fun X wx hG hX K hK => ?_) (.cons (some 53) rfl rfl (fun X wx hG hX K hK => ?_) (.cons (some 54) rfl rfl (fun X wx hG hX K hK => ?_) (.cons (some 55) rfl rfl (fun X wx hG hX K hK => ?_) (.cons (some 56) rfl rfl (fun X wx hG hX K hK => ?_) (.cons (some 57) rfl rfl (fun X wx hG hX K hK => ?_) (.cons (some 58) rfl rfl (fun X wx hG hX K hK => ?_) (.cons (some 59) rfl rfl (fun X wx hG hX K hK => ?_) (.cons (some 60) rfl rfl (fun X wx hG hX K hK => ?_) (.cons (some 61) rfl rfl (fun X wx hG hX K hK => ?_) (.cons (some 62) rfl rfl (fun X wx hG hX K hK => ?_) (.cons (some 63) rfl rfl (fun X wx hG hX K hK => ?_) (.cons (some 64) rfl rfl (fun X wx hG hX K hK => ?_) (.cons (some 4) rfl rfl (fun X wx hG hX K hK => ?_) .nil))))))))))))))))))))))))))))) (by kernel_rfl) #[true, true, true, true, true, true, true, true, true, true, true, true, true, true, true, true, true, true, true, true, true, true, true, true, true, true, true, true, true] (by kernel_rfl) ?_
        rotate_left 1
        · intro X
          simp only [fill, Act.put, sl_, Nat.zero_add, Nat.reduceAdd]
          rfl
        · refine val_ (w1 := wx) (v := .pointer (some ⟨g, 0, none⟩)) (by rfl) rfl ?_ (hK.out _ _ _ rfl (Below.refl _ _) rfl)
          go_simp
        · have e0 : X 0 = .pointer (some ⟨g, 0, none⟩) := hX 3 0 (by kernel_rfl)
          refine goes_ Try.func14 (by kernel_rfl) rfl #[X 0] (by rfl) rfl rfl zq23 ?_
          refine calls_args (as' := #[.pointer (some ⟨g, 0, none⟩)]) (by rw [e0]) ?_
          refine (string_At_c (HS.out wx hG).1 (HS.out wx hG).2).mono ?_
          rintro e_ w' ⟨he_, hb_⟩
          obtain rfl := he_
          exact ⟨_, rfl, hK.out _ _ _ rfl hb_ rfl⟩
        · refine val_ (w1 := wx) (v := .pointer (some ⟨g3, 1, none⟩)) (by rfl) rfl ?_ (hK.out _ _ _ rfl (Below.refl _ _) rfl)
          go_simp
        · have e2 : X 2 = .pointer (some ⟨g3, 1, none⟩) := hX 3 2 (by kernel_rfl)
          have z_ : wx.cell? ⟨g3, 1, none⟩ = some (.int .i64 im) := (blk_cell (blk_below (blk_drew BK3.out) hG) 1).trans rfl
          refine val_ (w1 := wx) (v := .int .i64 im) (by rfl) rfl ?_ (hK.out _ _ _ rfl (Below.refl _ _) rfl)
          go_simp
        · have e1 : X 1 = .int .i64 i := hX 3 1 (by kernel_rfl)
          have e3 : X 3 = .int .i64 im := hX 3 3 (by kernel_rfl)
          obtain ⟨c_, d_⟩ := HB1.out
          refine val_ (w1 := wx) (v := .bool true) (by rfl) rfl ?_ (hK.out _ _ _ rfl (Below.refl _ _) rfl)
          go_simp
        · have e4 : X 4 = .bool true := hX 3 4 (by kernel_rfl)
          refine val_ (w1 := wx) (v := .bool true) (by rfl) rfl ?_ (hK.out _ _ _ rfl (Below.refl _ _) rfl)
          go_simp
        · have e5 : X 5 = .bool true := hX 3 5 (by kernel_rfl)
          refine val_ (w1 := wx) (v := .pointer (some ⟨g, 0, none⟩)) (wanted_of rfl rfl (congrArg some e5)) rfl ?_ (hK.out _ _ _ rfl (Below.refl _ _) rfl)
          go_simp
        · have e5 : X 5 = .bool true := hX 3 5 (by kernel_rfl)
          have e6 : X 6 = .pointer (some ⟨g, 0, none⟩) := hX 3 6 (by kernel_rfl)
          refine goes_ Try.func18 (by kernel_rfl) rfl #[X 6] (wanted_of rfl rfl (congrArg some e5)) rfl rfl zq23 ?_
          refine calls_args (as' := #[.pointer (some ⟨g, 0, none⟩)]) (by rw [e6]) ?_
          refine (string_Left_c (HS.out wx hG).1 (HS.out wx hG).2 HI0.out).mono ?_
          rintro e_ w' ⟨he_, hb_⟩
          rw [hnl] at he_
          obtain rfl := he_
          exact ⟨_, rfl, hK.out _ _ _ rfl hb_ rfl⟩
        · have e5 : X 5 = .bool true := hX 3 5 (by kernel_rfl)
          refine val_ (w1 := wx) (v := .string rs) (wanted_of rfl rfl (congrArg some e5)) rfl ?_ (hK.out _ _ _ rfl (Below.refl _ _) rfl)
          go_simp
        · have e5 : X 5 = .bool true := hX 3 5 (by kernel_rfl)
          have e8 : X 8 = .string rs := hX 3 8 (by kernel_rfl)
          have c_ := HNR.out
          refine val_ (w1 := wx) (v := .int .i64 nr) (wanted_of rfl rfl (congrArg some e5)) rfl ?_ (hK.out _ _ _ rfl (Below.refl _ _) rfl)
          go_simp
        · have e5 : X 5 = .bool true := hX 3 5 (by kernel_rfl)
          have e7 : X 7 = .int .i64 nl := hX 3 7 (by kernel_rfl)
          have e9 : X 9 = .int .i64 nr := hX 3 9 (by kernel_rfl)
          obtain ⟨c_, d_⟩ := HB2.out
          refine val_ (w1 := wx) (v := .bool false) (wanted_of rfl rfl (congrArg some e5)) rfl ?_ (hK.out _ _ _ rfl (Below.refl _ _) rfl)
          go_simp
        · have e5 : X 5 = .bool true := hX 3 5 (by kernel_rfl)
          have e10 : X 10 = .bool false := hX 3 10 (by kernel_rfl)
          refine val_ (w1 := wx) (v := .bool false) (by rfl) rfl ?_ (hK.out _ _ _ rfl (Below.refl _ _) rfl)
          go_simp
        · have e11 : X 11 = .bool false := hX 3 11 (by kernel_rfl)
          refine val_ (w1 := wx) (v := .bool false) (by rfl) rfl ?_ (hK.out _ _ _ rfl (Below.refl _ _) rfl)
          go_simp
        · have e12 : X 12 = .bool false := hX 3 12 (by kernel_rfl)
          rw [if_neg zq42]
          exact hK.out _ undef _ rfl (Below.refl _ _) rfl
        · have e12 : X 12 = .bool false := hX 3 12 (by kernel_rfl)
          rw [if_neg zq42]
          exact hK.out _ undef _ rfl (Below.refl _ _) rfl
        · have e12 : X 12 = .bool false := hX 3 12 (by kernel_rfl)
          rw [if_neg zq42]
          exact hK.out _ undef _ rfl (Below.refl _ _) rfl
        · have e12 : X 12 = .bool false := hX 3 12 (by kernel_rfl)
          rw [if_neg zq42]
          exact hK.out _ undef _ rfl (Below.refl _ _) rfl
        · have e12 : X 12 = .bool false := hX 3 12 (by kernel_rfl)
          rw [if_neg zq42]
          exact hK.out _ undef _ rfl (Below.refl _ _) rfl
        · have e12 : X 12 = .bool false := hX 3 12 (by kernel_rfl)
          rw [if_neg zq42]
          exact hK.out _ undef _ rfl (Below.refl _ _) rfl
        · have e12 : X 12 = .bool false := hX 3 12 (by kernel_rfl)
          have e18 : X 18 = undef := hX 3 18 (by kernel_rfl)
          refine val_ (w1 := wx) (v := .bool false) (by rfl) rfl ?_ (hK.out _ _ _ rfl (Below.refl _ _) rfl)
          go_simp
        · have e19 : X 19 = .bool false := hX 3 19 (by kernel_rfl)
          refine val_ (w1 := wx) (v := .bool false) (by rfl) rfl ?_ (hK.out _ _ _ rfl (Below.refl _ _) rfl)
          go_simp
        · have e20 : X 20 = .bool false := hX 3 20 (by kernel_rfl)
          rw [if_neg zq32]
          exact hK.out _ undef _ rfl (Below.refl _ _) rfl
        · have e20 : X 20 = .bool false := hX 3 20 (by kernel_rfl)
          rw [if_neg zq32]
          exact hK.out _ undef _ rfl (Below.refl _ _) rfl
        · have e20 : X 20 = .bool false := hX 3 20 (by kernel_rfl)
          rw [if_neg zq32]
          exact hK.out _ undef _ rfl (Below.refl _ _) rfl
        · have e20 : X 20 = .bool false := hX 3 20 (by kernel_rfl)
          rw [if_neg zq32]
          exact hK.out _ undef _ rfl (Below.refl _ _) rfl
        · have e20 : X 20 = .bool false := hX 3 20 (by kernel_rfl)
          rw [if_neg zq32]
          exact hK.out _ undef _ rfl (Below.refl _ _) rfl
        · have e20 : X 20 = .bool false := hX 3 20 (by kernel_rfl)
          rw [if_neg zq32]
          exact hK.out _ undef _ rfl (Below.refl _ _) rfl
        · have e20 : X 20 = .bool false := hX 3 20 (by kernel_rfl)
          have e26 : X 26 = undef := hX 3 26 (by kernel_rfl)
          refine val_ (w1 := wx) (v := .bool false) (by rfl) rfl ?_ (hK.out _ _ _ rfl (Below.refl _ _) rfl)
          go_simp
        · have e27 : X 27 = .bool false := hX 3 27 (by kernel_rfl)
          refine val_ (w1 := wx) (v := .bool false) (by rfl) rfl ?_ (hK.out _ _ _ rfl (Below.refl _ _) rfl)
          go_simp
        intro X wx hG hX
        refine tail_done (by kernel_rfl) ?_
        have r_ : X 28 = .bool false := hX 28 (by decide)
        rw [r_]
        go_wp2
        exact HQ.out false _ (fun h1 h2 h3 => absurd (by rw [← hnl, ← HNL.out, h1, h2, h3]) C2.out) (below_step B5.out hG)
    · have HB1 := Aside0.mk (show ((i : Int) == (im : Int)) = false ∧ ¬ (i : Int) = (im : Int) from ⟨beq_eq_false_iff_ne.mpr (by omega), by omega⟩)
      have C1 := Aside0.mk c1; clear c1
      refine region_below (T := ?_) (n := 0) [some 37, some 38, some 39, some 40, some 41, some 42, some 43, some 44, some 45, some 46, some 47, some 48, some 49, some 50, some 51, some 52, some 53, some 54, some 55, some 56, some 57, some 58, some 59, some 60, some 61, some 62, some 63, some 64, some 4] ?_ (fun i_ v_ _ => v_ = VS0 g3 g (i : Int) (im : Int) nl nr rs lm e em (endV l i e) (en (endV l i e) == en (endV lm im em)) (en (endV lm im em)) i_) (by kernel_rfl) (by kernel_rfl) (fun i_ v_ w_ w1_ _ h_ _ => h_) [0, 1, 2, 3, 4, 5, 6, 7, 8, 9, 10, 11, 12, 13, 14, 15, 16, 17, 18, 19, 20, 21, 22, 23, 24, 25, 26, 27, 28] rfl (.cons (some 37) rfl rfl (fun X wx hG hX K hK => ?_) (.cons (some 38) rfl rfl (fun X wx hG hX K hK => ?_) (.cons (some 39) rfl rfl (fun X wx hG hX K hK => ?_) (.cons (some 40) rfl rfl (fun X wx hG hX K hK => ?_) (.cons (some 41) rfl rfl (fun X wx hG hX K hK => ?_) (.cons (some 42) rfl rfl (fun X wx hG hX K hK => ?_) (.cons (some 43) rfl rfl (fun X wx hG hX K hK => ?_) (.cons (some 44) rfl rfl (fun X wx hG hX K hK => ?_) (.cons (some 45) rfl rfl (fun X wx hG hX K hK => ?_) (.cons (some 46) rfl rfl (fun X wx hG hX K hK => ?_) (.cons (some 47) rfl rfl (fun X wx hG hX K hK => ?_) (.cons (some 48) rfl rfl (fun X wx hG hX K hK => ?_) (.cons (some 49) rfl rfl (fun X wx hG hX K hK => ?_) (.cons (some 50) rfl rfl (fun X wx hG hX K hK => ?_) (.cons (some 51) rfl rfl (fun X wx hG hX K hK => ?_) (.cons (some 52) rfl rfl (fun X wx hG hX K hK => ?_) (.cons (some 53) rfl rfl (fun X wx hG hX K hK => ?_) (.cons (some 54) rfl rfl (fun X wx hG hX K hK => ?_) (.cons (some 55) rfl rfl (fun X wx hG hX K hK => ?_) (.cons (some 56) rfl rfl (fun X wx hG hX K hK => ?_) (.cons (some 57) rfl rfl (fun X wx hG hX K hK => ?_) (.cons (some 58) rfl rfl (fun X wx hG hX K hK => ?_) (.cons (some 59) rfl rfl (fun X wx hG hX K hK => ?_) (.cons (some 60) rfl rfl (fun X wx hG hX K hK => ?_) (.cons (some 61) rfl rfl (fun X wx hG hX K hK => ?_) (.cons (some 62) rfl rfl (fun X wx hG hX K hK => ?_) (.cons (some 63) rfl rfl (fun X wx hG hX K hK => ?_) (.cons (some 64) rfl rfl (fun X wx hG hX K hK => ?_) (.cons (some 4) rfl rfl (fun X wx hG hX K hK => ?_) .nil))))))))))))))))))))))))))))) (by kernel_rfl) #[true, true, true, true, true, true, true, true, true, true, true, true, true, true, true, true, true, true, true, true, true, true, true, true, true, true, true, true, true] (by kernel_rfl) ?_
      rotate_left 1
      · intro X
        simp only [fill, Act.put, sl_, Nat.zero_add, Nat.reduceAdd]
        rfl
      · refine val_ (w1 := wx) (v := .pointer (some ⟨g, 0, none⟩)) (by rfl) rfl ?_ (hK.out _ _ _ rfl (Below.refl _ _) rfl)
        go_simp
      · have e0 : X 0 = .pointer (some ⟨g, 0, none⟩) := hX 3 0 (by kernel_rfl)
        refine goes_ Try.func14 (by kernel_rfl) rfl #[X 0] (by rfl) rfl rfl zq23 ?_
        refine calls_args (as' := #[.pointer (some ⟨g, 0, none⟩)]) (by rw [e0]) ?_
        refine (string_At_c (HS.out wx hG).1 (HS.out wx hG).2).mono ?_
        rintro e_ w' ⟨he_, hb_⟩
        obtain rfl := he_
        exact ⟨_, rfl, hK.out _ _ _ rfl hb_ rfl⟩
      · refine val_ (w1 := wx) (v := .pointer (some ⟨g3, 1, none⟩)) (by rfl) rfl ?_ (hK.out _ _ _ rfl (Below.refl _ _) rfl)
        go_simp
      · have e2 : X 2 = .pointer (some ⟨g3, 1, none⟩) := hX 3 2 (by kernel_rfl)
        have z_ : wx.cell? ⟨g3, 1, none⟩ = some (.int .i64 im) := (blk_cell (blk_below (blk_drew BK3.out) hG) 1).trans rfl
        refine val_ (w1 := wx) (v := .int .i64 im) (by rfl) rfl ?_ (hK.out _ _ _ rfl (Below.refl _ _) rfl)
        go_simp
      · have e1 : X 1 = .int .i64 i := hX 3 1 (by kernel_rfl)
        have e3 : X 3 = .int .i64 im := hX 3 3 (by kernel_rfl)
        obtain ⟨c_, d_⟩ := HB1.out
        refine val_ (w1 := wx) (v := .bool false) (by rfl) rfl ?_ (hK.out _ _ _ rfl (Below.refl _ _) rfl)
        go_simp
      · have e4 : X 4 = .bool false := hX 3 4 (by kernel_rfl)
        refine val_ (w1 := wx) (v := .bool false) (by rfl) rfl ?_ (hK.out _ _ _ rfl (Below.refl _ _) rfl)
        go_simp
      · have e5 : X 5 = .bool false := hX 3 5 (by kernel_rfl)
        rw [if_neg zq71]
        exact hK.out _ undef _ rfl (Below.refl _ _) rfl
      · have e5 : X 5 = .bool false := hX 3 5 (by kernel_rfl)
        rw [if_neg zq71]
        exact hK.out _ undef _ rfl (Below.refl _ _) rfl
      · have e5 : X 5 = .bool false := hX 3 5 (by kernel_rfl)
        rw [if_neg zq71]
        exact hK.out _ undef _ rfl (Below.refl _ _) rfl
      · have e5 : X 5 = .bool false := hX 3 5 (by kernel_rfl)
        rw [if_neg zq71]
        exact hK.out _ undef _ rfl (Below.refl _ _) rfl
      · have e5 : X 5 = .bool false := hX 3 5 (by kernel_rfl)
        rw [if_neg zq71]
        exact hK.out _ undef _ rfl (Below.refl _ _) rfl
      · have e5 : X 5 = .bool false := hX 3 5 (by kernel_rfl)
        have e10 : X 10 = undef := hX 3 10 (by kernel_rfl)
        refine val_ (w1 := wx) (v := .bool false) (by rfl) rfl ?_ (hK.out _ _ _ rfl (Below.refl _ _) rfl)
        go_simp
      · have e11 : X 11 = .bool false := hX 3 11 (by kernel_rfl)
        refine val_ (w1 := wx) (v := .bool false) (by rfl) rfl ?_ (hK.out _ _ _ rfl (Below.refl _ _) rfl)
        go_simp
      · have e12 : X 12 = .bool false := hX 3 12 (by kernel_rfl)
        rw [if_neg zq42]
        exact hK.out _ undef _ rfl (Below.refl _ _) rfl
      · have e12 : X 12 = .bool false := hX 3 12 (by kernel_rfl)
        rw [if_neg zq42]
        exact hK.out _ undef _ rfl (Below.refl _ _) rfl
      · have e12 : X 12 = .bool false := hX 3 12 (by kernel_rfl)
        rw [if_neg zq42]
        exact hK.out _ undef _ rfl (Below.refl _ _) rfl
      · have e12 : X 12 = .bool false := hX 3 12 (by kernel_rfl)
        rw [if_neg zq42]
        exact hK.out _ undef _ rfl (Below.refl _ _) rfl
      · have e12 : X 12 = .bool false := hX 3 12 (by kernel_rfl)
        rw [if_neg zq42]
        exact hK.out _ undef _ rfl (Below.refl _ _) rfl
      · have e12 : X 12 = .bool false := hX 3 12 (by kernel_rfl)
        rw [if_neg zq42]
        exact hK.out _ undef _ rfl (Below.refl _ _) rfl
      · have e12 : X 12 = .bool false := hX 3 12 (by kernel_rfl)
        have e18 : X 18 = undef := hX 3 18 (by kernel_rfl)
        refine val_ (w1 := wx) (v := .bool false) (by rfl) rfl ?_ (hK.out _ _ _ rfl (Below.refl _ _) rfl)
        go_simp
      · have e19 : X 19 = .bool false := hX 3 19 (by kernel_rfl)
        refine val_ (w1 := wx) (v := .bool false) (by rfl) rfl ?_ (hK.out _ _ _ rfl (Below.refl _ _) rfl)
        go_simp
      · have e20 : X 20 = .bool false := hX 3 20 (by kernel_rfl)
        rw [if_neg zq32]
        exact hK.out _ undef _ rfl (Below.refl _ _) rfl
      · have e20 : X 20 = .bool false := hX 3 20 (by kernel_rfl)
        rw [if_neg zq32]
        exact hK.out _ undef _ rfl (Below.refl _ _) rfl
      · have e20 : X 20 = .bool false := hX 3 20 (by kernel_rfl)
        rw [if_neg zq32]
        exact hK.out _ undef _ rfl (Below.refl _ _) rfl
      · have e20 : X 20 = .bool false := hX 3 20 (by kernel_rfl)
        rw [if_neg zq32]
        exact hK.out _ undef _ rfl (Below.refl _ _) rfl
      · have e20 : X 20 = .bool false := hX 3 20 (by kernel_rfl)
        rw [if_neg zq32]
        exact hK.out _ undef _ rfl (Below.refl _ _) rfl
      · have e20 : X 20 = .bool false := hX 3 20 (by kernel_rfl)
        rw [if_neg zq32]
        exact hK.out _ undef _ rfl (Below.refl _ _) rfl
      · have e20 : X 20 = .bool false := hX 3 20 (by kernel_rfl)
        have e26 : X 26 = undef := hX 3 26 (by kernel_rfl)
        refine val_ (w1 := wx) (v := .bool false) (by rfl) rfl ?_ (hK.out _ _ _ rfl (Below.refl _ _) rfl)
        go_simp
      · have e27 : X 27 = .bool false := hX 3 27 (by kernel_rfl)
        refine val_ (w1 := wx) (v := .bool false) (by rfl) rfl ?_ (hK.out _ _ _ rfl (Below.refl _ _) rfl)
        go_simp
      intro X wx hG hX
      refine tail_done (by kernel_rfl) ?_
      have r_ : X 28 = .bool false := hX 28 (by decide)
      rw [r_]
      go_wp2
      exact HQ.out false _ (fun h1 h2 h3 => absurd h2 C1.out) (below_step B5.out hG)
end Go.Proofs.Ytonjfggfcnpgbaa.MScanPlays
