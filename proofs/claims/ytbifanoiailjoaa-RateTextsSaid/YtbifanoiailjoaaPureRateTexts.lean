/- The law RateTexts: keys that are texts are answered as keys that are numbers, where they have the same order, and what a nil table answers. No condition. -/
import Derived.Test.YtbifanoiailjoaaRateTxImg
import Derived.Test.YtbifanoiailjoaaRateMU
import Derived.Test.YtbifanoiailjoaaRateMS
import Derived.Test.YtbifanoiailjoaaRateActBox
import Derived.Test.YtbifanoiailjoaaRateTxNil
import Derived.Test.YtbifanoiailjoaaMRatePlaysx9
import Derived.Test.YtbifanoiailjoaaRegInv
namespace Go.Proofs.Ytbifanoiailjoaa.MRatePlays
open Go.RowKit Go.Proofs.YtbifanoiailjoaaW.PrintWords Go.Proofs.YtbifanoiailjoaaW.PrintLast Go.Proofs.YtbifanoiailjoaaW.PrintMore Go.Proofs.Ytbifanoiailjoaa.Base
set_option linter.unusedVariables false
set_option linter.unusedSimpArgs false

theorem rraw_l1 (w : Int) (hw : 0 ≤ w ∧ w ≤ 1000) (m : Nat) : ∀ s : List Int, s.length ≤ 1000 → (max w.toNat 1 - s.length) ≤ m → Ev (fun k => horologeref02_Raw.l1 k w (strOfNums s)) (strOfNums (List.replicate (max w.toNat 1 - s.length) 48 ++ s)) := by
  induction m with
  | zero =>
    intro s hs hm
    refine Ev.up ?_
    simp only [horologeref02_Raw.l1, son_size]
    rw [show max w.toNat 1 - s.length = 0 by omega, List.replicate_zero, List.nil_append]
    exact Ev.neg (by omega) (Ev.neg (by omega) (Ev.now _))
  | succ m ih =>
    intro s hs hm
    by_cases h : s.length < max w.toNat 1
    · refine Ev.up ?_
      simp only [horologeref02_Raw.l1, son_size, show (⟨#[48]⟩ : ByteArray) = strOfNums [48] from rfl, son_append]
      have := ih ([48] ++ s) (by simp; omega) (by simp; omega)
      have e : List.replicate (max w.toNat 1 - ([48] ++ s).length) (48 : Int) ++ ([48] ++ s) = List.replicate (max w.toNat 1 - s.length) 48 ++ s := by
        rw [← List.append_assoc]
        congr 1
        rw [show max w.toNat 1 - s.length = (max w.toNat 1 - ([48] ++ s).length) + 1 by simp; omega, List.replicate_succ']
      rw [e] at this
      exact Ev.ite (fun _ => Ev.pos (by omega) this) (fun q => Ev.pos (by omega) (Ev.pos (by omega) this))
    · exact ih s hs (by omega)
theorem rraw_l0 (w : Int) (hw : 0 ≤ w ∧ w ≤ 100) (n : Nat) : ∀ s : List Int, n < 9223372036854775808 → s.length + (digs n).length ≤ 200 →
    Ev (fun k => horologeref02_Raw.l0 k (n : Int) w (strOfNums s)) (strOfNums (List.replicate (max w.toNat 1 - ((digs n).reverse ++ s).length) 48 ++ ((digs n).reverse ++ s))) := by
  induction n using Nat.strongRecOn with
  | ind n ih =>
    intro s hn hs
    by_cases h : n = 0
    · subst h
      rw [digs_zero]
      refine Ev.up ?_
      simp only [horologeref02_Raw.l0]
      refine Ev.neg (by omega) ?_
      exact rraw_l1 w (by omega) _ s (by omega) (Nat.le_refl _)
    · have e := digs_pos (show 0 < n by omega)
      have w1 : wrap64 (Int.tdiv (n : Int) 10) = ((n / 10 : Nat) : Int) := by rw [tdiv_is, if_neg (by omega), wr (by omega)]; omega
      have w2 : (wrap64 (48 + Int.tmod (n : Int) 10)) % 256 = 48 + (n : Int) % 10 := by rw [tmod_is, if_neg (by omega), wr (by omega)]; omega
      refine Ev.up ?_
      simp only [horologeref02_Raw.l0, Option.bind_some, w1, w2, son_size, son_append]
      refine Ev.pos (by omega) (Ev.pos (by simp; omega) ?_)
      have := ih (n / 10) (by omega) ([48 + (n : Int) % 10] ++ s) (by omega) (by rw [e] at hs; simp at hs ⊢; omega)
      rw [show (digs (n / 10)).reverse ++ ([48 + (n : Int) % 10] ++ s) = (digs n).reverse ++ s by rw [e]; simp] at this
      exact this
theorem rraw_is (n : Nat) (w : Int) (hn : n < 9223372036854775808) (hw : 0 ≤ w ∧ w ≤ 100) : Ev (fun k => horologeref02_Raw.f k (n : Int) w) (strOfNums (rawV n w.toNat)) := by
  have l := digs_len n 20 (by omega)
  have := rraw_l0 w hw n [] hn (by simp; omega)
  rw [List.append_nil, List.length_reverse] at this
  exact this
theorem raw10_c (w : World) (k : Int) (h : U32 k) : Calls Try.prog 24 #[.int .i64 k, .int .i64 10] w fun e w' => e = .returned (.string (raw10 k)) ∧ Below w.heap.size w w' := by
  obtain ⟨kk, hk⟩ := Ev.ok (rraw_is k.toNat 10 (by unfold U32 at h; omega) (by decide))
  rw [Int.toNat_of_nonneg h.1] at hk
  exact horologeref02_Raw.calls kk k 10 (raw10 k) w hk
def numE (er : Option Int) : Int := if er.isNone = true then 0 else if er.getD 0 = 0 then -1 else er.getD 0
theorem num_c (w : World) (er : Option Int) : Calls Try.prog 23 #[errW er] w fun e w' => e = .returned (.int .i64 (numE er)) ∧ Below w.heap.size w w' := by
  refine (horologenum_Num.calls er (numE er) w ?_).mono ?_
  · unfold horologenum_Num.f numE
    split
    · rfl
    · split <;> rfl
  · rintro e w' ⟨rfl, n, rfl⟩
    exact ⟨rfl, pw_below_drewN (Below.refl _ _) n⟩
theorem is_c (w : World) : Calls Try.prog 15 #[.iface 49 (.int .i64 8), .int .i64 8] w fun e w' => e = .returned (.bool true) ∧ Below w.heap.size w w' := by
  refine (horologenum_Is.calls (some 8) 8 true w rfl).mono ?_
  rintro e w' ⟨rfl, n, rfl⟩
  exact ⟨rfl, pw_below_drewN (Below.refl _ _) n⟩
theorem ne_types {W : World} {a b t t' : Nat} {cs cs' : Array Value} {fr fr' : Nat × Nat} (ha : W.heap[a]? = some (.cells cs t fr)) (hb : W.heap[b]? = some (.cells cs' t' fr')) (ht : t ≠ t') : a ≠ b := by
  rintro rfl
  rw [ha] at hb
  injection hb with hb
  injection hb with _ h2 _
  exact ht h2
theorem far_us {W : World} {g b g2 b3 : Nat} {es : List S37} {us : List S60} {room span room' span' : Int} (T : Tabu W g b es room span) (S : Tabs W g2 b3 us room' span') : g ≠ g2 ∧ g ≠ b3 ∧ b ≠ g2 ∧ b ≠ b3 := by
  obtain ⟨sl, hg, hs⟩ := T
  obtain ⟨sl2, hg2, hs2⟩ := S
  have a1 := ne_types hg hg2 (by decide)
  rcases hs with ⟨_, _, rfl⟩ | ⟨_, c, rest, _, hr, _, _⟩
  · rcases hs2 with ⟨_, _, rfl⟩ | ⟨_, c2, rest2, _, hr2, _, _⟩
    · exact ⟨a1, a1, a1, a1⟩
    · have a2 := ne_types hg hr2 (by decide)
      exact ⟨a1, a2, a1, a2⟩
  · have a3 := ne_types hr hg2 (by decide)
    rcases hs2 with ⟨_, _, rfl⟩ | ⟨_, c2, rest2, _, hr2, _, _⟩
    · exact ⟨a1, a1, a3, a3⟩
    · exact ⟨a1, ne_types hg hr2 (by decide), a3, ne_types hr hr2 (by decide)⟩
theorem keepUS {W W' : World} {g b g2 b3 : Nat} {es : List S37} {us : List S60} {room span room' span' : Int} (T : Tabu W g b es room span) (S : Tabs W g2 b3 us room' span') (F : Fr (fun k => k = g2 ∨ k = b3) W W') : Tabu W' g b es room span := by
  obtain ⟨h1, h2, h3, h4⟩ := far_us T S
  exact T.keep F (fun q => q.elim h1 h2) (fun q => q.elim h3 h4)
theorem keepSU {W W' : World} {g b g2 b3 : Nat} {es : List S37} {us : List S60} {room span room' span' : Int} (T : Tabu W g b es room span) (S : Tabs W g2 b3 us room' span') (F : Fr (fun k => k = g ∨ k = b) W W') : Tabs W' g2 b3 us room' span' := by
  obtain ⟨h1, h2, h3, h4⟩ := far_us T S
  exact S.keep F (fun q => q.elim h1.symm h3.symm) (fun q => q.elim h2.symm h4.symm)
theorem keepX {W W' : World} {gx g2 b3 : Nat} {cs : Array Value} {us : List S60} {room span : Int} (X : W.heap[gx]? = some (.cells cs 32 (0, 0))) (S : Tabs W g2 b3 us room span) (F : Fr (fun k => k = g2 ∨ k = b3) W W') : W'.heap[gx]? = some (.cells cs 32 (0, 0)) := by
  obtain ⟨sl2, hg2, hs2⟩ := S
  have a1 := ne_types X hg2 (by decide)
  have a2 : gx ≠ b3 := by
    rcases hs2 with ⟨_, _, rfl⟩ | ⟨_, c2, rest2, _, hr2, _, _⟩
    · exact a1
    · exact ne_types X hr2 (by decide)
  exact (F.block gx (blk_lt X) (fun q => q.elim a1 a2)).trans X
theorem keepXu {W W' : World} {gx g b : Nat} {cs : Array Value} {es : List S37} {room span : Int} (X : W.heap[gx]? = some (.cells cs 32 (0, 0))) (S : Tabu W g b es room span) (F : Fr (fun k => k = g ∨ k = b) W W') : W'.heap[gx]? = some (.cells cs 32 (0, 0)) := by
  obtain ⟨sl2, hg2, hs2⟩ := S
  have a1 := ne_types X hg2 (by decide)
  have a2 : gx ≠ b := by
    rcases hs2 with ⟨_, _, rfl⟩ | ⟨_, c2, rest2, _, hr2, _, _⟩
    · exact a1
    · exact ne_types X hr2 (by decide)
  exact (F.block gx (blk_lt X) (fun q => q.elim a1 a2)).trans X
theorem ansA_img (es : List S37) (k m span : Int) (hk : U32 k) (h : KU es) : ansAs (img es) (raw10 k) m span = ansAu es k m span := by
  unfold ansAs ansAu
  rw [ans_img es k m span hk h]
theorem askA_img (es : List S37) (k m room span : Int) (hk : U32 k) (h : KU es) : askAs (img es) (raw10 k) m room span = img (askAu es k m room span) := by
  unfold askAs askAu
  rw [ask_img es k m room span hk h]
  split <;> rfl
theorem KU.askA {es : List S37} {key m room span : Int} (h : KU es) (hk : U32 key) : KU (askAu es key m room span) := by
  unfold askAu
  split
  · exact h.ask hk
  · exact h
theorem slu_form {W : World} {g nb : Nat} {v : Value} {es : List S37} (h : Slu W g nb v es) : ∃ A c, v = .slice A es.length c := by
  rcases h with ⟨rfl, rfl, _⟩ | ⟨_, c, rest, rfl, _⟩
  · exact ⟨none, 0, rfl⟩
  · exact ⟨_, _, rfl⟩
theorem sls_form {W : World} {g nb : Nat} {v : Value} {es : List S60} (h : Sls W g nb v es) : ∃ A c, v = .slice A es.length c := by
  rcases h with ⟨rfl, rfl, _⟩ | ⟨_, c, rest, rfl, _⟩
  · exact ⟨none, 0, rfl⟩
  · exact ⟨_, _, rfl⟩
theorem slu_at {W : World} {g nb : Nat} {A : Option Addr} {n c : Nat} {es : List S37} (h : Slu W g nb (.slice A n c) es) (j : Nat) (hj : j < es.length) :
    A = some ⟨nb, 0, none⟩ ∧ W.cell? ⟨nb, j * 3, none⟩ = some (.int .u32 es[j].f0) ∧ W.cell? ⟨nb, j * 3 + 1, none⟩ = some (.int .i64 es[j].f1) ∧ W.cell? ⟨nb, j * 3 + 2, none⟩ = some (.bool es[j].f2) := by
  rcases h with ⟨_, rfl, _⟩ | ⟨_, c', rest, e, hr, _⟩
  · simp at hj
  · injection e with e1 e2 e3
    have h0 := rowu_cell hr j 0 hj _ rfl (by omega)
    have h1 := rowu_cell hr j 1 hj _ rfl (by omega)
    have h2 := rowu_cell hr j 2 hj _ rfl (by omega)
    rw [rdu_get es j hj] at h0 h1 h2
    exact ⟨e1, h0, h1, h2⟩
theorem sls_at {W : World} {g nb : Nat} {A : Option Addr} {n c : Nat} {us : List S60} (h : Sls W g nb (.slice A n c) us) (j : Nat) (hj : j < us.length) :
    A = some ⟨nb, 0, none⟩ ∧ W.cell? ⟨nb, j * 3, none⟩ = some (.string us[j].f0) ∧ W.cell? ⟨nb, j * 3 + 1, none⟩ = some (.int .i64 us[j].f1) ∧ W.cell? ⟨nb, j * 3 + 2, none⟩ = some (.bool us[j].f2) := by
  rcases h with ⟨_, rfl, _⟩ | ⟨_, c', rest, e, hr, _⟩
  · simp at hj
  · injection e with e1 e2 e3
    have h0 := rows_cell hr j 0 hj _ rfl (by omega)
    have h1 := rows_cell hr j 1 hj _ rfl (by omega)
    have h2 := rows_cell hr j 2 hj _ rfl (by omega)
    rw [rds_get us j hj] at h0 h1 h2
    exact ⟨e1, h0, h1, h2⟩
theorem u32_of {k : Int} (h : (Lit.int .u32 k).wf = true) : U32 k := bounds_u32 h
theorem wr_succM (j n : Nat) (h : j < n) (hn : n ≤ 1000000) : wrap64 ((j : Int) + 1) = ((j + 1 : Nat) : Int) := by
  rw [wrap64_id (by unfold I64; omega)]
  rfl
theorem wr_key {k : Int} (h : U32 k) : wrap64 k = k := wrap64_id (by unfold I64; unfold U32 at h; omega)
theorem len_mill {n : Nat} {room : Int} (h : (n : Int) ≤ room) (k : room ≤ 1024) : n ≤ 1000000 := by omega
theorem asks_nilc (w : World) (key : ByteArray) (m : Int) : Calls Try.prog 14 #[.pointer none, .string key, .int .i64 m] w fun e w' => e = .returned (.tuple #[.int .i64 0, .iface 49 (.int .i64 8)]) ∧ Below w.heap.size w w' := asks_nil w key m
def V27 (n1 n2 c1 c2 j : Nat) (es : List S37) (y : S37) : Nat → Value
  | 0 => .slice (some ⟨n1, 0, none⟩) es.length c1
  | 1 => .int .i64 j
  | 2 => .pointer (some ⟨n1, j * 3, none⟩)
  | 3 => .pointer (some ⟨n1, j * 3, none⟩)
  | 4 => .int .u32 y.f0
  | 5 => .int .i64 y.f0
  | 6 => .string (raw10 y.f0)
  | 7 => .slice (some ⟨n2, 0, none⟩) es.length c2
  | 8 => .int .i64 j
  | 9 => .pointer (some ⟨n2, j * 3, none⟩)
  | 10 => .pointer (some ⟨n2, j * 3, none⟩)
  | 11 => .string (raw10 y.f0)
  | 12 => .bool false
  | 13 => .bool false
  | 14 => .slice (some ⟨n1, 0, none⟩) es.length c1
  | 15 => .int .i64 j
  | 16 => .pointer (some ⟨n1, j * 3, none⟩)
  | 17 => .pointer (some ⟨n1, j * 3 + 1, none⟩)
  | 18 => .int .i64 y.f1
  | 19 => .slice (some ⟨n2, 0, none⟩) es.length c2
  | 20 => .int .i64 j
  | 21 => .pointer (some ⟨n2, j * 3, none⟩)
  | 22 => .pointer (some ⟨n2, j * 3 + 1, none⟩)
  | 23 => .int .i64 y.f1
  | 24 => .bool false
  | 25 => .bool false
  | 26 => .bool false
  | 27 => .slice (some ⟨n1, 0, none⟩) es.length c1
  | 28 => .int .i64 j
  | 29 => .pointer (some ⟨n1, j * 3, none⟩)
  | 30 => .pointer (some ⟨n1, j * 3 + 2, none⟩)
  | 31 => .bool y.f2
  | 32 => .slice (some ⟨n2, 0, none⟩) es.length c2
  | 33 => .int .i64 j
  | 34 => .pointer (some ⟨n2, j * 3, none⟩)
  | 35 => .pointer (some ⟨n2, j * 3 + 2, none⟩)
  | 36 => .bool y.f2
  | 37 => .bool false
  | _ => .bool false
set_option maxHeartbeats 8000000 in
set_option maxRecDepth 100000 in
theorem texts_walk (room span : Int) (A : Option Addr) (c : Nat) (l : List S32) (w : World) (hl : Kd.C k32 w A l.length l) (hc : l.length ≤ c) (hok : ∀ y ∈ l, ok32 y) :
    Calls Try.prog 5 #[.int .i64 room, .int .i64 span, .slice A l.length c] w fun e w' => e = .returned (.bool true) ∧ Below w.heap.size w w' := by
  have HL := Aside0.mk hl
  have HOK := Aside0.mk hok
  have HAL := Aside0.mk alive_c
  clear hl hok
  by_cases h80 : 80 < l.length
  · have hd : decide (80 < (l.length : Int)) = true := decide_eq_true (by omega)
    clear h80
    go_enter Try.func5, Try.ntmps5
    go_wp2_with (first | (go_at_call 7; refine (HAL.out _).mono ?_; rintro e_ w1 ⟨rfl, hb_⟩; have HB := Aside0.mk hb_; clear hb_) | fail)
    go_ret
    exact ⟨rfl, HB.out⟩
  have hd : decide (80 < (l.length : Int)) = false := decide_eq_false (by omega)
  have H80 := Aside0.mk (Nat.not_lt.1 h80)
  clear h80
  go_enter Try.func5, Try.ntmps5
  go_upto_region 6 with (first | (go_at_call 7; refine (HAL.out _).mono ?_; rintro e_ w1 ⟨rfl, hb_⟩; have HB := Aside0.mk hb_; clear hb_) | fail)
  go_upto_region 7 with (first | (go_at_call 14; refine (asks_nilc _ _ _).mono ?_; rintro e_ w1 ⟨rfl, hb_⟩; have HB := Aside0.mk (below_step HB.out hb_); clear hb_) | fail)
  go_upto_region 9 with (first | (go_at_call 15; refine (is_c _).mono ?_; rintro e_ w1 ⟨rfl, hb_⟩; have HB := Aside0.mk (below_step HB.out hb_); clear hb_) | (go_at_call 16; refine (nil_set _).mono ?_; rintro e_ w1 ⟨rfl, hb_⟩; have HB := Aside0.mk (below_step HB.out hb_); clear hb_) | (go_at_call 17; refine (nil_forget _ _).mono ?_; rintro e_ w1 ⟨rfl, hb_⟩; have HB := Aside0.mk (below_step HB.out hb_); clear hb_) | (go_at_call 18; refine (nil_len _).mono ?_; rintro e_ w1 ⟨rfl, hb_⟩; have HB := Aside0.mk (below_step HB.out hb_); clear hb_) | (go_at_call 19; refine (nil_room _).mono ?_; rintro e_ w1 ⟨rfl, hb_⟩; have HB := Aside0.mk (below_step HB.out hb_); clear hb_) | (go_at_call 20; refine (nil_entries _).mono ?_; rintro e_ w1 ⟨rfl, hb_⟩; have HB := Aside0.mk (below_step HB.out hb_); clear hb_) | (go_at_call 21; refine (nil_span _).mono ?_; rintro e_ w1 ⟨rfl, hb_⟩; have HB := Aside0.mk (below_step HB.out hb_); clear hb_) | fail)
  by_cases hfit : 1 ≤ room ∧ room ≤ 1024 ∧ 0 ≤ span ∧ span ≤ 4611686018427387904
  · have HNEW := Aside0.mk (fun W => newu_ok W room span hfit)
    have HNES := Aside0.mk (fun W => news_ok W room span hfit)
    have HFIT := Aside0.mk hfit
    clear hfit
    go_upto_region 13 with (first | (go_at_call 8; refine (HNEW.out _).mono ?_; rintro e_ w2 ⟨g, rfl, ht_, hg_, hb_⟩; have HG := Aside0.mk (show w.heap.size ≤ g from Nat.le_trans HB.out.size hg_); have HB := Aside0.mk (below_step HB.out hb_); have HT := Aside0.mk ht_; clear ht_ hg_ hb_) | (go_at_call 22; refine (HNES.out _).mono ?_; rintro e_ w3 ⟨g2, rfl, ht_, hg_, hb_⟩; have HG2 := Aside0.mk (show w.heap.size ≤ g2 from Nat.le_trans HB.out.size hg_); have HB := Aside0.mk (below_step HB.out hb_); have HT := Aside0.mk (HT.out.below hb_); have HS := Aside0.mk ht_; clear ht_ hg_ hb_) | fail)
    have NB := Aside0.mk (show Nb w.heap.size g g from ⟨HG.out, HG.out⟩)
    have HNBS := Aside0.mk (show Nb w.heap.size g2 g2 from ⟨HG2.out, HG2.out⟩)
    clear HNEW HNES HG HG2 HAL
    go_wp2
    go_loopg [100] l.length (fun kx s100 wr => ∃ (i : Nat) (es : List S37) (b b3 : Nat), s100 = .int .i64 i ∧ i ≤ l.length ∧ l.length - i ≤ kx ∧ Aside0 (Tabu wr g b es room span) ∧ Aside0 (Tabs wr g2 b3 (img es) room span) ∧ Aside0 (Nb w.heap.size g b) ∧ Aside0 (Nb w.heap.size g2 b3) ∧ Aside0 (Below w.heap.size w wr) ∧ Aside0 (Invu es room) ∧ Aside0 (KU es))
    case atStart => exact ⟨0, [], g, g2, rfl, Nat.zero_le _, Nat.sub_le _ _, HT, HS, NB, HNBS, HB, ⟨Invu.nil room HFIT.out.1⟩, ⟨fun x h => by cases h⟩⟩
    case round =>
      clear HT HS NB HNBS HB
      obtain ⟨i, es, b, b3, rfl, hi, hk, HT, HS, NB, HNBS, HB, HI, HKU⟩ := hrel
      by_cases hlt : i < l.length
      · obtain ⟨ad, eA, hx0, hx1, hx2, hx3⟩ := at_T32 HL.out (i : Int) (by omega) (by omega)
        subst eA
        obtain ⟨x, hx⟩ : ∃ x, rd_T32 l (i : Int) = x := ⟨_, rfl⟩
        rw [hx, Int.toNat_natCast] at hx0 hx1 hx2 hx3
        have hxo : ok32 x := by
          rw [← hx]
          refine HOK.out _ ?_
          unfold rd_T32
          rw [Int.toNat_natCast, List.getD_eq_getElem?_getD, List.getElem?_eq_getElem hlt]
          exact List.getElem_mem _
        have HXU := Aside0.mk (u32_of hxo.2.1)
        clear hx hxo
        replace hx0 := (HB.out.cell (World.block_lt_of_cell? w _ hx0)).trans hx0
        replace hx1 := (HB.out.cell (World.block_lt_of_cell? w _ hx1)).trans hx1
        replace hx2 := (HB.out.cell (World.block_lt_of_cell? w _ hx2)).trans hx2
        replace hx3 := (HB.out.cell (World.block_lt_of_cell? w _ hx3)).trans hx3
        have hlti : (i : Int) < (l.length : Int) := by omega
        have HB0 := Aside0.mk (Below.refl wr.heap.size wr)
        go_upto_region 16 with (first | ((with_reducible refine gate_dst (N := 15) rfl ?_); refine box_event ?hg (N := 15) ?hd (cs := #[.int .i64 0, .int .u32 0, .int .i64 0, .int .i64 0]) (t := 32) ?hr ?_; (case hd => rfl); (case hg => rfl); (case hr => go_simp; try rfl); intro gx hg_ w1 hx_ hb_; have Gx := Aside0.mk hg_; have Hx := Aside0.mk hb_; have Bx := Aside0.mk hx_; clear hg_ hx_ hb_; skip) | ((with_reducible refine gate_store (t := 32) (p := 15) rfl ?_); refine wpList_store_row rfl 32 _ _ rfl gx #[.int .i64 x.f0, .int .u32 x.f1, .int .i64 x.f2, .int .i64 x.f3] rfl rfl 32 _ Bx.out (by kernel_rfl) (by rfl) (a4_one x) ?_) | fail)
        have X0 := Aside0.mk ((PH.start HB0.out Hx.out Gx.out Bx.out).set #[.int .i64 x.f0, .int .u32 x.f1, .int .i64 x.f2, .int .i64 x.f3])
        clear Gx Hx Bx HB0 hx0 hx1 hx2 hx3
        generalize w1.setRow gx #[.int .i64 x.f0, .int .u32 x.f1, .int .i64 x.f2, .int .i64 x.f3] = w2 at X0 ⊢
        have HT := Aside0.mk (HT.out.below X0.out.bel)
        have HS := Aside0.mk (HS.out.below X0.out.bel)
        have HB := Aside0.mk (below_step HB.out X0.out.bel)
        have y1 : w2.cell? ⟨gx, 1, none⟩ = some (.int .u32 x.f1) := (blk_cell X0.out.row 1).trans rfl
        have y2 : w2.cell? ⟨gx, 2, none⟩ = some (.int .i64 x.f2) := (blk_cell X0.out.row 2).trans rfl
        have HASK := Aside0.mk (fun W (hW : Tabu W g b es room span) => askallu_c W g b es room span x.f1 x.f2 hW HI.out HFIT.out.1 HFIT.out.2.1)
        have HASKS := Aside0.mk (fun W (hW : Tabs W g2 b3 (img es) room span) => askalls_c W g2 b3 (img es) room span (raw10 x.f1) x.f2 hW (inv_img es room HI.out HKU.out) HFIT.out.1 HFIT.out.2.1)
        rw [ansA_img es x.f1 x.f2 span HXU.out HKU.out, askA_img es x.f1 x.f2 room span HXU.out HKU.out, show errAs x.f2 = errAu x.f2 from rfl] at HASKS
        have HI2 := Aside0.mk (askAu_inv es x.f1 x.f2 room span HI.out HFIT.out.1)
        have HKU2 := Aside0.mk (HKU.out.askA (m := x.f2) (room := room) (span := span) HXU.out)
        obtain ⟨es2, hes2⟩ : ∃ es2, askAu es x.f1 x.f2 room span = es2 := ⟨_, rfl⟩
        obtain ⟨an, han⟩ : ∃ an, ansAu es x.f1 x.f2 span = an := ⟨_, rfl⟩
        obtain ⟨er, her⟩ : ∃ er, errAu x.f2 = er := ⟨_, rfl⟩
        rw [hes2, han, her] at HASK HASKS
        rw [hes2] at HI2 HKU2
        clear hes2 han her HI HKU
        go_upto_region 17 with (first | (go_at_call 9; refine (HASK.out _ HT.out).mono ?_; rintro e_ w3 ⟨rfl, b2, ht_, hb_, hf_⟩; have HS := Aside0.mk (keepSU HT.out HS.out hf_); have NB2 := Aside0.mk (NB.out.step HB.out.size hb_); have XR := Aside0.mk (keepXu X0.out.row HT.out hf_); have HB := Aside0.mk (NB.out.below HB.out hf_); have HT := Aside0.mk ht_; clear ht_ hb_ hf_) | fail)
        clear y1 y2 X0 NB HASK
        have hcv1 := wr_key HXU.out
        have hcv2 : IntKind.i64.wrap x.f1 = x.f1 := (i64_w x.f1).trans hcv1
        refine region_inv (T := ?T17) [some 114, some 115, some 116, some 117, some 118, some 119, some 120, some 121, some 113, some 122, some 123, some 18, some 19] ?hT17 (fun dn_ X w_ => Tabu w_ g b2 es2 room span ∧ (dn_ 7 = false → Tabs w_ g2 b3 (img es) room span) ∧ (dn_ 7 = true → ∃ b4, Tabs w_ g2 b4 (img es2) room span ∧ Nb w.heap.size g2 b4) ∧ w_.heap[gx]? = some (.cells #[.int .i64 x.f0, .int .u32 x.f1, .int .i64 x.f2, .int .i64 x.f3] 32 (0, 0)) ∧ Below w.heap.size w w_ ∧ (dn_ 0 = true → X 0 = .pointer (some ⟨g2, 0, none⟩)) ∧ (dn_ 1 = true → X 1 = .pointer (some ⟨gx, 1, none⟩)) ∧ (dn_ 2 = true → X 2 = .int .u32 x.f1) ∧ (dn_ 3 = true → X 3 = .int .i64 x.f1) ∧ (dn_ 4 = true → X 4 = .string (raw10 x.f1)) ∧ (dn_ 5 = true → X 5 = .pointer (some ⟨gx, 2, none⟩)) ∧ (dn_ 6 = true → X 6 = .int .i64 x.f2) ∧ (dn_ 7 = true → X 7 = .tuple #[.int .i64 an, errW er]) ∧ (dn_ 8 = true → X 8 = .tuple #[.int .i64 an, errW er]) ∧ (dn_ 9 = true → X 9 = .int .i64 an) ∧ (dn_ 10 = true → X 10 = errW er) ∧ (dn_ 11 = true → X 11 = .int .i64 an) ∧ (dn_ 12 = true → X 12 = errW er)) (by kernel_rfl) (by kernel_rfl) (by rfl) [0, 1, 2, 3, 4, 5, 6, 7, 8, 9, 10, 11, 12] rfl (.cons (some 114) rfl rfl (fun dn_ X w_ hd0_ hd_ hI_ K hK => ?_) (.cons (some 115) rfl rfl (fun dn_ X w_ hd0_ hd_ hI_ K hK => ?_) (.cons (some 116) rfl rfl (fun dn_ X w_ hd0_ hd_ hI_ K hK => ?_) (.cons (some 117) rfl rfl (fun dn_ X w_ hd0_ hd_ hI_ K hK => ?_) (.cons (some 118) rfl rfl (fun dn_ X w_ hd0_ hd_ hI_ K hK => ?_) (.cons (some 119) rfl rfl (fun dn_ X w_ hd0_ hd_ hI_ K hK => ?_) (.cons (some 120) rfl rfl (fun dn_ X w_ hd0_ hd_ hI_ K hK => ?_) (.cons (some 121) rfl rfl (fun dn_ X w_ hd0_ hd_ hI_ K hK => ?_) (.cons (some 113) rfl rfl (fun dn_ X w_ hd0_ hd_ hI_ K hK => ?_) (.cons (some 122) rfl rfl (fun dn_ X w_ hd0_ hd_ hI_ K hK => ?_) (.cons (some 123) rfl rfl (fun dn_ X w_ hd0_ hd_ hI_ K hK => ?_) (.cons (some 18) rfl rfl (fun dn_ X w_ hd0_ hd_ hI_ K hK => ?_) (.cons (some 19) rfl rfl (fun dn_ X w_ hd0_ hd_ hI_ K hK => ?_) .nil))))))))))))) ?h017 ?hend17
        case hT17 =>
          intro X
          simp only [fill, Act.put, List.setIfInBounds_toArray, List.set_cons_zero, List.set_cons_succ, Nat.zero_add, Nat.reduceAdd]
          rfl
        case h017 =>
          exact ⟨HT.out.below (below_drew (Below.refl _ _)), (fun _ => HS.out.below (below_drew (Below.refl _ _))), (fun h_ => by cases h_), XR.out, below_drew HB.out, (fun h_ => by cases h_), (fun h_ => by cases h_), (fun h_ => by cases h_), (fun h_ => by cases h_), (fun h_ => by cases h_), (fun h_ => by cases h_), (fun h_ => by cases h_), (fun h_ => by cases h_), (fun h_ => by cases h_), (fun h_ => by cases h_), (fun h_ => by cases h_), (fun h_ => by cases h_), (fun h_ => by cases h_)⟩
        · -- 0
          refine val_ (w1 := w_) (v := .pointer (some ⟨g2, 0, none⟩)) (by rfl) rfl ?_ (hK.out _ _ _ rfl ⟨hI_.1, hI_.2.1, hI_.2.2.1, hI_.2.2.2.1, hI_.2.2.2.2.1, (fun _ => rfl), hI_.2.2.2.2.2.2.1, hI_.2.2.2.2.2.2.2.1, hI_.2.2.2.2.2.2.2.2.1, hI_.2.2.2.2.2.2.2.2.2.1, hI_.2.2.2.2.2.2.2.2.2.2.1, hI_.2.2.2.2.2.2.2.2.2.2.2.1, hI_.2.2.2.2.2.2.2.2.2.2.2.2.1, hI_.2.2.2.2.2.2.2.2.2.2.2.2.2.1, hI_.2.2.2.2.2.2.2.2.2.2.2.2.2.2.1, hI_.2.2.2.2.2.2.2.2.2.2.2.2.2.2.2.1, hI_.2.2.2.2.2.2.2.2.2.2.2.2.2.2.2.2.1, hI_.2.2.2.2.2.2.2.2.2.2.2.2.2.2.2.2.2⟩)
          go_simp
          all_goals (first | decide | rfl)
        · -- 1
          refine val_ (w1 := w_) (v := .pointer (some ⟨gx, 1, none⟩)) (by rfl) rfl ?_ (hK.out _ _ _ rfl ⟨hI_.1, hI_.2.1, hI_.2.2.1, hI_.2.2.2.1, hI_.2.2.2.2.1, hI_.2.2.2.2.2.1, (fun _ => rfl), hI_.2.2.2.2.2.2.2.1, hI_.2.2.2.2.2.2.2.2.1, hI_.2.2.2.2.2.2.2.2.2.1, hI_.2.2.2.2.2.2.2.2.2.2.1, hI_.2.2.2.2.2.2.2.2.2.2.2.1, hI_.2.2.2.2.2.2.2.2.2.2.2.2.1, hI_.2.2.2.2.2.2.2.2.2.2.2.2.2.1, hI_.2.2.2.2.2.2.2.2.2.2.2.2.2.2.1, hI_.2.2.2.2.2.2.2.2.2.2.2.2.2.2.2.1, hI_.2.2.2.2.2.2.2.2.2.2.2.2.2.2.2.2.1, hI_.2.2.2.2.2.2.2.2.2.2.2.2.2.2.2.2.2⟩)
          go_simp
          all_goals (first | decide | rfl)
        · -- 2
          have wX := hI_.2.2.2.1
          have e1 := hI_.2.2.2.2.2.2.1 (hd_ 1 1 (by kernel_rfl))
          have z1_ := (blk_cell wX 1).trans (show (#[.int .i64 x.f0, .int .u32 x.f1, .int .i64 x.f2, .int .i64 x.f3] : Array Value)[1]? = some (.int .u32 x.f1) from rfl)
          refine val_ (w1 := w_) (v := .int .u32 x.f1) (by rfl) rfl ?_ (hK.out _ _ _ rfl ⟨hI_.1, hI_.2.1, hI_.2.2.1, hI_.2.2.2.1, hI_.2.2.2.2.1, hI_.2.2.2.2.2.1, hI_.2.2.2.2.2.2.1, (fun _ => rfl), hI_.2.2.2.2.2.2.2.2.1, hI_.2.2.2.2.2.2.2.2.2.1, hI_.2.2.2.2.2.2.2.2.2.2.1, hI_.2.2.2.2.2.2.2.2.2.2.2.1, hI_.2.2.2.2.2.2.2.2.2.2.2.2.1, hI_.2.2.2.2.2.2.2.2.2.2.2.2.2.1, hI_.2.2.2.2.2.2.2.2.2.2.2.2.2.2.1, hI_.2.2.2.2.2.2.2.2.2.2.2.2.2.2.2.1, hI_.2.2.2.2.2.2.2.2.2.2.2.2.2.2.2.2.1, hI_.2.2.2.2.2.2.2.2.2.2.2.2.2.2.2.2.2⟩)
          go_simp
          all_goals (first | decide | rfl)
        · -- 3
          have e2 := hI_.2.2.2.2.2.2.2.1 (hd_ 1 2 (by kernel_rfl))
          refine val_ (w1 := w_) (v := .int .i64 x.f1) (by rfl) rfl ?_ (hK.out _ _ _ rfl ⟨hI_.1, hI_.2.1, hI_.2.2.1, hI_.2.2.2.1, hI_.2.2.2.2.1, hI_.2.2.2.2.2.1, hI_.2.2.2.2.2.2.1, hI_.2.2.2.2.2.2.2.1, (fun _ => rfl), hI_.2.2.2.2.2.2.2.2.2.1, hI_.2.2.2.2.2.2.2.2.2.2.1, hI_.2.2.2.2.2.2.2.2.2.2.2.1, hI_.2.2.2.2.2.2.2.2.2.2.2.2.1, hI_.2.2.2.2.2.2.2.2.2.2.2.2.2.1, hI_.2.2.2.2.2.2.2.2.2.2.2.2.2.2.1, hI_.2.2.2.2.2.2.2.2.2.2.2.2.2.2.2.1, hI_.2.2.2.2.2.2.2.2.2.2.2.2.2.2.2.2.1, hI_.2.2.2.2.2.2.2.2.2.2.2.2.2.2.2.2.2⟩)
          go_simp
          all_goals (first | decide | rfl)
        · -- 4
          have wU := hI_.1
          have wS := hI_.2.1
          have wP := hI_.2.2.1
          have wX := hI_.2.2.2.1
          have wB := hI_.2.2.2.2.1
          have h0 := hI_.2.2.2.2.2.1
          have h1 := hI_.2.2.2.2.2.2.1
          have h2 := hI_.2.2.2.2.2.2.2.1
          have h3 := hI_.2.2.2.2.2.2.2.2.1
          have h4 := hI_.2.2.2.2.2.2.2.2.2.1
          have h5 := hI_.2.2.2.2.2.2.2.2.2.2.1
          have h6 := hI_.2.2.2.2.2.2.2.2.2.2.2.1
          have h7 := hI_.2.2.2.2.2.2.2.2.2.2.2.2.1
          have h8 := hI_.2.2.2.2.2.2.2.2.2.2.2.2.2.1
          have h9 := hI_.2.2.2.2.2.2.2.2.2.2.2.2.2.2.1
          have h10 := hI_.2.2.2.2.2.2.2.2.2.2.2.2.2.2.2.1
          have h11 := hI_.2.2.2.2.2.2.2.2.2.2.2.2.2.2.2.2.1
          have h12 := hI_.2.2.2.2.2.2.2.2.2.2.2.2.2.2.2.2.2
          have e3 := h3 (hd_ 1 3 (by kernel_rfl))
          refine goes_ Try.func24 (by kernel_rfl) rfl #[X 3, .int .i64 10] (by rfl) rfl rfl (by simp only [List.map_toArray, List.map_cons, List.map_nil]; rfl) ?_
          refine calls_args (args2 e3 rfl) ?_
          refine (raw10_c w_ x.f1 HXU.out).mono ?_
          rintro e_ w' ⟨rfl, hb_⟩
          exact ⟨_, rfl, hK.out _ _ _ rfl ⟨(wU.below hb_), (fun h_ => (wS h_).below hb_), (fun h_ => by obtain ⟨b4, t_, n_⟩ := wP h_; exact ⟨b4, t_.below hb_, n_⟩), (blk_below wX hb_), (below_step wB hb_), h0, h1, h2, h3, (fun _ => rfl), h5, h6, h7, h8, h9, h10, h11, h12⟩⟩
        · -- 5
          refine val_ (w1 := w_) (v := .pointer (some ⟨gx, 2, none⟩)) (by rfl) rfl ?_ (hK.out _ _ _ rfl ⟨hI_.1, hI_.2.1, hI_.2.2.1, hI_.2.2.2.1, hI_.2.2.2.2.1, hI_.2.2.2.2.2.1, hI_.2.2.2.2.2.2.1, hI_.2.2.2.2.2.2.2.1, hI_.2.2.2.2.2.2.2.2.1, hI_.2.2.2.2.2.2.2.2.2.1, (fun _ => rfl), hI_.2.2.2.2.2.2.2.2.2.2.2.1, hI_.2.2.2.2.2.2.2.2.2.2.2.2.1, hI_.2.2.2.2.2.2.2.2.2.2.2.2.2.1, hI_.2.2.2.2.2.2.2.2.2.2.2.2.2.2.1, hI_.2.2.2.2.2.2.2.2.2.2.2.2.2.2.2.1, hI_.2.2.2.2.2.2.2.2.2.2.2.2.2.2.2.2.1, hI_.2.2.2.2.2.2.2.2.2.2.2.2.2.2.2.2.2⟩)
          go_simp
          all_goals (first | decide | rfl)
        · -- 6
          have wX := hI_.2.2.2.1
          have e5 := hI_.2.2.2.2.2.2.2.2.2.2.1 (hd_ 1 5 (by kernel_rfl))
          have z2_ := (blk_cell wX 2).trans (show (#[.int .i64 x.f0, .int .u32 x.f1, .int .i64 x.f2, .int .i64 x.f3] : Array Value)[2]? = some (.int .i64 x.f2) from rfl)
          refine val_ (w1 := w_) (v := .int .i64 x.f2) (by rfl) rfl ?_ (hK.out _ _ _ rfl ⟨hI_.1, hI_.2.1, hI_.2.2.1, hI_.2.2.2.1, hI_.2.2.2.2.1, hI_.2.2.2.2.2.1, hI_.2.2.2.2.2.2.1, hI_.2.2.2.2.2.2.2.1, hI_.2.2.2.2.2.2.2.2.1, hI_.2.2.2.2.2.2.2.2.2.1, hI_.2.2.2.2.2.2.2.2.2.2.1, (fun _ => rfl), hI_.2.2.2.2.2.2.2.2.2.2.2.2.1, hI_.2.2.2.2.2.2.2.2.2.2.2.2.2.1, hI_.2.2.2.2.2.2.2.2.2.2.2.2.2.2.1, hI_.2.2.2.2.2.2.2.2.2.2.2.2.2.2.2.1, hI_.2.2.2.2.2.2.2.2.2.2.2.2.2.2.2.2.1, hI_.2.2.2.2.2.2.2.2.2.2.2.2.2.2.2.2.2⟩)
          go_simp
          all_goals (first | decide | rfl)
        · -- 7
          have wU := hI_.1
          have wS := hI_.2.1
          have wP := hI_.2.2.1
          have wX := hI_.2.2.2.1
          have wB := hI_.2.2.2.2.1
          have h0 := hI_.2.2.2.2.2.1
          have h1 := hI_.2.2.2.2.2.2.1
          have h2 := hI_.2.2.2.2.2.2.2.1
          have h3 := hI_.2.2.2.2.2.2.2.2.1
          have h4 := hI_.2.2.2.2.2.2.2.2.2.1
          have h5 := hI_.2.2.2.2.2.2.2.2.2.2.1
          have h6 := hI_.2.2.2.2.2.2.2.2.2.2.2.1
          have h7 := hI_.2.2.2.2.2.2.2.2.2.2.2.2.1
          have h8 := hI_.2.2.2.2.2.2.2.2.2.2.2.2.2.1
          have h9 := hI_.2.2.2.2.2.2.2.2.2.2.2.2.2.2.1
          have h10 := hI_.2.2.2.2.2.2.2.2.2.2.2.2.2.2.2.1
          have h11 := hI_.2.2.2.2.2.2.2.2.2.2.2.2.2.2.2.2.1
          have h12 := hI_.2.2.2.2.2.2.2.2.2.2.2.2.2.2.2.2.2
          have e0 := h0 (hd_ 1 0 (by kernel_rfl))
          have e4 := h4 (hd_ 1 4 (by kernel_rfl))
          have e6 := h6 (hd_ 1 6 (by kernel_rfl))
          have HS_ := wS hd0_
          refine goes_ Try.func14 (by kernel_rfl) rfl #[X 0, X 4, X 6] (by rfl) rfl rfl (by simp only [List.map_toArray, List.map_cons, List.map_nil]; rfl) ?_
          refine calls_args (args3 e0 e4 e6) ?_
          refine (HASKS.out w_ HS_).mono ?_
          rintro e_ w' ⟨rfl, b4, ht_, hb_, hf_⟩
          exact ⟨_, rfl, hK.out _ _ _ rfl ⟨(keepUS wU HS_ hf_), (fun h_ => nomatch (show true = false from h_)), (fun _ => ⟨b4, ht_, HNBS.out.step wB.size hb_⟩), (keepX wX HS_ hf_), (HNBS.out.below wB hf_), h0, h1, h2, h3, h4, h5, h6, (fun _ => rfl), h8, h9, h10, h11, h12⟩⟩
        · -- 8
          have e7 := hI_.2.2.2.2.2.2.2.2.2.2.2.2.1 (hd_ 1 7 (by kernel_rfl))
          refine val_ (w1 := w_) (v := .tuple #[.int .i64 an, errW er]) (by rfl) rfl ?_ (hK.out _ _ _ rfl ⟨hI_.1, hI_.2.1, hI_.2.2.1, hI_.2.2.2.1, hI_.2.2.2.2.1, hI_.2.2.2.2.2.1, hI_.2.2.2.2.2.2.1, hI_.2.2.2.2.2.2.2.1, hI_.2.2.2.2.2.2.2.2.1, hI_.2.2.2.2.2.2.2.2.2.1, hI_.2.2.2.2.2.2.2.2.2.2.1, hI_.2.2.2.2.2.2.2.2.2.2.2.1, hI_.2.2.2.2.2.2.2.2.2.2.2.2.1, (fun _ => rfl), hI_.2.2.2.2.2.2.2.2.2.2.2.2.2.2.1, hI_.2.2.2.2.2.2.2.2.2.2.2.2.2.2.2.1, hI_.2.2.2.2.2.2.2.2.2.2.2.2.2.2.2.2.1, hI_.2.2.2.2.2.2.2.2.2.2.2.2.2.2.2.2.2⟩)
          go_simp
          all_goals (first | decide | rfl)
        · -- 9
          have e8 := hI_.2.2.2.2.2.2.2.2.2.2.2.2.2.1 (hd_ 1 8 (by kernel_rfl))
          refine val_ (w1 := w_) (v := .int .i64 an) (by rfl) rfl ?_ (hK.out _ _ _ rfl ⟨hI_.1, hI_.2.1, hI_.2.2.1, hI_.2.2.2.1, hI_.2.2.2.2.1, hI_.2.2.2.2.2.1, hI_.2.2.2.2.2.2.1, hI_.2.2.2.2.2.2.2.1, hI_.2.2.2.2.2.2.2.2.1, hI_.2.2.2.2.2.2.2.2.2.1, hI_.2.2.2.2.2.2.2.2.2.2.1, hI_.2.2.2.2.2.2.2.2.2.2.2.1, hI_.2.2.2.2.2.2.2.2.2.2.2.2.1, hI_.2.2.2.2.2.2.2.2.2.2.2.2.2.1, (fun _ => rfl), hI_.2.2.2.2.2.2.2.2.2.2.2.2.2.2.2.1, hI_.2.2.2.2.2.2.2.2.2.2.2.2.2.2.2.2.1, hI_.2.2.2.2.2.2.2.2.2.2.2.2.2.2.2.2.2⟩)
          go_simp
          all_goals (first | decide | rfl)
        · -- 10
          have e8 := hI_.2.2.2.2.2.2.2.2.2.2.2.2.2.1 (hd_ 1 8 (by kernel_rfl))
          refine val_ (w1 := w_) (v := errW er) (by rfl) rfl ?_ (hK.out _ _ _ rfl ⟨hI_.1, hI_.2.1, hI_.2.2.1, hI_.2.2.2.1, hI_.2.2.2.2.1, hI_.2.2.2.2.2.1, hI_.2.2.2.2.2.2.1, hI_.2.2.2.2.2.2.2.1, hI_.2.2.2.2.2.2.2.2.1, hI_.2.2.2.2.2.2.2.2.2.1, hI_.2.2.2.2.2.2.2.2.2.2.1, hI_.2.2.2.2.2.2.2.2.2.2.2.1, hI_.2.2.2.2.2.2.2.2.2.2.2.2.1, hI_.2.2.2.2.2.2.2.2.2.2.2.2.2.1, hI_.2.2.2.2.2.2.2.2.2.2.2.2.2.2.1, (fun _ => rfl), hI_.2.2.2.2.2.2.2.2.2.2.2.2.2.2.2.2.1, hI_.2.2.2.2.2.2.2.2.2.2.2.2.2.2.2.2.2⟩)
          go_simp
          all_goals (first | decide | rfl)
        · -- 11
          have e9 := hI_.2.2.2.2.2.2.2.2.2.2.2.2.2.2.1 (hd_ 1 9 (by kernel_rfl))
          refine val_ (w1 := w_) (v := .int .i64 an) (by rfl) rfl ?_ (hK.out _ _ _ rfl ⟨hI_.1, hI_.2.1, hI_.2.2.1, hI_.2.2.2.1, hI_.2.2.2.2.1, hI_.2.2.2.2.2.1, hI_.2.2.2.2.2.2.1, hI_.2.2.2.2.2.2.2.1, hI_.2.2.2.2.2.2.2.2.1, hI_.2.2.2.2.2.2.2.2.2.1, hI_.2.2.2.2.2.2.2.2.2.2.1, hI_.2.2.2.2.2.2.2.2.2.2.2.1, hI_.2.2.2.2.2.2.2.2.2.2.2.2.1, hI_.2.2.2.2.2.2.2.2.2.2.2.2.2.1, hI_.2.2.2.2.2.2.2.2.2.2.2.2.2.2.1, hI_.2.2.2.2.2.2.2.2.2.2.2.2.2.2.2.1, (fun _ => rfl), hI_.2.2.2.2.2.2.2.2.2.2.2.2.2.2.2.2.2⟩)
          go_simp
          all_goals (first | decide | rfl)
        · -- 12
          have e10 := hI_.2.2.2.2.2.2.2.2.2.2.2.2.2.2.2.1 (hd_ 1 10 (by kernel_rfl))
          refine val_ (w1 := w_) (v := errW er) (by rfl) rfl ?_ (hK.out _ _ _ rfl ⟨hI_.1, hI_.2.1, hI_.2.2.1, hI_.2.2.2.1, hI_.2.2.2.2.1, hI_.2.2.2.2.2.1, hI_.2.2.2.2.2.2.1, hI_.2.2.2.2.2.2.2.1, hI_.2.2.2.2.2.2.2.2.1, hI_.2.2.2.2.2.2.2.2.2.1, hI_.2.2.2.2.2.2.2.2.2.2.1, hI_.2.2.2.2.2.2.2.2.2.2.2.1, hI_.2.2.2.2.2.2.2.2.2.2.2.2.1, hI_.2.2.2.2.2.2.2.2.2.2.2.2.2.1, hI_.2.2.2.2.2.2.2.2.2.2.2.2.2.2.1, hI_.2.2.2.2.2.2.2.2.2.2.2.2.2.2.2.1, hI_.2.2.2.2.2.2.2.2.2.2.2.2.2.2.2.2.1, (fun _ => rfl)⟩)
          go_simp
          all_goals (first | decide | rfl)
        intro dn_ X w5 hdn_ hI_
        obtain ⟨wU, wS, wP, wX, wB, h0, h1, h2, h3, h4, h5, h6, h7, h8, h9, h10, h11, h12⟩ := hI_
        clear HS HNBS
        have e11_ := h11 (hdn_ 11 (by decide))
        have e12_ := h12 (hdn_ 12 (by decide))
        rw [e11_, e12_]
        clear e11_ e12_
        obtain ⟨b4, hs4_, hn4_⟩ := wP (hdn_ 7 (by decide))
        have HS := Aside0.mk hs4_
        have HNBS := Aside0.mk hn4_
        have HT := Aside0.mk wU
        have HB := Aside0.mk wB
        clear hs4_ hn4_ wU wS wP wX wB h0 h1 h2 h3 h4 h5 h6 h7 h8 h9 h10 h11 h12 hdn_
        have hwi := wr_succM i l.length hlt (Nat.le_trans H80.out (by decide))
        have HNUM := Aside0.mk (fun W => num_c W er)
        have HLU := Aside0.mk (fun W (hW : Tabu W g b2 es2 room span) => lenu_c W g b2 es2 room span hW)
        have HLS := Aside0.mk (fun W (hW : Tabs W g2 b4 (img es2) room span) => lens_c W g2 b4 (img es2) room span hW)
        rw [img_len] at HLS
        obtain ⟨rn, hrn⟩ : ∃ rn, numE er = rn := ⟨_, rfl⟩
        rw [hrn] at HNUM
        clear hrn
        go_wp2_with (first | (go_at_call 23; refine (HNUM.out _).mono ?_; rintro e_ w6 ⟨rfl, hb_⟩; have HT := Aside0.mk (HT.out.below hb_); have HS := Aside0.mk (HS.out.below hb_); have HB := Aside0.mk (below_step HB.out hb_); clear hb_) | (go_at_call 13; refine (HLU.out _ HT.out).mono ?_; rintro e_ w6 ⟨rfl, hb_⟩; have HT := Aside0.mk (HT.out.below hb_); have HS := Aside0.mk (HS.out.below hb_); have HB := Aside0.mk (below_step HB.out hb_); clear hb_) | (go_at_call 18; refine (HLS.out _ HS.out).mono ?_; rintro e_ w6 ⟨rfl, hb_⟩; have HT := Aside0.mk (HT.out.below hb_); have HS := Aside0.mk (HS.out.below hb_); have HB := Aside0.mk (below_step HB.out hb_); clear hb_) | fail)
        go_roundg (l.length - (i + 1))
        case measure => exact Nat.lt_of_lt_of_le (Nat.sub_lt_sub_left hlt (Nat.lt_succ_self i)) hk
        case rel => exact ⟨i + 1, es2, b2, b4, by first | rfl | go_num, hlt, Nat.le_refl _, HT, HS, NB2, HNBS, HB, HI2, HKU2⟩
      · have hlti : ¬ (i : Int) < (l.length : Int) := fun q => hlt (Int.ofNat_lt.1 q)
        have HEU := Aside0.mk (fun W (hW : Tabu W g b es room span) => entriesu_c W g b es room span hW (len_mill HI.out.len HFIT.out.2.1))
        have HES := Aside0.mk (fun W (hW : Tabs W g2 b3 (img es) room span) => entriess_c W g2 b3 (img es) room span hW (by rw [img_len]; exact len_mill HI.out.len HFIT.out.2.1))
        have HLM := Aside0.mk (len_mill HI.out.len HFIT.out.2.1)
        go_upto_region 22 with (first | (go_at_call 12; refine (HEU.out _ HT.out).mono ?_; rintro e_ w2 ⟨v1, n1, rfl, hs_, hn_, hb_⟩; have HV1 := Aside0.mk hs_; have HS := Aside0.mk (HS.out.below hb_); have HB := Aside0.mk (below_step HB.out hb_); clear hs_ hn_ hb_; obtain ⟨A1, c1, rfl⟩ := slu_form HV1.out) | (go_at_call 20; refine (HES.out _ HS.out).mono ?_; rintro e_ w3 ⟨v2, n2, rfl, hs_, hn_, hb_⟩; have HV1 := Aside0.mk (HV1.out.below hb_); have HV2 := Aside0.mk hs_; have HB := Aside0.mk (below_step HB.out hb_); clear hs_ hn_ hb_; obtain ⟨A2, c2, rfl⟩ := sls_form HV2.out; rw [img_len] at HV2; rw [img_len]) | fail)
        clear HEU HES HT HS
        go_wp2
        go_loopg [153] es.length (fun kx s153 wi => ∃ j : Nat, s153 = .int .i64 j ∧ j ≤ es.length ∧ es.length - j ≤ kx ∧ Aside0 (Slu wi g n1 (.slice A1 es.length c1) es) ∧ Aside0 (Sls wi g2 n2 (.slice A2 es.length c2) (img es)) ∧ Aside0 (Below w.heap.size w wi))
        case atStart => exact ⟨0, rfl, Nat.zero_le _, Nat.sub_le _ _, HV1, HV2, HB⟩
        case round =>
          clear HV1 HV2 HB
          obtain ⟨j, rfl, hj, hkj, HV1, HV2, HB⟩ := hrel
          by_cases hlj : j < es.length
          · obtain ⟨eA1, z0, z1, z2⟩ := slu_at HV1.out j hlj
            obtain ⟨eA2, q0, q1, q2⟩ := sls_at HV2.out j (by rw [img_len]; exact hlj)
            have hyi : (img es)[j]'(by rw [img_len]; exact hlj) = im1 es[j] := List.getElem_map ..
            rw [hyi] at q0 q1 q2
            subst eA1
            subst eA2
            have HYU := Aside0.mk (HKU.out _ (List.getElem_mem hlj))
            obtain ⟨y, hy⟩ : ∃ y, es[j] = y := ⟨_, rfl⟩
            rw [hy] at z0 z1 z2 q0 q1 q2 HYU
            have HZ : Aside0 (wr.cell? ⟨n1, j * 3, none⟩ = some (.int .u32 y.f0) ∧ wr.cell? ⟨n1, j * 3 + 1, none⟩ = some (.int .i64 y.f1) ∧ wr.cell? ⟨n1, j * 3 + 2, none⟩ = some (.bool y.f2) ∧ wr.cell? ⟨n2, j * 3, none⟩ = some (.string (raw10 y.f0)) ∧ wr.cell? ⟨n2, j * 3 + 1, none⟩ = some (.int .i64 y.f1) ∧ wr.cell? ⟨n2, j * 3 + 2, none⟩ = some (.bool y.f2)) := ⟨⟨z0, z1, z2, q0, q1, q2⟩⟩
            have hltj : (j : Int) < (es.length : Int) := Int.ofNat_lt.2 hlj
            have hcv1 := wr_key HYU.out
            have hcv2 : IntKind.i64.wrap y.f0 = y.f0 := (i64_w y.f0).trans hcv1
            clear z0 z1 z2 q0 q1 q2 hy hyi
            go_upto_region 27 with (fail)
            refine region_below (T := ?T) (n := 0) [some 156, some 157, some 158, some 159, some 160, some 161, some 162, some 163, some 164, some 165, some 166, some 167, some 168, some 169, some 170, some 171, some 172, some 173, some 174, some 175, some 176, some 177, some 178, some 179, some 180, some 181, some 182, some 183, some 184, some 185, some 186, some 187, some 188, some 189, some 190, some 191, some 192, some 193, some 194] ?hT (fun i_ v_ _ => v_ = V27 n1 n2 c1 c2 j es y i_) (by kernel_rfl) (by kernel_rfl) (fun i_ v_ w_ w1_ _ h_ _ => h_) [0, 1, 2, 3, 4, 5, 6, 7, 8, 9, 10, 11, 12, 13, 14, 15, 16, 17, 18, 19, 20, 21, 22, 23, 24, 25, 26, 27, 28, 29, 30, 31, 32, 33, 34, 35, 36, 37, 38] rfl (.cons (some 156) rfl rfl (fun X wx hG hX K hK => ?_) (.cons (some 157) rfl rfl (fun X wx hG hX K hK => ?_) (.cons (some 158) rfl rfl (fun X wx hG hX K hK => ?_) (.cons (some 159) rfl rfl (fun X wx hG hX K hK => ?_) (.cons (some 160) rfl rfl (fun X wx hG hX K hK => ?_) (.cons (some 161) rfl rfl (fun X wx hG hX K hK => ?_) (.cons (some 162) rfl rfl (fun X wx hG hX K hK => ?_) (.cons (some 163) rfl rfl (fun X wx hG hX K hK => ?_) (.cons (some 164) rfl rfl (fun X wx hG hX K hK => ?_) (.cons (some 165) rfl rfl (fun X wx hG hX K hK => ?_) (.cons (some 166) rfl rfl (fun X wx hG hX K hK => ?_) (.cons (some 167) rfl rfl (fun X wx hG hX K hK => ?_) (.cons (some 168) rfl rfl (fun X wx hG hX K hK => ?_) (.cons (some 169) rfl rfl (fun X wx hG hX K hK => ?_) (.cons (some 170) rfl rfl (fun X wx hG hX K hK => ?_) (.cons (some 171) rfl rfl (fun X wx hG hX K hK => ?_) (.cons (some 172) rfl rfl (fun X wx hG hX K hK => ?_) (.cons (some 173) rfl rfl (fun X wx hG hX K hK => ?_) (.cons (some 174) rfl rfl (fun X wx hG hX K hK => ?_) (.cons (some 175) rfl rfl (fun X wx hG hX K hK => ?_) (.cons (some 176) rfl rfl (fun X wx hG hX K hK => ?_) (.cons (some 177) rfl rfl (fun X wx hG hX K hK => ?_) (.cons (some 178) rfl rfl (fun X wx hG hX K hK => ?_) (.cons (some 179) rfl rfl (fun X wx hG hX K hK => ?_) (.cons (some 180) rfl rfl (fun X wx hG hX K hK => ?_) (.cons (some 181) rfl rfl (fun X wx hG hX K hK => ?_) (.cons (some 182) rfl rfl (fun X wx hG hX K hK => ?_) (.cons (some 183) rfl rfl (fun X wx hG hX K hK => ?_) (.cons (some 184) rfl rfl (fun X wx hG hX K hK => ?_) (.cons (some 185) rfl rfl (fun X wx hG hX K hK => ?_) (.cons (some 186) rfl rfl (fun X wx hG hX K hK => ?_) (.cons (some 187) rfl rfl (fun X wx hG hX K hK => ?_) (.cons (some 188) rfl rfl (fun X wx hG hX K hK => ?_) (.cons (some 189) rfl rfl (fun X wx hG hX K hK => ?_) (.cons (some 190) rfl rfl (fun X wx hG hX K hK => ?_) (.cons (some 191) rfl rfl (fun X wx hG hX K hK => ?_) (.cons (some 192) rfl rfl (fun X wx hG hX K hK => ?_) (.cons (some 193) rfl rfl (fun X wx hG hX K hK => ?_) (.cons (some 194) rfl rfl (fun X wx hG hX K hK => ?_) .nil))))))))))))))))))))))))))))))))))))))) (by kernel_rfl) #[true, true, true, true, true, true, true, true, true, true, true, true, true, true, true, true, true, true, true, true, true, true, true, true, true, true, true, true, true, true, true, true, true, true, true, true, true, true, true] (by kernel_rfl) ?_
            case hT =>
              intro X
              simp only [fill, Act.put, List.setIfInBounds_toArray, List.set_cons_zero, List.set_cons_succ, Nat.zero_add, Nat.reduceAdd]
              rfl
            · refine val_ (w1 := wx) (v := .slice (some ⟨n1, 0, none⟩) es.length c1) (by rfl) rfl ?_ (hK.out _ _ _ rfl (Below.refl _ _) rfl)
              go_simp
            · refine val_ (w1 := wx) (v := .int .i64 j) (by rfl) rfl ?_ (hK.out _ _ _ rfl (Below.refl _ _) rfl)
              go_simp
            · have e0 : X 0 = .slice (some ⟨n1, 0, none⟩) es.length c1 := hX 1 0 (by kernel_rfl)
              have e1 : X 1 = .int .i64 j := hX 1 1 (by kernel_rfl)
              refine val_ (w1 := wx) (v := .pointer (some ⟨n1, j * 3, none⟩)) (by rfl) rfl ?_ (hK.out _ _ _ rfl (Below.refl _ _) rfl)
              go_simp
            · have e2 : X 2 = .pointer (some ⟨n1, j * 3, none⟩) := hX 1 2 (by kernel_rfl)
              refine val_ (w1 := wx) (v := .pointer (some ⟨n1, j * 3, none⟩)) (by rfl) rfl ?_ (hK.out _ _ _ rfl (Below.refl _ _) rfl)
              go_simp
            · have e3 : X 3 = .pointer (some ⟨n1, j * 3, none⟩) := hX 1 3 (by kernel_rfl)
              have z_ : wx.cell? ⟨n1, j * 3, none⟩ = some (.int .u32 y.f0) := cell_later hG (show wr.drew.cell? ⟨n1, j * 3, none⟩ = _ from HZ.out.1)
              refine val_ (w1 := wx) (v := .int .u32 y.f0) (by rfl) rfl ?_ (hK.out _ _ _ rfl (Below.refl _ _) rfl)
              go_simp
            · have e4 : X 4 = .int .u32 y.f0 := hX 1 4 (by kernel_rfl)
              refine val_ (w1 := wx) (v := .int .i64 y.f0) (by rfl) rfl ?_ (hK.out _ _ _ rfl (Below.refl _ _) rfl)
              go_simp
            · have e5 : X 5 = .int .i64 y.f0 := hX 1 5 (by kernel_rfl)
              refine goes_ Try.func24 (by kernel_rfl) rfl #[X 5, .int .i64 10] (by rfl) rfl rfl (by simp only [List.map_toArray, List.map_cons, List.map_nil]; rfl) ?_
              refine calls_args (args2 e5 rfl) ?_
              refine (raw10_c wx y.f0 HYU.out).mono ?_
              rintro e_ w' ⟨rfl, hb_⟩
              exact ⟨_, rfl, hK.out _ _ _ rfl hb_ rfl⟩
            · refine val_ (w1 := wx) (v := .slice (some ⟨n2, 0, none⟩) es.length c2) (by rfl) rfl ?_ (hK.out _ _ _ rfl (Below.refl _ _) rfl)
              go_simp
            · refine val_ (w1 := wx) (v := .int .i64 j) (by rfl) rfl ?_ (hK.out _ _ _ rfl (Below.refl _ _) rfl)
              go_simp
            · have e7 : X 7 = .slice (some ⟨n2, 0, none⟩) es.length c2 := hX 1 7 (by kernel_rfl)
              have e8 : X 8 = .int .i64 j := hX 1 8 (by kernel_rfl)
              refine val_ (w1 := wx) (v := .pointer (some ⟨n2, j * 3, none⟩)) (by rfl) rfl ?_ (hK.out _ _ _ rfl (Below.refl _ _) rfl)
              go_simp
            · have e9 : X 9 = .pointer (some ⟨n2, j * 3, none⟩) := hX 1 9 (by kernel_rfl)
              refine val_ (w1 := wx) (v := .pointer (some ⟨n2, j * 3, none⟩)) (by rfl) rfl ?_ (hK.out _ _ _ rfl (Below.refl _ _) rfl)
              go_simp
            · have e10 : X 10 = .pointer (some ⟨n2, j * 3, none⟩) := hX 1 10 (by kernel_rfl)
              have z_ : wx.cell? ⟨n2, j * 3, none⟩ = some (.string (raw10 y.f0)) := cell_later hG (show wr.drew.cell? ⟨n2, j * 3, none⟩ = _ from HZ.out.2.2.2.1)
              refine val_ (w1 := wx) (v := .string (raw10 y.f0)) (by rfl) rfl ?_ (hK.out _ _ _ rfl (Below.refl _ _) rfl)
              go_simp
            · have e6 : X 6 = .string (raw10 y.f0) := hX 1 6 (by kernel_rfl)
              have e11 : X 11 = .string (raw10 y.f0) := hX 1 11 (by kernel_rfl)
              refine val_ (w1 := wx) (v := .bool false) (by rfl) rfl ?_ (hK.out _ _ _ rfl (Below.refl _ _) rfl)
              go_simp
            · have e12 : X 12 = .bool false := hX 1 12 (by kernel_rfl)
              refine val_ (w1 := wx) (v := .bool false) (by rfl) rfl ?_ (hK.out _ _ _ rfl (Below.refl _ _) rfl)
              go_simp
            · have e13 : X 13 = .bool false := hX 1 13 (by kernel_rfl)
              refine val_ (w1 := wx) (v := .slice (some ⟨n1, 0, none⟩) es.length c1) (wanted_of rfl rfl (congrArg some e13)) rfl ?_ (hK.out _ _ _ rfl (Below.refl _ _) rfl)
              go_simp
            · have e13 : X 13 = .bool false := hX 1 13 (by kernel_rfl)
              refine val_ (w1 := wx) (v := .int .i64 j) (wanted_of rfl rfl (congrArg some e13)) rfl ?_ (hK.out _ _ _ rfl (Below.refl _ _) rfl)
              go_simp
            · have e13 : X 13 = .bool false := hX 1 13 (by kernel_rfl)
              have e14 : X 14 = .slice (some ⟨n1, 0, none⟩) es.length c1 := hX 1 14 (by kernel_rfl)
              have e15 : X 15 = .int .i64 j := hX 1 15 (by kernel_rfl)
              refine val_ (w1 := wx) (v := .pointer (some ⟨n1, j * 3, none⟩)) (wanted_of rfl rfl (congrArg some e13)) rfl ?_ (hK.out _ _ _ rfl (Below.refl _ _) rfl)
              go_simp
            · have e13 : X 13 = .bool false := hX 1 13 (by kernel_rfl)
              have e16 : X 16 = .pointer (some ⟨n1, j * 3, none⟩) := hX 1 16 (by kernel_rfl)
              refine val_ (w1 := wx) (v := .pointer (some ⟨n1, j * 3 + 1, none⟩)) (wanted_of rfl rfl (congrArg some e13)) rfl ?_ (hK.out _ _ _ rfl (Below.refl _ _) rfl)
              go_simp
            · have e13 : X 13 = .bool false := hX 1 13 (by kernel_rfl)
              have e17 : X 17 = .pointer (some ⟨n1, j * 3 + 1, none⟩) := hX 1 17 (by kernel_rfl)
              have z_ : wx.cell? ⟨n1, j * 3 + 1, none⟩ = some (.int .i64 y.f1) := cell_later hG (show wr.drew.cell? ⟨n1, j * 3 + 1, none⟩ = _ from HZ.out.2.1)
              refine val_ (w1 := wx) (v := .int .i64 y.f1) (wanted_of rfl rfl (congrArg some e13)) rfl ?_ (hK.out _ _ _ rfl (Below.refl _ _) rfl)
              go_simp
            · have e13 : X 13 = .bool false := hX 1 13 (by kernel_rfl)
              refine val_ (w1 := wx) (v := .slice (some ⟨n2, 0, none⟩) es.length c2) (wanted_of rfl rfl (congrArg some e13)) rfl ?_ (hK.out _ _ _ rfl (Below.refl _ _) rfl)
              go_simp
            · have e13 : X 13 = .bool false := hX 1 13 (by kernel_rfl)
              refine val_ (w1 := wx) (v := .int .i64 j) (wanted_of rfl rfl (congrArg some e13)) rfl ?_ (hK.out _ _ _ rfl (Below.refl _ _) rfl)
              go_simp
            · have e13 : X 13 = .bool false := hX 1 13 (by kernel_rfl)
              have e19 : X 19 = .slice (some ⟨n2, 0, none⟩) es.length c2 := hX 1 19 (by kernel_rfl)
              have e20 : X 20 = .int .i64 j := hX 1 20 (by kernel_rfl)
              refine val_ (w1 := wx) (v := .pointer (some ⟨n2, j * 3, none⟩)) (wanted_of rfl rfl (congrArg some e13)) rfl ?_ (hK.out _ _ _ rfl (Below.refl _ _) rfl)
              go_simp
            · have e13 : X 13 = .bool false := hX 1 13 (by kernel_rfl)
              have e21 : X 21 = .pointer (some ⟨n2, j * 3, none⟩) := hX 1 21 (by kernel_rfl)
              refine val_ (w1 := wx) (v := .pointer (some ⟨n2, j * 3 + 1, none⟩)) (wanted_of rfl rfl (congrArg some e13)) rfl ?_ (hK.out _ _ _ rfl (Below.refl _ _) rfl)
              go_simp
            · have e13 : X 13 = .bool false := hX 1 13 (by kernel_rfl)
              have e22 : X 22 = .pointer (some ⟨n2, j * 3 + 1, none⟩) := hX 1 22 (by kernel_rfl)
              have z_ : wx.cell? ⟨n2, j * 3 + 1, none⟩ = some (.int .i64 y.f1) := cell_later hG (show wr.drew.cell? ⟨n2, j * 3 + 1, none⟩ = _ from HZ.out.2.2.2.2.1)
              refine val_ (w1 := wx) (v := .int .i64 y.f1) (wanted_of rfl rfl (congrArg some e13)) rfl ?_ (hK.out _ _ _ rfl (Below.refl _ _) rfl)
              go_simp
            · have e13 : X 13 = .bool false := hX 1 13 (by kernel_rfl)
              have e18 : X 18 = .int .i64 y.f1 := hX 1 18 (by kernel_rfl)
              have e23 : X 23 = .int .i64 y.f1 := hX 1 23 (by kernel_rfl)
              refine val_ (w1 := wx) (v := .bool false) (wanted_of rfl rfl (congrArg some e13)) rfl ?_ (hK.out _ _ _ rfl (Below.refl _ _) rfl)
              go_simp
            · have e13 : X 13 = .bool false := hX 1 13 (by kernel_rfl)
              have e24 : X 24 = .bool false := hX 1 24 (by kernel_rfl)
              refine val_ (w1 := wx) (v := .bool false) (by rfl) rfl ?_ (hK.out _ _ _ rfl (Below.refl _ _) rfl)
              go_simp
            · have e25 : X 25 = .bool false := hX 1 25 (by kernel_rfl)
              refine val_ (w1 := wx) (v := .bool false) (by rfl) rfl ?_ (hK.out _ _ _ rfl (Below.refl _ _) rfl)
              go_simp
            · have e26 : X 26 = .bool false := hX 1 26 (by kernel_rfl)
              refine val_ (w1 := wx) (v := .slice (some ⟨n1, 0, none⟩) es.length c1) (wanted_of rfl rfl (congrArg some e26)) rfl ?_ (hK.out _ _ _ rfl (Below.refl _ _) rfl)
              go_simp
            · have e26 : X 26 = .bool false := hX 1 26 (by kernel_rfl)
              refine val_ (w1 := wx) (v := .int .i64 j) (wanted_of rfl rfl (congrArg some e26)) rfl ?_ (hK.out _ _ _ rfl (Below.refl _ _) rfl)
              go_simp
            · have e26 : X 26 = .bool false := hX 1 26 (by kernel_rfl)
              have e27 : X 27 = .slice (some ⟨n1, 0, none⟩) es.length c1 := hX 1 27 (by kernel_rfl)
              have e28 : X 28 = .int .i64 j := hX 1 28 (by kernel_rfl)
              refine val_ (w1 := wx) (v := .pointer (some ⟨n1, j * 3, none⟩)) (wanted_of rfl rfl (congrArg some e26)) rfl ?_ (hK.out _ _ _ rfl (Below.refl _ _) rfl)
              go_simp
            · have e26 : X 26 = .bool false := hX 1 26 (by kernel_rfl)
              have e29 : X 29 = .pointer (some ⟨n1, j * 3, none⟩) := hX 1 29 (by kernel_rfl)
              refine val_ (w1 := wx) (v := .pointer (some ⟨n1, j * 3 + 2, none⟩)) (wanted_of rfl rfl (congrArg some e26)) rfl ?_ (hK.out _ _ _ rfl (Below.refl _ _) rfl)
              go_simp
            · have e26 : X 26 = .bool false := hX 1 26 (by kernel_rfl)
              have e30 : X 30 = .pointer (some ⟨n1, j * 3 + 2, none⟩) := hX 1 30 (by kernel_rfl)
              have z_ : wx.cell? ⟨n1, j * 3 + 2, none⟩ = some (.bool y.f2) := cell_later hG (show wr.drew.cell? ⟨n1, j * 3 + 2, none⟩ = _ from HZ.out.2.2.1)
              refine val_ (w1 := wx) (v := .bool y.f2) (wanted_of rfl rfl (congrArg some e26)) rfl ?_ (hK.out _ _ _ rfl (Below.refl _ _) rfl)
              go_simp
            · have e26 : X 26 = .bool false := hX 1 26 (by kernel_rfl)
              refine val_ (w1 := wx) (v := .slice (some ⟨n2, 0, none⟩) es.length c2) (wanted_of rfl rfl (congrArg some e26)) rfl ?_ (hK.out _ _ _ rfl (Below.refl _ _) rfl)
              go_simp
            · have e26 : X 26 = .bool false := hX 1 26 (by kernel_rfl)
              refine val_ (w1 := wx) (v := .int .i64 j) (wanted_of rfl rfl (congrArg some e26)) rfl ?_ (hK.out _ _ _ rfl (Below.refl _ _) rfl)
              go_simp
            · have e26 : X 26 = .bool false := hX 1 26 (by kernel_rfl)
              have e32 : X 32 = .slice (some ⟨n2, 0, none⟩) es.length c2 := hX 1 32 (by kernel_rfl)
              have e33 : X 33 = .int .i64 j := hX 1 33 (by kernel_rfl)
              refine val_ (w1 := wx) (v := .pointer (some ⟨n2, j * 3, none⟩)) (wanted_of rfl rfl (congrArg some e26)) rfl ?_ (hK.out _ _ _ rfl (Below.refl _ _) rfl)
              go_simp
            · have e26 : X 26 = .bool false := hX 1 26 (by kernel_rfl)
              have e34 : X 34 = .pointer (some ⟨n2, j * 3, none⟩) := hX 1 34 (by kernel_rfl)
              refine val_ (w1 := wx) (v := .pointer (some ⟨n2, j * 3 + 2, none⟩)) (wanted_of rfl rfl (congrArg some e26)) rfl ?_ (hK.out _ _ _ rfl (Below.refl _ _) rfl)
              go_simp
            · have e26 : X 26 = .bool false := hX 1 26 (by kernel_rfl)
              have e35 : X 35 = .pointer (some ⟨n2, j * 3 + 2, none⟩) := hX 1 35 (by kernel_rfl)
              have z_ : wx.cell? ⟨n2, j * 3 + 2, none⟩ = some (.bool y.f2) := cell_later hG (show wr.drew.cell? ⟨n2, j * 3 + 2, none⟩ = _ from HZ.out.2.2.2.2.2)
              refine val_ (w1 := wx) (v := .bool y.f2) (wanted_of rfl rfl (congrArg some e26)) rfl ?_ (hK.out _ _ _ rfl (Below.refl _ _) rfl)
              go_simp
            · have e26 : X 26 = .bool false := hX 1 26 (by kernel_rfl)
              have e31 : X 31 = .bool y.f2 := hX 1 31 (by kernel_rfl)
              have e36 : X 36 = .bool y.f2 := hX 1 36 (by kernel_rfl)
              refine val_ (w1 := wx) (v := .bool false) (wanted_of rfl rfl (congrArg some e26)) rfl ?_ (hK.out _ _ _ rfl (Below.refl _ _) rfl)
              go_simp
            · have e26 : X 26 = .bool false := hX 1 26 (by kernel_rfl)
              have e37 : X 37 = .bool false := hX 1 37 (by kernel_rfl)
              refine val_ (w1 := wx) (v := .bool false) (by rfl) rfl ?_ (hK.out _ _ _ rfl (Below.refl _ _) rfl)
              go_simp
            intro X wx hG hX
            refine tail_done (by kernel_rfl) ?_
            have e38 : X 38 = .bool false := hX 38 (by decide)
            rw [e38]
            have HV1 := Aside0.mk (HV1.out.below hG)
            have HV2 := Aside0.mk (HV2.out.below hG)
            have HB := Aside0.mk (below_step HB.out hG)
            clear hX e38 hG HZ hcv1 hcv2
            have hwj := wr_succM j es.length hlj HLM.out
            go_wp2_with (fail)
            go_roundg (es.length - (j + 1))
            case measure => exact Nat.lt_of_lt_of_le (Nat.sub_lt_sub_left hlj (Nat.lt_succ_self j)) hkj
            case rel => exact ⟨j + 1, by first | rfl | go_num, hlj, Nat.le_refl _, HV1, HV2, HB⟩
          · have hltj : ¬ (j : Int) < (es.length : Int) := fun q => hlj (Int.ofNat_lt.1 q)
            clear HV1 HV2
            go_wp2
            go_ret
            exact ⟨rfl, HB.out⟩
  · have HNEW := Aside0.mk (fun W => newu_bad W room span hfit)
    have HNES := Aside0.mk (fun W => news_bad W room span hfit)
    have HNUM := Aside0.mk (fun W => num_c W (some 1))
    clear hfit
    go_wp2_with (first | (go_at_call 8; refine (HNEW.out _).mono ?_; rintro e_ w2 ⟨rfl, hb_⟩; have HB := Aside0.mk (below_step HB.out hb_); clear hb_) | (go_at_call 22; refine (HNES.out _).mono ?_; rintro e_ w3 ⟨rfl, hb_⟩; have HB := Aside0.mk (below_step HB.out hb_); clear hb_) | (go_at_call 23; refine (HNUM.out _).mono ?_; rintro e_ w4 ⟨rfl, hb_⟩; have HB := Aside0.mk (below_step HB.out hb_); clear hb_) | fail)
    go_ret
    exact ⟨rfl, HB.out⟩
theorem texts_row (room span : Int) (A : Option Addr) (n c : Nat) (l : List S32) (w : World) (e : l.length = n) (hl : Kd.C k32 w A n l) (hc : n ≤ c) (hok : ∀ y ∈ l, ok32 y) :
    Calls Try.prog 5 #[.int .i64 room, .int .i64 span, .slice A n c] w fun e w' => e = .returned (.bool true) ∧ Below w.heap.size w w' := by
  subst e
  exact texts_walk room span A c l w hl hc hok
end Go.Proofs.Ytbifanoiailjoaa.MRatePlays
